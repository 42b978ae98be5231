/- The check of a change: the reference's. -/
import Derived.KernelRfl
import Derived.Test.YtbhleedlnaakkaaGreatL22
import Derived.Test.YtbhleedlnaakkaaGreatL31
set_option maxHeartbeats 32000000
namespace Go.Fw
open Go Go.Proofs
set_option maxRecDepth 100000
set_option linter.unusedVariables false
set_option linter.unusedSimpArgs false
theorem X96 (c : Chg) (hok : XY c.v) : Con Tryz.prog 134 [] [VK c] [] (ai (X0B c)) := by
 rw [X9E]
 obtain ⟨op, id, src, dst, name, v⟩ := c
 have hf := X8Z op
 have hw := X7e op
 have hi := X2J id
 have hs := X2J src
 have hd := X2J dst
 have hn := X2t name
 have hz := X9i v hok
 have hp := X5d v hok
 generalize idV id = i at *
 generalize idV src = si at *
 generalize idV dst = di at *
 generalize Xj name = nv at *
 generalize Vd v = zv at *
 generalize XF v = pv at *
 obtain ⟨k, n, d, s, l⟩ := v
 simp only [VK, Xn] at *
 refine X9 (xs := [ai (XB (X1z op) i si di src dst name nv zv pv)]) Tryz.func134 rfl Tryz.ntmps134 rfl rfl rfl (fun E => ?_)
 rw [show X1z op = (decide (op = 6), V1 op, UY op, decide (1 ≤ op ∧ op ≤ 8)) from rfl]
 clear hok
 generalize V1 op = nm at *
 generalize UY op = vl at *
 generalize hlo : decide (1 ≤ op ∧ op ≤ 8) = ok
 obtain ⟨r, hr⟩ : ∃ r, r = XB (decide (op = 6), nm, vl, ok) i si di src dst name nv zv pv := ⟨_, rfl⟩
 rw [← hr]
 have h1 : op < 1 → ok = false := fun h => by rw [← hlo]; exact decide_eq_false (by omega)
 have h2 : 8 < op → ok = false := fun h => by rw [← hlo]; exact decide_eq_false (by omega)
 have h3 : ¬ op < 1 → ¬ 8 < op → ok = true := fun h k => by rw [← hlo]; exact decide_eq_true (by omega)
 clear hlo
 refine X0 ?_; refine JR ?_; refine ZA (γ := 100) ?_; refine Z0 ?_; refine JD ?_; refine X0 ?_; refine X0 ?_; refine JR ?_; refine ZB ?_; refine ZC ?_; refine Z8 ?_; refine Z1 ?_
 refine Xz rfl rfl (fun hq => ?_) (fun hq => ?_); refine Zo ?_; refine Zo ?_; refine Zo ?_; refine Zn ?_; refine Z1 ?_; refine Zo ?_; refine Zo ?_; refine Zo ?_; refine Zo ?_; refine Zn ?_; refine Z1 ?_; refine Zo ?_
 refine Zo ?_; refine Zo ?_; refine Zo ?_; refine Zo ?_; refine Zp ?_; refine Zp ?_; refine Zp ?_; refine Zo ?_; refine Zn ?_; refine Z1 ?_; refine Zo ?_; refine Zo ?_; refine Zo ?_; refine Zo ?_; refine Zo ?_
 refine Zp ?_; refine Zp ?_; refine Zp ?_; refine Zp ?_; refine Zo ?_; refine Zn ?_; refine JD ?_; refine JT ?_; refine X0 ?_; refine JR ?_; refine Z0 ?_; refine JD ?_
 (clear hf hw hi hs hd hn hz hp; simp [XB, *] at hr; subst hr; exact X1 ⟨_, St.le_refl _, ⟨rfl, trivial⟩, X2 _⟩); refine ZB ?_; refine ZC ?_; refine Zs ?_; refine Zq ?_; refine Z1 ?_
 refine Xz rfl rfl (fun hq => ?_) (fun hq => ?_); refine Zo ?_; refine Zo ?_; refine Zo ?_; refine Zo ?_; refine Zn ?_; refine Z1 ?_; refine Zo ?_; refine Zo ?_; refine Zo ?_; refine Zo ?_; refine Zo ?_; refine Zp ?_
 refine Zp ?_; refine Zp ?_; refine Zo ?_; refine Zn ?_; refine Z1 ?_; refine Zo ?_; refine Zo ?_; refine Zo ?_; refine Zo ?_; refine Zo ?_; refine Zp ?_; refine Zp ?_; refine Zp ?_; refine Zp ?_; refine Zo ?_
 refine Zn ?_; refine JD ?_; refine JT ?_; refine X0 ?_; refine JR ?_; refine Z0 ?_; refine JD ?_
 (clear hf hw hi hs hd hn hz hp; simp [XB, *] at hr; subst hr; exact X1 ⟨_, St.le_refl _, ⟨rfl, trivial⟩, X2 _⟩); refine ZB ?_; refine ZC ?_; refine Z9 (hcon := hi) ?_; refine Zu ?_; refine Zq ?_
 refine Z1 ?_; refine XW rfl rfl (fun hq => ?_) (fun hq => ?_); refine ZB ?_; refine ZC ?_; refine Z9 (hcon := hf) ?_; refine Zu ?_; refine Z1 ?_; refine XW rfl rfl (fun hq => ?_) (fun hq => ?_)
 refine Zo ?_; refine Zo ?_; refine Zo ?_; refine Zq ?_; refine Zq ?_; refine Z1 ?_; refine ZB ?_; refine ZC ?_; refine Z9 (hcon := hw) ?_; refine Zu ?_; refine Z1 ?_
 refine XW rfl rfl (fun hq => ?_) (fun hq => ?_); refine Zo ?_; refine Zo ?_; refine Zo ?_; refine Zo ?_; refine Zq ?_; refine Zq ?_; refine JD ?_; refine JF ?_; refine X3 ?_; refine X0 ?_
 refine X0 ?_; refine JR ?_; refine ZB ?_; refine ZC ?_; refine Zl ?_; refine Z1 ?_; refine Xz rfl rfl (fun hq => ?_) (fun hq => ?_); refine ZB ?_; refine ZC ?_; refine Z9 (hcon := hs) ?_; refine Zu ?_
 refine Z1 ?_; refine XW rfl rfl (fun hq => ?_) (fun hq => ?_); refine ZB ?_; refine ZC ?_; refine Z9 (hcon := hd) ?_; refine Zu ?_; refine Zq ?_; refine Zn ?_; refine Z1 ?_
 refine XW rfl rfl (fun hq => ?_) (fun hq => ?_); refine ZB ?_; refine ZC ?_; refine Zv ?_; refine Z1 ?_; refine Zo ?_; refine Zo ?_; refine Zo ?_; refine Zo ?_; refine Zp ?_; refine Zp ?_; refine Zp ?_
 refine Zo ?_; refine Zq ?_; refine Zq ?_; refine JD ?_; refine JF ?_; refine X3 ?_; refine X0 ?_; refine X0 ?_; refine JR ?_; refine ZB ?_; refine ZC ?_; refine Z9 (hcon := hf) ?_; refine Z1 ?_
 refine ZB ?_; refine ZC ?_; refine Z9 (hcon := hn) ?_; refine Zu ?_; refine Zn ?_; refine JD ?_; refine XD rfl (fun hq => ?_) (fun hq => ?_); refine X0 ?_; refine JR ?_; refine Z0 ?_; refine JD ?_
 (clear hf hw hi hs hd hn hz hp; simp [XB, *] at hr; subst hr; exact X1 ⟨_, St.le_refl _, ⟨rfl, trivial⟩, X2 _⟩); refine X3 ?_; refine X0 ?_; refine X0 ?_; refine JR ?_; refine ZB ?_
 refine ZC ?_; refine Z9 (hcon := hw) ?_; refine Z1 ?_; refine ZB ?_; refine ZL ?_; refine Z9 (hcon := hz) ?_; refine Zu ?_; refine Zn ?_; refine Z1 ?_; refine XW rfl rfl (fun hq => ?_) (fun hq => ?_)
 refine Zo ?_; refine Zo ?_; refine Zo ?_; refine Zo ?_; refine Zq ?_; refine JD ?_; refine JF ?_; refine X3 ?_; refine X0 ?_; refine JR ?_; refine Z0 ?_; refine JD ?_
 (clear hf hw hi hs hd hn hz hp; simp [XB, *] at hr; subst hr; exact X1 ⟨_, St.le_refl _, ⟨rfl, trivial⟩, X2 _⟩); refine ZB ?_; refine ZL ?_; refine Z9 (hcon := hp) ?_; refine Zu ?_; refine Zn ?_
 refine JD ?_; refine XD rfl (fun hq => ?_) (fun hq => ?_); refine X0 ?_; refine JR ?_; refine Z0 ?_; refine JD ?_
 (clear hf hw hi hs hd hn hz hp; simp [XB, *] at hr; subst hr; exact X1 ⟨_, St.le_refl _, ⟨rfl, trivial⟩, X2 _⟩); refine X3 ?_; refine X0 ?_; refine JR ?_; refine Z0 ?_; refine JD ?_
 (clear hf hw hi hs hd hn hz hp; simp [XB, *] at hr; subst hr; exact X1 ⟨_, St.le_refl _, ⟨rfl, trivial⟩, X2 _⟩); refine Zo ?_; refine Zo ?_; refine Zo ?_; refine Zo ?_; refine Zp ?_; refine Zp ?_
 refine Zp ?_; refine Zp ?_; refine Zp ?_; refine Zp ?_; refine Zp ?_; refine Zp ?_; refine Zo ?_; refine Zn ?_; refine JD ?_; refine JT ?_; refine X0 ?_; refine JR ?_; refine Z0 ?_; refine JD ?_
 (clear hf hw hi hs hd hn hz hp; simp [XB, *] at hr; subst hr; exact X1 ⟨_, St.le_refl _, ⟨rfl, trivial⟩, X2 _⟩); refine Zo ?_; refine Zo ?_; refine Zo ?_; refine Zo ?_; refine Zn ?_; refine Zn ?_
 refine Z1 ?_; refine Zo ?_; refine Zo ?_; refine Zo ?_; refine Zo ?_; refine Zp ?_; refine Zp ?_; refine Zp ?_; refine Zp ?_; refine Zp ?_; refine Zp ?_; refine Zp ?_; refine Zp ?_; refine Zo ?_; refine Zn ?_
 refine JD ?_; refine JT ?_; refine X0 ?_; refine JR ?_; refine Z0 ?_; refine JD ?_; (clear hf hw hi hs hd hn hz hp; simp [XB, *] at hr; subst hr; exact X1 ⟨_, St.le_refl _, ⟨rfl, trivial⟩, X2 _⟩)
 refine Zo ?_; refine Zo ?_; refine Zo ?_; refine Zo ?_; refine Zo ?_; refine Zp ?_; refine Zp ?_; refine Zp ?_; refine Zp ?_; refine Zo ?_; refine Zq ?_; refine Z1 ?_; refine ZB ?_; refine ZC ?_; refine Zv ?_
 refine Z1 ?_; refine ZB ?_; refine ZC ?_; refine Zv ?_; refine Z1 ?_; refine Xz rfl rfl (fun hq => ?_) (fun hq => ?_); refine Zo ?_; refine Zo ?_; refine Zo ?_; refine Zn ?_; refine Zn ?_; refine Zq ?_; refine JD ?_
 refine JT ?_; refine X0 ?_; refine JR ?_; refine Z0 ?_; refine JD ?_; (clear hf hw hi hs hd hn hz hp; simp [XB, *] at hr; subst hr; exact X1 ⟨_, St.le_refl _, ⟨rfl, trivial⟩, X2 _⟩); refine ZB ?_
 refine ZC ?_; refine Zv ?_; refine Zq ?_; refine Zn ?_; refine Zq ?_; refine JD ?_; refine Um rfl (fun hq => ?_) (fun hq => ?_); refine X0 ?_; refine JR ?_; refine Z0 ?_; refine JD ?_
 (clear hf hw hi hs hd hn hz hp; simp [XB, *] at hr; subst hr; exact X1 ⟨_, St.le_refl _, ⟨rfl, trivial⟩, X2 _⟩); refine X3 ?_; refine X0 ?_; refine X0 ?_; refine JR ?_; refine ZB ?_
 refine ZC ?_; refine Z9 (hcon := hf) ?_; refine Z1 ?_; refine ZB ?_; refine ZC ?_; refine Z9 (hcon := hn) ?_; refine Zu ?_; refine Zn ?_; refine JD ?_; refine XD rfl (fun hq => ?_) (fun hq => ?_)
 refine X0 ?_; refine JR ?_; refine Z0 ?_; refine JD ?_; (clear hf hw hi hs hd hn hz hp; simp [XB, *] at hr; subst hr; exact X1 ⟨_, St.le_refl _, ⟨rfl, trivial⟩, X2 _⟩); refine X3 ?_
 refine X0 ?_; refine X0 ?_; refine JR ?_; refine ZB ?_; refine ZC ?_; refine Z9 (hcon := hw) ?_; refine Z1 ?_; refine ZB ?_; refine ZL ?_; refine Z9 (hcon := hz) ?_; refine Zu ?_; refine Zn ?_; refine Z1 ?_
 refine XW rfl rfl (fun hq => ?_) (fun hq => ?_); refine Zo ?_; refine Zo ?_; refine Zo ?_; refine Zo ?_; refine Zq ?_; refine JD ?_; refine JF ?_; refine X3 ?_; refine X0 ?_; refine JR ?_; refine Z0 ?_
 refine JD ?_; (clear hf hw hi hs hd hn hz hp; simp [XB, *] at hr; subst hr; exact X1 ⟨_, St.le_refl _, ⟨rfl, trivial⟩, X2 _⟩); refine ZB ?_; refine ZL ?_; refine Z9 (hcon := hp) ?_; refine Zu ?_
 refine Zn ?_; refine JD ?_; refine XD rfl (fun hq => ?_) (fun hq => ?_); refine X0 ?_; refine JR ?_; refine Z0 ?_; refine JD ?_
 (clear hf hw hi hs hd hn hz hp; simp [XB, *] at hr; subst hr; exact X1 ⟨_, St.le_refl _, ⟨rfl, trivial⟩, X2 _⟩); refine X3 ?_; refine X0 ?_; refine JR ?_; refine Z0 ?_; refine JD ?_
 (clear hf hw hi hs hd hn hz hp; simp [XB, *] at hr; subst hr; exact X1 ⟨_, St.le_refl _, ⟨rfl, trivial⟩, X2 _⟩); refine ZB ?_; refine ZL ?_; refine Z9 (hcon := hz) ?_; refine Zu ?_; refine Zn ?_
 refine Zq ?_; refine JD ?_; refine XD rfl (fun hq => ?_) (fun hq => ?_); refine X0 ?_; refine JR ?_; refine Z0 ?_; refine JD ?_
 (clear hf hw hi hs hd hn hz hp; simp [XB, *] at hr; subst hr; exact X1 ⟨_, St.le_refl _, ⟨rfl, trivial⟩, X2 _⟩); refine X3 ?_; refine X0 ?_; refine X0 ?_; refine JR ?_; refine ZB ?_
 refine ZC ?_; refine Zl ?_; refine Z1 ?_; refine Xz rfl rfl (fun hq => ?_) (fun hq => ?_); refine ZB ?_; refine ZC ?_; refine Z9 (hcon := hs) ?_; refine Zu ?_; refine Z1 ?_
 refine XW rfl rfl (fun hq => ?_) (fun hq => ?_); refine ZB ?_; refine ZC ?_; refine Z9 (hcon := hd) ?_; refine Zu ?_; refine Zq ?_; refine Zn ?_; refine Z1 ?_
 refine XW rfl rfl (fun hq => ?_) (fun hq => ?_); refine ZB ?_; refine ZC ?_; refine Zv ?_; refine Z1 ?_; refine Zo ?_; refine Zo ?_; refine Zo ?_; refine Zo ?_; refine Zp ?_; refine Zp ?_; refine Zp ?_
 refine Zo ?_; refine Zq ?_; refine Zq ?_; refine JD ?_; refine JF ?_; refine X3 ?_; refine X0 ?_; refine X0 ?_; refine JR ?_; refine ZB ?_; refine ZC ?_; refine Z9 (hcon := hf) ?_; refine Z1 ?_
 refine ZB ?_; refine ZC ?_; refine Z9 (hcon := hn) ?_; refine Zu ?_; refine Zn ?_; refine JD ?_; refine XD rfl (fun hq => ?_) (fun hq => ?_); refine X0 ?_; refine JR ?_; refine Z0 ?_; refine JD ?_
 (clear hf hw hi hs hd hn hz hp; simp [XB, *] at hr; subst hr; exact X1 ⟨_, St.le_refl _, ⟨rfl, trivial⟩, X2 _⟩); refine X3 ?_; refine X0 ?_; refine X0 ?_; refine JR ?_; refine ZB ?_
 refine ZC ?_; refine Z9 (hcon := hw) ?_; refine Z1 ?_; refine Zo ?_; refine Zo ?_; refine Zo ?_; refine Zo ?_; refine Zq ?_; refine Z1 ?_; refine Zo ?_; refine Zo ?_; refine Zo ?_; refine Zo ?_; refine Zq ?_
 refine JD ?_; refine JF ?_; refine X3 ?_; refine X0 ?_; refine JR ?_; refine Z0 ?_; refine JD ?_
 (clear hf hw hi hs hd hn hz hp; simp [XB, *] at hr; subst hr; exact X1 ⟨_, St.le_refl _, ⟨rfl, trivial⟩, X2 _⟩); refine Zo ?_; refine Zo ?_; refine Zo ?_; refine Zo ?_; refine Zp ?_; refine Zp ?_
 refine Zp ?_; refine Zp ?_; refine Zp ?_; refine Zp ?_; refine Zp ?_; refine Zp ?_; refine Zo ?_; refine Zn ?_; refine JD ?_; refine JT ?_; refine X0 ?_; refine JR ?_; refine Z0 ?_; refine JD ?_
 (clear hf hw hi hs hd hn hz hp; simp [XB, *] at hr; subst hr; exact X1 ⟨_, St.le_refl _, ⟨rfl, trivial⟩, X2 _⟩); refine Zo ?_; refine Zo ?_; refine Zo ?_; refine Zo ?_; refine Zn ?_; refine Zn ?_
 refine Z1 ?_; refine Zo ?_; refine Zo ?_; refine Zo ?_; refine Zo ?_; refine Zp ?_; refine Zp ?_; refine Zp ?_; refine Zp ?_; refine Zp ?_; refine Zp ?_; refine Zp ?_; refine Zp ?_; refine Zo ?_; refine Zn ?_
 refine JD ?_; refine JT ?_; refine X0 ?_; refine JR ?_; refine Z0 ?_; refine JD ?_; (clear hf hw hi hs hd hn hz hp; simp [XB, *] at hr; subst hr; exact X1 ⟨_, St.le_refl _, ⟨rfl, trivial⟩, X2 _⟩)
 refine Zo ?_; refine Zo ?_; refine Zo ?_; refine Zo ?_; refine Zo ?_; refine Zp ?_; refine Zp ?_; refine Zp ?_; refine Zp ?_; refine Zo ?_; refine Zq ?_; refine Z1 ?_; refine ZB ?_; refine ZC ?_; refine Zv ?_
 refine Z1 ?_; refine ZB ?_; refine ZC ?_; refine Zv ?_; refine Z1 ?_; refine Xz rfl rfl (fun hq => ?_) (fun hq => ?_); refine Zo ?_; refine Zo ?_; refine Zo ?_; refine Zn ?_; refine Zn ?_; refine Zq ?_; refine JD ?_
 refine JT ?_; refine X0 ?_; refine JR ?_; refine Z0 ?_; refine JD ?_; (clear hf hw hi hs hd hn hz hp; simp [XB, *] at hr; subst hr; exact X1 ⟨_, St.le_refl _, ⟨rfl, trivial⟩, X2 _⟩); refine ZB ?_
 refine ZC ?_; refine Zv ?_; refine Zq ?_; refine Zn ?_; refine Zq ?_; refine JD ?_; refine Um rfl (fun hq => ?_) (fun hq => ?_); refine X0 ?_; refine JR ?_; refine Z0 ?_; refine JD ?_
 (clear hf hw hi hs hd hn hz hp; simp [XB, *] at hr; subst hr; exact X1 ⟨_, St.le_refl _, ⟨rfl, trivial⟩, X2 _⟩); refine X3 ?_; refine X0 ?_; refine X0 ?_; refine JR ?_; refine ZB ?_
 refine ZC ?_; refine Z9 (hcon := hf) ?_; refine Z1 ?_; refine ZB ?_; refine ZC ?_; refine Z9 (hcon := hn) ?_; refine Zu ?_; refine Zn ?_; refine JD ?_; refine XD rfl (fun hq => ?_) (fun hq => ?_)
 refine X0 ?_; refine JR ?_; refine Z0 ?_; refine JD ?_; (clear hf hw hi hs hd hn hz hp; simp [XB, *] at hr; subst hr; exact X1 ⟨_, St.le_refl _, ⟨rfl, trivial⟩, X2 _⟩); refine X3 ?_
 refine X0 ?_; refine X0 ?_; refine JR ?_; refine ZB ?_; refine ZC ?_; refine Z9 (hcon := hw) ?_; refine Z1 ?_; refine Zo ?_; refine Zo ?_; refine Zo ?_; refine Zo ?_; refine Zq ?_; refine Z1 ?_; refine Zo ?_
 refine Zo ?_; refine Zo ?_; refine Zo ?_; refine Zq ?_; refine JD ?_; refine JF ?_; refine X3 ?_; refine X0 ?_; refine JR ?_; refine Z0 ?_; refine JD ?_
 (clear hf hw hi hs hd hn hz hp; simp [XB, *] at hr; subst hr; exact X1 ⟨_, St.le_refl _, ⟨rfl, trivial⟩, X2 _⟩); refine ZB ?_; refine ZC ?_; refine ZM ?_; refine Zn ?_; refine Zq ?_; refine Z1 ?_
 refine Xz rfl rfl (fun hq => ?_) (fun hq => ?_); refine Zo ?_; refine Zo ?_; refine Zo ?_; refine Zo ?_; refine Zo ?_; refine Zp ?_; refine Zp ?_; refine Zp ?_; refine Zp ?_; refine Zo ?_; refine Zn ?_; refine JD ?_
 refine JT ?_; refine X0 ?_; refine JR ?_; refine Z0 ?_; refine JD ?_; (clear hf hw hi hs hd hn hz hp; simp [XB, *] at hr; subst hr; exact X1 ⟨_, St.le_refl _, ⟨rfl, trivial⟩, X2 _⟩); refine ZB ?_
 refine ZC ?_; refine Z9 (hcon := hw) ?_; refine Zu ?_; refine Z1 ?_; refine XW rfl rfl (fun hq => ?_) (fun hq => ?_); refine Zo ?_; refine Zo ?_; refine Zo ?_; refine Zo ?_; refine Zq ?_; refine Zq ?_
 refine JD ?_; refine JF ?_; refine X3 ?_; refine X0 ?_; refine X0 ?_; refine JR ?_; refine ZB ?_; refine ZC ?_; refine Zl ?_; refine Z1 ?_; refine Xz rfl rfl (fun hq => ?_) (fun hq => ?_)
 refine ZB ?_; refine ZC ?_; refine Z9 (hcon := hs) ?_; refine Zu ?_; refine Z1 ?_; refine XW rfl rfl (fun hq => ?_) (fun hq => ?_); refine ZB ?_; refine ZC ?_; refine Z9 (hcon := hd) ?_; refine Zu ?_
 refine Zq ?_; refine Zn ?_; refine Z1 ?_; refine XW rfl rfl (fun hq => ?_) (fun hq => ?_); refine ZB ?_; refine ZC ?_; refine Zv ?_; refine Z1 ?_; refine Zo ?_; refine Zo ?_; refine Zo ?_; refine Zo ?_
 refine Zp ?_; refine Zp ?_; refine Zp ?_; refine Zo ?_; refine Zq ?_; refine Zq ?_; refine JD ?_; refine JF ?_; refine X3 ?_; refine X0 ?_; refine X0 ?_; refine JR ?_; refine ZB ?_; refine ZC ?_
 refine Z9 (hcon := hf) ?_; refine Z1 ?_; refine Zo ?_; refine Zo ?_; refine Zo ?_; refine Zo ?_; refine Zq ?_; refine JD ?_; refine JF ?_; refine X3 ?_; refine X0 ?_; refine X0 ?_; refine JR ?_
 refine ZB ?_; refine ZC ?_; refine Z9 (hcon := hw) ?_; refine Z1 ?_; refine ZB ?_; refine ZL ?_; refine Z9 (hcon := hz) ?_; refine Zu ?_; refine Zn ?_; refine Z1 ?_
 refine XW rfl rfl (fun hq => ?_) (fun hq => ?_); refine Zo ?_; refine Zo ?_; refine Zo ?_; refine Zo ?_; refine Zq ?_; refine JD ?_; refine JF ?_; refine X3 ?_; refine X0 ?_; refine JR ?_; refine Z0 ?_
 refine JD ?_; (clear hf hw hi hs hd hn hz hp; simp [XB, *] at hr; subst hr; exact X1 ⟨_, St.le_refl _, ⟨rfl, trivial⟩, X2 _⟩); refine ZB ?_; refine ZL ?_; refine Z9 (hcon := hp) ?_; refine Zu ?_
 refine Zn ?_; refine JD ?_; refine XD rfl (fun hq => ?_) (fun hq => ?_); refine X0 ?_; refine JR ?_; refine Z0 ?_; refine JD ?_
 (clear hf hw hi hs hd hn hz hp; simp [XB, *] at hr; subst hr; exact X1 ⟨_, St.le_refl _, ⟨rfl, trivial⟩, X2 _⟩); refine X3 ?_; refine X0 ?_; refine JR ?_; refine Z0 ?_; refine JD ?_
 (clear hf hw hi hs hd hn hz hp; simp [XB, *] at hr; subst hr; exact X1 ⟨_, St.le_refl _, ⟨rfl, trivial⟩, X2 _⟩); refine Zo ?_; refine Zo ?_; refine Zo ?_; refine Zo ?_; refine Zp ?_; refine Zp ?_
 refine Zp ?_; refine Zp ?_; refine Zp ?_; refine Zp ?_; refine Zp ?_; refine Zp ?_; refine Zo ?_; refine Zn ?_; refine JD ?_; refine JT ?_; refine X0 ?_; refine JR ?_; refine Z0 ?_; refine JD ?_
 (clear hf hw hi hs hd hn hz hp; simp [XB, *] at hr; subst hr; exact X1 ⟨_, St.le_refl _, ⟨rfl, trivial⟩, X2 _⟩); refine Zo ?_; refine Zo ?_; refine Zo ?_; refine Zo ?_; refine Zn ?_; refine Zn ?_
 refine Z1 ?_; refine Zo ?_; refine Zo ?_; refine Zo ?_; refine Zo ?_; refine Zp ?_; refine Zp ?_; refine Zp ?_; refine Zp ?_; refine Zp ?_; refine Zp ?_; refine Zp ?_; refine Zp ?_; refine Zo ?_; refine Zn ?_
 refine JD ?_; refine JT ?_; refine X0 ?_; refine JR ?_; refine Z0 ?_; refine JD ?_; (clear hf hw hi hs hd hn hz hp; simp [XB, *] at hr; subst hr; exact X1 ⟨_, St.le_refl _, ⟨rfl, trivial⟩, X2 _⟩)
 refine Zo ?_; refine Zo ?_; refine Zo ?_; refine Zo ?_; refine Zo ?_; refine Zp ?_; refine Zp ?_; refine Zp ?_; refine Zp ?_; refine Zo ?_; refine Zq ?_; refine Z1 ?_; refine ZB ?_; refine ZC ?_; refine Zv ?_
 refine Z1 ?_; refine ZB ?_; refine ZC ?_; refine Zv ?_; refine Z1 ?_; refine Xz rfl rfl (fun hq => ?_) (fun hq => ?_); refine Zo ?_; refine Zo ?_; refine Zo ?_; refine Zn ?_; refine Zn ?_; refine Zq ?_; refine JD ?_
 refine JT ?_; refine X0 ?_; refine JR ?_; refine Z0 ?_; refine JD ?_; (clear hf hw hi hs hd hn hz hp; simp [XB, *] at hr; subst hr; exact X1 ⟨_, St.le_refl _, ⟨rfl, trivial⟩, X2 _⟩); refine ZB ?_
 refine ZC ?_; refine Zv ?_; refine Zq ?_; refine Zn ?_; refine Zq ?_; refine JD ?_; refine Um rfl (fun hq => ?_) (fun hq => ?_); refine X0 ?_; refine JR ?_; refine Z0 ?_; refine JD ?_
 (clear hf hw hi hs hd hn hz hp; simp [XB, *] at hr; subst hr; exact X1 ⟨_, St.le_refl _, ⟨rfl, trivial⟩, X2 _⟩); refine X3 ?_; refine X0 ?_; refine X0 ?_; refine JR ?_; refine ZB ?_
 refine ZC ?_; refine Z9 (hcon := hf) ?_; refine Z1 ?_; refine Zo ?_; refine Zo ?_; refine Zo ?_; refine Zo ?_; refine Zq ?_; refine JD ?_; refine JF ?_; refine X3 ?_; refine X0 ?_; refine X0 ?_
 refine JR ?_; refine ZB ?_; refine ZC ?_; refine Z9 (hcon := hw) ?_; refine Z1 ?_; refine ZB ?_; refine ZL ?_; refine Z9 (hcon := hz) ?_; refine Zu ?_; refine Zn ?_; refine Z1 ?_
 refine XW rfl rfl (fun hq => ?_) (fun hq => ?_); refine Zo ?_; refine Zo ?_; refine Zo ?_; refine Zo ?_; refine Zq ?_; refine JD ?_; refine JF ?_; refine X3 ?_; refine X0 ?_; refine JR ?_; refine Z0 ?_
 refine JD ?_; (clear hf hw hi hs hd hn hz hp; simp [XB, *] at hr; subst hr; exact X1 ⟨_, St.le_refl _, ⟨rfl, trivial⟩, X2 _⟩); refine ZB ?_; refine ZL ?_; refine Z9 (hcon := hp) ?_; refine Zu ?_
 refine Zn ?_; refine JD ?_; refine XD rfl (fun hq => ?_) (fun hq => ?_); refine X0 ?_; refine JR ?_; refine Z0 ?_; refine JD ?_
 (clear hf hw hi hs hd hn hz hp; simp [XB, *] at hr; subst hr; exact X1 ⟨_, St.le_refl _, ⟨rfl, trivial⟩, X2 _⟩); refine X3 ?_; refine X0 ?_; refine JR ?_; refine Z0 ?_; refine JD ?_
 (clear hf hw hi hs hd hn hz hp; simp [XB, *] at hr; subst hr; exact X1 ⟨_, St.le_refl _, ⟨rfl, trivial⟩, X2 _⟩); refine ZB ?_; refine ZL ?_; refine Z9 (hcon := hz) ?_; refine Zu ?_; refine Zn ?_
 refine Zq ?_; refine JD ?_; refine XD rfl (fun hq => ?_) (fun hq => ?_); refine X0 ?_; refine JR ?_; refine Z0 ?_; refine JD ?_
 (clear hf hw hi hs hd hn hz hp; simp [XB, *] at hr; subst hr; exact X1 ⟨_, St.le_refl _, ⟨rfl, trivial⟩, X2 _⟩); refine X3 ?_; refine X0 ?_; refine X0 ?_; refine JR ?_; refine ZB ?_
 refine ZC ?_; refine Zl ?_; refine Z1 ?_; refine Xz rfl rfl (fun hq => ?_) (fun hq => ?_); refine ZB ?_; refine ZC ?_; refine Z9 (hcon := hs) ?_; refine Zu ?_; refine Z1 ?_
 refine XW rfl rfl (fun hq => ?_) (fun hq => ?_); refine ZB ?_; refine ZC ?_; refine Z9 (hcon := hd) ?_; refine Zu ?_; refine Zq ?_; refine Zn ?_; refine Z1 ?_
 refine XW rfl rfl (fun hq => ?_) (fun hq => ?_); refine ZB ?_; refine ZC ?_; refine Zv ?_; refine Z1 ?_; refine Zo ?_; refine Zo ?_; refine Zo ?_; refine Zo ?_; refine Zp ?_; refine Zp ?_; refine Zp ?_
 refine Zo ?_; refine Zq ?_; refine Zq ?_; refine JD ?_; refine JF ?_; refine X3 ?_; refine X0 ?_; refine X0 ?_; refine JR ?_; refine ZB ?_; refine ZC ?_; refine Z9 (hcon := hf) ?_; refine Z1 ?_
 refine Zo ?_; refine Zo ?_; refine Zo ?_; refine Zo ?_; refine Zq ?_; refine JD ?_; refine JF ?_; refine X3 ?_; refine X0 ?_; refine X0 ?_; refine JR ?_; refine ZB ?_; refine ZC ?_
 refine Z9 (hcon := hw) ?_; refine Z1 ?_; refine Zo ?_; refine Zo ?_; refine Zo ?_; refine Zo ?_; refine Zq ?_; refine Z1 ?_; refine Zo ?_; refine Zo ?_; refine Zo ?_; refine Zo ?_; refine Zq ?_; refine JD ?_
 refine JF ?_; refine X3 ?_; refine X0 ?_; refine JR ?_; refine Z0 ?_; refine JD ?_; (clear hf hw hi hs hd hn hz hp; simp [XB, *] at hr; subst hr; exact X1 ⟨_, St.le_refl _, ⟨rfl, trivial⟩, X2 _⟩)
 refine Zo ?_; refine Zo ?_; refine Zo ?_; refine Zo ?_; refine Zp ?_; refine Zp ?_; refine Zp ?_; refine Zp ?_; refine Zp ?_; refine Zp ?_; refine Zp ?_; refine Zp ?_; refine Zo ?_; refine Zn ?_; refine JD ?_
 refine JT ?_; refine X0 ?_; refine JR ?_; refine Z0 ?_; refine JD ?_; (clear hf hw hi hs hd hn hz hp; simp [XB, *] at hr; subst hr; exact X1 ⟨_, St.le_refl _, ⟨rfl, trivial⟩, X2 _⟩); refine Zo ?_
 refine Zo ?_; refine Zo ?_; refine Zo ?_; refine Zn ?_; refine Zn ?_; refine Z1 ?_; refine Zo ?_; refine Zo ?_; refine Zo ?_; refine Zo ?_; refine Zp ?_; refine Zp ?_; refine Zp ?_; refine Zp ?_; refine Zp ?_
 refine Zp ?_; refine Zp ?_; refine Zp ?_; refine Zo ?_; refine Zn ?_; refine JD ?_; refine JT ?_; refine X0 ?_; refine JR ?_; refine Z0 ?_; refine JD ?_
 (clear hf hw hi hs hd hn hz hp; simp [XB, *] at hr; subst hr; exact X1 ⟨_, St.le_refl _, ⟨rfl, trivial⟩, X2 _⟩); refine Zo ?_; refine Zo ?_; refine Zo ?_; refine Zo ?_; refine Zo ?_; refine Zp ?_
 refine Zp ?_; refine Zp ?_; refine Zp ?_; refine Zo ?_; refine Zq ?_; refine Z1 ?_; refine ZB ?_; refine ZC ?_; refine Zv ?_; refine Z1 ?_; refine ZB ?_; refine ZC ?_; refine Zv ?_; refine Z1 ?_
 refine Xz rfl rfl (fun hq => ?_) (fun hq => ?_); refine Zo ?_; refine Zo ?_; refine Zo ?_; refine Zn ?_; refine Zn ?_; refine Zq ?_; refine JD ?_; refine JT ?_; refine X0 ?_; refine JR ?_; refine Z0 ?_
 refine JD ?_; (clear hf hw hi hs hd hn hz hp; simp [XB, *] at hr; subst hr; exact X1 ⟨_, St.le_refl _, ⟨rfl, trivial⟩, X2 _⟩); refine ZB ?_; refine ZC ?_; refine Zv ?_; refine Zq ?_; refine Zn ?_
 refine Zq ?_; refine JD ?_; refine Um rfl (fun hq => ?_) (fun hq => ?_); refine X0 ?_; refine JR ?_; refine Z0 ?_; refine JD ?_
 (clear hf hw hi hs hd hn hz hp; simp [XB, *] at hr; subst hr; exact X1 ⟨_, St.le_refl _, ⟨rfl, trivial⟩, X2 _⟩); refine X3 ?_; refine X0 ?_; refine X0 ?_; refine JR ?_; refine ZB ?_
 refine ZC ?_; refine Z9 (hcon := hf) ?_; refine Z1 ?_; refine Zo ?_; refine Zo ?_; refine Zo ?_; refine Zo ?_; refine Zq ?_; refine JD ?_; refine JF ?_; refine X3 ?_; refine X0 ?_; refine X0 ?_
 refine JR ?_; refine ZB ?_; refine ZC ?_; refine Z9 (hcon := hw) ?_; refine Z1 ?_; refine Zo ?_; refine Zo ?_; refine Zo ?_; refine Zo ?_; refine Zq ?_; refine Z1 ?_; refine Zo ?_; refine Zo ?_; refine Zo ?_
 refine Zo ?_; refine Zq ?_; refine JD ?_; refine JF ?_; refine X3 ?_; refine X0 ?_; refine JR ?_; refine Z0 ?_; refine JD ?_
 (clear hf hw hi hs hd hn hz hp; simp [XB, *] at hr; subst hr; exact X1 ⟨_, St.le_refl _, ⟨rfl, trivial⟩, X2 _⟩); refine Zo ?_; refine Zo ?_; refine Zo ?_; refine Zo ?_; refine Zo ?_; refine Zp ?_
 refine Zp ?_; refine Zp ?_; refine Zo ?_; refine Zn ?_; refine Z1 ?_; refine Zo ?_; refine Zo ?_; refine Zo ?_; refine Zo ?_; refine Zo ?_; refine Zp ?_; refine Zp ?_; refine Zp ?_; refine Zp ?_; refine Zo ?_
 refine Zn ?_; refine JD ?_; refine JT ?_; refine X0 ?_; refine JR ?_; refine Z0 ?_; refine JD ?_
 (clear hf hw hi hs hd hn hz hp; simp [XB, *] at hr; subst hr; exact X1 ⟨_, St.le_refl _, ⟨rfl, trivial⟩, X2 _⟩)
end Go.Fw
namespace Go.Fw
open Go Go.Proofs
set_option maxRecDepth 100000
set_option linter.unusedVariables false
set_option linter.unusedSimpArgs false
theorem X9t (l : List Vio) (hl : l.length ≤ 9223372036854775807) : Con Tryz.prog 25 [] [.d (.sl 3 (l.map Yb)), .d (.sl 3 (l.map Yb))] [] (ab true) := by
 refine X9 (xs := [ab true]) Tryz.func25 rfl Tryz.ntmps25 rfl rfl rfl (fun E => ?_)
 have hlm : (l.map Yb).length = l.length := by simp
 refine X0 ?_; refine JR ?_; refine Z0 ?_; refine JD ?_; refine X0 ?_; refine X0 ?_; refine JR ?_; refine Z1 ?_; refine Zd ?_; refine Z1 ?_; refine Zd ?_; refine Zv ?_; refine JD ?_; refine JF ?_
 refine X3 ?_; refine X0 ?_; refine X0 ?_; refine JR ?_; refine Z0 ?_; refine JD ?_; refine X4 ?_
 refine Xs (fun i : Nat => i ≤ l.length) (fun i => ⟨26, [(0, .d (.sl 3 (l.map Yb))), (1, .d (.sl 3 (l.map Yb))), (5, ai i)], []⟩) (fun i => l.length - i) 0 (Nat.zero_le _)
  (X7 rfl JM trivial) ?_
 intro i hi
 by_cases hil : i < l.length
 case neg =>
  obtain rfl : i = l.length := by omega
  have hn : ¬ ((l.length : Nat) : Int) < (l.map Yb).length := by omega
  refine X0 ?_; refine X0 ?_; refine JR ?_; refine Z1 ?_; refine Z1 ?_; refine Zd ?_; refine Z8 ?_; refine JD ?_; refine JF ?_; refine Xo ?_; refine X0 ?_; refine JR ?_; refine Z0 ?_; refine JD ?_
  exact X1 ⟨_, St.le_refl _, ⟨rfl, trivial⟩, X2 _⟩
 have hn : (i : Int) < (l.map Yb).length := by omega
 obtain ⟨x, hx⟩ := Xm (l := l) hil
 have hxc : (l.map Yb)[i]? = some (Yb x) := Xr hx
 obtain ⟨x1, x2, x3⟩ := x
 simp only [Yb] at hxc
 clear hx
 have hz := X15 [.int .i64 x1, .int .i64 x2, .int .i64 x3] [.i .i64, .i .i64, .i .i64] rfl
 refine X0 ?_; refine X0 ?_; refine JR ?_; refine Z1 ?_; refine Z1 ?_; refine Zd ?_; refine Z8 ?_; refine JD ?_; refine JT ?_; refine X3 ?_; refine X0 ?_; refine X4 ?_; refine X0 ?_
 refine JR ?_; refine Z1 ?_; refine Z1 ?_; refine Zj ?_; refine ZK ?_; refine Z1 ?_; refine Z1 ?_; refine Zj ?_; refine ZK ?_
 refine Z0j (us := [.int .i64 x1, .int .i64 x2, .int .i64 x3]) (vs := [.int .i64 x1, .int .i64 x2, .int .i64 x3]) (r := true) ?_ (hk := by exact X4N) (hr := by exact hz); refine JD ?_; refine JF ?_; refine X3 ?_
 refine JR ?_; refine Z1 ?_; refine Zb ?_; refine Z0 ?_; refine JD ?_
 exact ⟨i + 1, hil, by omega, X7 rfl JM trivial⟩
end Go.Fw
namespace Go.Fw
open Go Go.Proofs
set_option linter.unusedVariables false
theorem X5n : Tryz.prog.cellsOf 43 = 6 := by kernel_rfl
def X8r (r : Rul) : List D := [.v (.int .i64 r.kind), .v (.int .i64 r.n), .v (.string (X6 r.name)), .v (.string (X6 r.key)), .v (.string (X6 r.src)), .v (.string (X6 r.dst))]
section
variable {H : Type} {enc : TypeId × Value → H} {W : World}
theorem XbE : Opens enc Tryz.prog W 43 (fun _ : Rul => True) X8r :=
 (X0P Tryz.underlying43 X5n
  (YA rfl UD (UN Tryz.underlying3) (YA rfl UD (UN Tryz.underlying3)
   (YA rfl Vr (V5 Tryz.underlying9) (YA rfl Vr (V5 Tryz.underlying9) (YA rfl Vr (V5 Tryz.underlying9) (YA rfl Vr (V5 Tryz.underlying9) X1b))))))).to
  (fun r => ⟨r.1, r.2.1, r.2.2.1, r.2.2.2.1, r.2.2.2.2.1, r.2.2.2.2.2.1⟩) fun r h => ⟨trivial, rfl⟩
end
end Go.Fw
namespace Go.Fw
open Go Go.Proofs
set_option linter.unusedVariables false
section
variable {H : Type} {enc : TypeId × Value → H} {W : World}
theorem X8f : Opens enc Tryz.prog W 43 (fun _ : Rul => True) XI := XbE
theorem X7q : Opens enc Tryz.prog W 26 (fun l : List Rul => (∀ c ∈ l, True) ∧ l.length ≤ 9223372036854775807) (fun l => [.sl 6 (l.map XI)]) :=
 X0v fun n => X02 Tryz.underlying26 X5n (by decide) fun m _ => X8f.at m
end
end Go.Fw
namespace Go.Fw
open Go
set_option linter.unusedVariables false
set_option linter.unusedSimpArgs false
abbrev Un (id : Int) : Nod := ⟨id, [], []⟩
def Yj (g : Gra) : Gra := ⟨g.nodes ++ [Un g.nn], g.edges, g.nn + 1, g.ne⟩
theorem Xbq (r : Rul) (id : Int) : Yy r (Un id) = none := by
 unfold Yy
 simp [XU]
theorem X7k (r : Rul) (l : List Nod) (id : Int) : XE r (l ++ [Un id]) = XE r l := by
 unfold XE
 rw [List.filterMap_append]
 simp [Xbq]
theorem Xa1 (r : Rul) (l : List Nod) (id : Int) : YF r (l ++ [Un id]) = YF r l := by
 unfold YF
 rw [List.filter_append]
 simp [XM]
theorem X6l (l : List Nod) (id n : Int) (s : List UInt8) : XM ((XR (l ++ [Un id]) n).getD Ua).labels s = XM ((XR l n).getD Ua).labels s := by
 unfold XR
 rw [List.find?_append]
 cases hf : l.find? fun x => decide (x.id = n) with
 | some x => rfl
 | none =>
  by_cases q : id = n <;> simp [q, XM]
theorem Xbf (r : Rul) (l : List Nod) (es : List Edg) (id : Int) : Y3 r (l ++ [Un id]) es = Y3 r l es := by
 unfold Y3
 congr 2
 funext e
 unfold X0o Vy
 rw [X6l, X6l]
theorem X9V {l : List Nod} {n : Int} (h : XA l n = true) : ∃ x ∈ l, x.id = n := by
 unfold XA at h
 rw [List.any_eq_true] at h
 obtain ⟨x, hx, e⟩ := h
 exact ⟨x, hx, by simpa using e⟩
theorem X6z (l m : List Nod) (n : Int) : XA (l ++ m) n = (XA l n || XA m n) := by
 unfold XA
 rw [List.any_append]
structure GParts (g : Gra) : Prop where
 nl : g.nodes.length ≤ 2000
 el : g.edges.length ≤ 4000
 nn1 : 1 ≤ g.nn
 nn2 : g.nn ≤ 1000001
 ne1 : 1 ≤ g.ne
 ne2 : g.ne ≤ 1000001
 nods : XZ g.nn none g.nodes = 0
 edgs : YG g.nodes g.ne none g.edges = 0
theorem X1d {g : Gra} (h : XC g = 0) : GParts g := by
 unfold XC at h
 by_cases c1 : 2000 < g.nodes.length ∨ 4000 < g.edges.length
 ·rw [if_pos c1] at h; simp at h
 rw [if_neg c1] at h
 by_cases c2 : g.nn < 1 ∨ 1000001 < g.nn ∨ g.ne < 1 ∨ 1000001 < g.ne
 ·rw [if_pos c2] at h; simp at h
 rw [if_neg c2] at h
 by_cases c3 : XZ g.nn none g.nodes ≠ 0
 ·rw [if_pos c3] at h; exact absurd h c3
 rw [if_neg c3] at h
 exact ⟨by omega, by omega, by omega, by omega, by omega, by omega, by simpa using c3, h⟩
theorem X8B {r : Rul} {g : Gra} (h : XC g = 0) : Ut r g.edges g.nn = 0 := by
 have G := X1d h
 unfold Ut
 rw [List.countP_eq_zero]
 intro e he
 obtain ⟨_, _, h3, _⟩ := X1G _ _ G.edgs e he
 obtain ⟨x, hx, ex⟩ := X9V h3
 have := (X01 _ _ G.nods x hx).2.1
 simp only [Bool.and_eq_true, decide_eq_true_eq, not_and]
 intro _
 omega
theorem X8C {r : Rul} (h : Yq r = 0) (hk : r.kind = 7) : 0 ≤ r.n := by
 unfold Yq at h
 by_cases c : decide (1 ≤ r.kind ∧ r.kind ≤ 7) = false ∨ X0Q r = false
 ·rw [if_pos c] at h; simp at h
 ·have c2 : X0Q r = true := by
   cases q : X0Q r with
   | true => rfl
   | false => exact absurd (.inr q) c
  unfold X0Q at c2
  rw [if_neg (by omega), if_pos hk] at c2
  simp at c2
  exact c2.1
theorem X9z {r : Rul} {g : Gra} (h : XC g = 0) (hr : Yq r = 0) (hk : r.kind = 7) : VY r (Yj g) = VY r g := by
 unfold VY YU Yj
 simp only
 rw [List.filter_append]
 have := X8B (r := r) h
 have hn := X8C hr hk
 have hz : ¬ r.n < ((Ut r g.edges g.nn : Nat) : Int) := by rw [this]; simpa using hn
 simp [hz]
theorem Xag {r : Rul} {g : Gra} (h : XC g = 0) (hr : Yq r = 0) : ofV r (Yj g) = ofV r g := by
 unfold ofV
 by_cases k1 : r.kind = 1
 ·rw [if_pos k1, if_pos k1]
  unfold Yj
  simp only
  rw [X7k]
 rw [if_neg k1, if_neg k1]
 by_cases k2 : r.kind = 2 ∨ r.kind = 3
 ·rw [if_pos k2, if_pos k2]
  unfold Yj
  simp only
  rw [Xa1]
 rw [if_neg k2, if_neg k2]
 by_cases k7 : r.kind = 7
 ·rw [if_pos k7, if_pos k7, X9z h hr k7]
 rw [if_neg k7, if_neg k7]
 unfold Yj
 simp only
 rw [Xbf]
theorem X6M {a b : Int} (hab : a ≤ b) : ∀ (l : List Nod) (p : Option Nod), (∀ x, p = some x → x.id < a) → XZ a p l = 0 → XZ b p (l ++ [Un a]) = if a < 1 ∨ b ≤ a then 1 else 0
 | [], p, hp, _ => by
  rw [List.nil_append, XZ]
  have : Ye b p (Un a) = if a < 1 ∨ b ≤ a then 1 else 0 := by
   unfold Ye
   rw [if_neg (by
    rintro ⟨x, hx, hl⟩
    have := hp x hx
    have hl : a ≤ x.id := hl
    omega)]
   by_cases q : a < 1 ∨ b ≤ a
   ·rw [if_pos q, if_pos q]
   ·rw [if_neg q, if_neg q]; rfl
  rw [this]
  by_cases q : a < 1 ∨ b ≤ a
  ·rw [if_pos q]; rfl
  ·rw [if_neg q]; rfl
 | x :: r, p, hp, h => by
  rw [XZ] at h
  have h0 : Ye a p x = 0 := by
   by_cases h0 : Ye a p x = 0
   ·exact h0
   ·rw [if_pos h0] at h; exact absurd h h0
  rw [h0, if_neg (by simp)] at h
  have hx : 1 ≤ x.id ∧ x.id < a ∧ Ye b p x = 0 := by
   unfold Ye at h0 ⊢
   by_cases c1 : ∃ q, p = some q ∧ x.id ≤ q.id
   ·rw [if_pos c1] at h0; simp at h0
   rw [if_neg c1] at h0 ⊢
   by_cases c2 : x.id < 1 ∨ a ≤ x.id
   ·rw [if_pos c2] at h0; simp at h0
   rw [if_neg c2] at h0
   rw [if_neg (by omega)]
   exact ⟨by omega, by omega, h0⟩
  rw [List.cons_append, XZ, hx.2.2, if_neg (by simp)]
  exact X6M hab r (some x) (fun y hy => by cases hy; exact hx.2.1) h
theorem X4o {ns : List Nod} {ne : Int} (z : Nod) : ∀ (l : List Edg) (p : Option Edg), YG ns ne p l = 0 → YG (ns ++ [z]) ne p l = 0
 | [], _, _ => rfl
 | x :: r, p, h => by
  rw [YG] at h
  have h0 : YI ns ne p x = 0 := by
   by_cases h0 : YI ns ne p x = 0
   ·exact h0
   ·rw [if_pos h0] at h; exact absurd h h0
  rw [h0, if_neg (by simp)] at h
  have hx : YI (ns ++ [z]) ne p x = 0 := by
   unfold YI at h0 ⊢
   by_cases c1 : ∃ q, p = some q ∧ x.id ≤ q.id
   ·rw [if_pos c1] at h0; simp at h0
   rw [if_neg c1] at h0 ⊢
   by_cases c2 : x.id < 1 ∨ ne ≤ x.id
   ·rw [if_pos c2] at h0; simp at h0
   rw [if_neg c2] at h0 ⊢
   by_cases c3 : XA ns x.src = false ∨ XA ns x.dst = false
   ·rw [if_pos c3] at h0; simp at h0
   rw [if_neg c3] at h0
   have d1 : XA ns x.src = true := by
    cases q : XA ns x.src with
    | true => rfl
    | false => exact absurd (.inl q) c3
   have d2 : XA ns x.dst = true := by
    cases q : XA ns x.dst with
    | true => rfl
    | false => exact absurd (.inr q) c3
   rw [if_neg (by rw [X6z, X6z, d1, d2]; simp)]
   exact h0
  rw [YG, hx, if_neg (by simp)]
  exact X4o z r (some x) h
theorem X7o {g : Gra} (h : XC g = 0) (hn : g.nn ≤ 1000000) (hl : g.nodes.length < 2000) : XC (Yj g) = 0 := by
 have G := X1d h
 have h1 := G.el
 have h2 := G.nn1
 have h3 := G.ne1
 have h4 := G.ne2
 unfold XC Yj
 simp only
 rw [if_neg (by rw [List.length_append, List.length_singleton]; omega), if_neg (by omega)]
 have e1 := X6M (a := g.nn) (b := g.nn + 1) (by omega) g.nodes none (fun x hx => by simp at hx) G.nods
 rw [if_neg (by omega)] at e1
 rw [e1, if_neg (by simp)]
 exact X4o _ _ _ G.edgs
theorem X86 {s : List Rul} {g : Gra} (h : XC g = 0) (hn : g.nn ≤ 1000000) (hl : g.nodes.length < 2000) : Yl s (Yj g) = Yl s g := by
 cases hs : Uj s with
 | false => unfold Yl; rw [if_pos (.inl hs), if_pos (.inl hs)]
 | true =>
  rw [X2p hs (X7o h hn hl), X2p hs h]
  exact X2L 0 s fun r hr => Xag h ((X1J hs).2 r hr).1
theorem X9b {g : Gra} (h : XC g = 0) : XR g.nodes g.nn = none := by
 have G := X1d h
 unfold XR
 rw [List.find?_eq_none]
 intro x hx
 have := (X01 _ _ G.nods x hx).2.1
 simp only [decide_eq_true_eq]
 omega
theorem X8L {g : Gra} (h : XC g = 0) : ∀ x ∈ g.nodes, x.id < g.nn := fun x hx => (X01 _ _ (X1d h).nods x hx).2.1
end Go.Fw
namespace Go.Fw
open Go Go.Proofs
set_option maxRecDepth 100000
set_option linter.unusedVariables false
set_option linter.unusedSimpArgs false
def UM (l : List Edg) (id : Int) : Option Edg := l.find? fun e => decide (e.id = id)
abbrev X1F : Edg := ⟨0, 0, 0, [], []⟩
def X0F (e : Edg) : AVal := .agg [ai e.id, ai e.src, ai e.dst, Xt e.typ, .d (.sl 6 (e.props.map Xg))]
theorem X88 {l : List Edg} {i : Nat} {n : Edg} {id : Int} (h : l[i]? = some n) : UM (l.drop i) id = if n.id = id then some n else UM (l.drop (i + 1)) id := by
 obtain ⟨hi, h⟩ := List.getElem?_eq_some_iff.1 h
 unfold UM
 rw [List.drop_eq_getElem_cons hi, h, List.find?_cons]
 by_cases q : n.id = id <;> simp [q]
theorem Xa0 (g : Gra) (id : Int) (hl : g.edges.length ≤ 9223372036854775807) : Con Tryz.prog 135 [] [Xp g, ai id] [] (.tup [X0F ((UM g.edges id).getD X1F), ab (UM g.edges id).isSome]) := by
 refine X9 (xs := [X0F ((UM g.edges id).getD X1F), ab (UM g.edges id).isSome]) Tryz.func135 rfl Tryz.ntmps135 rfl rfl rfl (fun E => ?_)
 obtain ⟨ns, es, nn, ne⟩ := g
 unfold Xp
 simp only at hl ⊢
 generalize hG : UM es id = G
 refine X0 ?_; refine JR ?_; refine ZA (γ := 100) ?_; refine Zw (γ := 101) ?_; refine Z0 ?_; refine JD ?_; refine X0 ?_; refine X0 ?_; refine JR ?_; refine Z0 ?_; refine JD ?_; refine X4 ?_
 refine Xs (fun i : Nat => i ≤ es.length ∧ UM (es.drop i) id = G) (fun i => ⟨28, [(1, ai id), (2, .ptr 100 0), (4, .ptr 101 0), (6, ai i)], [(100, .box [.d (.sl 3 (ns.map X8)), .d (.sl 5 (es.map Xi)), ai nn, ai ne]), (101, .box [ai 0, ai 0, ai 0, Xt [], ani])]⟩) (fun i => es.length - i) 0 ⟨Nat.zero_le _, by simpa using hG⟩
  (X7 rfl JM ⟨rfl, rfl, trivial⟩) ?_
 rintro i ⟨hi, hg⟩
 by_cases hil : i < es.length
 case neg =>
  have hn : ¬ (i : Int) < (es.map Xi).length := by rw [List.length_map]; omega
  rw [List.drop_of_length_le (by omega)] at hg
  have hg : none = G := hg
  subst hg
  simp only [Option.getD_none, Option.isSome_none, X1F, X0F, List.map_nil]
  refine X0 ?_; refine X0 ?_; refine JR ?_; refine Z1 ?_; refine ZB ?_; refine ZC ?_; refine Zd ?_; refine Z8 ?_; refine JD ?_; refine JF ?_; refine Xo ?_; refine X0 ?_; refine JR ?_; refine Zx ?_
  refine Zy ?_; refine Z0 ?_; refine JD ?_
  (show AWP Tryz.prog E _ _ _; refine X1 ?_; exact (show Xk _ _ _ _ _ from ⟨_, VJ 101 (cs' := [ai 0, ai 0, ai 0, Xt [], .d (.sl 6 [])]) rfl JM rfl, ⟨⟨101, 0, _, rfl, rfl, .inr ⟨5, _, rfl, rfl, rfl, rfl⟩⟩, rfl, trivial⟩, X2 _⟩))
 have hn : (i : Int) < (es.map Xi).length := by rw [List.length_map]; omega
 obtain ⟨x, hx⟩ := Xm (l := es) hil
 have hxc : (es.map Xi)[i]? = some (Xi x) := Xr hx
 rw [X88 hx] at hg
 obtain ⟨xid, src, dst, typ, props⟩ := x
 simp only [Xi] at hxc hg
 clear hx
 by_cases hq : xid = id
 ·rw [if_pos hq] at hg
  subst hg
  subst hq
  simp only [Option.getD_some, Option.isSome_some, X0F]
  refine X0 ?_; refine X0 ?_; refine JR ?_; refine Z1 ?_; refine ZB ?_; refine ZC ?_; refine Zd ?_; refine Z8 ?_; refine JD ?_; refine JT ?_; refine X3 ?_; refine X0 ?_; refine X4 ?_
  refine X0 ?_; refine JR ?_; refine ZB ?_; refine ZC ?_; refine Z1 ?_; refine Zj ?_; refine ZN ?_; refine Zk ?_; refine Z1 ?_; refine Zl ?_; refine JD ?_; refine JT ?_; refine X0 ?_; refine JR ?_; refine ZB ?_
  refine ZC ?_; refine Z1 ?_; refine Zj ?_; refine ZK ?_; refine Zy ?_; refine Z0 ?_; refine JD ?_
  (show AWP Tryz.prog E _ _ _; refine X1 ?_; exact (show Xk _ _ _ _ _ from ⟨_, St.le_refl _, ⟨⟨101, 0, _, rfl, rfl, .inr ⟨5, _, rfl, rfl, rfl, rfl⟩⟩, rfl, trivial⟩, X2 _⟩))
 rw [if_neg hq] at hg
 refine X0 ?_; refine X0 ?_; refine JR ?_; refine Z1 ?_; refine ZB ?_; refine ZC ?_; refine Zd ?_; refine Z8 ?_; refine JD ?_; refine JT ?_; refine X3 ?_; refine X0 ?_; refine X4 ?_
 refine X0 ?_; refine JR ?_; refine ZB ?_; refine ZC ?_; refine Z1 ?_; refine Zj ?_; refine ZN ?_; refine Zk ?_; refine Z1 ?_; refine Zl ?_; refine JD ?_; refine JF ?_; refine X3 ?_; refine JR ?_; refine Z1 ?_
 refine Zb ?_; refine Z0 ?_; refine JD ?_
 exact ⟨i + 1, ⟨by omega, hg⟩, by omega, X7 rfl JM ⟨rfl, rfl, trivial⟩⟩
theorem X8n (g : Gra) (hl : g.nodes.length ≤ 2000) (hlt : ∀ x ∈ g.nodes, x.id < g.nn) (h1 : 1 ≤ g.nn) (h2 : g.nn ≤ 1000001) : Con Tryz.prog 136 [] [Xp g, Yi (Un g.nn)] [] (Xp (Yj g)) := by
 refine X9 (xs := [Xp (Yj g)]) Tryz.func136 rfl Tryz.ntmps136 rfl rfl rfl (fun E => ?_)
 obtain ⟨ns, es, nn, ne⟩ := g
 unfold Xp Yj
 simp only [Yi, Un, List.map_nil] at hl hlt h1 h2 ⊢
 have hmx : max nn (nn + 1) = nn + 1 := by omega
 refine X0 ?_; refine JR ?_; refine ZA (γ := 100) ?_; refine ZA (γ := 101) ?_; refine Zw (γ := 102) ?_; refine JD ?_; refine X0 ?_; refine JR ?_; refine Z0 ?_; refine JD ?_; refine X0 ?_; refine JR ?_
 refine Z0 ?_; refine JD ?_; refine X0 ?_; refine X0 ?_; refine JR ?_; refine Z0 ?_; refine JD ?_; refine X4 ?_
 refine XV (V0 5 130 3 rfl rfl rfl) ?_
 refine Xs (fun i : Nat => i ≤ ns.length) (fun i => ⟨65, [(2, .ptr 100 0), (3, .ptr 101 0), (4, .ptr 102 0), (5, .own 130 ((ns.take i).map X8).length), (6, ab false), (7, ai i)], [(100, .box [.d (.sl 3 (ns.map X8)), .d (.sl 5 (es.map Xi)), ai nn, ai ne]), (101, .box [ai nn, .d (.sl 1 []), .d (.sl 6 [])]), (102, .box [ani, ani, ai 0, ai 0]), (130, .row 3 ((ns.take i).map X8))]⟩) (fun i => ns.length - i) 0 (Nat.zero_le _)
  (X7 rfl JM ⟨rfl, rfl, rfl, rfl, trivial⟩) ?_
 intro i hi
 have hroom : ((ns.take i).map X8).length ≤ 2000 := by simp only [List.length_map, List.length_take]; omega
 by_cases hil : i < ns.length
 case neg =>
  obtain rfl : i = ns.length := by omega
  have hn : ¬ ((ns.length : Nat) : Int) < (ns.map X8).length := by rw [List.length_map]; omega
  rw [List.take_length] at hroom ⊢
  have happ : (ns ++ [(⟨nn, [], []⟩ : Nod)]).map X8 = ns.map X8 ++ [[.v (.int .i64 nn), .sl 1 [], .sl 6 []]] := by simp [X8]
  rw [happ]
  refine X0 ?_; refine X0 ?_; refine JR ?_; refine Z1 ?_; refine ZB ?_; refine ZC ?_; refine Zd ?_; refine Z8 ?_; refine JD ?_; refine JF ?_; refine Xo ?_; refine X0 ?_; refine X0 ?_; refine JR ?_
  refine Z1 ?_; refine Zu ?_; refine JD ?_; refine JT ?_; refine JR ?_; refine Z1 ?_; refine ZL ?_; refine Z5 ?_; refine Z6 ?_; refine Z0 ?_; refine JD ?_; refine X0 ?_
  refine XV (Up 130 rfl) ?_
  refine XV (Uo 5 130 rfl rfl (by simp)) ?_
  refine JR ?_; refine Z1 ?_; refine ZB ?_; refine Zy ?_; refine JD ?_; refine X0 ?_; refine JR ?_; refine ZB ?_; refine ZC ?_; refine ZB ?_; refine ZC ?_; refine Zb ?_; refine Zz ?_; refine ZB ?_; refine Zy ?_
  refine JD ?_; refine X0 ?_; refine JR ?_; refine ZL ?_; refine Zy ?_; refine JD ?_
  rw [hmx]
  (show AWP Tryz.prog E _ _ _; refine X1 ?_; exact (show Xk _ _ _ _ _ from ⟨_, St.le_refl _, ⟨⟨102, 0, _, rfl, rfl, .inr ⟨4, _, rfl, rfl, rfl, rfl⟩⟩, trivial⟩, X2 _⟩))
 have hn : (i : Int) < (ns.map X8).length := by rw [List.length_map]; omega
 obtain ⟨x, hx⟩ := Xm (l := ns) hil
 have hxc : (ns.map X8)[i]? = some (X8 x) := Xr hx
 have hxl := hlt x (List.mem_of_getElem? hx)
 have hst : (ns.take (i + 1)).map X8 = (ns.take i).map X8 ++ [X8 x] := by rw [X0G hx, List.map_append]; rfl
 obtain ⟨xid, labels, props⟩ := x
 simp only [X8] at hxc hxl hst
 have hge : ¬ nn ≤ xid := by omega
 have hne : ¬ xid = nn := by omega
 clear hx hlt
 refine X0 ?_; refine X0 ?_; refine JR ?_; refine Z1 ?_; refine ZB ?_; refine ZC ?_; refine Zd ?_; refine Z8 ?_; refine JD ?_; refine JT ?_; refine X3 ?_; refine X0 ?_; refine X4 ?_
 refine X0 ?_; refine X0 ?_; refine JR ?_; refine Z1 ?_; refine Zu ?_; refine Z1 ?_; refine ZB ?_; refine ZC ?_; refine Z1 ?_; refine Zj ?_; refine ZN ?_; refine Zk ?_; refine ZB ?_; refine ZC ?_; refine Z2 ?_
 refine Zn ?_; refine JD ?_; refine JF ?_; refine X3 ?_; refine X0 ?_; refine JR ?_; refine ZB ?_; refine ZC ?_; refine Z1 ?_; refine Zj ?_; refine ZN ?_; refine Zk ?_; refine ZB ?_; refine ZC ?_; refine Zv ?_
 refine JD ?_; refine JT ?_; refine JR ?_; refine Z1 ?_; refine ZB ?_; refine ZC ?_; refine Z1 ?_; refine Zj ?_; refine ZK ?_; refine Z5 ?_; refine Z6 ?_; refine Z0 ?_; refine JD ?_; refine JR ?_; refine Z1 ?_
 refine Zb ?_; refine Z0 ?_; refine JD ?_
 refine ⟨i + 1, hil, by omega, ?_⟩
 dsimp only
 rw [hst]
 exact X7 rfl ⟨JL, JL, JL, AVal.le_of_eq (by refine Eq.trans (b := AVal.own 130 (_ + _)) rfl ?_; simp only [List.length_append, List.length_map, List.length_cons, List.length_nil]), JL, JL, trivial⟩ ⟨rfl, rfl, rfl, rfl, trivial⟩
def V9 (id : Int) : Chg := ⟨1, id, 0, 0, [], .mk 0 0 0 [] []⟩
theorem Xb9 {id : Int} (h1 : 1 ≤ id) (h2 : id ≤ 1000000) : X0B (V9 id) = 0 := by
 have hi : idV id = true := by unfold idV; simp; omega
 unfold X0B V9
 simp [hi, V1, UY, Vd, X5]
 try rfl
theorem Xbe (g : Gra) (hE : XC g = 0) (hn : g.nn ≤ 1000000) (hl : g.nodes.length < 2000) : Con Tryz.prog 83 [] [Xp g, VK (V9 g.nn)] [] (.tup [Xp (Yj g), ai 0]) := by
 refine X9 (xs := [Xp (Yj g), ai 0]) Tryz.func83 rfl Tryz.ntmps83 rfl rfl rfl (fun E => ?_)
 have G := X1d hE
 have c1 := X96 (V9 g.nn) (by simp [V9, XY, Ub])
 rw [Xb9 G.nn1 hn] at c1
 have c2 := X3R g g.nn (by have := G.nl; omega) (X0q hE).nodes
 rw [X9b hE] at c2
 have c3 := Xa0 g g.nn (by have := G.el; omega)
 generalize (UM g.edges g.nn).isSome = eb at *
 generalize (UM g.edges g.nn).getD X1F = ed at *
 have c4 := X8n g G.nl (X8L hE) G.nn1 G.nn2
 have hnl : (g.nodes.map X8).length = g.nodes.length := by simp
 clear G hE
 obtain ⟨ns, es, nn, ne⟩ := g
 obtain ⟨did, dsrc, ddst, dtyp, dps⟩ := ed
 simp only [Xp, Yj, Yi, Un, Ua, X0F, V9, VK, X23, List.map_nil, Option.getD_none, Option.isSome_none] at *
 have hge : ¬ (2000 : Int) ≤ (ns.map X8).length := by omega
 refine X0 ?_; refine JR ?_; refine ZA (γ := 100) ?_; refine ZA (γ := 101) ?_; refine Zw (γ := 102) ?_; refine Z0 ?_; refine JD ?_; refine X0 ?_; refine X0 ?_; refine JR ?_; refine ZL ?_
 refine Z9 (hcon := c1) ?_; refine Z0 ?_; refine JD ?_; refine X0 ?_; refine JR ?_; refine Z1 ?_; refine Zv ?_; refine JD ?_; refine JF ?_; refine X3 ?_; refine X0 ?_; refine JR ?_; refine ZL ?_
 refine ZB ?_; refine ZC ?_; refine Z9 (hcon := c2) ?_; refine Z1 ?_; refine ZF ?_; refine ZF ?_; refine Zw (γ := 103) ?_; refine Zy ?_; refine Z0 ?_; refine JD ?_; refine X0 ?_; refine JR ?_; refine ZL ?_
 refine ZB ?_; refine ZC ?_; refine Z9 (hcon := c3) ?_; refine Z1 ?_; refine ZF ?_; refine ZF ?_; refine Zw (γ := 104) ?_; refine Zy ?_; refine Z0 ?_; refine JD ?_; refine X0 ?_; refine X0 ?_; refine JR ?_
 refine ZB ?_; refine ZC ?_; refine JD ?_; refine X4 ?_; refine X0 ?_; refine JR ?_; refine Zl ?_; refine Z0 ?_; refine JD ?_; refine JT ?_; refine X0 ?_; refine X0 ?_; refine JR ?_; refine Z1 ?_
 refine JD ?_; refine JF ?_; refine X3 ?_; refine X0 ?_; refine X0 ?_; refine JR ?_; refine ZB ?_; refine ZC ?_; refine Zd ?_; refine Z2 ?_; refine JD ?_; refine JF ?_; refine X3 ?_
 refine X0 ?_; refine JR ?_; refine ZL ?_; refine ZB ?_; refine ZC ?_; refine Zx ?_; refine Z9 (hcon := c4) ?_; refine Zy ?_; refine Z0 ?_; refine JD ?_
 (show AWP Tryz.prog E _ _ _; refine X1 ?_; exact (show Xk _ _ _ _ _ from ⟨_, St.le_refl _, ⟨⟨102, 0, _, rfl, rfl, .inr ⟨4, _, rfl, rfl, rfl, rfl⟩⟩, rfl, trivial⟩, X2 _⟩))
theorem X8h (g : Gra) (hg : GraHold g) (hE : XC g = 0) (hn : g.nn ≤ 1000000) (hl : g.nodes.length < 2000) : Con Tryz.prog 31 [] [Xp g, VK (V9 g.nn)] [] (.tup [Xp (Yj g), ai 0]) := by
 refine X9 (xs := [Xp (Yj g), ai 0]) Tryz.func31 rfl Tryz.ntmps31 rfl rfl rfl (fun E => ?_)
 have c1 := X37 g hg
 rw [hE] at c1
 have c2 := Xbe g hE hn hl
 clear hg hE hn hl
 obtain ⟨ns, es, nn, ne⟩ := g
 simp only [Xp, Yj, V9, VK, X23] at *
 refine X0 ?_; refine JR ?_; refine ZA (γ := 100) ?_; refine ZA (γ := 101) ?_; refine Zw (γ := 102) ?_; refine Z0 ?_; refine JD ?_; refine X0 ?_; refine X0 ?_; refine JR ?_; refine ZL ?_
 refine Z9 (hcon := c1) ?_; refine Z0 ?_; refine JD ?_; refine X0 ?_; refine JR ?_; refine Z1 ?_; refine Zv ?_; refine JD ?_; refine JF ?_; refine X3 ?_; refine X0 ?_; refine JR ?_; refine ZL ?_
 refine ZL ?_; refine Z9 (hcon := c2) ?_; refine ZF ?_; refine ZF ?_; refine Zy ?_; refine Z0 ?_; refine JD ?_
 (show AWP Tryz.prog E _ _ _; refine X1 ?_; exact (show Xk _ _ _ _ _ from ⟨_, St.le_refl _, ⟨⟨102, 0, _, rfl, rfl, .inr ⟨4, _, rfl, rfl, rfl, rfl⟩⟩, rfl, trivial⟩, X2 _⟩))
theorem X97 {g : Gra} (h : GraHold g) (hl : g.nodes.length < 2000) : GraHold (Yj g) := by
 refine ⟨?_, h.el, fun n hn => ?_, h.edges⟩
 ·unfold Yj; simp only [List.length_append, List.length_singleton]; omega
 ·unfold Yj at hn
  simp only [List.mem_append, List.mem_singleton] at hn
  rcases hn with hn | rfl
  ·exact h.nodes n hn
  ·exact ⟨by simp, by simp, by simp, by simp⟩
end Go.Fw
namespace Go.Fw
open Go Go.Proofs
set_option maxRecDepth 100000
set_option linter.unusedVariables false
set_option linter.unusedSimpArgs false
theorem X7z {g : Gra} (h : Vu g = true) : g.nodes.length ≤ 60 := by
 unfold Vu at h
 by_cases q : 60 < g.nodes.length ∨ 100 < g.edges.length
 ·rw [if_pos q] at h; simp at h
 ·omega
theorem X9A (s : List Rul) (g : Gra) (hg : GraHold g) (hs : s.length ≤ 9223372036854775807) : Con Tryz.prog 9 [] [.d (.sl 6 (s.map XI)), Xp g] [] (ab true) := by
 refine X9 (xs := [ab true]) Tryz.func9 rfl Tryz.ntmps9 rfl rfl rfl (fun E => ?_)
 have ha := X3z
 have hsm : (s.map XI).length = s.length := by simp
 have hfw := X5l g hg
 by_cases q1 : Vu g = true
 case neg =>
  have q1 : Vu g = false := by simpa using q1
  rw [q1] at hfw
  clear hg
  obtain ⟨ns, es, nn, ne⟩ := g
  simp only [Xp] at *
  refine X0 ?_; refine JR ?_; refine ZA (γ := 100) ?_; refine Z0 ?_; refine JD ?_; refine X0 ?_; refine X0 ?_; refine JR ?_; refine ZL ?_; refine Z9 (hcon := hfw) ?_; refine Zu ?_; refine Z1 ?_; refine Zo ?_
  refine Zo ?_; refine Zo ?_; refine Zn ?_; refine Z1 ?_; refine Zo ?_; refine Zo ?_; refine Zo ?_; refine Zn ?_; refine Z1 ?_; refine Zo ?_; refine Zo ?_; refine Zo ?_; refine Zn ?_; refine JD ?_; refine JT ?_
  refine X0 ?_; refine JR ?_; refine Z9 (hcon := ha) ?_; refine Z0 ?_; refine JD ?_
  (show AWP Tryz.prog E _ _ _; refine X1 ?_; exact (show Xk _ _ _ _ _ from ⟨_, St.le_refl _, ⟨rfl, trivial⟩, X2 _⟩))
 rw [q1] at hfw
 by_cases c1 : 60 < s.length
 ·have c1' : (60 : Int) < (s.map XI).length := by omega
  clear hg q1
  obtain ⟨ns, es, nn, ne⟩ := g
  simp only [Xp] at *
  refine X0 ?_; refine JR ?_; refine ZA (γ := 100) ?_; refine Z0 ?_; refine JD ?_; refine X0 ?_; refine X0 ?_; refine JR ?_; refine ZL ?_; refine Z9 (hcon := hfw) ?_; refine Zu ?_; refine Z1 ?_; refine Z1 ?_
  refine Zd ?_; refine Zs ?_; refine Zq ?_; refine Z1 ?_; refine Zo ?_; refine Zo ?_; refine Zo ?_; refine Zn ?_; refine Z1 ?_; refine Zo ?_; refine Zo ?_; refine Zo ?_; refine Zn ?_; refine JD ?_; refine JT ?_
  refine X0 ?_; refine JR ?_; refine Z9 (hcon := ha) ?_; refine Z0 ?_; refine JD ?_
  (show AWP Tryz.prog E _ _ _; refine X1 ?_; exact (show Xk _ _ _ _ _ from ⟨_, St.le_refl _, ⟨rfl, trivial⟩, X2 _⟩))
 have c1' : ¬ (60 : Int) < (s.map XI).length := by omega
 have hck := X37 g hg
 by_cases q2 : XC g = 0
 case neg =>
  clear hg q1
  generalize XC g = ge at *
  obtain ⟨ns, es, nn, ne⟩ := g
  simp only [Xp] at *
  refine X0 ?_; refine JR ?_; refine ZA (γ := 100) ?_; refine Z0 ?_; refine JD ?_; refine X0 ?_; refine X0 ?_; refine JR ?_; refine ZL ?_; refine Z9 (hcon := hfw) ?_; refine Zu ?_; refine Z1 ?_; refine Z1 ?_
  refine Zd ?_; refine Zs ?_; refine Zq ?_; refine Z1 ?_; refine ZL ?_; refine Z9 (hcon := hck) ?_; refine Zv ?_; refine Zq ?_; refine Z1 ?_; refine Zo ?_; refine Zo ?_; refine Zo ?_; refine Zn ?_; refine JD ?_
  refine JT ?_; refine X0 ?_; refine JR ?_; refine Z9 (hcon := ha) ?_; refine Z0 ?_; refine JD ?_
  (show AWP Tryz.prog E _ _ _; refine X1 ?_; exact (show Xk _ _ _ _ _ from ⟨_, St.le_refl _, ⟨rfl, trivial⟩, X2 _⟩))
 rw [q2] at hck
 by_cases q3 : 1000000 < g.nn
 ·clear hg q1 q2
  obtain ⟨ns, es, nn, ne⟩ := g
  simp only [Xp] at *
  refine X0 ?_; refine JR ?_; refine ZA (γ := 100) ?_; refine Z0 ?_; refine JD ?_; refine X0 ?_; refine X0 ?_; refine JR ?_; refine ZL ?_; refine Z9 (hcon := hfw) ?_; refine Zu ?_; refine Z1 ?_; refine Z1 ?_
  refine Zd ?_; refine Zs ?_; refine Zq ?_; refine Z1 ?_; refine ZL ?_; refine Z9 (hcon := hck) ?_; refine Zv ?_; refine Zq ?_; refine Z1 ?_; refine ZB ?_; refine ZC ?_; refine Zs ?_; refine Zq ?_; refine JD ?_
  refine JT ?_; refine X0 ?_; refine JR ?_; refine Z9 (hcon := ha) ?_; refine Z0 ?_; refine JD ?_
  (show AWP Tryz.prog E _ _ _; refine X1 ?_; exact (show Xk _ _ _ _ _ from ⟨_, St.le_refl _, ⟨rfl, trivial⟩, X2 _⟩))
 have hln := X7z q1
 have hap := X8h g hg q2 (by omega) (by omega)
 have h1 := X1C s g hg hs
 have h2 := X1C s (Yj g) (X97 hg (by omega)) hs
 rw [X86 q2 (by omega) (by omega)] at h2
 have hlen := X59 (s := s) (g := g)
 have h3 := X9t (Yl s g) (by omega)
 generalize Yl s g = l at *
 clear hg hlen q1 q2 hln
 obtain ⟨ns, es, nn, ne⟩ := g
 simp only [Xp, Yj, V9, VK, X23] at *
 generalize List.map X8 (ns ++ [Un nn]) = nn2 at *
 refine X0 ?_; refine JR ?_; refine ZA (γ := 100) ?_; refine Z0 ?_; refine JD ?_; refine X0 ?_; refine X0 ?_; refine JR ?_; refine ZL ?_; refine Z9 (hcon := hfw) ?_; refine Zu ?_; refine Z1 ?_; refine Z1 ?_
 refine Zd ?_; refine Zs ?_; refine Zq ?_; refine Z1 ?_; refine ZL ?_; refine Z9 (hcon := hck) ?_; refine Zv ?_; refine Zq ?_; refine Z1 ?_; refine ZB ?_; refine ZC ?_; refine Zs ?_; refine Zq ?_; refine JD ?_
 refine JF ?_; refine X3 ?_; refine X0 ?_; refine JR ?_; refine ZL ?_; refine ZB ?_; refine ZC ?_; refine Zx ?_; refine Z9 (hcon := hap) ?_; refine Z1 ?_; refine ZF ?_; refine ZF ?_; refine Zw (γ := 101) ?_
 refine Zy ?_; refine Z0 ?_; refine JD ?_; refine X0 ?_; refine X0 ?_; refine JR ?_; refine Z1 ?_; refine Zv ?_; refine JD ?_; refine JF ?_; refine X3 ?_; refine X0 ?_; refine JR ?_; refine Z1 ?_
 refine ZL ?_; refine Z9 (hcon := h1) ?_; refine Z1 ?_; refine ZL ?_; refine Z9 (hcon := h2) ?_; refine Z9 (hcon := h3) ?_; refine Z1 ?_; refine Z9 (hcon := ha) ?_; refine Zn ?_; refine Z0 ?_; refine JD ?_
 (show AWP Tryz.prog E _ _ _; refine X1 ?_; exact (show Xk _ _ _ _ _ from ⟨_, St.le_refl _, ⟨rfl, trivial⟩, X2 _⟩))
end Go.Fw
