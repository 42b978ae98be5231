/- The check of a change: the reference's. -/
import Derived.Test.YtaoggblfedekeaaGreatDoorG08
import Derived.Test.YtaoggblfedekeaaGreatDoorG18
import Derived.Test.YtaoggblfedekeaaGreatDoorG19
import Derived.Test.YtaoggblfedekeaaGreatDoorG07
set_option maxHeartbeats 32000000
namespace Go.Fw
open Go Go.Proofs
set_option maxRecDepth 100000
set_option linter.unusedVariables false
set_option linter.unusedSimpArgs false
theorem X2I (c : Chg) (hok : XH c.v) : Con Tryz.prog 29 [] [Xy c] [] (ai (Y8 c)) := by
 rw [X6r]
 obtain ⟨op, id, src, dst, name, v⟩ := c
 have hf := Xaj op
 have hw := Xa7 op
 have hi := X3c id
 have hs := X3c src
 have hd := X3c dst
 have hn := X9X name
 have hz := X89 v hok
 have hp := Xb2 v hok
 generalize idV id = i at *
 generalize idV src = si at *
 generalize idV dst = di at *
 generalize XW name = nv at *
 generalize U0 v = zv at *
 generalize UQ v = pv at *
 obtain ⟨k, n, d, s, l⟩ := v
 simp only [Xy, Xb] at *
 refine X8 (xs := [ai (Xr (Ud op) i si di src dst name nv zv pv)]) Tryz.func29 rfl Tryz.ntmps29 rfl rfl rfl (fun E => ?_)
 rw [show Ud op = (decide (op = 6), XC op, Xz op, decide (1 ≤ op ∧ op ≤ 8)) from rfl]
 clear hok
 generalize XC op = nm at *
 generalize Xz op = vl at *
 generalize hlo : decide (1 ≤ op ∧ op ≤ 8) = ok
 obtain ⟨r, hr⟩ : ∃ r, r = Xr (decide (op = 6), nm, vl, ok) i si di src dst name nv zv pv := ⟨_, rfl⟩
 rw [← hr]
 have h1 : op < 1 → ok = false := fun h => by rw [← hlo]; exact decide_eq_false (by omega)
 have h2 : 8 < op → ok = false := fun h => by rw [← hlo]; exact decide_eq_false (by omega)
 have h3 : ¬ op < 1 → ¬ 8 < op → ok = true := fun h k => by rw [← hlo]; exact decide_eq_true (by omega)
 clear hlo
 refine X0 ?_; refine JR ?_; refine Zy (γ := 100) ?_; refine Z0 ?_; refine JD ?_; refine X0 ?_; refine X0 ?_; refine JR ?_; refine Zz ?_; refine ZA ?_; refine Z8 ?_; refine Z1 ?_
 refine XE rfl rfl (fun hq => ?_) (fun hq => ?_); refine Zl ?_; refine Zl ?_; refine Zl ?_; refine Zk ?_; refine Z1 ?_; refine Zl ?_; refine Zl ?_; refine Zl ?_; refine Zl ?_; refine Zk ?_; refine Z1 ?_; refine Zl ?_
 refine Zl ?_; refine Zl ?_; refine Zl ?_; refine Zl ?_; refine Zm ?_; refine Zm ?_; refine Zm ?_; refine Zl ?_; refine Zk ?_; refine Z1 ?_; refine Zl ?_; refine Zl ?_; refine Zl ?_; refine Zl ?_; refine Zl ?_
 refine Zm ?_; refine Zm ?_; refine Zm ?_; refine Zm ?_; refine Zl ?_; refine Zk ?_; refine JD ?_; refine JT ?_; refine X0 ?_; refine JR ?_; refine Z0 ?_; refine JD ?_
 (clear hf hw hi hs hd hn hz hp; simp [Xr, *] at hr; subst hr; exact X1 ⟨_, St.le_refl _, ⟨rfl, trivial⟩, X2 _⟩); refine Zz ?_; refine ZA ?_; refine Zp ?_; refine Zn ?_; refine Z1 ?_
 refine XE rfl rfl (fun hq => ?_) (fun hq => ?_); refine Zl ?_; refine Zl ?_; refine Zl ?_; refine Zl ?_; refine Zk ?_; refine Z1 ?_; refine Zl ?_; refine Zl ?_; refine Zl ?_; refine Zl ?_; refine Zl ?_; refine Zm ?_
 refine Zm ?_; refine Zm ?_; refine Zl ?_; refine Zk ?_; refine Z1 ?_; refine Zl ?_; refine Zl ?_; refine Zl ?_; refine Zl ?_; refine Zl ?_; refine Zm ?_; refine Zm ?_; refine Zm ?_; refine Zm ?_; refine Zl ?_
 refine Zk ?_; refine JD ?_; refine JT ?_; refine X0 ?_; refine JR ?_; refine Z0 ?_; refine JD ?_
 (clear hf hw hi hs hd hn hz hp; simp [Xr, *] at hr; subst hr; exact X1 ⟨_, St.le_refl _, ⟨rfl, trivial⟩, X2 _⟩); refine Zz ?_; refine ZA ?_; refine Z9 (hcon := hi) ?_; refine Zr ?_; refine Zn ?_
 refine Z1 ?_; refine XU rfl rfl (fun hq => ?_) (fun hq => ?_); refine Zz ?_; refine ZA ?_; refine Z9 (hcon := hf) ?_; refine Zr ?_; refine Z1 ?_; refine XU rfl rfl (fun hq => ?_) (fun hq => ?_)
 refine Zl ?_; refine Zl ?_; refine Zl ?_; refine Zn ?_; refine Zn ?_; refine Z1 ?_; refine Zz ?_; refine ZA ?_; refine Z9 (hcon := hw) ?_; refine Zr ?_; refine Z1 ?_
 refine XU rfl rfl (fun hq => ?_) (fun hq => ?_); refine Zl ?_; refine Zl ?_; refine Zl ?_; refine Zl ?_; refine Zn ?_; refine Zn ?_; refine JD ?_; refine JF ?_; refine X3 ?_; refine X0 ?_
 refine X0 ?_; refine JR ?_; refine Zz ?_; refine ZA ?_; refine Zu ?_; refine Z1 ?_; refine XE rfl rfl (fun hq => ?_) (fun hq => ?_); refine Zz ?_; refine ZA ?_; refine Z9 (hcon := hs) ?_; refine Zr ?_
 refine Z1 ?_; refine XU rfl rfl (fun hq => ?_) (fun hq => ?_); refine Zz ?_; refine ZA ?_; refine Z9 (hcon := hd) ?_; refine Zr ?_; refine Zn ?_; refine Zk ?_; refine Z1 ?_
 refine XU rfl rfl (fun hq => ?_) (fun hq => ?_); refine Zz ?_; refine ZA ?_; refine Zs ?_; refine Z1 ?_; refine Zl ?_; refine Zl ?_; refine Zl ?_; refine Zl ?_; refine Zm ?_; refine Zm ?_; refine Zm ?_
 refine Zl ?_; refine Zn ?_; refine Zn ?_; refine JD ?_; refine JF ?_; refine X3 ?_; refine X0 ?_; refine X0 ?_; refine JR ?_; refine Zz ?_; refine ZA ?_; refine Z9 (hcon := hf) ?_; refine Z1 ?_
 refine Zz ?_; refine ZA ?_; refine Z9 (hcon := hn) ?_; refine Zr ?_; refine Zk ?_; refine JD ?_; refine XF rfl (fun hq => ?_) (fun hq => ?_); refine X0 ?_; refine JR ?_; refine Z0 ?_; refine JD ?_
 (clear hf hw hi hs hd hn hz hp; simp [Xr, *] at hr; subst hr; exact X1 ⟨_, St.le_refl _, ⟨rfl, trivial⟩, X2 _⟩); refine X3 ?_; refine X0 ?_; refine X0 ?_; refine JR ?_; refine Zz ?_
 refine ZA ?_; refine Z9 (hcon := hw) ?_; refine Z1 ?_; refine Zz ?_; refine ZL ?_; refine Z9 (hcon := hz) ?_; refine Zr ?_; refine Zk ?_; refine Z1 ?_; refine XU rfl rfl (fun hq => ?_) (fun hq => ?_)
 refine Zl ?_; refine Zl ?_; refine Zl ?_; refine Zl ?_; refine Zn ?_; refine JD ?_; refine JF ?_; refine X3 ?_; refine X0 ?_; refine JR ?_; refine Z0 ?_; refine JD ?_
 (clear hf hw hi hs hd hn hz hp; simp [Xr, *] at hr; subst hr; exact X1 ⟨_, St.le_refl _, ⟨rfl, trivial⟩, X2 _⟩); refine Zz ?_; refine ZL ?_; refine Z9 (hcon := hp) ?_; refine Zr ?_; refine Zk ?_
 refine JD ?_; refine XF rfl (fun hq => ?_) (fun hq => ?_); refine X0 ?_; refine JR ?_; refine Z0 ?_; refine JD ?_
 (clear hf hw hi hs hd hn hz hp; simp [Xr, *] at hr; subst hr; exact X1 ⟨_, St.le_refl _, ⟨rfl, trivial⟩, X2 _⟩); refine X3 ?_; refine X0 ?_; refine JR ?_; refine Z0 ?_; refine JD ?_
 (clear hf hw hi hs hd hn hz hp; simp [Xr, *] at hr; subst hr; exact X1 ⟨_, St.le_refl _, ⟨rfl, trivial⟩, X2 _⟩); refine Zl ?_; refine Zl ?_; refine Zl ?_; refine Zl ?_; refine Zm ?_; refine Zm ?_
 refine Zm ?_; refine Zm ?_; refine Zm ?_; refine Zm ?_; refine Zm ?_; refine Zm ?_; refine Zl ?_; refine Zk ?_; refine JD ?_; refine JT ?_; refine X0 ?_; refine JR ?_; refine Z0 ?_; refine JD ?_
 (clear hf hw hi hs hd hn hz hp; simp [Xr, *] at hr; subst hr; exact X1 ⟨_, St.le_refl _, ⟨rfl, trivial⟩, X2 _⟩); refine Zl ?_; refine Zl ?_; refine Zl ?_; refine Zl ?_; refine Zk ?_; refine Zk ?_
 refine Z1 ?_; refine Zl ?_; refine Zl ?_; refine Zl ?_; refine Zl ?_; refine Zm ?_; refine Zm ?_; refine Zm ?_; refine Zm ?_; refine Zm ?_; refine Zm ?_; refine Zm ?_; refine Zm ?_; refine Zl ?_; refine Zk ?_
 refine JD ?_; refine JT ?_; refine X0 ?_; refine JR ?_; refine Z0 ?_; refine JD ?_; (clear hf hw hi hs hd hn hz hp; simp [Xr, *] at hr; subst hr; exact X1 ⟨_, St.le_refl _, ⟨rfl, trivial⟩, X2 _⟩)
 refine Zl ?_; refine Zl ?_; refine Zl ?_; refine Zl ?_; refine Zl ?_; refine Zm ?_; refine Zm ?_; refine Zm ?_; refine Zm ?_; refine Zl ?_; refine Zn ?_; refine Z1 ?_; refine Zz ?_; refine ZA ?_; refine Zs ?_
 refine Z1 ?_; refine Zz ?_; refine ZA ?_; refine Zs ?_; refine Z1 ?_; refine XE rfl rfl (fun hq => ?_) (fun hq => ?_); refine Zl ?_; refine Zl ?_; refine Zl ?_; refine Zk ?_; refine Zk ?_; refine Zn ?_; refine JD ?_
 refine JT ?_; refine X0 ?_; refine JR ?_; refine Z0 ?_; refine JD ?_; (clear hf hw hi hs hd hn hz hp; simp [Xr, *] at hr; subst hr; exact X1 ⟨_, St.le_refl _, ⟨rfl, trivial⟩, X2 _⟩); refine Zz ?_
 refine ZA ?_; refine Zs ?_; refine Zn ?_; refine Zk ?_; refine Zn ?_; refine JD ?_; refine Uy rfl (fun hq => ?_) (fun hq => ?_); refine X0 ?_; refine JR ?_; refine Z0 ?_; refine JD ?_
 (clear hf hw hi hs hd hn hz hp; simp [Xr, *] at hr; subst hr; exact X1 ⟨_, St.le_refl _, ⟨rfl, trivial⟩, X2 _⟩); refine X3 ?_; refine X0 ?_; refine X0 ?_; refine JR ?_; refine Zz ?_
 refine ZA ?_; refine Z9 (hcon := hf) ?_; refine Z1 ?_; refine Zz ?_; refine ZA ?_; refine Z9 (hcon := hn) ?_; refine Zr ?_; refine Zk ?_; refine JD ?_; refine XF rfl (fun hq => ?_) (fun hq => ?_)
 refine X0 ?_; refine JR ?_; refine Z0 ?_; refine JD ?_; (clear hf hw hi hs hd hn hz hp; simp [Xr, *] at hr; subst hr; exact X1 ⟨_, St.le_refl _, ⟨rfl, trivial⟩, X2 _⟩); refine X3 ?_
 refine X0 ?_; refine X0 ?_; refine JR ?_; refine Zz ?_; refine ZA ?_; refine Z9 (hcon := hw) ?_; refine Z1 ?_; refine Zz ?_; refine ZL ?_; refine Z9 (hcon := hz) ?_; refine Zr ?_; refine Zk ?_; refine Z1 ?_
 refine XU rfl rfl (fun hq => ?_) (fun hq => ?_); refine Zl ?_; refine Zl ?_; refine Zl ?_; refine Zl ?_; refine Zn ?_; refine JD ?_; refine JF ?_; refine X3 ?_; refine X0 ?_; refine JR ?_; refine Z0 ?_
 refine JD ?_; (clear hf hw hi hs hd hn hz hp; simp [Xr, *] at hr; subst hr; exact X1 ⟨_, St.le_refl _, ⟨rfl, trivial⟩, X2 _⟩); refine Zz ?_; refine ZL ?_; refine Z9 (hcon := hp) ?_; refine Zr ?_
 refine Zk ?_; refine JD ?_; refine XF rfl (fun hq => ?_) (fun hq => ?_); refine X0 ?_; refine JR ?_; refine Z0 ?_; refine JD ?_
 (clear hf hw hi hs hd hn hz hp; simp [Xr, *] at hr; subst hr; exact X1 ⟨_, St.le_refl _, ⟨rfl, trivial⟩, X2 _⟩); refine X3 ?_; refine X0 ?_; refine JR ?_; refine Z0 ?_; refine JD ?_
 (clear hf hw hi hs hd hn hz hp; simp [Xr, *] at hr; subst hr; exact X1 ⟨_, St.le_refl _, ⟨rfl, trivial⟩, X2 _⟩); refine Zz ?_; refine ZL ?_; refine Z9 (hcon := hz) ?_; refine Zr ?_; refine Zk ?_
 refine Zn ?_; refine JD ?_; refine XF rfl (fun hq => ?_) (fun hq => ?_); refine X0 ?_; refine JR ?_; refine Z0 ?_; refine JD ?_
 (clear hf hw hi hs hd hn hz hp; simp [Xr, *] at hr; subst hr; exact X1 ⟨_, St.le_refl _, ⟨rfl, trivial⟩, X2 _⟩); refine X3 ?_; refine X0 ?_; refine X0 ?_; refine JR ?_; refine Zz ?_
 refine ZA ?_; refine Zu ?_; refine Z1 ?_; refine XE rfl rfl (fun hq => ?_) (fun hq => ?_); refine Zz ?_; refine ZA ?_; refine Z9 (hcon := hs) ?_; refine Zr ?_; refine Z1 ?_
 refine XU rfl rfl (fun hq => ?_) (fun hq => ?_); refine Zz ?_; refine ZA ?_; refine Z9 (hcon := hd) ?_; refine Zr ?_; refine Zn ?_; refine Zk ?_; refine Z1 ?_
 refine XU rfl rfl (fun hq => ?_) (fun hq => ?_); refine Zz ?_; refine ZA ?_; refine Zs ?_; refine Z1 ?_; refine Zl ?_; refine Zl ?_; refine Zl ?_; refine Zl ?_; refine Zm ?_; refine Zm ?_; refine Zm ?_
 refine Zl ?_; refine Zn ?_; refine Zn ?_; refine JD ?_; refine JF ?_; refine X3 ?_; refine X0 ?_; refine X0 ?_; refine JR ?_; refine Zz ?_; refine ZA ?_; refine Z9 (hcon := hf) ?_; refine Z1 ?_
 refine Zz ?_; refine ZA ?_; refine Z9 (hcon := hn) ?_; refine Zr ?_; refine Zk ?_; refine JD ?_; refine XF rfl (fun hq => ?_) (fun hq => ?_); refine X0 ?_; refine JR ?_; refine Z0 ?_; refine JD ?_
 (clear hf hw hi hs hd hn hz hp; simp [Xr, *] at hr; subst hr; exact X1 ⟨_, St.le_refl _, ⟨rfl, trivial⟩, X2 _⟩); refine X3 ?_; refine X0 ?_; refine X0 ?_; refine JR ?_; refine Zz ?_
 refine ZA ?_; refine Z9 (hcon := hw) ?_; refine Z1 ?_; refine Zl ?_; refine Zl ?_; refine Zl ?_; refine Zl ?_; refine Zn ?_; refine Z1 ?_; refine Zl ?_; refine Zl ?_; refine Zl ?_; refine Zl ?_; refine Zn ?_
 refine JD ?_; refine JF ?_; refine X3 ?_; refine X0 ?_; refine JR ?_; refine Z0 ?_; refine JD ?_
 (clear hf hw hi hs hd hn hz hp; simp [Xr, *] at hr; subst hr; exact X1 ⟨_, St.le_refl _, ⟨rfl, trivial⟩, X2 _⟩); refine Zl ?_; refine Zl ?_; refine Zl ?_; refine Zl ?_; refine Zm ?_; refine Zm ?_
 refine Zm ?_; refine Zm ?_; refine Zm ?_; refine Zm ?_; refine Zm ?_; refine Zm ?_; refine Zl ?_; refine Zk ?_; refine JD ?_; refine JT ?_; refine X0 ?_; refine JR ?_; refine Z0 ?_; refine JD ?_
 (clear hf hw hi hs hd hn hz hp; simp [Xr, *] at hr; subst hr; exact X1 ⟨_, St.le_refl _, ⟨rfl, trivial⟩, X2 _⟩); refine Zl ?_; refine Zl ?_; refine Zl ?_; refine Zl ?_; refine Zk ?_; refine Zk ?_
 refine Z1 ?_; refine Zl ?_; refine Zl ?_; refine Zl ?_; refine Zl ?_; refine Zm ?_; refine Zm ?_; refine Zm ?_; refine Zm ?_; refine Zm ?_; refine Zm ?_; refine Zm ?_; refine Zm ?_; refine Zl ?_; refine Zk ?_
 refine JD ?_; refine JT ?_; refine X0 ?_; refine JR ?_; refine Z0 ?_; refine JD ?_; (clear hf hw hi hs hd hn hz hp; simp [Xr, *] at hr; subst hr; exact X1 ⟨_, St.le_refl _, ⟨rfl, trivial⟩, X2 _⟩)
 refine Zl ?_; refine Zl ?_; refine Zl ?_; refine Zl ?_; refine Zl ?_; refine Zm ?_; refine Zm ?_; refine Zm ?_; refine Zm ?_; refine Zl ?_; refine Zn ?_; refine Z1 ?_; refine Zz ?_; refine ZA ?_; refine Zs ?_
 refine Z1 ?_; refine Zz ?_; refine ZA ?_; refine Zs ?_; refine Z1 ?_; refine XE rfl rfl (fun hq => ?_) (fun hq => ?_); refine Zl ?_; refine Zl ?_; refine Zl ?_; refine Zk ?_; refine Zk ?_; refine Zn ?_; refine JD ?_
 refine JT ?_; refine X0 ?_; refine JR ?_; refine Z0 ?_; refine JD ?_; (clear hf hw hi hs hd hn hz hp; simp [Xr, *] at hr; subst hr; exact X1 ⟨_, St.le_refl _, ⟨rfl, trivial⟩, X2 _⟩); refine Zz ?_
 refine ZA ?_; refine Zs ?_; refine Zn ?_; refine Zk ?_; refine Zn ?_; refine JD ?_; refine Uy rfl (fun hq => ?_) (fun hq => ?_); refine X0 ?_; refine JR ?_; refine Z0 ?_; refine JD ?_
 (clear hf hw hi hs hd hn hz hp; simp [Xr, *] at hr; subst hr; exact X1 ⟨_, St.le_refl _, ⟨rfl, trivial⟩, X2 _⟩); refine X3 ?_; refine X0 ?_; refine X0 ?_; refine JR ?_; refine Zz ?_
 refine ZA ?_; refine Z9 (hcon := hf) ?_; refine Z1 ?_; refine Zz ?_; refine ZA ?_; refine Z9 (hcon := hn) ?_; refine Zr ?_; refine Zk ?_; refine JD ?_; refine XF rfl (fun hq => ?_) (fun hq => ?_)
 refine X0 ?_; refine JR ?_; refine Z0 ?_; refine JD ?_; (clear hf hw hi hs hd hn hz hp; simp [Xr, *] at hr; subst hr; exact X1 ⟨_, St.le_refl _, ⟨rfl, trivial⟩, X2 _⟩); refine X3 ?_
 refine X0 ?_; refine X0 ?_; refine JR ?_; refine Zz ?_; refine ZA ?_; refine Z9 (hcon := hw) ?_; refine Z1 ?_; refine Zl ?_; refine Zl ?_; refine Zl ?_; refine Zl ?_; refine Zn ?_; refine Z1 ?_; refine Zl ?_
 refine Zl ?_; refine Zl ?_; refine Zl ?_; refine Zn ?_; refine JD ?_; refine JF ?_; refine X3 ?_; refine X0 ?_; refine JR ?_; refine Z0 ?_; refine JD ?_
 (clear hf hw hi hs hd hn hz hp; simp [Xr, *] at hr; subst hr; exact X1 ⟨_, St.le_refl _, ⟨rfl, trivial⟩, X2 _⟩); refine Zz ?_; refine ZA ?_; refine ZM ?_; refine Zk ?_; refine Zn ?_; refine Z1 ?_
 refine XE rfl rfl (fun hq => ?_) (fun hq => ?_); refine Zl ?_; refine Zl ?_; refine Zl ?_; refine Zl ?_; refine Zl ?_; refine Zm ?_; refine Zm ?_; refine Zm ?_; refine Zm ?_; refine Zl ?_; refine Zk ?_; refine JD ?_
 refine JT ?_; refine X0 ?_; refine JR ?_; refine Z0 ?_; refine JD ?_; (clear hf hw hi hs hd hn hz hp; simp [Xr, *] at hr; subst hr; exact X1 ⟨_, St.le_refl _, ⟨rfl, trivial⟩, X2 _⟩); refine Zz ?_
 refine ZA ?_; refine Z9 (hcon := hw) ?_; refine Zr ?_; refine Z1 ?_; refine XU rfl rfl (fun hq => ?_) (fun hq => ?_); refine Zl ?_; refine Zl ?_; refine Zl ?_; refine Zl ?_; refine Zn ?_; refine Zn ?_
 refine JD ?_; refine JF ?_; refine X3 ?_; refine X0 ?_; refine X0 ?_; refine JR ?_; refine Zz ?_; refine ZA ?_; refine Zu ?_; refine Z1 ?_; refine XE rfl rfl (fun hq => ?_) (fun hq => ?_)
 refine Zz ?_; refine ZA ?_; refine Z9 (hcon := hs) ?_; refine Zr ?_; refine Z1 ?_; refine XU rfl rfl (fun hq => ?_) (fun hq => ?_); refine Zz ?_; refine ZA ?_; refine Z9 (hcon := hd) ?_; refine Zr ?_
 refine Zn ?_; refine Zk ?_; refine Z1 ?_; refine XU rfl rfl (fun hq => ?_) (fun hq => ?_); refine Zz ?_; refine ZA ?_; refine Zs ?_; refine Z1 ?_; refine Zl ?_; refine Zl ?_; refine Zl ?_; refine Zl ?_
 refine Zm ?_; refine Zm ?_; refine Zm ?_; refine Zl ?_; refine Zn ?_; refine Zn ?_; refine JD ?_; refine JF ?_; refine X3 ?_; refine X0 ?_; refine X0 ?_; refine JR ?_; refine Zz ?_; refine ZA ?_
 refine Z9 (hcon := hf) ?_; refine Z1 ?_; refine Zl ?_; refine Zl ?_; refine Zl ?_; refine Zl ?_; refine Zn ?_; refine JD ?_; refine JF ?_; refine X3 ?_; refine X0 ?_; refine X0 ?_; refine JR ?_
 refine Zz ?_; refine ZA ?_; refine Z9 (hcon := hw) ?_; refine Z1 ?_; refine Zz ?_; refine ZL ?_; refine Z9 (hcon := hz) ?_; refine Zr ?_; refine Zk ?_; refine Z1 ?_
 refine XU rfl rfl (fun hq => ?_) (fun hq => ?_); refine Zl ?_; refine Zl ?_; refine Zl ?_; refine Zl ?_; refine Zn ?_; refine JD ?_; refine JF ?_; refine X3 ?_; refine X0 ?_; refine JR ?_; refine Z0 ?_
 refine JD ?_; (clear hf hw hi hs hd hn hz hp; simp [Xr, *] at hr; subst hr; exact X1 ⟨_, St.le_refl _, ⟨rfl, trivial⟩, X2 _⟩); refine Zz ?_; refine ZL ?_; refine Z9 (hcon := hp) ?_; refine Zr ?_
 refine Zk ?_; refine JD ?_; refine XF rfl (fun hq => ?_) (fun hq => ?_); refine X0 ?_; refine JR ?_; refine Z0 ?_; refine JD ?_
 (clear hf hw hi hs hd hn hz hp; simp [Xr, *] at hr; subst hr; exact X1 ⟨_, St.le_refl _, ⟨rfl, trivial⟩, X2 _⟩); refine X3 ?_; refine X0 ?_; refine JR ?_; refine Z0 ?_; refine JD ?_
 (clear hf hw hi hs hd hn hz hp; simp [Xr, *] at hr; subst hr; exact X1 ⟨_, St.le_refl _, ⟨rfl, trivial⟩, X2 _⟩); refine Zl ?_; refine Zl ?_; refine Zl ?_; refine Zl ?_; refine Zm ?_; refine Zm ?_
 refine Zm ?_; refine Zm ?_; refine Zm ?_; refine Zm ?_; refine Zm ?_; refine Zm ?_; refine Zl ?_; refine Zk ?_; refine JD ?_; refine JT ?_; refine X0 ?_; refine JR ?_; refine Z0 ?_; refine JD ?_
 (clear hf hw hi hs hd hn hz hp; simp [Xr, *] at hr; subst hr; exact X1 ⟨_, St.le_refl _, ⟨rfl, trivial⟩, X2 _⟩); refine Zl ?_; refine Zl ?_; refine Zl ?_; refine Zl ?_; refine Zk ?_; refine Zk ?_
 refine Z1 ?_; refine Zl ?_; refine Zl ?_; refine Zl ?_; refine Zl ?_; refine Zm ?_; refine Zm ?_; refine Zm ?_; refine Zm ?_; refine Zm ?_; refine Zm ?_; refine Zm ?_; refine Zm ?_; refine Zl ?_; refine Zk ?_
 refine JD ?_; refine JT ?_; refine X0 ?_; refine JR ?_; refine Z0 ?_; refine JD ?_; (clear hf hw hi hs hd hn hz hp; simp [Xr, *] at hr; subst hr; exact X1 ⟨_, St.le_refl _, ⟨rfl, trivial⟩, X2 _⟩)
 refine Zl ?_; refine Zl ?_; refine Zl ?_; refine Zl ?_; refine Zl ?_; refine Zm ?_; refine Zm ?_; refine Zm ?_; refine Zm ?_; refine Zl ?_; refine Zn ?_; refine Z1 ?_; refine Zz ?_; refine ZA ?_; refine Zs ?_
 refine Z1 ?_; refine Zz ?_; refine ZA ?_; refine Zs ?_; refine Z1 ?_; refine XE rfl rfl (fun hq => ?_) (fun hq => ?_); refine Zl ?_; refine Zl ?_; refine Zl ?_; refine Zk ?_; refine Zk ?_; refine Zn ?_; refine JD ?_
 refine JT ?_; refine X0 ?_; refine JR ?_; refine Z0 ?_; refine JD ?_; (clear hf hw hi hs hd hn hz hp; simp [Xr, *] at hr; subst hr; exact X1 ⟨_, St.le_refl _, ⟨rfl, trivial⟩, X2 _⟩); refine Zz ?_
 refine ZA ?_; refine Zs ?_; refine Zn ?_; refine Zk ?_; refine Zn ?_; refine JD ?_; refine Uy rfl (fun hq => ?_) (fun hq => ?_); refine X0 ?_; refine JR ?_; refine Z0 ?_; refine JD ?_
 (clear hf hw hi hs hd hn hz hp; simp [Xr, *] at hr; subst hr; exact X1 ⟨_, St.le_refl _, ⟨rfl, trivial⟩, X2 _⟩); refine X3 ?_; refine X0 ?_; refine X0 ?_; refine JR ?_; refine Zz ?_
 refine ZA ?_; refine Z9 (hcon := hf) ?_; refine Z1 ?_; refine Zl ?_; refine Zl ?_; refine Zl ?_; refine Zl ?_; refine Zn ?_; refine JD ?_; refine JF ?_; refine X3 ?_; refine X0 ?_; refine X0 ?_
 refine JR ?_; refine Zz ?_; refine ZA ?_; refine Z9 (hcon := hw) ?_; refine Z1 ?_; refine Zz ?_; refine ZL ?_; refine Z9 (hcon := hz) ?_; refine Zr ?_; refine Zk ?_; refine Z1 ?_
 refine XU rfl rfl (fun hq => ?_) (fun hq => ?_); refine Zl ?_; refine Zl ?_; refine Zl ?_; refine Zl ?_; refine Zn ?_; refine JD ?_; refine JF ?_; refine X3 ?_; refine X0 ?_; refine JR ?_; refine Z0 ?_
 refine JD ?_; (clear hf hw hi hs hd hn hz hp; simp [Xr, *] at hr; subst hr; exact X1 ⟨_, St.le_refl _, ⟨rfl, trivial⟩, X2 _⟩); refine Zz ?_; refine ZL ?_; refine Z9 (hcon := hp) ?_; refine Zr ?_
 refine Zk ?_; refine JD ?_; refine XF rfl (fun hq => ?_) (fun hq => ?_); refine X0 ?_; refine JR ?_; refine Z0 ?_; refine JD ?_
 (clear hf hw hi hs hd hn hz hp; simp [Xr, *] at hr; subst hr; exact X1 ⟨_, St.le_refl _, ⟨rfl, trivial⟩, X2 _⟩); refine X3 ?_; refine X0 ?_; refine JR ?_; refine Z0 ?_; refine JD ?_
 (clear hf hw hi hs hd hn hz hp; simp [Xr, *] at hr; subst hr; exact X1 ⟨_, St.le_refl _, ⟨rfl, trivial⟩, X2 _⟩); refine Zz ?_; refine ZL ?_; refine Z9 (hcon := hz) ?_; refine Zr ?_; refine Zk ?_
 refine Zn ?_; refine JD ?_; refine XF rfl (fun hq => ?_) (fun hq => ?_); refine X0 ?_; refine JR ?_; refine Z0 ?_; refine JD ?_
 (clear hf hw hi hs hd hn hz hp; simp [Xr, *] at hr; subst hr; exact X1 ⟨_, St.le_refl _, ⟨rfl, trivial⟩, X2 _⟩); refine X3 ?_; refine X0 ?_; refine X0 ?_; refine JR ?_; refine Zz ?_
 refine ZA ?_; refine Zu ?_; refine Z1 ?_; refine XE rfl rfl (fun hq => ?_) (fun hq => ?_); refine Zz ?_; refine ZA ?_; refine Z9 (hcon := hs) ?_; refine Zr ?_; refine Z1 ?_
 refine XU rfl rfl (fun hq => ?_) (fun hq => ?_); refine Zz ?_; refine ZA ?_; refine Z9 (hcon := hd) ?_; refine Zr ?_; refine Zn ?_; refine Zk ?_; refine Z1 ?_
 refine XU rfl rfl (fun hq => ?_) (fun hq => ?_); refine Zz ?_; refine ZA ?_; refine Zs ?_; refine Z1 ?_; refine Zl ?_; refine Zl ?_; refine Zl ?_; refine Zl ?_; refine Zm ?_; refine Zm ?_; refine Zm ?_
 refine Zl ?_; refine Zn ?_; refine Zn ?_; refine JD ?_; refine JF ?_; refine X3 ?_; refine X0 ?_; refine X0 ?_; refine JR ?_; refine Zz ?_; refine ZA ?_; refine Z9 (hcon := hf) ?_; refine Z1 ?_
 refine Zl ?_; refine Zl ?_; refine Zl ?_; refine Zl ?_; refine Zn ?_; refine JD ?_; refine JF ?_; refine X3 ?_; refine X0 ?_; refine X0 ?_; refine JR ?_; refine Zz ?_; refine ZA ?_
 refine Z9 (hcon := hw) ?_; refine Z1 ?_; refine Zl ?_; refine Zl ?_; refine Zl ?_; refine Zl ?_; refine Zn ?_; refine Z1 ?_; refine Zl ?_; refine Zl ?_; refine Zl ?_; refine Zl ?_; refine Zn ?_; refine JD ?_
 refine JF ?_; refine X3 ?_; refine X0 ?_; refine JR ?_; refine Z0 ?_; refine JD ?_; (clear hf hw hi hs hd hn hz hp; simp [Xr, *] at hr; subst hr; exact X1 ⟨_, St.le_refl _, ⟨rfl, trivial⟩, X2 _⟩)
 refine Zl ?_; refine Zl ?_; refine Zl ?_; refine Zl ?_; refine Zm ?_; refine Zm ?_; refine Zm ?_; refine Zm ?_; refine Zm ?_; refine Zm ?_; refine Zm ?_; refine Zm ?_; refine Zl ?_; refine Zk ?_; refine JD ?_
 refine JT ?_; refine X0 ?_; refine JR ?_; refine Z0 ?_; refine JD ?_; (clear hf hw hi hs hd hn hz hp; simp [Xr, *] at hr; subst hr; exact X1 ⟨_, St.le_refl _, ⟨rfl, trivial⟩, X2 _⟩); refine Zl ?_
 refine Zl ?_; refine Zl ?_; refine Zl ?_; refine Zk ?_; refine Zk ?_; refine Z1 ?_; refine Zl ?_; refine Zl ?_; refine Zl ?_; refine Zl ?_; refine Zm ?_; refine Zm ?_; refine Zm ?_; refine Zm ?_; refine Zm ?_
 refine Zm ?_; refine Zm ?_; refine Zm ?_; refine Zl ?_; refine Zk ?_; refine JD ?_; refine JT ?_; refine X0 ?_; refine JR ?_; refine Z0 ?_; refine JD ?_
 (clear hf hw hi hs hd hn hz hp; simp [Xr, *] at hr; subst hr; exact X1 ⟨_, St.le_refl _, ⟨rfl, trivial⟩, X2 _⟩); refine Zl ?_; refine Zl ?_; refine Zl ?_; refine Zl ?_; refine Zl ?_; refine Zm ?_
 refine Zm ?_; refine Zm ?_; refine Zm ?_; refine Zl ?_; refine Zn ?_; refine Z1 ?_; refine Zz ?_; refine ZA ?_; refine Zs ?_; refine Z1 ?_; refine Zz ?_; refine ZA ?_; refine Zs ?_; refine Z1 ?_
 refine XE rfl rfl (fun hq => ?_) (fun hq => ?_); refine Zl ?_; refine Zl ?_; refine Zl ?_; refine Zk ?_; refine Zk ?_; refine Zn ?_; refine JD ?_; refine JT ?_; refine X0 ?_; refine JR ?_; refine Z0 ?_
 refine JD ?_; (clear hf hw hi hs hd hn hz hp; simp [Xr, *] at hr; subst hr; exact X1 ⟨_, St.le_refl _, ⟨rfl, trivial⟩, X2 _⟩); refine Zz ?_; refine ZA ?_; refine Zs ?_; refine Zn ?_; refine Zk ?_
 refine Zn ?_; refine JD ?_; refine Uy rfl (fun hq => ?_) (fun hq => ?_); refine X0 ?_; refine JR ?_; refine Z0 ?_; refine JD ?_
 (clear hf hw hi hs hd hn hz hp; simp [Xr, *] at hr; subst hr; exact X1 ⟨_, St.le_refl _, ⟨rfl, trivial⟩, X2 _⟩); refine X3 ?_; refine X0 ?_; refine X0 ?_; refine JR ?_; refine Zz ?_
 refine ZA ?_; refine Z9 (hcon := hf) ?_; refine Z1 ?_; refine Zl ?_; refine Zl ?_; refine Zl ?_; refine Zl ?_; refine Zn ?_; refine JD ?_; refine JF ?_; refine X3 ?_; refine X0 ?_; refine X0 ?_
 refine JR ?_; refine Zz ?_; refine ZA ?_; refine Z9 (hcon := hw) ?_; refine Z1 ?_; refine Zl ?_; refine Zl ?_; refine Zl ?_; refine Zl ?_; refine Zn ?_; refine Z1 ?_; refine Zl ?_; refine Zl ?_; refine Zl ?_
 refine Zl ?_; refine Zn ?_; refine JD ?_; refine JF ?_; refine X3 ?_; refine X0 ?_; refine JR ?_; refine Z0 ?_; refine JD ?_
 (clear hf hw hi hs hd hn hz hp; simp [Xr, *] at hr; subst hr; exact X1 ⟨_, St.le_refl _, ⟨rfl, trivial⟩, X2 _⟩); refine Zl ?_; refine Zl ?_; refine Zl ?_; refine Zl ?_; refine Zl ?_; refine Zm ?_
 refine Zm ?_; refine Zm ?_; refine Zl ?_; refine Zk ?_; refine Z1 ?_; refine Zl ?_; refine Zl ?_; refine Zl ?_; refine Zl ?_; refine Zl ?_; refine Zm ?_; refine Zm ?_; refine Zm ?_; refine Zm ?_; refine Zl ?_
 refine Zk ?_; refine JD ?_; refine JT ?_; refine X0 ?_; refine JR ?_; refine Z0 ?_; refine JD ?_
 (clear hf hw hi hs hd hn hz hp; simp [Xr, *] at hr; subst hr; exact X1 ⟨_, St.le_refl _, ⟨rfl, trivial⟩, X2 _⟩)
end Go.Fw
namespace Go.Fw
open Go Go.Proofs
set_option maxRecDepth 100000
set_option linter.unusedVariables false
set_option linter.unusedSimpArgs false
theorem Xb3 (n : Int) : Con Tryz.prog 71 [] [ai n] [] (ab (U4 n)) := by
 refine X8 (xs := [ab (U4 n)]) Tryz.func71 rfl Tryz.ntmps71 rfl rfl rfl (fun E => ?_)
 by_cases h1 : 1 ≤ n
 ·by_cases h2 : n ≤ 5
  ·rw [show U4 n = true by unfold U4; exact decide_eq_true ⟨h1, h2⟩]
   refine X0 ?_; refine JR ?_; refine Z0 ?_; refine JD ?_; refine X0 ?_; refine JR ?_; refine Z1 ?_; refine Z2 ?_; refine Z1 ?_; refine Z1 ?_; refine Zj ?_; refine Zk ?_; refine Z0 ?_; refine JD ?_
   first | exact X1 ⟨_, St.le_refl _, ⟨rfl, trivial⟩, X2 _⟩ | exact X1 ⟨_, X9 2 (y := ab true) (AVal.le_of_eq (by refine Eq.trans (b := ab (decide _)) rfl ?_; exact congrArg ab (by simp; omega))), ⟨rfl, trivial⟩, X2 _⟩ | fail
  ·rw [show U4 n = false by unfold U4; exact decide_eq_false (by omega)]
   refine X0 ?_; refine JR ?_; refine Z0 ?_; refine JD ?_; refine X0 ?_; refine JR ?_; refine Z1 ?_; refine Z2 ?_; refine Z1 ?_; refine Z1 ?_; refine Zj ?_; refine Zk ?_; refine Z0 ?_; refine JD ?_
   first | exact X1 ⟨_, St.le_refl _, ⟨rfl, trivial⟩, X2 _⟩ | exact X1 ⟨_, X9 2 (y := ab false) (AVal.le_of_eq (by refine Eq.trans (b := ab (decide _)) rfl ?_; exact congrArg ab (by simp; omega))), ⟨rfl, trivial⟩, X2 _⟩ | fail
 ·rw [show U4 n = false by unfold U4; exact decide_eq_false (by omega)]
  refine X0 ?_; refine JR ?_; refine Z0 ?_; refine JD ?_; refine X0 ?_; refine JR ?_; refine Z1 ?_; refine Z2 ?_; refine Z1 ?_; refine Zl ?_; refine Zl ?_; refine Zn ?_; refine Z0 ?_; refine JD ?_
  first | exact X1 ⟨_, St.le_refl _, ⟨rfl, trivial⟩, X2 _⟩ | exact X1 ⟨_, X9 2 (y := ab false) (AVal.le_of_eq (by refine Eq.trans (b := ab (decide _)) rfl ?_; exact congrArg ab (by simp; omega))), ⟨rfl, trivial⟩, X2 _⟩ | fail
theorem Xbz (k n : Int) (name key src dst : List UInt8) : Con Tryz.prog 70 [] [X5Z k n name key src dst] [] (ab (Ul k n)) := by
 refine X8 (xs := [ab (Ul k n)]) Tryz.func70 rfl Tryz.ntmps70 rfl rfl rfl (fun E => ?_)
 by_cases k3 : k = 3
 ·subst k3
  rw [show Ul 3 n = decide (n = 1 ∨ n = 2 ∨ n = 4) from rfl]
  by_cases n1 : n = 1
  ·subst n1
   repeat first | refine X0 ?_ | (refine JR ?_; (repeat first | refine Z1 ?_ | refine Z0 ?_ | refine Zz ?_ | refine ZA ?_ | refine Zu ?_ | refine Zy (γ := 100) ?_ | refine Zk ?_ | refine Zl ?_); refine JD ?_) | refine JT ?_
   first | exact X1 ⟨_, St.le_refl _, ⟨rfl, trivial⟩, X2 _⟩ | exact X1 ⟨_, X9 2 (y := ab true) (AVal.le_of_eq (by refine Eq.trans (b := ab (decide _)) rfl ?_; exact congrArg ab (by simp; omega))), ⟨rfl, trivial⟩, X2 _⟩ | fail
  by_cases n2 : n = 2
  ·subst n2
   repeat first | refine X0 ?_ | (refine JR ?_; (repeat first | refine Z1 ?_ | refine Z0 ?_ | refine Zz ?_ | refine ZA ?_ | refine Zu ?_ | refine Zy (γ := 100) ?_ | refine Zk ?_ | refine Zn ?_ | refine Zl ?_); refine JD ?_) | refine JT ?_
   first | exact X1 ⟨_, St.le_refl _, ⟨rfl, trivial⟩, X2 _⟩ | exact X1 ⟨_, X9 2 (y := ab true) (AVal.le_of_eq (by refine Eq.trans (b := ab (decide _)) rfl ?_; exact congrArg ab (by simp; omega))), ⟨rfl, trivial⟩, X2 _⟩ | fail
  by_cases n4 : n = 4
  ·subst n4
   repeat first | refine X0 ?_ | (refine JR ?_; (repeat first | refine Z1 ?_ | refine Z0 ?_ | refine Zz ?_ | refine ZA ?_ | refine Zu ?_ | refine Zy (γ := 100) ?_ | refine Zk ?_ | refine Zn ?_ | refine Zl ?_); refine JD ?_) | refine JT ?_
   first | exact X1 ⟨_, St.le_refl _, ⟨rfl, trivial⟩, X2 _⟩ | exact X1 ⟨_, X9 2 (y := ab true) (AVal.le_of_eq (by refine Eq.trans (b := ab (decide _)) rfl ?_; exact congrArg ab (by simp; omega))), ⟨rfl, trivial⟩, X2 _⟩ | fail
  rw [decide_eq_false (show ¬ (n = 1 ∨ n = 2 ∨ n = 4) by omega)]
  repeat first | refine X0 ?_ | (refine JR ?_; (repeat first | refine Z1 ?_ | refine Z0 ?_ | refine Zz ?_ | refine ZA ?_ | refine Zu ?_ | refine Zy (γ := 100) ?_ | refine Zk ?_ | refine Zn ?_ | refine Zl ?_); refine JD ?_) | refine JT ?_
  first | exact X1 ⟨_, St.le_refl _, ⟨rfl, trivial⟩, X2 _⟩ | exact X1 ⟨_, X9 2 (y := ab false) (AVal.le_of_eq (by refine Eq.trans (b := ab (decide _)) rfl ?_; exact congrArg ab (by simp; omega))), ⟨rfl, trivial⟩, X2 _⟩ | fail
 by_cases k5 : k = 5
 ·subst k5
  rw [show Ul 5 n = decide (n = 1 ∨ n = 2 ∨ n = 4) from rfl]
  by_cases n1 : n = 1
  ·subst n1
   repeat first | refine X0 ?_ | (refine JR ?_; (repeat first | refine Z1 ?_ | refine Z0 ?_ | refine Zz ?_ | refine ZA ?_ | refine Zu ?_ | refine Zy (γ := 100) ?_ | refine Zk ?_ | refine Zn ?_ | refine Zl ?_); refine JD ?_) | refine JT ?_
   first | exact X1 ⟨_, St.le_refl _, ⟨rfl, trivial⟩, X2 _⟩ | exact X1 ⟨_, X9 2 (y := ab true) (AVal.le_of_eq (by refine Eq.trans (b := ab (decide _)) rfl ?_; exact congrArg ab (by simp; omega))), ⟨rfl, trivial⟩, X2 _⟩ | fail
  by_cases n2 : n = 2
  ·subst n2
   repeat first | refine X0 ?_ | (refine JR ?_; (repeat first | refine Z1 ?_ | refine Z0 ?_ | refine Zz ?_ | refine ZA ?_ | refine Zu ?_ | refine Zy (γ := 100) ?_ | refine Zk ?_ | refine Zn ?_ | refine Zl ?_); refine JD ?_) | refine JT ?_
   first | exact X1 ⟨_, St.le_refl _, ⟨rfl, trivial⟩, X2 _⟩ | exact X1 ⟨_, X9 2 (y := ab true) (AVal.le_of_eq (by refine Eq.trans (b := ab (decide _)) rfl ?_; exact congrArg ab (by simp; omega))), ⟨rfl, trivial⟩, X2 _⟩ | fail
  by_cases n4 : n = 4
  ·subst n4
   repeat first | refine X0 ?_ | (refine JR ?_; (repeat first | refine Z1 ?_ | refine Z0 ?_ | refine Zz ?_ | refine ZA ?_ | refine Zu ?_ | refine Zy (γ := 100) ?_ | refine Zn ?_); refine JD ?_) | refine JT ?_
   first | exact X1 ⟨_, St.le_refl _, ⟨rfl, trivial⟩, X2 _⟩ | exact X1 ⟨_, X9 2 (y := ab true) (AVal.le_of_eq (by refine Eq.trans (b := ab (decide _)) rfl ?_; exact congrArg ab (by simp; omega))), ⟨rfl, trivial⟩, X2 _⟩ | fail
  rw [decide_eq_false (show ¬ (n = 1 ∨ n = 2 ∨ n = 4) by omega)]
  repeat first | refine X0 ?_ | (refine JR ?_; (repeat first | refine Z1 ?_ | refine Z0 ?_ | refine Zz ?_ | refine ZA ?_ | refine Zu ?_ | refine Zy (γ := 100) ?_ | refine Zn ?_); refine JD ?_) | refine JT ?_
  first | exact X1 ⟨_, St.le_refl _, ⟨rfl, trivial⟩, X2 _⟩ | exact X1 ⟨_, X9 2 (y := ab false) (AVal.le_of_eq (by refine Eq.trans (b := ab (decide _)) rfl ?_; exact congrArg ab (by simp; omega))), ⟨rfl, trivial⟩, X2 _⟩ | fail
 by_cases k7 : k = 7
 ·subst k7
  rw [show Ul 7 n = decide (0 ≤ n ∧ n ≤ 4000) from rfl]
  by_cases h1 : 0 ≤ n
  ·by_cases h2 : n ≤ 4000
   ·rw [decide_eq_true (show 0 ≤ n ∧ n ≤ 4000 by omega)]
    repeat first | refine X0 ?_ | (refine JR ?_; (repeat first | refine Z1 ?_ | refine Z0 ?_ | refine Zz ?_ | refine ZA ?_ | refine Zj ?_ | refine Z2 ?_ | refine Zu ?_ | refine Zy (γ := 100) ?_ | refine Zk ?_ | refine Zn ?_); refine JD ?_) | refine JT ?_ | refine JF ?_ | refine X3 ?_
    first | exact X1 ⟨_, St.le_refl _, ⟨rfl, trivial⟩, X2 _⟩ | exact X1 ⟨_, X9 2 (y := ab true) (AVal.le_of_eq (by refine Eq.trans (b := ab (decide _)) rfl ?_; exact congrArg ab (by simp; omega))), ⟨rfl, trivial⟩, X2 _⟩ | fail
   ·rw [decide_eq_false (show ¬ (0 ≤ n ∧ n ≤ 4000) by omega)]
    repeat first | refine X0 ?_ | (refine JR ?_; (repeat first | refine Z1 ?_ | refine Z0 ?_ | refine Zz ?_ | refine ZA ?_ | refine Zj ?_ | refine Z2 ?_ | refine Zu ?_ | refine Zy (γ := 100) ?_ | refine Zk ?_ | refine Zn ?_); refine JD ?_) | refine JT ?_ | refine JF ?_ | refine X3 ?_
    first | exact X1 ⟨_, St.le_refl _, ⟨rfl, trivial⟩, X2 _⟩ | exact X1 ⟨_, X9 2 (y := ab false) (AVal.le_of_eq (by refine Eq.trans (b := ab (decide _)) rfl ?_; exact congrArg ab (by simp; omega))), ⟨rfl, trivial⟩, X2 _⟩ | fail
  ·rw [decide_eq_false (show ¬ (0 ≤ n ∧ n ≤ 4000) by omega)]
   repeat first | refine X0 ?_ | (refine JR ?_; (repeat first | refine Z1 ?_ | refine Z0 ?_ | refine Zz ?_ | refine ZA ?_ | refine Z2 ?_ | refine Zu ?_ | refine Zy (γ := 100) ?_ | refine Zn ?_ | refine Zl ?_); refine JD ?_) | refine JT ?_ | refine JF ?_ | refine X3 ?_
   first | exact X1 ⟨_, St.le_refl _, ⟨rfl, trivial⟩, X2 _⟩ | exact X1 ⟨_, X9 2 (y := ab false) (AVal.le_of_eq (by refine Eq.trans (b := ab (decide _)) rfl ?_; exact congrArg ab (by simp; omega))), ⟨rfl, trivial⟩, X2 _⟩ | fail
 rw [show Ul k n = decide (n = 0) by unfold Ul; rw [if_neg (by omega), if_neg k7]]
 repeat first | refine X0 ?_ | (refine JR ?_; (repeat first | refine Z1 ?_ | refine Z0 ?_ | refine Zz ?_ | refine ZA ?_ | refine Zu ?_ | refine Zy (γ := 100) ?_ | refine Zn ?_); refine JD ?_) | refine JF ?_ | refine X3 ?_
 first | exact X1 ⟨_, St.le_refl _, ⟨rfl, trivial⟩, X2 _⟩ | exact X1 ⟨_, X9 2 (y := ab (decide (n = 0))) (AVal.le_of_eq rfl), ⟨rfl, trivial⟩, X2 _⟩ | fail
theorem X2L (r : Rul) : Con Tryz.prog 37 [] [XY r] [] (ai (YS r)) := by
 rw [X4i]
 obtain ⟨k, n, name, key, src, dst⟩ := r
 simp only [XY]
 have hn := X2a name
 have hk := X2a key
 have hs := X2a src
 have hd := X2a dst
 have ht := Xbz k n name key src dst
 have hf := Xb3 k
 generalize XW name = vn at *
 generalize XW key = vk at *
 generalize XW src = vs at *
 generalize XW dst = vd at *
 refine X8 (xs := [ai (VV k (Ul k n) key src dst vn vk vs vd)]) Tryz.func37 rfl Tryz.ntmps37 rfl rfl rfl (fun E => ?_)
 generalize Ul k n = nb at *
 generalize hkd : U4 k = kd at *
 have hkd1 : 1 ≤ k → k ≤ 5 → kd = true := fun h1 h2 => by rw [← hkd]; exact decide_eq_true (by omega)
 have hkd2 : 5 < k → kd = false := fun h1 => by rw [← hkd]; exact decide_eq_false (by omega)
 obtain ⟨r, hr⟩ : ∃ r, r = VV k nb key src dst vn vk vs vd := ⟨_, rfl⟩
 rw [← hr]
 unfold VV at hr
 rw [hkd] at hr
 by_cases hkk : 1 ≤ k ∧ k ≤ 7
 case neg =>
  rw [decide_eq_false hkk, if_pos (.inl rfl)] at hr
  subst hr
  clear hkd hkd1 hkd2
  refine X0 ?_; refine JR ?_; refine Zy (γ := 100) ?_; refine Z0 ?_; refine JD ?_; refine X0 ?_; refine X0 ?_; refine JR ?_; refine Zz ?_; refine ZA ?_; refine Z8 ?_; refine Z1 ?_
  refine XE rfl rfl (fun hq => ?_) (fun hq => ?_); refine Zl ?_; refine Zl ?_; refine Zl ?_; refine Zk ?_; refine Z1 ?_; refine Zl ?_; refine Zl ?_; refine Zl ?_; refine Zk ?_; refine JD ?_; refine JT ?_
  refine X0 ?_; refine JR ?_; refine Z0 ?_; refine JD ?_; exact X1 ⟨_, St.le_refl _, ⟨rfl, trivial⟩, X2 _⟩; refine Zz ?_; refine ZA ?_; refine Zp ?_; refine Zn ?_; refine Z1 ?_; refine Zl ?_; refine Zl ?_
  refine Zl ?_; refine Zk ?_; refine JD ?_; refine JT ?_; refine X0 ?_; refine JR ?_; refine Z0 ?_; refine JD ?_; exact X1 ⟨_, St.le_refl _, ⟨rfl, trivial⟩, X2 _⟩
 rw [decide_eq_true hkk] at hr
 clear hkd hkd1 hkd2
 refine X0 ?_; refine JR ?_; refine Zy (γ := 100) ?_; refine Z0 ?_; refine JD ?_; refine X0 ?_; refine X0 ?_; refine JR ?_; refine Zz ?_; refine ZA ?_; refine Z8 ?_; refine Z1 ?_; refine Zz ?_; refine ZA ?_
 refine Zp ?_; refine Zn ?_; refine Z1 ?_; refine ZL ?_; refine Z9 (hcon := ht) ?_; refine Zr ?_; refine Zn ?_; refine JD ?_; refine XF rfl (fun hq => ?_) (fun hq => ?_); refine X0 ?_; refine JR ?_
 refine Z0 ?_; refine JD ?_; (clear hf ht hn hk hs hd; simp [*] at hr; subst hr; exact X1 ⟨_, St.le_refl _, ⟨rfl, trivial⟩, X2 _⟩); refine X3 ?_; refine X0 ?_; refine X0 ?_; refine JR ?_
 refine Zz ?_; refine ZA ?_; refine Z9 (hcon := hf) ?_; refine Zr ?_; refine Z1 ?_; refine XU rfl rfl (fun hq => ?_) (fun hq => ?_); refine Zl ?_; refine Zl ?_; refine Zl ?_; refine Zn ?_; refine Z1 ?_
 refine Zz ?_; refine ZA ?_; refine Zs ?_; refine Z1 ?_; refine XE rfl rfl (fun hq => ?_) (fun hq => ?_); refine Zz ?_; refine ZA ?_; refine ZM ?_; refine Z1 ?_; refine XE rfl rfl (fun hq => ?_) (fun hq => ?_)
 refine Zl ?_; refine Zl ?_; refine Zl ?_; refine Zk ?_; refine Zk ?_; refine Zn ?_; refine JD ?_; refine JT ?_; refine X0 ?_; refine JR ?_; refine Z0 ?_; refine JD ?_
 (clear hf ht hn hk hs hd; simp [*] at hr; subst hr; exact X1 ⟨_, St.le_refl _, ⟨rfl, trivial⟩, X2 _⟩); refine Zz ?_; refine ZA ?_; refine ZM ?_; refine Zn ?_; refine Zk ?_; refine Zn ?_; refine JD ?_
 refine Uy rfl (fun hq => ?_) (fun hq => ?_); refine X0 ?_; refine JR ?_; refine Z0 ?_; refine JD ?_
 (clear hf ht hn hk hs hd; simp [*] at hr; subst hr; exact X1 ⟨_, St.le_refl _, ⟨rfl, trivial⟩, X2 _⟩); refine X3 ?_; refine X0 ?_; refine X0 ?_; refine JR ?_; refine Zz ?_; refine ZA ?_
 refine Z9 (hcon := hn) ?_; refine Zr ?_; refine Z1 ?_; refine XU rfl rfl (fun hq => ?_) (fun hq => ?_); refine Zz ?_; refine ZA ?_; refine Z9 (hcon := hf) ?_; refine Z1 ?_; refine Zz ?_; refine ZA ?_
 refine Z9 (hcon := hk) ?_; refine Zr ?_; refine Zk ?_; refine Zn ?_; refine Z1 ?_; refine XU rfl rfl (fun hq => ?_) (fun hq => ?_); refine Zz ?_; refine ZA ?_; refine ZM ?_; refine Z1 ?_; refine Zl ?_
 refine Zl ?_; refine Zl ?_; refine Zl ?_; refine Zn ?_; refine Zn ?_; refine Z1 ?_; refine Zz ?_; refine ZA ?_; refine ZM ?_; refine Z1 ?_; refine Zl ?_; refine Zl ?_; refine Zl ?_; refine Zl ?_; refine Zn ?_
 refine Zn ?_; refine JD ?_; refine JF ?_; refine X3 ?_; refine X0 ?_; refine JR ?_; refine Z0 ?_; refine JD ?_
 (clear hf ht hn hk hs hd; simp [*] at hr; subst hr; exact X1 ⟨_, St.le_refl _, ⟨rfl, trivial⟩, X2 _⟩); refine Zl ?_; refine Zl ?_; refine Zl ?_; refine Zl ?_; refine Zm ?_; refine Zm ?_; refine Zm ?_
 refine Zm ?_; refine Zl ?_; refine Zk ?_; refine Z1 ?_; refine Zl ?_; refine Zl ?_; refine Zl ?_; refine Zl ?_; refine Zm ?_; refine Zm ?_; refine Zm ?_; refine Zm ?_; refine Zl ?_; refine Zk ?_; refine JD ?_
 refine JT ?_; refine X0 ?_; refine JR ?_; refine Z0 ?_; refine JD ?_; (clear hf ht hn hk hs hd; simp [*] at hr; subst hr; exact X1 ⟨_, St.le_refl _, ⟨rfl, trivial⟩, X2 _⟩); refine Zl ?_; refine Zl ?_
 refine Zl ?_; refine Zl ?_; refine Zm ?_; refine Zm ?_; refine Zm ?_; refine Zm ?_; refine Zl ?_; refine Zk ?_; refine Z1 ?_; refine Zl ?_; refine Zl ?_; refine Zl ?_; refine Zl ?_; refine Zm ?_; refine Zm ?_
 refine Zm ?_; refine Zm ?_; refine Zl ?_; refine Zk ?_; refine Z1 ?_; refine Zl ?_; refine Zl ?_; refine Zl ?_; refine Zl ?_; refine Zm ?_; refine Zm ?_; refine Zm ?_; refine Zm ?_; refine Zl ?_; refine Zk ?_
 refine JD ?_; refine JT ?_; refine X0 ?_; refine JR ?_; refine Z0 ?_; refine JD ?_; (clear hf ht hn hk hs hd; simp [*] at hr; subst hr; exact X1 ⟨_, St.le_refl _, ⟨rfl, trivial⟩, X2 _⟩); refine Zl ?_
 refine Zl ?_; refine Zl ?_; refine Zl ?_; refine Zm ?_; refine Zm ?_; refine Zm ?_; refine Zl ?_; refine Zn ?_; refine Zn ?_; refine JD ?_; refine JF ?_; refine X3 ?_; refine X0 ?_; refine X0 ?_
 refine JR ?_; refine Zz ?_; refine ZA ?_; refine Z9 (hcon := hn) ?_; refine Zr ?_; refine Z1 ?_; refine XU rfl rfl (fun hq => ?_) (fun hq => ?_); refine Zz ?_; refine ZA ?_; refine Z9 (hcon := hf) ?_
 refine Z1 ?_; refine Zz ?_; refine ZA ?_; refine Z9 (hcon := hk) ?_; refine Zr ?_; refine Zk ?_; refine Zn ?_; refine Z1 ?_; refine XU rfl rfl (fun hq => ?_) (fun hq => ?_); refine Zz ?_; refine ZA ?_
 refine ZM ?_; refine Z1 ?_; refine XE rfl rfl (fun hq => ?_) (fun hq => ?_); refine Zz ?_; refine ZA ?_; refine Z9 (hcon := hs) ?_; refine Zr ?_; refine Zk ?_; refine Zn ?_; refine Z1 ?_
 refine XU rfl rfl (fun hq => ?_) (fun hq => ?_); refine Zz ?_; refine ZA ?_; refine ZM ?_; refine Z1 ?_; refine XE rfl rfl (fun hq => ?_) (fun hq => ?_); refine Zz ?_; refine ZA ?_; refine Z9 (hcon := hd) ?_
 refine Zr ?_; refine Zk ?_; refine Zn ?_; refine JD ?_; refine XF rfl (fun hq => ?_) (fun hq => ?_); refine X0 ?_; refine JR ?_; refine Z0 ?_; refine JD ?_
 (clear hf ht hn hk hs hd; simp [*] at hr; subst hr; exact X1 ⟨_, St.le_refl _, ⟨rfl, trivial⟩, X2 _⟩); refine X3 ?_; refine X0 ?_; refine JR ?_; refine Z0 ?_; refine JD ?_
 (clear hf ht hn hk hs hd; simp [*] at hr; subst hr; exact X1 ⟨_, St.le_refl _, ⟨rfl, trivial⟩, X2 _⟩); refine Zl ?_; refine Zl ?_; refine Zl ?_; refine Zl ?_; refine Zn ?_; refine Zn ?_; refine JD ?_
 refine JF ?_; refine X3 ?_; refine X0 ?_; refine JR ?_; refine Z0 ?_; refine JD ?_; (clear hf ht hn hk hs hd; simp [*] at hr; subst hr; exact X1 ⟨_, St.le_refl _, ⟨rfl, trivial⟩, X2 _⟩)
 refine Zl ?_; refine Zl ?_; refine Zl ?_; refine Zl ?_; refine Zm ?_; refine Zm ?_; refine Zm ?_; refine Zm ?_; refine Zl ?_; refine Zk ?_; refine JD ?_; refine JT ?_; refine X0 ?_; refine JR ?_; refine Z0 ?_
 refine JD ?_; (clear hf ht hn hk hs hd; simp [*] at hr; subst hr; exact X1 ⟨_, St.le_refl _, ⟨rfl, trivial⟩, X2 _⟩); refine Zl ?_; refine Zl ?_; refine Zl ?_; refine Zl ?_; refine Zn ?_; refine Zn ?_
 refine Z1 ?_; refine Zz ?_; refine ZA ?_; refine ZM ?_; refine Z1 ?_; refine XE rfl rfl (fun hq => ?_) (fun hq => ?_); refine Zz ?_; refine ZA ?_; refine Z9 (hcon := hd) ?_; refine Zr ?_; refine Zk ?_; refine Zn ?_
 refine JD ?_; refine XF rfl (fun hq => ?_) (fun hq => ?_); refine X0 ?_; refine JR ?_; refine Z0 ?_; refine JD ?_
 (clear hf ht hn hk hs hd; simp [*] at hr; subst hr; exact X1 ⟨_, St.le_refl _, ⟨rfl, trivial⟩, X2 _⟩); refine X3 ?_; refine X0 ?_; refine JR ?_; refine Z0 ?_; refine JD ?_
 (clear hf ht hn hk hs hd; simp [*] at hr; subst hr; exact X1 ⟨_, St.le_refl _, ⟨rfl, trivial⟩, X2 _⟩); refine Zl ?_; refine Zl ?_; refine Zl ?_; refine Zl ?_; refine Zn ?_; refine Zn ?_; refine JD ?_
 refine JF ?_; refine X3 ?_; refine X0 ?_; refine JR ?_; refine Z0 ?_; refine JD ?_; (clear hf ht hn hk hs hd; simp [*] at hr; subst hr; exact X1 ⟨_, St.le_refl _, ⟨rfl, trivial⟩, X2 _⟩)
 refine Zl ?_; refine Zl ?_; refine Zl ?_; refine Zl ?_; refine Zm ?_; refine Zm ?_; refine Zm ?_; refine Zm ?_; refine Zl ?_; refine Zk ?_; refine Z1 ?_; refine Zl ?_; refine Zl ?_; refine Zl ?_; refine Zl ?_
 refine Zm ?_; refine Zm ?_; refine Zm ?_; refine Zm ?_; refine Zl ?_; refine Zk ?_; refine JD ?_; refine JT ?_; refine X0 ?_; refine JR ?_; refine Z0 ?_; refine JD ?_
 (clear hf ht hn hk hs hd; simp [*] at hr; subst hr; exact X1 ⟨_, St.le_refl _, ⟨rfl, trivial⟩, X2 _⟩); refine Zl ?_; refine Zl ?_; refine Zl ?_; refine Zl ?_; refine Zm ?_; refine Zm ?_; refine Zm ?_
 refine Zm ?_; refine Zl ?_; refine Zk ?_; refine Z1 ?_; refine Zl ?_; refine Zl ?_; refine Zl ?_; refine Zl ?_; refine Zm ?_; refine Zm ?_; refine Zm ?_; refine Zm ?_; refine Zl ?_; refine Zk ?_; refine Z1 ?_
 refine Zl ?_; refine Zl ?_; refine Zl ?_; refine Zl ?_; refine Zm ?_; refine Zm ?_; refine Zm ?_; refine Zm ?_; refine Zl ?_; refine Zk ?_; refine JD ?_; refine JT ?_; refine X0 ?_; refine JR ?_; refine Z0 ?_
 refine JD ?_; (clear hf ht hn hk hs hd; simp [*] at hr; subst hr; exact X1 ⟨_, St.le_refl _, ⟨rfl, trivial⟩, X2 _⟩); refine Zz ?_; refine ZA ?_; refine ZM ?_; refine Zk ?_; refine Z1 ?_
 refine XE rfl rfl (fun hq => ?_) (fun hq => ?_); refine Zl ?_; refine Zl ?_; refine Zl ?_; refine Zl ?_; refine Zm ?_; refine Zm ?_; refine Zm ?_; refine Zm ?_; refine Zm ?_; refine Zm ?_; refine Zm ?_; refine Zm ?_
 refine Zl ?_; refine Zk ?_; refine JD ?_; refine JT ?_; refine X0 ?_; refine JR ?_; refine Z0 ?_; refine JD ?_
 (clear hf ht hn hk hs hd; simp [*] at hr; subst hr; exact X1 ⟨_, St.le_refl _, ⟨rfl, trivial⟩, X2 _⟩); refine Zz ?_; refine ZA ?_; refine Zs ?_; refine Z1 ?_
 refine XE rfl rfl (fun hq => ?_) (fun hq => ?_); refine Zz ?_; refine ZA ?_; refine ZM ?_; refine Z1 ?_; refine XE rfl rfl (fun hq => ?_) (fun hq => ?_); refine Zl ?_; refine Zl ?_; refine Zl ?_; refine Zk ?_
 refine Zk ?_; refine Zn ?_; refine JD ?_; refine JT ?_; refine X0 ?_; refine JR ?_; refine Z0 ?_; refine JD ?_
 (clear hf ht hn hk hs hd; simp [*] at hr; subst hr; exact X1 ⟨_, St.le_refl _, ⟨rfl, trivial⟩, X2 _⟩); refine Zz ?_; refine ZA ?_; refine ZM ?_; refine Zn ?_; refine Zk ?_; refine Zn ?_; refine JD ?_
 refine Uy rfl (fun hq => ?_) (fun hq => ?_); refine X0 ?_; refine JR ?_; refine Z0 ?_; refine JD ?_
 (clear hf ht hn hk hs hd; simp [*] at hr; subst hr; exact X1 ⟨_, St.le_refl _, ⟨rfl, trivial⟩, X2 _⟩); refine X3 ?_; refine X0 ?_; refine X0 ?_; refine JR ?_; refine Zz ?_; refine ZA ?_
 refine Z9 (hcon := hn) ?_; refine Zr ?_; refine Z1 ?_; refine XU rfl rfl (fun hq => ?_) (fun hq => ?_); refine Zz ?_; refine ZA ?_; refine Z9 (hcon := hf) ?_; refine Z1 ?_; refine Zl ?_; refine Zl ?_
 refine Zl ?_; refine Zl ?_; refine Zn ?_; refine Zn ?_; refine Z1 ?_; refine Zz ?_; refine ZA ?_; refine ZM ?_; refine Z1 ?_; refine Zl ?_; refine Zl ?_; refine Zl ?_; refine Zl ?_; refine Zn ?_; refine Zn ?_
 refine Z1 ?_; refine Zz ?_; refine ZA ?_; refine ZM ?_; refine Z1 ?_; refine Zl ?_; refine Zl ?_; refine Zl ?_; refine Zl ?_; refine Zn ?_; refine Zn ?_; refine JD ?_; refine JF ?_; refine X3 ?_; refine X0 ?_
 refine JR ?_; refine Z0 ?_; refine JD ?_; (clear hf ht hn hk hs hd; simp [*] at hr; subst hr; exact X1 ⟨_, St.le_refl _, ⟨rfl, trivial⟩, X2 _⟩); refine Zl ?_; refine Zl ?_; refine Zl ?_; refine Zl ?_
 refine Zm ?_; refine Zm ?_; refine Zm ?_; refine Zm ?_; refine Zl ?_; refine Zk ?_; refine Z1 ?_; refine Zl ?_; refine Zl ?_; refine Zl ?_; refine Zl ?_; refine Zm ?_; refine Zm ?_; refine Zm ?_; refine Zm ?_
 refine Zl ?_; refine Zk ?_; refine Z1 ?_; refine Zl ?_; refine Zl ?_; refine Zl ?_; refine Zl ?_; refine Zm ?_; refine Zm ?_; refine Zm ?_; refine Zm ?_; refine Zl ?_; refine Zk ?_; refine JD ?_; refine JT ?_
 refine X0 ?_; refine JR ?_; refine Z0 ?_; refine JD ?_; (clear hf ht hn hk hs hd; simp [*] at hr; subst hr; exact X1 ⟨_, St.le_refl _, ⟨rfl, trivial⟩, X2 _⟩); refine Zl ?_; refine Zl ?_; refine Zl ?_
 refine Zl ?_; refine Zm ?_; refine Zm ?_; refine Zm ?_; refine Zl ?_; refine Zn ?_; refine Zn ?_; refine JD ?_; refine JF ?_; refine X3 ?_; refine X0 ?_; refine X0 ?_; refine JR ?_; refine Zz ?_
 refine ZA ?_; refine Z9 (hcon := hn) ?_; refine Zr ?_; refine Z1 ?_; refine XU rfl rfl (fun hq => ?_) (fun hq => ?_); refine Zz ?_; refine ZA ?_; refine Z9 (hcon := hf) ?_; refine Z1 ?_; refine Zl ?_
 refine Zl ?_; refine Zl ?_; refine Zl ?_; refine Zn ?_; refine Zn ?_; refine Z1 ?_; refine Zz ?_; refine ZA ?_; refine ZM ?_; refine Z1 ?_; refine XE rfl rfl (fun hq => ?_) (fun hq => ?_); refine Zz ?_; refine ZA ?_
 refine Z9 (hcon := hs) ?_; refine Zr ?_; refine Zk ?_; refine Zn ?_; refine Z1 ?_; refine XU rfl rfl (fun hq => ?_) (fun hq => ?_); refine Zz ?_; refine ZA ?_; refine ZM ?_; refine Z1 ?_
 refine XE rfl rfl (fun hq => ?_) (fun hq => ?_); refine Zz ?_; refine ZA ?_; refine Z9 (hcon := hd) ?_; refine Zr ?_; refine Zk ?_; refine Zn ?_; refine JD ?_; refine XF rfl (fun hq => ?_) (fun hq => ?_)
 refine X0 ?_; refine JR ?_; refine Z0 ?_; refine JD ?_; (clear hf ht hn hk hs hd; simp [*] at hr; subst hr; exact X1 ⟨_, St.le_refl _, ⟨rfl, trivial⟩, X2 _⟩); refine X3 ?_; refine X0 ?_
 refine JR ?_; refine Z0 ?_; refine JD ?_; (clear hf ht hn hk hs hd; simp [*] at hr; subst hr; exact X1 ⟨_, St.le_refl _, ⟨rfl, trivial⟩, X2 _⟩); refine Zl ?_; refine Zl ?_; refine Zl ?_; refine Zl ?_
 refine Zn ?_; refine Zn ?_; refine JD ?_; refine JF ?_; refine X3 ?_; refine X0 ?_; refine JR ?_; refine Z0 ?_; refine JD ?_
 (clear hf ht hn hk hs hd; simp [*] at hr; subst hr; exact X1 ⟨_, St.le_refl _, ⟨rfl, trivial⟩, X2 _⟩); refine Zl ?_; refine Zl ?_; refine Zl ?_; refine Zl ?_; refine Zm ?_; refine Zm ?_; refine Zm ?_
 refine Zm ?_; refine Zl ?_; refine Zk ?_; refine JD ?_; refine JT ?_; refine X0 ?_; refine JR ?_; refine Z0 ?_; refine JD ?_
 (clear hf ht hn hk hs hd; simp [*] at hr; subst hr; exact X1 ⟨_, St.le_refl _, ⟨rfl, trivial⟩, X2 _⟩); refine Zl ?_; refine Zl ?_; refine Zl ?_; refine Zl ?_; refine Zn ?_; refine Zn ?_; refine Z1 ?_
 refine Zz ?_; refine ZA ?_; refine ZM ?_; refine Z1 ?_; refine XE rfl rfl (fun hq => ?_) (fun hq => ?_); refine Zz ?_; refine ZA ?_; refine Z9 (hcon := hd) ?_; refine Zr ?_; refine Zk ?_; refine Zn ?_; refine JD ?_
 refine XF rfl (fun hq => ?_) (fun hq => ?_); refine X0 ?_; refine JR ?_; refine Z0 ?_; refine JD ?_
 (clear hf ht hn hk hs hd; simp [*] at hr; subst hr; exact X1 ⟨_, St.le_refl _, ⟨rfl, trivial⟩, X2 _⟩); refine X3 ?_; refine X0 ?_; refine JR ?_; refine Z0 ?_; refine JD ?_
 (clear hf ht hn hk hs hd; simp [*] at hr; subst hr; exact X1 ⟨_, St.le_refl _, ⟨rfl, trivial⟩, X2 _⟩); refine Zl ?_; refine Zl ?_; refine Zl ?_; refine Zl ?_; refine Zn ?_; refine Zn ?_; refine JD ?_
 refine JF ?_; refine X3 ?_; refine X0 ?_; refine JR ?_; refine Z0 ?_; refine JD ?_; (clear hf ht hn hk hs hd; simp [*] at hr; subst hr; exact X1 ⟨_, St.le_refl _, ⟨rfl, trivial⟩, X2 _⟩)
 refine Zl ?_; refine Zl ?_; refine Zl ?_; refine Zl ?_; refine Zm ?_; refine Zm ?_; refine Zm ?_; refine Zm ?_; refine Zl ?_; refine Zk ?_; refine Z1 ?_; refine Zl ?_; refine Zl ?_; refine Zl ?_; refine Zl ?_
 refine Zm ?_; refine Zm ?_; refine Zm ?_; refine Zm ?_; refine Zl ?_; refine Zk ?_; refine Z1 ?_; refine Zl ?_; refine Zl ?_; refine Zl ?_; refine Zl ?_; refine Zm ?_; refine Zm ?_; refine Zm ?_; refine Zm ?_
 refine Zl ?_; refine Zk ?_; refine JD ?_; refine JT ?_; refine X0 ?_; refine JR ?_; refine Z0 ?_; refine JD ?_
 (clear hf ht hn hk hs hd; simp [*] at hr; subst hr; exact X1 ⟨_, St.le_refl _, ⟨rfl, trivial⟩, X2 _⟩)
end Go.Fw
