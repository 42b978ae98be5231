/- The check of a change: the program's. -/
import Derived.Test.YtaoggblfedekeaaGreatDoorG08
import Derived.Test.YtaoggblfedekeaaGreatDoorG17
import Derived.Test.YtaoggblfedekeaaGreatDoorG07
import Derived.Test.YtaoggblfedekeaaGreatDoorG09
import Derived.Test.YtaoggblfedekeaaGreatDoorG15
import Derived.Test.YtaoggblfedekeaaGreatDoorG13
import Derived.Test.YtaoggblfedekeaaGreatDoorG16
set_option maxHeartbeats 32000000
namespace Go.Fw
open Go Go.Proofs
set_option maxRecDepth 100000
set_option linter.unusedVariables false
set_option linter.unusedSimpArgs false
def Xr (u : Bool × Bool × Bool × Bool) (i si di : Bool) (src dst : Int) (name : List UInt8) (nv zv pv : Bool) : Int :=
 if u.2.2.2 = false ∨ i = false then 1
 else if (u.1 = true ∧ (si = false ∨ di = false)) ∨ (u.1 = false ∧ (src ≠ 0 ∨ dst ≠ 0)) then 1
 else if (u.2.1 = false ∧ name ≠ []) ∨ (u.2.2.1 = false ∧ zv = false) then 1
 else if u.2.1 = true ∧ nv = false then 6 else if u.2.2.1 = true ∧ zv = false ∧ pv = false then 8 else 0
theorem X6r (c : Chg) : Y8 c = Xr (Ud c.op) (idV c.id) (idV c.src) (idV c.dst) c.src c.dst c.name (XW c.name) (U0 c.v) (UQ c.v) := by
 unfold Y8 Xr Ud
 simp only [decide_eq_true_eq, decide_eq_false_iff_not]
abbrev X9J (op id src dst : Int) (name : List UInt8) (k n d : Int) (s : List UInt8) (l : List Val) : AVal := .agg [ai op, ai id, ai src, ai dst, .d (.v (.string (X4 name))), ai k, ai n, ai d, .d (.v (.string (X4 s))), .d (.sl 5 (Xs l))]
def Xy : Chg → AVal
 | ⟨op, id, src, dst, name, .mk k n d s l⟩ => X9J op id src dst name k n d s l
theorem X44 (c : Chg) : Con Tryz.prog 27 [] [Xy c] [] (ai (Y8 c)) := by
 rw [X6r]
 obtain ⟨op, id, src, dst, name, v⟩ := c
 have hf := Xbq op
 have hi := X4a id
 have hs := X4a src
 have hd := X4a dst
 have hn := X1t name
 have hz := XaB v
 have hp := Xbg v
 generalize idV id = i at *
 generalize idV src = si at *
 generalize idV dst = di at *
 generalize XW name = nv at *
 generalize U0 v = zv at *
 generalize UQ v = pv at *
 obtain ⟨k, n, d, s, l⟩ := v
 simp only [Xy, Xb] at *
 refine X8 (xs := [ai (Xr (Ud op) i si di src dst name nv zv pv)]) Tryz.func27 rfl Tryz.ntmps27 rfl rfl rfl (fun E => ?_)
 generalize Ud op = u at *
 obtain ⟨en, nm, vl, ok⟩ := u
 simp only at hf
 obtain ⟨r, hr⟩ : ∃ r, r = Xr (en, nm, vl, ok) i si di src dst name nv zv pv := ⟨_, rfl⟩
 rw [← hr]
 refine X0 ?_; refine JR ?_; refine Zy (γ := 100) ?_; refine Z0 ?_; refine JD ?_; refine X0 ?_; refine JR ?_; refine Zz ?_; refine ZA ?_; refine Z9 (hcon := hf) ?_; refine Z1 ?_; refine ZD ?_; refine ZD ?_
 refine Zt (γ := 101) ?_; refine Zw ?_; refine Z0 ?_; refine JD ?_; refine X0 ?_; refine X5 ?_; refine X0 ?_; refine JR ?_; refine Z1 ?_; refine Zr ?_; refine Z1 ?_
 refine XU rfl rfl (fun hq => ?_) (fun hq => ?_); refine Zz ?_; refine ZA ?_; refine Z9 (hcon := hi) ?_; refine Zr ?_; refine Zn ?_; refine Z0 ?_; refine JD ?_; refine XF rfl (fun hq => ?_) (fun hq => ?_)
 refine X0 ?_; refine JR ?_; refine Z0 ?_; refine JD ?_; (clear hf hi hs hd hn hz hp; simp [Xr, *] at hr; subst hr; exact X1 ⟨_, St.le_refl _, ⟨rfl, trivial⟩, X2 _⟩); refine X0 ?_; refine JR ?_
 refine Zz ?_; refine ZA ?_; refine Z1 ?_; refine X0t rfl rfl (fun hq => ?_) (fun hq => ?_); refine Zz ?_; refine ZA ?_; refine Z9 (hcon := hs) ?_; refine Zr ?_; refine Z1 ?_
 refine XU rfl rfl (fun hq => ?_) (fun hq => ?_); refine Zz ?_; refine ZA ?_; refine Z9 (hcon := hd) ?_; refine Zr ?_; refine Zn ?_; refine Zk ?_; refine Z1 ?_
 refine XU rfl rfl (fun hq => ?_) (fun hq => ?_); refine Zz ?_; refine ZA ?_; refine Zr ?_; refine Z1 ?_; refine Zl ?_; refine Zl ?_; refine Zl ?_; refine Zl ?_; refine Zm ?_; refine Zm ?_; refine Zm ?_
 refine Zl ?_; refine Zn ?_; refine Zn ?_; refine Z0 ?_; refine JD ?_; refine JF ?_; refine X0 ?_; refine JR ?_; refine Zz ?_; refine ZA ?_; refine Zr ?_; refine Z1 ?_
 refine XU rfl rfl (fun hq => ?_) (fun hq => ?_); refine Zl ?_; refine Zl ?_; refine Zl ?_; refine Zn ?_; refine Z1 ?_; refine Zz ?_; refine ZA ?_; refine Zr ?_; refine Z1 ?_
 refine XU rfl rfl (fun hq => ?_) (fun hq => ?_); refine Zl ?_; refine Zl ?_; refine Zl ?_; refine Zl ?_; refine Zn ?_; refine Zn ?_; refine Z0 ?_; refine JD ?_; refine JF ?_; refine X0 ?_; refine JR ?_
 refine Zz ?_; refine ZA ?_; refine Z1 ?_; refine Zz ?_; refine ZA ?_; refine Z9 (hcon := hn) ?_; refine Zr ?_; refine Zk ?_; refine Z0 ?_; refine JD ?_; refine XF rfl (fun hq => ?_) (fun hq => ?_)
 refine X0 ?_; refine JR ?_; refine Z0 ?_; refine JD ?_; (clear hf hi hs hd hn hz hp; simp [Xr, *] at hr; subst hr; exact X1 ⟨_, St.le_refl _, ⟨rfl, trivial⟩, X2 _⟩); refine X0 ?_; refine JR ?_
 refine Zz ?_; refine ZA ?_; refine Z1 ?_; refine Zz ?_; refine ZL ?_; refine Z9 (hcon := hz) ?_; refine Zr ?_; refine Zk ?_; refine Z1 ?_; refine XU rfl rfl (fun hq => ?_) (fun hq => ?_); refine Zl ?_
 refine Zl ?_; refine Zl ?_; refine Zl ?_; refine Zn ?_; refine Z0 ?_; refine JD ?_; refine JF ?_; refine X3 ?_; refine X0 ?_; refine JR ?_; refine Z0 ?_; refine JD ?_
 (clear hf hi hs hd hn hz hp; simp [Xr, *] at hr; subst hr; exact X1 ⟨_, St.le_refl _, ⟨rfl, trivial⟩, X2 _⟩); refine Zz ?_; refine ZL ?_; refine Z9 (hcon := hp) ?_; refine Zr ?_; refine Zk ?_; refine Z0 ?_
 refine JD ?_; refine XF rfl (fun hq => ?_) (fun hq => ?_); refine X0 ?_; refine JR ?_; refine Z0 ?_; refine JD ?_
 (clear hf hi hs hd hn hz hp; simp [Xr, *] at hr; subst hr; exact X1 ⟨_, St.le_refl _, ⟨rfl, trivial⟩, X2 _⟩); refine X3 ?_; refine X0 ?_; refine JR ?_; refine Z0 ?_; refine JD ?_
 (clear hf hi hs hd hn hz hp; simp [Xr, *] at hr; subst hr; exact X1 ⟨_, St.le_refl _, ⟨rfl, trivial⟩, X2 _⟩); refine Zz ?_; refine ZL ?_; refine Z9 (hcon := hz) ?_; refine Zr ?_; refine Zk ?_; refine Zn ?_
 refine Z0 ?_; refine JD ?_; refine XF rfl (fun hq => ?_) (fun hq => ?_); refine X0 ?_; refine JR ?_; refine Z0 ?_; refine JD ?_
 (clear hf hi hs hd hn hz hp; simp [Xr, *] at hr; subst hr; exact X1 ⟨_, St.le_refl _, ⟨rfl, trivial⟩, X2 _⟩); refine X0 ?_; refine JR ?_; refine Zz ?_; refine ZA ?_; refine Z1 ?_; refine Zz ?_
 refine ZA ?_; refine Z9 (hcon := hn) ?_; refine Zr ?_; refine Zk ?_; refine Z0 ?_; refine JD ?_; refine XF rfl (fun hq => ?_) (fun hq => ?_); refine X0 ?_; refine JR ?_; refine Z0 ?_; refine JD ?_
 (clear hf hi hs hd hn hz hp; simp [Xr, *] at hr; subst hr; exact X1 ⟨_, St.le_refl _, ⟨rfl, trivial⟩, X2 _⟩); refine X0 ?_; refine JR ?_; refine Zz ?_; refine ZA ?_; refine Z1 ?_; refine Zl ?_
 refine Zl ?_; refine Zl ?_; refine Zl ?_; refine Zn ?_; refine Z1 ?_; refine Zl ?_; refine Zl ?_; refine Zl ?_; refine Zl ?_; refine Zn ?_; refine Z0 ?_; refine JD ?_; refine JF ?_; refine X3 ?_; refine X0 ?_
 refine JR ?_; refine Z0 ?_; refine JD ?_; (clear hf hi hs hd hn hz hp; simp [Xr, *] at hr; subst hr; exact X1 ⟨_, St.le_refl _, ⟨rfl, trivial⟩, X2 _⟩); refine Zz ?_; refine ZA ?_; refine ZM ?_; refine Zk ?_
 refine Z1 ?_; refine XE rfl rfl (fun hq => ?_) (fun hq => ?_); refine Zl ?_; refine Zl ?_; refine Zl ?_; refine Zl ?_; refine Zm ?_; refine Zm ?_; refine Zm ?_; refine Zm ?_; refine Zl ?_; refine Zk ?_; refine Z0 ?_
 refine JD ?_; refine JT ?_; refine X0 ?_; refine JR ?_; refine Z0 ?_; refine JD ?_; (clear hf hi hs hd hn hz hp; simp [Xr, *] at hr; subst hr; exact X1 ⟨_, St.le_refl _, ⟨rfl, trivial⟩, X2 _⟩)
 refine Zz ?_; refine ZA ?_; refine Zr ?_; refine Z1 ?_; refine XU rfl rfl (fun hq => ?_) (fun hq => ?_); refine Zl ?_; refine Zl ?_; refine Zl ?_; refine Zl ?_; refine Zn ?_; refine Zn ?_; refine Z0 ?_
 refine JD ?_; refine JF ?_; refine X0 ?_; refine JR ?_; refine Zz ?_; refine ZA ?_; refine Z1 ?_; refine Zl ?_; refine Zl ?_; refine Zl ?_; refine Zl ?_; refine Zn ?_; refine Z0 ?_; refine JD ?_; refine JF ?_
 refine X0 ?_; refine JR ?_; refine Zz ?_; refine ZA ?_; refine Z1 ?_; refine Zz ?_; refine ZL ?_; refine Z9 (hcon := hz) ?_; refine Zr ?_; refine Zk ?_; refine Z1 ?_
 refine XU rfl rfl (fun hq => ?_) (fun hq => ?_); refine Zl ?_; refine Zl ?_; refine Zl ?_; refine Zl ?_; refine Zn ?_; refine Z0 ?_; refine JD ?_; refine JF ?_; refine X3 ?_; refine X0 ?_; refine JR ?_
 refine Z0 ?_; refine JD ?_; (clear hf hi hs hd hn hz hp; simp [Xr, *] at hr; subst hr; exact X1 ⟨_, St.le_refl _, ⟨rfl, trivial⟩, X2 _⟩); refine Zz ?_; refine ZL ?_; refine Z9 (hcon := hp) ?_; refine Zr ?_
 refine Zk ?_; refine Z0 ?_; refine JD ?_; refine XF rfl (fun hq => ?_) (fun hq => ?_); refine X0 ?_; refine JR ?_; refine Z0 ?_; refine JD ?_
 (clear hf hi hs hd hn hz hp; simp [Xr, *] at hr; subst hr; exact X1 ⟨_, St.le_refl _, ⟨rfl, trivial⟩, X2 _⟩); refine X3 ?_; refine X0 ?_; refine JR ?_; refine Z0 ?_; refine JD ?_
 (clear hf hi hs hd hn hz hp; simp [Xr, *] at hr; subst hr; exact X1 ⟨_, St.le_refl _, ⟨rfl, trivial⟩, X2 _⟩); refine Zz ?_; refine ZL ?_; refine Z9 (hcon := hz) ?_; refine Zr ?_; refine Zk ?_; refine Zn ?_
 refine Z0 ?_; refine JD ?_; refine XF rfl (fun hq => ?_) (fun hq => ?_); refine X0 ?_; refine JR ?_; refine Z0 ?_; refine JD ?_
 (clear hf hi hs hd hn hz hp; simp [Xr, *] at hr; subst hr; exact X1 ⟨_, St.le_refl _, ⟨rfl, trivial⟩, X2 _⟩); refine X0 ?_; refine JR ?_; refine Zz ?_; refine ZA ?_; refine Z1 ?_; refine Zl ?_
 refine Zl ?_; refine Zl ?_; refine Zl ?_; refine Zn ?_; refine Z0 ?_; refine JD ?_; refine JF ?_; refine X0 ?_; refine JR ?_; refine Zz ?_; refine ZA ?_; refine Z1 ?_; refine Zl ?_; refine Zl ?_; refine Zl ?_
 refine Zl ?_; refine Zn ?_; refine Z1 ?_; refine Zl ?_; refine Zl ?_; refine Zl ?_; refine Zl ?_; refine Zn ?_; refine Z0 ?_; refine JD ?_; refine JF ?_; refine X3 ?_; refine X0 ?_; refine JR ?_; refine Z0 ?_
 refine JD ?_; (clear hf hi hs hd hn hz hp; simp [Xr, *] at hr; subst hr; exact X1 ⟨_, St.le_refl _, ⟨rfl, trivial⟩, X2 _⟩); refine Zl ?_; refine Zl ?_; refine Zl ?_; refine Zl ?_; refine Zm ?_; refine Zm ?_
 refine Zm ?_; refine Zm ?_; refine Zm ?_; refine Zm ?_; refine Zm ?_; refine Zm ?_; refine Zl ?_; refine Zk ?_; refine Z0 ?_; refine JD ?_; refine JT ?_; refine X0 ?_; refine JR ?_; refine Z0 ?_; refine JD ?_
 (clear hf hi hs hd hn hz hp; simp [Xr, *] at hr; subst hr; exact X1 ⟨_, St.le_refl _, ⟨rfl, trivial⟩, X2 _⟩); refine Zl ?_; refine Zl ?_; refine Zl ?_; refine Zl ?_; refine Zk ?_; refine Zk ?_; refine Z1 ?_
 refine Zl ?_; refine Zl ?_; refine Zl ?_; refine Zl ?_; refine Zm ?_; refine Zm ?_; refine Zm ?_; refine Zm ?_; refine Zm ?_; refine Zm ?_; refine Zm ?_; refine Zm ?_; refine Zl ?_; refine Zk ?_; refine Z0 ?_
 refine JD ?_; refine JT ?_; refine X0 ?_; refine JR ?_; refine Z0 ?_; refine JD ?_; (clear hf hi hs hd hn hz hp; simp [Xr, *] at hr; subst hr; exact X1 ⟨_, St.le_refl _, ⟨rfl, trivial⟩, X2 _⟩)
 refine Zl ?_; refine Zl ?_; refine Zl ?_; refine Zl ?_; refine Zl ?_; refine Zm ?_; refine Zm ?_; refine Zm ?_; refine Zm ?_; refine Zl ?_; refine Zn ?_; refine Z1 ?_; refine Zz ?_; refine ZA ?_; refine Zr ?_
 refine Z1 ?_; refine Zz ?_; refine ZA ?_; refine Zs ?_; refine Z1 ?_; refine XE rfl rfl (fun hq => ?_) (fun hq => ?_); refine Zl ?_; refine Zl ?_; refine Zl ?_; refine Zk ?_; refine Zk ?_; refine Zn ?_; refine Z0 ?_
 refine JD ?_; refine JT ?_; refine X0 ?_; refine JR ?_; refine Z0 ?_; refine JD ?_; (clear hf hi hs hd hn hz hp; simp [Xr, *] at hr; subst hr; exact X1 ⟨_, St.le_refl _, ⟨rfl, trivial⟩, X2 _⟩)
 refine Zz ?_; refine ZA ?_; refine Zs ?_; refine Zn ?_; refine Zk ?_; refine Zn ?_; refine Z0 ?_; refine JD ?_; refine Uy rfl (fun hq => ?_) (fun hq => ?_); refine X0 ?_; refine JR ?_; refine Z0 ?_
 refine JD ?_; (clear hf hi hs hd hn hz hp; simp [Xr, *] at hr; subst hr; exact X1 ⟨_, St.le_refl _, ⟨rfl, trivial⟩, X2 _⟩); refine X0 ?_; refine JR ?_; refine Zz ?_; refine ZA ?_; refine Zr ?_
 refine Z1 ?_; refine XU rfl rfl (fun hq => ?_) (fun hq => ?_); refine Zl ?_; refine Zl ?_; refine Zl ?_; refine Zn ?_; refine Z1 ?_; refine Zz ?_; refine ZA ?_; refine Zr ?_; refine Z1 ?_
 refine XU rfl rfl (fun hq => ?_) (fun hq => ?_); refine Zl ?_; refine Zl ?_; refine Zl ?_; refine Zl ?_; refine Zn ?_; refine Zn ?_; refine Z0 ?_; refine JD ?_; refine JF ?_; refine X0 ?_; refine JR ?_
 refine Zz ?_; refine ZA ?_; refine Z1 ?_; refine Zz ?_; refine ZA ?_; refine Z9 (hcon := hn) ?_; refine Zr ?_; refine Zk ?_; refine Z0 ?_; refine JD ?_; refine XF rfl (fun hq => ?_) (fun hq => ?_)
 refine X0 ?_; refine JR ?_; refine Z0 ?_; refine JD ?_; (clear hf hi hs hd hn hz hp; simp [Xr, *] at hr; subst hr; exact X1 ⟨_, St.le_refl _, ⟨rfl, trivial⟩, X2 _⟩); refine X0 ?_; refine JR ?_
 refine Zz ?_; refine ZA ?_; refine Z1 ?_; refine Zz ?_; refine ZL ?_; refine Z9 (hcon := hz) ?_; refine Zr ?_; refine Zk ?_; refine Z1 ?_; refine XU rfl rfl (fun hq => ?_) (fun hq => ?_); refine Zl ?_
 refine Zl ?_; refine Zl ?_; refine Zl ?_; refine Zn ?_; refine Z0 ?_; refine JD ?_; refine JF ?_; refine X3 ?_; refine X0 ?_; refine JR ?_; refine Z0 ?_; refine JD ?_
 (clear hf hi hs hd hn hz hp; simp [Xr, *] at hr; subst hr; exact X1 ⟨_, St.le_refl _, ⟨rfl, trivial⟩, X2 _⟩); refine Zz ?_; refine ZL ?_; refine Z9 (hcon := hp) ?_; refine Zr ?_; refine Zk ?_; refine Z0 ?_
 refine JD ?_; refine XF rfl (fun hq => ?_) (fun hq => ?_); refine X0 ?_; refine JR ?_; refine Z0 ?_; refine JD ?_
 (clear hf hi hs hd hn hz hp; simp [Xr, *] at hr; subst hr; exact X1 ⟨_, St.le_refl _, ⟨rfl, trivial⟩, X2 _⟩); refine X3 ?_; refine X0 ?_; refine JR ?_; refine Z0 ?_; refine JD ?_
 (clear hf hi hs hd hn hz hp; simp [Xr, *] at hr; subst hr; exact X1 ⟨_, St.le_refl _, ⟨rfl, trivial⟩, X2 _⟩); refine Zz ?_; refine ZL ?_; refine Z9 (hcon := hz) ?_; refine Zr ?_; refine Zk ?_; refine Zn ?_
 refine Z0 ?_; refine JD ?_; refine XF rfl (fun hq => ?_) (fun hq => ?_); refine X0 ?_; refine JR ?_; refine Z0 ?_; refine JD ?_
 (clear hf hi hs hd hn hz hp; simp [Xr, *] at hr; subst hr; exact X1 ⟨_, St.le_refl _, ⟨rfl, trivial⟩, X2 _⟩); refine X0 ?_; refine JR ?_; refine Zz ?_; refine ZA ?_; refine Z1 ?_; refine Zz ?_
 refine ZA ?_; refine Z9 (hcon := hn) ?_; refine Zr ?_; refine Zk ?_; refine Z0 ?_; refine JD ?_; refine XF rfl (fun hq => ?_) (fun hq => ?_); refine X0 ?_; refine JR ?_; refine Z0 ?_; refine JD ?_
 (clear hf hi hs hd hn hz hp; simp [Xr, *] at hr; subst hr; exact X1 ⟨_, St.le_refl _, ⟨rfl, trivial⟩, X2 _⟩); refine X0 ?_; refine JR ?_; refine Zz ?_; refine ZA ?_; refine Z1 ?_; refine Zl ?_
 refine Zl ?_; refine Zl ?_; refine Zl ?_; refine Zn ?_; refine Z1 ?_; refine Zl ?_; refine Zl ?_; refine Zl ?_; refine Zl ?_; refine Zn ?_; refine Z0 ?_; refine JD ?_; refine JF ?_; refine X3 ?_; refine X0 ?_
 refine JR ?_; refine Z0 ?_; refine JD ?_; (clear hf hi hs hd hn hz hp; simp [Xr, *] at hr; subst hr; exact X1 ⟨_, St.le_refl _, ⟨rfl, trivial⟩, X2 _⟩); refine Zz ?_; refine ZA ?_; refine ZM ?_; refine Zk ?_
 refine Z1 ?_; refine XE rfl rfl (fun hq => ?_) (fun hq => ?_); refine Zl ?_; refine Zl ?_; refine Zl ?_; refine Zl ?_; refine Zm ?_; refine Zm ?_; refine Zm ?_; refine Zm ?_; refine Zl ?_; refine Zk ?_; refine Z0 ?_
 refine JD ?_; refine JT ?_; refine X0 ?_; refine JR ?_; refine Z0 ?_; refine JD ?_; (clear hf hi hs hd hn hz hp; simp [Xr, *] at hr; subst hr; exact X1 ⟨_, St.le_refl _, ⟨rfl, trivial⟩, X2 _⟩)
 refine Zz ?_; refine ZA ?_; refine Zr ?_; refine Z1 ?_; refine XU rfl rfl (fun hq => ?_) (fun hq => ?_); refine Zl ?_; refine Zl ?_; refine Zl ?_; refine Zl ?_; refine Zn ?_; refine Zn ?_; refine Z0 ?_
 refine JD ?_; refine JF ?_; refine X0 ?_; refine JR ?_; refine Zz ?_; refine ZA ?_; refine Z1 ?_; refine Zl ?_; refine Zl ?_; refine Zl ?_; refine Zl ?_; refine Zn ?_; refine Z0 ?_; refine JD ?_; refine JF ?_
 refine X0 ?_; refine JR ?_; refine Zz ?_; refine ZA ?_; refine Z1 ?_; refine Zz ?_; refine ZL ?_; refine Z9 (hcon := hz) ?_; refine Zr ?_; refine Zk ?_; refine Z1 ?_
 refine XU rfl rfl (fun hq => ?_) (fun hq => ?_); refine Zl ?_; refine Zl ?_; refine Zl ?_; refine Zl ?_; refine Zn ?_; refine Z0 ?_; refine JD ?_; refine JF ?_; refine X3 ?_; refine X0 ?_; refine JR ?_
 refine Z0 ?_; refine JD ?_; (clear hf hi hs hd hn hz hp; simp [Xr, *] at hr; subst hr; exact X1 ⟨_, St.le_refl _, ⟨rfl, trivial⟩, X2 _⟩); refine Zz ?_; refine ZL ?_; refine Z9 (hcon := hp) ?_; refine Zr ?_
 refine Zk ?_; refine Z0 ?_; refine JD ?_; refine XF rfl (fun hq => ?_) (fun hq => ?_); refine X0 ?_; refine JR ?_; refine Z0 ?_; refine JD ?_
 (clear hf hi hs hd hn hz hp; simp [Xr, *] at hr; subst hr; exact X1 ⟨_, St.le_refl _, ⟨rfl, trivial⟩, X2 _⟩); refine X3 ?_; refine X0 ?_; refine JR ?_; refine Z0 ?_; refine JD ?_
 (clear hf hi hs hd hn hz hp; simp [Xr, *] at hr; subst hr; exact X1 ⟨_, St.le_refl _, ⟨rfl, trivial⟩, X2 _⟩); refine Zz ?_; refine ZL ?_; refine Z9 (hcon := hz) ?_; refine Zr ?_; refine Zk ?_; refine Zn ?_
 refine Z0 ?_; refine JD ?_; refine XF rfl (fun hq => ?_) (fun hq => ?_); refine X0 ?_; refine JR ?_; refine Z0 ?_; refine JD ?_
 (clear hf hi hs hd hn hz hp; simp [Xr, *] at hr; subst hr; exact X1 ⟨_, St.le_refl _, ⟨rfl, trivial⟩, X2 _⟩); refine X0 ?_; refine JR ?_; refine Zz ?_; refine ZA ?_; refine Z1 ?_; refine Zl ?_
 refine Zl ?_; refine Zl ?_; refine Zl ?_; refine Zn ?_; refine Z0 ?_; refine JD ?_; refine JF ?_; refine X0 ?_; refine JR ?_; refine Zz ?_; refine ZA ?_; refine Z1 ?_; refine Zl ?_; refine Zl ?_; refine Zl ?_
 refine Zl ?_; refine Zn ?_; refine Z1 ?_; refine Zl ?_; refine Zl ?_; refine Zl ?_; refine Zl ?_; refine Zn ?_; refine Z0 ?_; refine JD ?_; refine JF ?_; refine X3 ?_; refine X0 ?_; refine JR ?_; refine Z0 ?_
 refine JD ?_; (clear hf hi hs hd hn hz hp; simp [Xr, *] at hr; subst hr; exact X1 ⟨_, St.le_refl _, ⟨rfl, trivial⟩, X2 _⟩); refine Zl ?_; refine Zl ?_; refine Zl ?_; refine Zl ?_; refine Zk ?_; refine Z0 ?_
 refine JD ?_; refine JT ?_; refine X0 ?_; refine JR ?_; refine Z0 ?_; refine JD ?_; (clear hf hi hs hd hn hz hp; simp [Xr, *] at hr; subst hr; exact X1 ⟨_, St.le_refl _, ⟨rfl, trivial⟩, X2 _⟩)
end Go.Fw
namespace Go.Fw
open Go
set_option linter.unusedVariables false
set_option linter.unusedSimpArgs false
def YI (b : List UInt8) (e : Int × Int) : Prop := e.2 = 0 → ∃ q : Nat, e.1 = (q : Int) ∧ q ≤ b.length
theorem X5e (b : List UInt8) (a : Int) : YI b (Xw b a).2 := by
 intro h
 obtain ⟨k, rfl, hk, h1, h2, he⟩ := X3z h
 refine ⟨_, he, ?_⟩
 simp only [List.length_drop] at h1
 omega
theorem VJ (b : List UInt8) (a : Int) : YI b (Xg b a).2 := by
 intro h
 unfold Xg at h ⊢
 simp only at h ⊢
 split
 ·rename_i h1; rw [if_pos h1] at h; exact absurd h h1
 rename_i h1; rw [if_neg h1] at h
 split
 ·rename_i h2; rw [if_pos h2] at h; simp at h
 rename_i h2; rw [if_neg h2] at h
 split
 ·rename_i h3; rw [if_pos h3] at h; simp at h
 exact X5e b a (Classical.not_not.1 h1)
theorem X13 (b : List UInt8) (a : Int) : ∃ n : Nat, (Xg b a).1 = n := by
 unfold Xg
 simp only
 split
 ·exact ⟨0, rfl⟩
 split
 ·exact ⟨0, rfl⟩
 split
 ·exact ⟨0, rfl⟩
 exact ⟨_, rfl⟩
theorem Xcc {b : List UInt8} {a : Int} (h : (Xg b a).2.2 ≠ 0) : (Xg b a).1 = 0 := by
 unfold Xg at h ⊢
 simp only at h ⊢
 split
 ·rfl
 rename_i h1; rw [if_neg h1] at h
 split
 ·rfl
 rename_i h2; rw [if_neg h2] at h
 split
 ·rfl
 rename_i h3; rw [if_neg h3] at h
 simp at h
theorem X2d (b : List UInt8) (a : Int) : YI b (Xl b a).2 := by
 intro h
 unfold Xl at h ⊢
 simp only at h ⊢
 split
 ·rename_i h1; rw [if_pos h1] at h; exact absurd h h1
 rename_i h1; rw [if_neg h1] at h
 split
 ·rename_i h3; rw [if_pos h3] at h; simp at h
 exact X5e b a (Classical.not_not.1 h1)
theorem X84 {b : List UInt8} {a : Int} (h : (Xl b a).2.2 ≠ 0) : (Xl b a).1 = 0 := by
 unfold Xl at h ⊢
 simp only at h ⊢
 split
 ·rfl
 rename_i h1; rw [if_neg h1] at h
 split
 ·rfl
 rename_i h3; rw [if_neg h3] at h
 simp at h
theorem X8a (b : List UInt8) (a most : Int) : YI b (Y3 b a most).2 := by
 intro h
 have hu := VJ b a
 obtain ⟨n, hn⟩ := X13 b a
 unfold Y3 at h ⊢
 simp only at h ⊢
 split
 ·rename_i h1; rw [if_pos h1] at h; exact absurd h h1
 rename_i h1; rw [if_neg h1] at h
 split
 ·rename_i h2; rw [if_pos h2] at h; simp at h
 rename_i h2; rw [if_neg h2] at h
 split
 ·rename_i h3; rw [if_pos h3] at h; simp at h
 rename_i h3
 obtain ⟨q, hq, hql⟩ := hu (Classical.not_not.1 h1)
 rw [hn] at h3 ⊢
 rw [hq] at h3 ⊢
 exact ⟨q + n, by simp, by omega⟩
section
variable {g : Nat → Int → Val × Int × Int} {a : Int}
theorem Vg {k : Nat} (h : (Xq g a k).2.2 = 0) : Xq g a (k + 1) = ((Xq g a k).1 ++ [(g k (Xq g a k).2.1).1], (g k (Xq g a k).2.1).2.1, (g k (Xq g a k).2.1).2.2) := by
 rw [Xq]; simp [h]
theorem Vz {k : Nat} (h : (Xq g a k).2.2 ≠ 0) : ∀ j, k ≤ j → Xq g a j = Xq g a k
 | 0, hj => by obtain rfl : k = 0 := by omega
               rfl
 | j + 1, hj => by
  by_cases e : k = j + 1
  ·rw [e]
  ·have := Vz h j (by omega)
   rw [Xq, this]; simp [h]
theorem X5q {k : Nat} (h : (Xq g a k).2.2 = 0) : (Xq g a k).1.length = k := by
 induction k with
 | zero => rfl
 | succ k ih =>
  by_cases e : (Xq g a k).2.2 = 0
  ·rw [Vg e]; simp [ih e]
  ·rw [Vz e (k + 1) (by omega)] at h; exact absurd h e
theorem X0p {b : List UInt8} (hg : ∀ i q : Nat, q ≤ b.length → YI b (g i q).2) (h0 : ∃ q : Nat, a = (q : Int) ∧ q ≤ b.length) : ∀ k, YI b (Xq g a k).2
 | 0 => fun _ => h0
 | k + 1 => by
  by_cases e : (Xq g a k).2.2 = 0
  ·rw [Vg e]
   obtain ⟨q, h1, h2⟩ := X0p hg h0 k e
   intro h
   rw [h1] at h ⊢
   exact hg k q h2 h
  ·intro h; rw [Vz e (k + 1) (by omega)] at h; exact absurd h e
theorem X24 {k : Nat} (h : (Xq g a k).2.2 = 0) : (Xq g a (k + 1)).1.length = k + 1 := by
 rw [Vg h]; simp [X5q h]
end
theorem Xc9 {gl gp : Nat → Int → Val × Int × Int} {b : List UInt8} (hgl : ∀ i q : Nat, q ≤ b.length → YI b (gl i q).2) (hgp : ∀ i q : Nat, q ≤ b.length → YI b (gp i q).2) (a : Nat) (ha : a ≤ b.length) (k : Int) : YI b (XS gl gp b a k).2 := by
 unfold XS
 split
 ·exact X2d b a
 split
 ·simp only
  split
  ·exact X2d b a
  ·exact X2d b _
 split
 ·exact X8a b a 100
 split
 ·simp only
  split
  ·exact VJ b a
  rename_i h1
  split
  ·intro h; simp at h
  ·have h0 := VJ b a (Classical.not_not.1 h1)
   split
   ·exact X0p hgl h0 _
   ·exact X0p hgp h0 _
 ·exact fun _ => ⟨a, rfl, ha⟩
theorem X2P {gl gp : Nat → Int → Val × Int × Int} {b : List UInt8} (hgl : ∀ i q : Nat, q ≤ b.length → YI b (gl i q).2) (hgp : ∀ i q : Nat, q ≤ b.length → YI b (gp i q).2) (m a : Nat) (ha : a ≤ b.length) (want : Int) : YI b (Yw gl gp m b a want).2 := by
 unfold Yw
 split
 ·intro h; simp at h
 simp only
 split
 ·intro h; simp at h
 ·rename_i h1 h2
  have := Xc9 hgl hgp (a + 1) (by omega) ((((b[(a : Int).toNat]?).getD 0).toNat : Nat) : Int)
  rw [Int.natCast_add] at this
  split
  ·intro h; simp at h
  ·exact this
theorem X0E {b : List UInt8} (i q : Nat) : YI b (noG i q).2 := fun h => by simp [noG] at h
theorem X0C {b : List UInt8} (i q : Nat) (h : q ≤ b.length) : YI b (YM b i q).2 :=
 X2P (fun i q _ => X0E i q) (fun i q _ => X0E i q) 0 q h _
theorem X3s {b : List UInt8} : ∀ (m q : Nat), q ≤ b.length → YI b (U9 b m q).2
 | 0, q, h => X2P (fun i q _ => X0E i q) (fun i q h => X0C i q h) 0 q h _
 | m + 1, q, h => X2P (fun i q h => X3s m q h) (fun i q h => X0C i q h) (m + 1) q h _
end Go.Fw
namespace Go.Fw
open Go
set_option linter.unusedVariables false
set_option linter.unusedSimpArgs false
theorem X1T : ∀ {l : List Val}, (∀ x ∈ l, XH x) → Uh l
 | [], _ => by rw [Uh]; trivial
 | v :: r, h => by
  rw [Uh]
  exact ⟨h v (List.mem_cons_self ..), X1T fun x hx => h x (List.mem_cons_of_mem _ hx)⟩
theorem Xbp {m : Nat} {k n d : Int} {s : List UInt8} {l : List Val} (h : X6 m (.mk k n d s l) = true) : s.length ≤ 100 ∧ l.length ≤ 64 := by
 rw [X6] at h
 by_cases h4 : k = 4
 ·subst h4; simp at h; exact ⟨by omega, by rw [h.1.2]; simp⟩
 by_cases h7 : k = 7
 ·subst h7; simp at h; exact ⟨by rw [h.1.2]; simp, by omega⟩
 by_cases h8 : k = 8
 ·subst h8; simp at h; exact ⟨by rw [h.1.2]; simp, by omega⟩
 simp [h4, h7, h8] at h
 exact ⟨by rw [h.1.1.2]; simp, by rw [h.1.2]; simp⟩
theorem X3O : ∀ (v : Val) (m : Nat), X6 m v = true → XH v
 | .mk k n d s l, m, h => by
  have h1 := Xbp h
  rw [XH]
  exact ⟨by omega, by omega, X1T fun x hx => X3O x m (X4g h x hx)⟩
termination_by v => SizeOf.sizeOf v
decreasing_by
 have h1 := List.sizeOf_lt_of_mem (show x ∈ l from hx)
 simp only [Val.mk.sizeOf_spec]
 omega
theorem X37 {gl gp : Nat → Int → Val × Int × Int} {m : Nat} {b : List UInt8} {a want : Int} (h : (Yw gl gp m b a want).2.2 = 0) : X6 8 (Yw gl gp m b a want).1 = true := by
 unfold Yw at h ⊢
 split
 ·rename_i h1; rw [if_pos h1] at h; simp at h
 rename_i h1
 rw [if_neg h1] at h
 simp only at h ⊢
 split
 ·rename_i h2; rw [if_pos h2] at h; simp at h
 rename_i h2
 rw [if_neg h2] at h
 split
 ·rename_i h3; rw [if_pos h3] at h; simp at h
 rename_i h3
 rw [if_neg h3] at h
 cases hv : X6 8 (XS gl gp b (a + 1) ((((b[a.toNat]?).getD 0).toNat : Nat) : Int)).1 with
 | true => rfl
 | false => exact absurd ⟨h, hv⟩ h3
theorem X5U (b : List UInt8) (a most : Int) (hm : 0 ≤ most) : ((Y3 b a most).1.length : Int) ≤ most := by
 obtain ⟨n, hn⟩ := X13 b a
 unfold Y3
 simp only
 split
 ·simpa using hm
 split
 ·simpa using hm
 split
 ·simpa using hm
 ·rename_i h1 h2 h3
  rw [hn] at h2 ⊢
  simp
  omega
theorem X5L {g : Nat → Int → Val × Int × Int} {a : Int} (hg : ∀ i q, (g i q).2.2 = 0 → X6 8 (g i q).1 = true) : ∀ k, (Xq g a k).2.2 = 0 → ∀ x ∈ (Xq g a k).1, X6 8 x = true
 | 0, _, x, hx => by simp [Xq] at hx
 | k + 1, h, x, hx => by
  by_cases e : (Xq g a k).2.2 = 0
  ·rw [Vg e] at h hx
   rcases List.mem_append.1 hx with hx | hx
   ·exact X5L hg k e x hx
   ·obtain rfl := List.mem_singleton.1 hx
    exact hg _ _ h
  ·rw [Vz e (k + 1) (by omega)] at h; exact absurd h e
theorem Xaz {k n : Int} (h : YC k n = false) : n ≤ 64 := by
 unfold YC at h
 split at h <;> simp at h <;> omega
theorem Xch {gl gp : Nat → Int → Val × Int × Int} {b : List UInt8} {a k : Int} (hgl : ∀ i q, (gl i q).2.2 = 0 → X6 8 (gl i q).1 = true) (hgp : ∀ i q, (gp i q).2.2 = 0 → X6 8 (gp i q).1 = true)
  (h : (XS gl gp b a k).2.2 = 0) : XH (XS gl gp b a k).1 := by
 unfold XS at h ⊢
 split
 ·simp [XH, Uh]
 rename_i h1; rw [if_neg h1] at h
 split
 ·simp only; split <;> simp [XH, Uh]
 rename_i h2; rw [if_neg h2] at h
 split
 ·have := X5U b a 100 (by omega)
  simp only [XH, Uh]
  exact ⟨by omega, by simp, trivial⟩
 rename_i h3; rw [if_neg h3] at h
 split
 ·rename_i h4; rw [if_pos h4] at h
  simp only at h ⊢
  split
  ·simp [XH, Uh]
  rename_i h5; rw [if_neg h5] at h
  split
  ·simp [XH, Uh]
  rename_i h6; rw [if_neg h6] at h
  have h6 := Xaz (by simpa using h6)
  have hall : ∀ g, (g = gl ∨ g = gp) → (Xq g (Xg b a).2.1 (Xg b a).1.toNat).2.2 = 0 → XH (.mk k 0 0 [] (Xq g (Xg b a).2.1 (Xg b a).1.toNat).1) := by
   intro g hg he
   have hl := X5q he
   simp only [XH]
   refine ⟨by simp, by rw [hl]; omega, X1T fun x hx => X3O x 8 (X5L (fun i q hh => ?_) _ he x hx)⟩
   rcases hg with rfl | rfl
   ·exact hgl i q hh
   ·exact hgp i q hh
  simp only at h
  split
  ·rename_i h7; rw [if_pos h7] at h; exact hall gl (.inl rfl) h
  ·rename_i h7; rw [if_neg h7] at h; exact hall gp (.inr rfl) h
 ·simp [XH, Uh]
end Go.Fw
namespace Go.Fw
open Go
set_option linter.unusedVariables false
theorem X09 {n : Nat} (h : n ≤ 300) : (Xe n).length ≤ 10 := by
 rw [UM (by omega)]
 exact UJ (by omega)
theorem X0L {n : Int} (h : -9223372036854775808 ≤ n ∧ n ≤ 9223372036854775807) : (XD n).length ≤ 10 := UJ (X5f h)
theorem Xax {m : Nat} {k n d : Int} {s : List UInt8} {l : List Val} (h : X6 m (.mk k n d s l) = true) (h7 : k ≠ 7) (h8 : k ≠ 8) : (Xn (.mk k n d s l)).length ≤ 111 := by
 rw [X6] at h
 rw [Xn]
 simp only [List.length_cons]
 by_cases h1 : k = 1 ∨ k = 2 ∨ k = 5 ∨ k = 6
 ·rw [if_pos h1]
  have hn : -9223372036854775808 ≤ n ∧ n ≤ 9223372036854775807 := by
   rcases h1 with rfl | rfl | rfl | rfl <;> simp at h <;> omega
  have := X0L hn
  omega
 rw [if_neg h1]
 by_cases h3 : k = 3
 ·subst h3
  rw [if_pos rfl]
  have hnd : (-9223372036854775808 ≤ n ∧ n ≤ 9223372036854775807) ∧ -9223372036854775808 ≤ d ∧ d ≤ 9223372036854775807 := by simp [Ub] at h; omega
  have h5 := X0L hnd.1
  have h6 := X0L hnd.2
  rw [List.length_append]
  omega
 rw [if_neg h3]
 by_cases h4 : k = 4
 ·subst h4
  rw [if_pos rfl]
  have hs : s.length ≤ 100 := by simp at h; omega
  have := X09 (n := s.length) (by omega)
  unfold Xo
  rw [List.length_append]
  omega
 rw [if_neg h4, if_neg (by omega)]
 simp
theorem X7p {m : Nat} {n d : Int} {s : List UInt8} {l : List Val} (h : X6 m (.mk 8 n d s l) = true) : l.length ≤ 64 ∧ 1 ≤ m ∧ YA (m - 1) l = true := by
 rw [X6] at h
 simp at h
 exact ⟨h.2.1.2.1, by omega, h.2.2⟩
end Go.Fw
namespace Go.Fw
open Go Go.Proofs
set_option maxRecDepth 100000
set_option linter.unusedVariables false
set_option linter.unusedSimpArgs false
theorem X2C {c : Chg} (h : Y8 c = 0) : (1 ≤ c.op ∧ c.op ≤ 8) ∧ (1 ≤ c.id ∧ c.id ≤ 1000000) ∧ (c.op = 6 → (1 ≤ c.src ∧ c.src ≤ 1000000) ∧ 1 ≤ c.dst ∧ c.dst ≤ 1000000) ∧ (XC c.op = true → c.name.length ≤ 20) ∧
  (Xz c.op = true → X6 8 c.v = true ∧ (Xn c.v).length ≤ 111) := by
 unfold Y8 at h
 split at h
 ·omega
 rename_i h1
 split at h
 ·omega
 rename_i h2
 split at h
 ·omega
 rename_i h3
 split at h
 ·omega
 rename_i h4
 split at h
 ·omega
 rename_i h5
 have i1 : decide (1 ≤ c.op ∧ c.op ≤ 8) = true := by
  cases hd : decide (1 ≤ c.op ∧ c.op ≤ 8) with
  | true => rfl
  | false => exact absurd (.inl hd) h1
 have i2 : idV c.id = true := by
  cases hd : idV c.id with
  | true => rfl
  | false => exact absurd (.inr hd) h1
 refine ⟨of_decide_eq_true i1, of_decide_eq_true i2, fun h6 => ?_, fun hn => ?_, fun hv => ?_⟩
 ·have j1 : idV c.src = true := by
   cases hd : idV c.src with
   | true => rfl
   | false => exact absurd (.inl ⟨h6, .inl hd⟩) h2
  have j2 : idV c.dst = true := by
   cases hd : idV c.dst with
   | true => rfl
   | false => exact absurd (.inl ⟨h6, .inr hd⟩) h2
  exact ⟨of_decide_eq_true j1, of_decide_eq_true j2⟩
 ·have j1 : XW c.name = true := by
   cases hd : XW c.name with
   | true => rfl
   | false => exact absurd ⟨hn, hd⟩ h4
  unfold XW at j1
  simp at j1
  omega
 ·have j1 : X6 8 c.v = true ∧ (c.v.kind = 0 ∨ c.v.kind = 1 ∨ c.v.kind = 2 ∨ c.v.kind = 4) := by
   cases hz : U0 c.v with
   | true =>
    unfold U0 at hz
    simp at hz
    exact ⟨hz.1, .inl hz.2⟩
   | false =>
    cases hp : UQ c.v with
    | true =>
     unfold UQ X26 at hp
     simp at hp
     exact ⟨hp.2, .inr hp.1⟩
    | false => exact absurd ⟨hv, hz, hp⟩ h5
  obtain ⟨op, id, src, dst, name, ⟨k, n, d, s, l⟩⟩ := c
  simp only [Val.kind] at j1 ⊢
  exact ⟨j1.1, Xax j1.1 (by omega) (by omega)⟩
def VP (op : Int) : Bool × Bool × Bool := (decide (op = 6), decide (op ≠ 1 ∧ op ≠ 2 ∧ op ≠ 7), decide (op ≠ 1 ∧ op ≠ 2 ∧ op ≠ 7 ∧ op ≠ 3 ∧ op ≠ 4 ∧ op ≠ 6))
theorem X79 (op : Int) : Con Tryz.prog 56 [] [ai op] [] (.tup [ab (VP op).1, ab (VP op).2.1, ab (VP op).2.2]) := by
 refine X8 (xs := [ab (VP op).1, ab (VP op).2.1, ab (VP op).2.2]) Tryz.func56 rfl Tryz.ntmps56 rfl rfl rfl (fun E => ?_)
 by_cases k1 : op = 1
 ·subst k1
  repeat first | refine X0 ?_ | (refine JR ?_; (repeat first | refine Z1 ?_ | refine Z0 ?_ | refine Zu ?_); refine JD ?_) | refine JT ?_ | refine X5 ?_ | refine X3 ?_
  exact X1 ⟨_, St.le_refl _, ⟨rfl, rfl, rfl, trivial⟩, X2 _⟩
 by_cases k2 : op = 2
 ·subst k2
  repeat first | refine X0 ?_ | (refine JR ?_; (repeat first | refine Z1 ?_ | refine Z0 ?_ | refine Zu ?_); refine JD ?_) | refine JT ?_ | refine JF ?_ | refine X5 ?_ | refine X3 ?_
  exact X1 ⟨_, St.le_refl _, ⟨rfl, rfl, rfl, trivial⟩, X2 _⟩
 by_cases k7 : op = 7
 ·subst k7
  repeat first | refine X0 ?_ | (refine JR ?_; (repeat first | refine Z1 ?_ | refine Z0 ?_ | refine Zu ?_); refine JD ?_) | refine JT ?_ | refine JF ?_ | refine X5 ?_
  exact X1 ⟨_, St.le_refl _, ⟨rfl, rfl, rfl, trivial⟩, X2 _⟩
 by_cases k3 : op = 3
 ·subst k3
  repeat first | refine X0 ?_ | (refine JR ?_; (repeat first | refine Z1 ?_ | refine Z0 ?_ | refine Zu ?_); refine JD ?_) | refine JT ?_ | refine JF ?_ | refine X5 ?_ | refine X3 ?_
  exact X1 ⟨_, St.le_refl _, ⟨rfl, rfl, rfl, trivial⟩, X2 _⟩
 by_cases k4 : op = 4
 ·subst k4
  repeat first | refine X0 ?_ | (refine JR ?_; (repeat first | refine Z1 ?_ | refine Z0 ?_ | refine Zu ?_); refine JD ?_) | refine JT ?_ | refine JF ?_ | refine X5 ?_
  exact X1 ⟨_, St.le_refl _, ⟨rfl, rfl, rfl, trivial⟩, X2 _⟩
 by_cases k6 : op = 6
 ·subst k6
  repeat first | refine X0 ?_ | (refine JR ?_; (repeat first | refine Z1 ?_ | refine Z0 ?_ | refine Zu ?_); refine JD ?_) | refine JT ?_ | refine JF ?_ | refine X5 ?_
  exact X1 ⟨_, St.le_refl _, ⟨rfl, rfl, rfl, trivial⟩, X2 _⟩
 rw [show VP op = (false, true, true) by unfold VP; rw [decide_eq_false (by omega), decide_eq_true (by omega), decide_eq_true (by omega)]]
 repeat first | refine X0 ?_ | (refine JR ?_; (repeat first | refine Z1 ?_ | refine Z0 ?_ | refine Zu ?_); refine JD ?_) | refine JF ?_ | refine X5 ?_ | refine X3 ?_
 exact X1 ⟨_, St.le_refl _, ⟨rfl, rfl, rfl, trivial⟩, X2 _⟩
theorem Xcj (c : Chg) (h : Y8 c = 0) : Con Tryz.prog 28 [] [Xy c] [(130, .row 1 ((XK c).map Xa))] (.own 130 ((XK c).map Xa).length) := by
 obtain ⟨⟨hop1, hop2⟩, hid, hsd, hnm, hvl⟩ := X2C h
 obtain ⟨op, id, src, dst, name, v⟩ := c
 simp only at hop1 hop2 hid hsd hnm hvl
 have hpi := VG id (by omega)
 have hli : (Xe id).length ≤ 10 := by rw [UM (by omega)]; exact UJ (by omega)
 have hf := X79 op
 clear h
 by_cases k1 : op = 1
 ·subst k1
  clear hop1 hop2
  have hput : XK ⟨1, id, src, dst, name, v⟩ = UInt8.ofNat 1 :: (Xe id) := by unfold XK; simp [XC, Xz]
  rw [hput]
  clear hput
  generalize Xe id = w0 at *
  obtain ⟨vk, vn, vd, vs, vl⟩ := v
  simp only [Xy, Xb] at *
  refine X8 (xs := [.own 130 ((UInt8.ofNat 1 :: (w0)).map Xa).length]) Tryz.func28 rfl Tryz.ntmps28 rfl rfl rfl (fun E => ?_)
  repeat first | refine X0 ?_ | (refine JR ?_; (repeat first | refine Z3 (u := nj 1) (r := n8 1) ?_ (hr := by exact XQ rfl rfl) | refine ZX (γ := 130) ?_ | refine Z1 ?_ | refine Z0 ?_ | refine Zz ?_ | refine ZA ?_ | refine Zy (γ := 100) ?_ | refine ZD ?_ | refine Z6 ?_ | refine Z9 (hcon := hf) ?_ | refine Z9 (hcon := hpi) ?_); refine JD ?_) | refine JF ?_ | refine X3 ?_
  refine X1 ⟨_, X9 2 (y := .own 130 ((UInt8.ofNat 1 :: (w0)).map Xa).length) (AVal.le_of_eq ?_), ⟨rfl, trivial⟩, Xi ⟨?_, trivial⟩⟩
  ·refine Eq.trans (b := AVal.own 130 (_ + _)) rfl ?_
   congr 1
   simp only [List.length_append, List.length_map, List.length_cons, List.length_nil] <;> omega
  ·refine Eq.trans (b := AObj.row 1 (_ ++ _)) rfl ?_
   simp only [List.map_append, List.map_cons, List.map_nil, List.append_assoc, List.cons_append, List.nil_append] <;> rfl
 by_cases k2 : op = 2
 ·subst k2
  clear hop1 hop2
  have hput : XK ⟨2, id, src, dst, name, v⟩ = UInt8.ofNat 2 :: (Xe id) := by unfold XK; simp [XC, Xz]
  rw [hput]
  clear hput
  generalize Xe id = w0 at *
  obtain ⟨vk, vn, vd, vs, vl⟩ := v
  simp only [Xy, Xb] at *
  refine X8 (xs := [.own 130 ((UInt8.ofNat 2 :: (w0)).map Xa).length]) Tryz.func28 rfl Tryz.ntmps28 rfl rfl rfl (fun E => ?_)
  repeat first | refine X0 ?_ | (refine JR ?_; (repeat first | refine Z3 (u := nj 2) (r := n8 2) ?_ (hr := by exact XQ rfl rfl) | refine ZX (γ := 130) ?_ | refine Z1 ?_ | refine Z0 ?_ | refine Zz ?_ | refine ZA ?_ | refine Zy (γ := 100) ?_ | refine ZD ?_ | refine Z6 ?_ | refine Z9 (hcon := hf) ?_ | refine Z9 (hcon := hpi) ?_); refine JD ?_) | refine JF ?_ | refine X3 ?_
  refine X1 ⟨_, X9 2 (y := .own 130 ((UInt8.ofNat 2 :: (w0)).map Xa).length) (AVal.le_of_eq ?_), ⟨rfl, trivial⟩, Xi ⟨?_, trivial⟩⟩
  ·refine Eq.trans (b := AVal.own 130 (_ + _)) rfl ?_
   congr 1
   simp only [List.length_append, List.length_map, List.length_cons, List.length_nil] <;> omega
  ·refine Eq.trans (b := AObj.row 1 (_ ++ _)) rfl ?_
   simp only [List.map_append, List.map_cons, List.map_nil, List.append_assoc, List.cons_append, List.nil_append] <;> rfl
 by_cases k3 : op = 3
 ·subst k3
  clear hop1 hop2
  have hnm := hnm rfl
  have hpn := X0i name (by omega)
  have hln : (Xo name).length ≤ 30 := by
   have := X09 (n := name.length) (by omega)
   unfold Xo
   rw [List.length_append]
   omega
  have hput : XK ⟨3, id, src, dst, name, v⟩ = UInt8.ofNat 3 :: (Xe id ++ Xo name) := by unfold XK; simp [XC, Xz]
  rw [hput]
  clear hput
  generalize Xe id = w0 at *
  generalize Xo name = w1 at *
  obtain ⟨vk, vn, vd, vs, vl⟩ := v
  simp only [Xy, Xb] at *
  refine X8 (xs := [.own 130 ((UInt8.ofNat 3 :: (w0 ++ w1)).map Xa).length]) Tryz.func28 rfl Tryz.ntmps28 rfl rfl rfl (fun E => ?_)
  repeat first | refine X0 ?_ | (refine JR ?_; (repeat first | refine Z3 (u := nj 3) (r := n8 3) ?_ (hr := by exact XQ rfl rfl) | refine ZX (γ := 130) ?_ | refine Z1 ?_ | refine Z0 ?_ | refine Zz ?_ | refine ZA ?_ | refine Zy (γ := 100) ?_ | refine ZD ?_ | refine Z6 ?_ | refine Z9 (hcon := hf) ?_ | refine Z9 (hcon := hpi) ?_ | refine Z9 (hcon := hpn) ?_); refine JD ?_) | refine JT ?_ | refine JF ?_ | refine X3 ?_
  refine X1 ⟨_, X9 2 (y := .own 130 ((UInt8.ofNat 3 :: (w0 ++ w1)).map Xa).length) (AVal.le_of_eq ?_), ⟨rfl, trivial⟩, Xi ⟨?_, trivial⟩⟩
  ·refine Eq.trans (b := AVal.own 130 (_ + _)) rfl ?_
   congr 1
   simp only [List.length_append, List.length_map, List.length_cons, List.length_nil] <;> omega
  ·refine Eq.trans (b := AObj.row 1 (_ ++ _)) rfl ?_
   simp only [List.map_append, List.map_cons, List.map_nil, List.append_assoc, List.cons_append, List.nil_append] <;> rfl
 by_cases k4 : op = 4
 ·subst k4
  clear hop1 hop2
  have hnm := hnm rfl
  have hpn := X0i name (by omega)
  have hln : (Xo name).length ≤ 30 := by
   have := X09 (n := name.length) (by omega)
   unfold Xo
   rw [List.length_append]
   omega
  have hput : XK ⟨4, id, src, dst, name, v⟩ = UInt8.ofNat 4 :: (Xe id ++ Xo name) := by unfold XK; simp [XC, Xz]
  rw [hput]
  clear hput
  generalize Xe id = w0 at *
  generalize Xo name = w1 at *
  obtain ⟨vk, vn, vd, vs, vl⟩ := v
  simp only [Xy, Xb] at *
  refine X8 (xs := [.own 130 ((UInt8.ofNat 4 :: (w0 ++ w1)).map Xa).length]) Tryz.func28 rfl Tryz.ntmps28 rfl rfl rfl (fun E => ?_)
  repeat first | refine X0 ?_ | (refine JR ?_; (repeat first | refine Z3 (u := nj 4) (r := n8 4) ?_ (hr := by exact XQ rfl rfl) | refine ZX (γ := 130) ?_ | refine Z1 ?_ | refine Z0 ?_ | refine Zz ?_ | refine ZA ?_ | refine Zy (γ := 100) ?_ | refine ZD ?_ | refine Z6 ?_ | refine Z9 (hcon := hf) ?_ | refine Z9 (hcon := hpi) ?_ | refine Z9 (hcon := hpn) ?_); refine JD ?_) | refine JT ?_ | refine JF ?_ | refine X3 ?_
  refine X1 ⟨_, X9 2 (y := .own 130 ((UInt8.ofNat 4 :: (w0 ++ w1)).map Xa).length) (AVal.le_of_eq ?_), ⟨rfl, trivial⟩, Xi ⟨?_, trivial⟩⟩
  ·refine Eq.trans (b := AVal.own 130 (_ + _)) rfl ?_
   congr 1
   simp only [List.length_append, List.length_map, List.length_cons, List.length_nil] <;> omega
  ·refine Eq.trans (b := AObj.row 1 (_ ++ _)) rfl ?_
   simp only [List.map_append, List.map_cons, List.map_nil, List.append_assoc, List.cons_append, List.nil_append] <;> rfl
 by_cases k5 : op = 5
 ·subst k5
  clear hop1 hop2
  have hnm := hnm rfl
  have hpn := X0i name (by omega)
  have hln : (Xo name).length ≤ 30 := by
   have := X09 (n := name.length) (by omega)
   unfold Xo
   rw [List.length_append]
   omega
  have hvl := hvl rfl
  have hpv := X5n v (by omega)
  have hlv : (XV v).length ≤ 111 := by
   unfold XV
   rw [if_pos hvl.1]
   exact hvl.2
  have hput : XK ⟨5, id, src, dst, name, v⟩ = UInt8.ofNat 5 :: (Xe id ++ Xo name ++ XV v) := by unfold XK; simp [XC, Xz]
  rw [hput]
  clear hput
  generalize Xe id = w0 at *
  generalize Xo name = w1 at *
  generalize XV v = w2 at *
  obtain ⟨vk, vn, vd, vs, vl⟩ := v
  simp only [Xy, Xb] at *
  refine X8 (xs := [.own 130 ((UInt8.ofNat 5 :: (w0 ++ w1 ++ w2)).map Xa).length]) Tryz.func28 rfl Tryz.ntmps28 rfl rfl rfl (fun E => ?_)
  repeat first | refine X0 ?_ | (refine JR ?_; (repeat first | refine Z3 (u := nj 5) (r := n8 5) ?_ (hr := by exact XQ rfl rfl) | refine ZX (γ := 130) ?_ | refine Z1 ?_ | refine Z0 ?_ | refine Zz ?_ | refine ZA ?_ | refine ZL ?_ | refine Zy (γ := 100) ?_ | refine ZD ?_ | refine Z6 ?_ | refine Z9 (hcon := hf) ?_ | refine Z9 (hcon := hpi) ?_ | refine Z9 (hcon := hpn) ?_ | refine Z9 (hcon := hpv) ?_); refine JD ?_) | refine JT ?_ | refine JF ?_ | refine X3 ?_
  refine X1 ⟨_, X9 2 (y := .own 130 ((UInt8.ofNat 5 :: (w0 ++ w1 ++ w2)).map Xa).length) (AVal.le_of_eq ?_), ⟨rfl, trivial⟩, Xi ⟨?_, trivial⟩⟩
  ·refine Eq.trans (b := AVal.own 130 (_ + _)) rfl ?_
   congr 1
   simp only [List.length_append, List.length_map, List.length_cons, List.length_nil] <;> omega
  ·refine Eq.trans (b := AObj.row 1 (_ ++ _)) rfl ?_
   simp only [List.map_append, List.map_cons, List.map_nil, List.append_assoc, List.cons_append, List.nil_append] <;> rfl
 by_cases k6 : op = 6
 ·subst k6
  clear hop1 hop2
  have hsd := hsd rfl
  have hps := VG src (by omega)
  have hpd := VG dst (by omega)
  have hls : (Xe src).length ≤ 10 := by rw [UM (by omega)]; exact UJ (by omega)
  have hld : (Xe dst).length ≤ 10 := by rw [UM (by omega)]; exact UJ (by omega)
  have hnm := hnm rfl
  have hpn := X0i name (by omega)
  have hln : (Xo name).length ≤ 30 := by
   have := X09 (n := name.length) (by omega)
   unfold Xo
   rw [List.length_append]
   omega
  have hput : XK ⟨6, id, src, dst, name, v⟩ = UInt8.ofNat 6 :: (Xe id ++ Xe src ++ Xe dst ++ Xo name) := by unfold XK; simp [XC, Xz]
  rw [hput]
  clear hput
  generalize Xe id = w0 at *
  generalize Xe src = w1 at *
  generalize Xe dst = w2 at *
  generalize Xo name = w3 at *
  obtain ⟨vk, vn, vd, vs, vl⟩ := v
  simp only [Xy, Xb] at *
  refine X8 (xs := [.own 130 ((UInt8.ofNat 6 :: (w0 ++ w1 ++ w2 ++ w3)).map Xa).length]) Tryz.func28 rfl Tryz.ntmps28 rfl rfl rfl (fun E => ?_)
  repeat first | refine X0 ?_ | (refine JR ?_; (repeat first | refine Z3 (u := nj 6) (r := n8 6) ?_ (hr := by exact XQ rfl rfl) | refine ZX (γ := 130) ?_ | refine Z1 ?_ | refine Z0 ?_ | refine Zz ?_ | refine ZA ?_ | refine Zy (γ := 100) ?_ | refine ZD ?_ | refine Z6 ?_ | refine Z9 (hcon := hf) ?_ | refine Z9 (hcon := hpi) ?_ | refine Z9 (hcon := hps) ?_ | refine Z9 (hcon := hpd) ?_ | refine Z9 (hcon := hpn) ?_); refine JD ?_) | refine JT ?_ | refine JF ?_ | refine X3 ?_
  refine X1 ⟨_, X9 2 (y := .own 130 ((UInt8.ofNat 6 :: (w0 ++ w1 ++ w2 ++ w3)).map Xa).length) (AVal.le_of_eq ?_), ⟨rfl, trivial⟩, Xi ⟨?_, trivial⟩⟩
  ·refine Eq.trans (b := AVal.own 130 (_ + _)) rfl ?_
   congr 1
   simp only [List.length_append, List.length_map, List.length_cons, List.length_nil] <;> omega
  ·refine Eq.trans (b := AObj.row 1 (_ ++ _)) rfl ?_
   simp only [List.map_append, List.map_cons, List.map_nil, List.append_assoc, List.cons_append, List.nil_append] <;> rfl
 by_cases k7 : op = 7
 ·subst k7
  clear hop1 hop2
  have hput : XK ⟨7, id, src, dst, name, v⟩ = UInt8.ofNat 7 :: (Xe id) := by unfold XK; simp [XC, Xz]
  rw [hput]
  clear hput
  generalize Xe id = w0 at *
  obtain ⟨vk, vn, vd, vs, vl⟩ := v
  simp only [Xy, Xb] at *
  refine X8 (xs := [.own 130 ((UInt8.ofNat 7 :: (w0)).map Xa).length]) Tryz.func28 rfl Tryz.ntmps28 rfl rfl rfl (fun E => ?_)
  repeat first | refine X0 ?_ | (refine JR ?_; (repeat first | refine Z3 (u := nj 7) (r := n8 7) ?_ (hr := by exact XQ rfl rfl) | refine ZX (γ := 130) ?_ | refine Z1 ?_ | refine Z0 ?_ | refine Zz ?_ | refine ZA ?_ | refine Zy (γ := 100) ?_ | refine ZD ?_ | refine Z6 ?_ | refine Z9 (hcon := hf) ?_ | refine Z9 (hcon := hpi) ?_); refine JD ?_) | refine JF ?_ | refine X3 ?_
  refine X1 ⟨_, X9 2 (y := .own 130 ((UInt8.ofNat 7 :: (w0)).map Xa).length) (AVal.le_of_eq ?_), ⟨rfl, trivial⟩, Xi ⟨?_, trivial⟩⟩
  ·refine Eq.trans (b := AVal.own 130 (_ + _)) rfl ?_
   congr 1
   simp only [List.length_append, List.length_map, List.length_cons, List.length_nil] <;> omega
  ·refine Eq.trans (b := AObj.row 1 (_ ++ _)) rfl ?_
   simp only [List.map_append, List.map_cons, List.map_nil, List.append_assoc, List.cons_append, List.nil_append] <;> rfl
 by_cases k8 : op = 8
 ·subst k8
  clear hop1 hop2
  have hnm := hnm rfl
  have hpn := X0i name (by omega)
  have hln : (Xo name).length ≤ 30 := by
   have := X09 (n := name.length) (by omega)
   unfold Xo
   rw [List.length_append]
   omega
  have hvl := hvl rfl
  have hpv := X5n v (by omega)
  have hlv : (XV v).length ≤ 111 := by
   unfold XV
   rw [if_pos hvl.1]
   exact hvl.2
  have hput : XK ⟨8, id, src, dst, name, v⟩ = UInt8.ofNat 8 :: (Xe id ++ Xo name ++ XV v) := by unfold XK; simp [XC, Xz]
  rw [hput]
  clear hput
  generalize Xe id = w0 at *
  generalize Xo name = w1 at *
  generalize XV v = w2 at *
  obtain ⟨vk, vn, vd, vs, vl⟩ := v
  simp only [Xy, Xb] at *
  refine X8 (xs := [.own 130 ((UInt8.ofNat 8 :: (w0 ++ w1 ++ w2)).map Xa).length]) Tryz.func28 rfl Tryz.ntmps28 rfl rfl rfl (fun E => ?_)
  repeat first | refine X0 ?_ | (refine JR ?_; (repeat first | refine Z3 (u := nj 8) (r := n8 8) ?_ (hr := by exact XQ rfl rfl) | refine ZX (γ := 130) ?_ | refine Z1 ?_ | refine Z0 ?_ | refine Zz ?_ | refine ZA ?_ | refine ZL ?_ | refine Zy (γ := 100) ?_ | refine ZD ?_ | refine Z6 ?_ | refine Z9 (hcon := hf) ?_ | refine Z9 (hcon := hpi) ?_ | refine Z9 (hcon := hpn) ?_ | refine Z9 (hcon := hpv) ?_); refine JD ?_) | refine JT ?_ | refine JF ?_ | refine X3 ?_
  refine X1 ⟨_, X9 2 (y := .own 130 ((UInt8.ofNat 8 :: (w0 ++ w1 ++ w2)).map Xa).length) (AVal.le_of_eq ?_), ⟨rfl, trivial⟩, Xi ⟨?_, trivial⟩⟩
  ·refine Eq.trans (b := AVal.own 130 (_ + _)) rfl ?_
   congr 1
   simp only [List.length_append, List.length_map, List.length_cons, List.length_nil] <;> omega
  ·refine Eq.trans (b := AObj.row 1 (_ ++ _)) rfl ?_
   simp only [List.map_append, List.map_cons, List.map_nil, List.append_assoc, List.cons_append, List.nil_append] <;> rfl
 omega
theorem X6F (c : Chg) (h : Y8 c = 0) : Con Tryz.prog 28 [] [Xy c] [] (.d (Xh (XK c))) := (Xcj c h).data (by simp)
end Go.Fw
