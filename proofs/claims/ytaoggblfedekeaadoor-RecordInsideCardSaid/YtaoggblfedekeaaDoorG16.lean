/- The check of a change: the program's. -/
import Derived.Test.YtaoggblfedekeaaDoorG08
import Derived.Test.YtaoggblfedekeaaDoorG15
import Derived.Test.YtaoggblfedekeaaDoorG07
import Derived.Test.YtaoggblfedekeaaDoorG09
import Derived.Test.YtaoggblfedekeaaDoorG14
import Derived.Test.YtaoggblfedekeaaDoorG12
set_option maxHeartbeats 32000000
namespace Go.Fw
open Go Go.Proofs
set_option maxRecDepth 100000
set_option linter.unusedVariables false
set_option linter.unusedSimpArgs false
def XL (u : Bool × Bool × Bool × Bool) (i si di : Bool) (src dst : Int) (name : List UInt8) (nv zv pv : Bool) : Int :=
 if u.2.2.2 = false ∨ i = false then 1
 else if (u.1 = true ∧ (si = false ∨ di = false)) ∨ (u.1 = false ∧ (src ≠ 0 ∨ dst ≠ 0)) then 1
 else if (u.2.1 = false ∧ name ≠ []) ∨ (u.2.2.1 = false ∧ zv = false) then 1
 else if u.2.1 = true ∧ nv = false then 6 else if u.2.2.1 = true ∧ zv = false ∧ pv = false then 8 else 0
theorem X8E (c : Chg) : Y9 c = XL (Uf c.op) (idV c.id) (idV c.src) (idV c.dst) c.src c.dst c.name (XM c.name) (Uq c.v) (Vt c.v) := by
 unfold Y9 XL Uf
 simp only [decide_eq_true_eq, decide_eq_false_iff_not]
abbrev X7W (op id src dst : Int) (name : List UInt8) (k n d : Int) (s : List UInt8) (l : List Val) : AVal := .agg [ai op, ai id, ai src, ai dst, .d (.v (.string (X4 name))), ai k, ai n, ai d, .d (.v (.string (X4 s))), .d (.sl 5 (Xm l))]
def Xy : Chg → AVal
 | ⟨op, id, src, dst, name, .mk k n d s l⟩ => X7W op id src dst name k n d s l
theorem X2c (c : Chg) : Con Tryd.prog 24 [] [Xy c] [] (ai (Y9 c)) := by
 rw [X8E]
 obtain ⟨op, id, src, dst, name, v⟩ := c
 have hf := X6X op
 have hi := X3b id
 have hs := X3b src
 have hd := X3b dst
 have hn := X10 name
 have hz := X9D v
 have hp := X8D v
 generalize idV id = i at *
 generalize idV src = si at *
 generalize idV dst = di at *
 generalize XM name = nv at *
 generalize Uq v = zv at *
 generalize Vt v = pv at *
 obtain ⟨k, n, d, s, l⟩ := v
 simp only [Xy, Xh] at *
 refine Xb (xs := [ai (XL (Uf op) i si di src dst name nv zv pv)]) Tryd.func24 rfl Tryd.ntmps24 rfl rfl rfl (fun E => ?_)
 generalize Uf op = u at *
 obtain ⟨en, nm, vl, ok⟩ := u
 simp only at hf
 obtain ⟨r, hr⟩ : ∃ r, r = XL (en, nm, vl, ok) i si di src dst name nv zv pv := ⟨_, rfl⟩
 rw [← hr]
 refine X0 ?_; refine JR ?_; refine Zx (γ := 100) ?_; refine Z0 ?_; refine JD ?_; refine X0 ?_; refine JR ?_; refine Zy ?_; refine Zz ?_; refine Z8 (hcon := hf) ?_; refine Z1 ?_; refine ZC ?_; refine ZC ?_
 refine Zr (γ := 101) ?_; refine Zu ?_; refine Z0 ?_; refine JD ?_; refine X0 ?_; refine X5 ?_; refine X0 ?_; refine JR ?_; refine Z1 ?_; refine Zp ?_; refine Z1 ?_
 refine Yv rfl rfl (fun hq => ?_) (fun hq => ?_); refine Zy ?_; refine Zz ?_; refine Z8 (hcon := hi) ?_; refine Zp ?_; refine Zl ?_; refine Z0 ?_; refine JD ?_; refine XB rfl (fun hq => ?_) (fun hq => ?_)
 refine X0 ?_; refine JR ?_; refine Z0 ?_; refine JD ?_; (clear hf hi hs hd hn hz hp; simp [XL, *] at hr; subst hr; exact X1 ⟨_, St.le_refl _, ⟨rfl, trivial⟩, X2 _⟩); refine X0 ?_; refine JR ?_
 refine Zy ?_; refine Zz ?_; refine Z1 ?_; refine VO rfl rfl (fun hq => ?_) (fun hq => ?_); refine Zy ?_; refine Zz ?_; refine Z8 (hcon := hs) ?_; refine Zp ?_; refine Z1 ?_
 refine Yv rfl rfl (fun hq => ?_) (fun hq => ?_); refine Zy ?_; refine Zz ?_; refine Z8 (hcon := hd) ?_; refine Zp ?_; refine Zl ?_; refine Zi ?_; refine Z1 ?_
 refine Yv rfl rfl (fun hq => ?_) (fun hq => ?_); refine Zy ?_; refine Zz ?_; refine Zp ?_; refine Z1 ?_; refine Zj ?_; refine Zj ?_; refine Zj ?_; refine Zj ?_; refine Zk ?_; refine Zk ?_; refine Zk ?_
 refine Zj ?_; refine Zl ?_; refine Zl ?_; refine Z0 ?_; refine JD ?_; refine JF ?_; refine X0 ?_; refine JR ?_; refine Zy ?_; refine Zz ?_; refine Zp ?_; refine Z1 ?_
 refine Yv rfl rfl (fun hq => ?_) (fun hq => ?_); refine Zj ?_; refine Zj ?_; refine Zj ?_; refine Zl ?_; refine Z1 ?_; refine Zy ?_; refine Zz ?_; refine Zp ?_; refine Z1 ?_
 refine Yv rfl rfl (fun hq => ?_) (fun hq => ?_); refine Zj ?_; refine Zj ?_; refine Zj ?_; refine Zj ?_; refine Zl ?_; refine Zl ?_; refine Z0 ?_; refine JD ?_; refine JF ?_; refine X0 ?_; refine JR ?_
 refine Zy ?_; refine Zz ?_; refine Z1 ?_; refine Zy ?_; refine Zz ?_; refine Z8 (hcon := hn) ?_; refine Zp ?_; refine Zi ?_; refine Z0 ?_; refine JD ?_; refine XB rfl (fun hq => ?_) (fun hq => ?_)
 refine X0 ?_; refine JR ?_; refine Z0 ?_; refine JD ?_; (clear hf hi hs hd hn hz hp; simp [XL, *] at hr; subst hr; exact X1 ⟨_, St.le_refl _, ⟨rfl, trivial⟩, X2 _⟩); refine X0 ?_; refine JR ?_
 refine Zy ?_; refine Zz ?_; refine Z1 ?_; refine Zy ?_; refine ZK ?_; refine Z8 (hcon := hz) ?_; refine Zp ?_; refine Zi ?_; refine Z1 ?_; refine Yv rfl rfl (fun hq => ?_) (fun hq => ?_); refine Zj ?_
 refine Zj ?_; refine Zj ?_; refine Zj ?_; refine Zl ?_; refine Z0 ?_; refine JD ?_; refine JF ?_; refine X3 ?_; refine X0 ?_; refine JR ?_; refine Z0 ?_; refine JD ?_
 (clear hf hi hs hd hn hz hp; simp [XL, *] at hr; subst hr; exact X1 ⟨_, St.le_refl _, ⟨rfl, trivial⟩, X2 _⟩); refine Zy ?_; refine ZK ?_; refine Z8 (hcon := hp) ?_; refine Zp ?_; refine Zi ?_; refine Z0 ?_
 refine JD ?_; refine XB rfl (fun hq => ?_) (fun hq => ?_); refine X0 ?_; refine JR ?_; refine Z0 ?_; refine JD ?_
 (clear hf hi hs hd hn hz hp; simp [XL, *] at hr; subst hr; exact X1 ⟨_, St.le_refl _, ⟨rfl, trivial⟩, X2 _⟩); refine X3 ?_; refine X0 ?_; refine JR ?_; refine Z0 ?_; refine JD ?_
 (clear hf hi hs hd hn hz hp; simp [XL, *] at hr; subst hr; exact X1 ⟨_, St.le_refl _, ⟨rfl, trivial⟩, X2 _⟩); refine Zy ?_; refine ZK ?_; refine Z8 (hcon := hz) ?_; refine Zp ?_; refine Zi ?_; refine Zl ?_
 refine Z0 ?_; refine JD ?_; refine XB rfl (fun hq => ?_) (fun hq => ?_); refine X0 ?_; refine JR ?_; refine Z0 ?_; refine JD ?_
 (clear hf hi hs hd hn hz hp; simp [XL, *] at hr; subst hr; exact X1 ⟨_, St.le_refl _, ⟨rfl, trivial⟩, X2 _⟩); refine X0 ?_; refine JR ?_; refine Zy ?_; refine Zz ?_; refine Z1 ?_; refine Zy ?_
 refine Zz ?_; refine Z8 (hcon := hn) ?_; refine Zp ?_; refine Zi ?_; refine Z0 ?_; refine JD ?_; refine XB rfl (fun hq => ?_) (fun hq => ?_); refine X0 ?_; refine JR ?_; refine Z0 ?_; refine JD ?_
 (clear hf hi hs hd hn hz hp; simp [XL, *] at hr; subst hr; exact X1 ⟨_, St.le_refl _, ⟨rfl, trivial⟩, X2 _⟩); refine X0 ?_; refine JR ?_; refine Zy ?_; refine Zz ?_; refine Z1 ?_; refine Zj ?_
 refine Zj ?_; refine Zj ?_; refine Zj ?_; refine Zl ?_; refine Z1 ?_; refine Zj ?_; refine Zj ?_; refine Zj ?_; refine Zj ?_; refine Zl ?_; refine Z0 ?_; refine JD ?_; refine JF ?_; refine X3 ?_; refine X0 ?_
 refine JR ?_; refine Z0 ?_; refine JD ?_; (clear hf hi hs hd hn hz hp; simp [XL, *] at hr; subst hr; exact X1 ⟨_, St.le_refl _, ⟨rfl, trivial⟩, X2 _⟩); refine Zy ?_; refine Zz ?_; refine ZL ?_; refine Zi ?_
 refine Z1 ?_; refine XV rfl rfl (fun hq => ?_) (fun hq => ?_); refine Zj ?_; refine Zj ?_; refine Zj ?_; refine Zj ?_; refine Zk ?_; refine Zk ?_; refine Zk ?_; refine Zk ?_; refine Zj ?_; refine Zi ?_; refine Z0 ?_
 refine JD ?_; refine JT ?_; refine X0 ?_; refine JR ?_; refine Z0 ?_; refine JD ?_; (clear hf hi hs hd hn hz hp; simp [XL, *] at hr; subst hr; exact X1 ⟨_, St.le_refl _, ⟨rfl, trivial⟩, X2 _⟩)
 refine Zy ?_; refine Zz ?_; refine Zp ?_; refine Z1 ?_; refine Yv rfl rfl (fun hq => ?_) (fun hq => ?_); refine Zj ?_; refine Zj ?_; refine Zj ?_; refine Zj ?_; refine Zl ?_; refine Zl ?_; refine Z0 ?_
 refine JD ?_; refine JF ?_; refine X0 ?_; refine JR ?_; refine Zy ?_; refine Zz ?_; refine Z1 ?_; refine Zj ?_; refine Zj ?_; refine Zj ?_; refine Zj ?_; refine Zl ?_; refine Z0 ?_; refine JD ?_; refine JF ?_
 refine X0 ?_; refine JR ?_; refine Zy ?_; refine Zz ?_; refine Z1 ?_; refine Zy ?_; refine ZK ?_; refine Z8 (hcon := hz) ?_; refine Zp ?_; refine Zi ?_; refine Z1 ?_
 refine Yv rfl rfl (fun hq => ?_) (fun hq => ?_); refine Zj ?_; refine Zj ?_; refine Zj ?_; refine Zj ?_; refine Zl ?_; refine Z0 ?_; refine JD ?_; refine JF ?_; refine X3 ?_; refine X0 ?_; refine JR ?_
 refine Z0 ?_; refine JD ?_; (clear hf hi hs hd hn hz hp; simp [XL, *] at hr; subst hr; exact X1 ⟨_, St.le_refl _, ⟨rfl, trivial⟩, X2 _⟩); refine Zy ?_; refine ZK ?_; refine Z8 (hcon := hp) ?_; refine Zp ?_
 refine Zi ?_; refine Z0 ?_; refine JD ?_; refine XB rfl (fun hq => ?_) (fun hq => ?_); refine X0 ?_; refine JR ?_; refine Z0 ?_; refine JD ?_
 (clear hf hi hs hd hn hz hp; simp [XL, *] at hr; subst hr; exact X1 ⟨_, St.le_refl _, ⟨rfl, trivial⟩, X2 _⟩); refine X3 ?_; refine X0 ?_; refine JR ?_; refine Z0 ?_; refine JD ?_
 (clear hf hi hs hd hn hz hp; simp [XL, *] at hr; subst hr; exact X1 ⟨_, St.le_refl _, ⟨rfl, trivial⟩, X2 _⟩); refine Zy ?_; refine ZK ?_; refine Z8 (hcon := hz) ?_; refine Zp ?_; refine Zi ?_; refine Zl ?_
 refine Z0 ?_; refine JD ?_; refine XB rfl (fun hq => ?_) (fun hq => ?_); refine X0 ?_; refine JR ?_; refine Z0 ?_; refine JD ?_
 (clear hf hi hs hd hn hz hp; simp [XL, *] at hr; subst hr; exact X1 ⟨_, St.le_refl _, ⟨rfl, trivial⟩, X2 _⟩); refine X0 ?_; refine JR ?_; refine Zy ?_; refine Zz ?_; refine Z1 ?_; refine Zj ?_
 refine Zj ?_; refine Zj ?_; refine Zj ?_; refine Zl ?_; refine Z0 ?_; refine JD ?_; refine JF ?_; refine X0 ?_; refine JR ?_; refine Zy ?_; refine Zz ?_; refine Z1 ?_; refine Zj ?_; refine Zj ?_; refine Zj ?_
 refine Zj ?_; refine Zl ?_; refine Z1 ?_; refine Zj ?_; refine Zj ?_; refine Zj ?_; refine Zj ?_; refine Zl ?_; refine Z0 ?_; refine JD ?_; refine JF ?_; refine X3 ?_; refine X0 ?_; refine JR ?_; refine Z0 ?_
 refine JD ?_; (clear hf hi hs hd hn hz hp; simp [XL, *] at hr; subst hr; exact X1 ⟨_, St.le_refl _, ⟨rfl, trivial⟩, X2 _⟩); refine Zj ?_; refine Zj ?_; refine Zj ?_; refine Zj ?_; refine Zk ?_; refine Zk ?_
 refine Zk ?_; refine Zk ?_; refine Zk ?_; refine Zk ?_; refine Zk ?_; refine Zk ?_; refine Zj ?_; refine Zi ?_; refine Z0 ?_; refine JD ?_; refine JT ?_; refine X0 ?_; refine JR ?_; refine Z0 ?_; refine JD ?_
 (clear hf hi hs hd hn hz hp; simp [XL, *] at hr; subst hr; exact X1 ⟨_, St.le_refl _, ⟨rfl, trivial⟩, X2 _⟩); refine Zj ?_; refine Zj ?_; refine Zj ?_; refine Zj ?_; refine Zi ?_; refine Zi ?_; refine Z1 ?_
 refine Zj ?_; refine Zj ?_; refine Zj ?_; refine Zj ?_; refine Zk ?_; refine Zk ?_; refine Zk ?_; refine Zk ?_; refine Zk ?_; refine Zk ?_; refine Zk ?_; refine Zk ?_; refine Zj ?_; refine Zi ?_; refine Z0 ?_
 refine JD ?_; refine JT ?_; refine X0 ?_; refine JR ?_; refine Z0 ?_; refine JD ?_; (clear hf hi hs hd hn hz hp; simp [XL, *] at hr; subst hr; exact X1 ⟨_, St.le_refl _, ⟨rfl, trivial⟩, X2 _⟩)
 refine Zj ?_; refine Zj ?_; refine Zj ?_; refine Zj ?_; refine Zj ?_; refine Zk ?_; refine Zk ?_; refine Zk ?_; refine Zk ?_; refine Zj ?_; refine Zl ?_; refine Z1 ?_; refine Zy ?_; refine Zz ?_; refine Zp ?_
 refine Z1 ?_; refine Zy ?_; refine Zz ?_; refine Zq ?_; refine Z1 ?_; refine XV rfl rfl (fun hq => ?_) (fun hq => ?_); refine Zj ?_; refine Zj ?_; refine Zj ?_; refine Zi ?_; refine Zi ?_; refine Zl ?_; refine Z0 ?_
 refine JD ?_; refine JT ?_; refine X0 ?_; refine JR ?_; refine Z0 ?_; refine JD ?_; (clear hf hi hs hd hn hz hp; simp [XL, *] at hr; subst hr; exact X1 ⟨_, St.le_refl _, ⟨rfl, trivial⟩, X2 _⟩)
 refine Zy ?_; refine Zz ?_; refine Zq ?_; refine Zl ?_; refine Zi ?_; refine Zl ?_; refine Z0 ?_; refine JD ?_; refine Vj rfl (fun hq => ?_) (fun hq => ?_); refine X0 ?_; refine JR ?_; refine Z0 ?_
 refine JD ?_; (clear hf hi hs hd hn hz hp; simp [XL, *] at hr; subst hr; exact X1 ⟨_, St.le_refl _, ⟨rfl, trivial⟩, X2 _⟩); refine X0 ?_; refine JR ?_; refine Zy ?_; refine Zz ?_; refine Zp ?_
 refine Z1 ?_; refine Yv rfl rfl (fun hq => ?_) (fun hq => ?_); refine Zj ?_; refine Zj ?_; refine Zj ?_; refine Zl ?_; refine Z1 ?_; refine Zy ?_; refine Zz ?_; refine Zp ?_; refine Z1 ?_
 refine Yv rfl rfl (fun hq => ?_) (fun hq => ?_); refine Zj ?_; refine Zj ?_; refine Zj ?_; refine Zj ?_; refine Zl ?_; refine Zl ?_; refine Z0 ?_; refine JD ?_; refine JF ?_; refine X0 ?_; refine JR ?_
 refine Zy ?_; refine Zz ?_; refine Z1 ?_; refine Zy ?_; refine Zz ?_; refine Z8 (hcon := hn) ?_; refine Zp ?_; refine Zi ?_; refine Z0 ?_; refine JD ?_; refine XB rfl (fun hq => ?_) (fun hq => ?_)
 refine X0 ?_; refine JR ?_; refine Z0 ?_; refine JD ?_; (clear hf hi hs hd hn hz hp; simp [XL, *] at hr; subst hr; exact X1 ⟨_, St.le_refl _, ⟨rfl, trivial⟩, X2 _⟩); refine X0 ?_; refine JR ?_
 refine Zy ?_; refine Zz ?_; refine Z1 ?_; refine Zy ?_; refine ZK ?_; refine Z8 (hcon := hz) ?_; refine Zp ?_; refine Zi ?_; refine Z1 ?_; refine Yv rfl rfl (fun hq => ?_) (fun hq => ?_); refine Zj ?_
 refine Zj ?_; refine Zj ?_; refine Zj ?_; refine Zl ?_; refine Z0 ?_; refine JD ?_; refine JF ?_; refine X3 ?_; refine X0 ?_; refine JR ?_; refine Z0 ?_; refine JD ?_
 (clear hf hi hs hd hn hz hp; simp [XL, *] at hr; subst hr; exact X1 ⟨_, St.le_refl _, ⟨rfl, trivial⟩, X2 _⟩); refine Zy ?_; refine ZK ?_; refine Z8 (hcon := hp) ?_; refine Zp ?_; refine Zi ?_; refine Z0 ?_
 refine JD ?_; refine XB rfl (fun hq => ?_) (fun hq => ?_); refine X0 ?_; refine JR ?_; refine Z0 ?_; refine JD ?_
 (clear hf hi hs hd hn hz hp; simp [XL, *] at hr; subst hr; exact X1 ⟨_, St.le_refl _, ⟨rfl, trivial⟩, X2 _⟩); refine X3 ?_; refine X0 ?_; refine JR ?_; refine Z0 ?_; refine JD ?_
 (clear hf hi hs hd hn hz hp; simp [XL, *] at hr; subst hr; exact X1 ⟨_, St.le_refl _, ⟨rfl, trivial⟩, X2 _⟩); refine Zy ?_; refine ZK ?_; refine Z8 (hcon := hz) ?_; refine Zp ?_; refine Zi ?_; refine Zl ?_
 refine Z0 ?_; refine JD ?_; refine XB rfl (fun hq => ?_) (fun hq => ?_); refine X0 ?_; refine JR ?_; refine Z0 ?_; refine JD ?_
 (clear hf hi hs hd hn hz hp; simp [XL, *] at hr; subst hr; exact X1 ⟨_, St.le_refl _, ⟨rfl, trivial⟩, X2 _⟩); refine X0 ?_; refine JR ?_; refine Zy ?_; refine Zz ?_; refine Z1 ?_; refine Zy ?_
 refine Zz ?_; refine Z8 (hcon := hn) ?_; refine Zp ?_; refine Zi ?_; refine Z0 ?_; refine JD ?_; refine XB rfl (fun hq => ?_) (fun hq => ?_); refine X0 ?_; refine JR ?_; refine Z0 ?_; refine JD ?_
 (clear hf hi hs hd hn hz hp; simp [XL, *] at hr; subst hr; exact X1 ⟨_, St.le_refl _, ⟨rfl, trivial⟩, X2 _⟩); refine X0 ?_; refine JR ?_; refine Zy ?_; refine Zz ?_; refine Z1 ?_; refine Zj ?_
 refine Zj ?_; refine Zj ?_; refine Zj ?_; refine Zl ?_; refine Z1 ?_; refine Zj ?_; refine Zj ?_; refine Zj ?_; refine Zj ?_; refine Zl ?_; refine Z0 ?_; refine JD ?_; refine JF ?_; refine X3 ?_; refine X0 ?_
 refine JR ?_; refine Z0 ?_; refine JD ?_; (clear hf hi hs hd hn hz hp; simp [XL, *] at hr; subst hr; exact X1 ⟨_, St.le_refl _, ⟨rfl, trivial⟩, X2 _⟩); refine Zy ?_; refine Zz ?_; refine ZL ?_; refine Zi ?_
 refine Z1 ?_; refine XV rfl rfl (fun hq => ?_) (fun hq => ?_); refine Zj ?_; refine Zj ?_; refine Zj ?_; refine Zj ?_; refine Zk ?_; refine Zk ?_; refine Zk ?_; refine Zk ?_; refine Zj ?_; refine Zi ?_; refine Z0 ?_
 refine JD ?_; refine JT ?_; refine X0 ?_; refine JR ?_; refine Z0 ?_; refine JD ?_; (clear hf hi hs hd hn hz hp; simp [XL, *] at hr; subst hr; exact X1 ⟨_, St.le_refl _, ⟨rfl, trivial⟩, X2 _⟩)
 refine Zy ?_; refine Zz ?_; refine Zp ?_; refine Z1 ?_; refine Yv rfl rfl (fun hq => ?_) (fun hq => ?_); refine Zj ?_; refine Zj ?_; refine Zj ?_; refine Zj ?_; refine Zl ?_; refine Zl ?_; refine Z0 ?_
 refine JD ?_; refine JF ?_; refine X0 ?_; refine JR ?_; refine Zy ?_; refine Zz ?_; refine Z1 ?_; refine Zj ?_; refine Zj ?_; refine Zj ?_; refine Zj ?_; refine Zl ?_; refine Z0 ?_; refine JD ?_; refine JF ?_
 refine X0 ?_; refine JR ?_; refine Zy ?_; refine Zz ?_; refine Z1 ?_; refine Zy ?_; refine ZK ?_; refine Z8 (hcon := hz) ?_; refine Zp ?_; refine Zi ?_; refine Z1 ?_
 refine Yv rfl rfl (fun hq => ?_) (fun hq => ?_); refine Zj ?_; refine Zj ?_; refine Zj ?_; refine Zj ?_; refine Zl ?_; refine Z0 ?_; refine JD ?_; refine JF ?_; refine X3 ?_; refine X0 ?_; refine JR ?_
 refine Z0 ?_; refine JD ?_; (clear hf hi hs hd hn hz hp; simp [XL, *] at hr; subst hr; exact X1 ⟨_, St.le_refl _, ⟨rfl, trivial⟩, X2 _⟩); refine Zy ?_; refine ZK ?_; refine Z8 (hcon := hp) ?_; refine Zp ?_
 refine Zi ?_; refine Z0 ?_; refine JD ?_; refine XB rfl (fun hq => ?_) (fun hq => ?_); refine X0 ?_; refine JR ?_; refine Z0 ?_; refine JD ?_
 (clear hf hi hs hd hn hz hp; simp [XL, *] at hr; subst hr; exact X1 ⟨_, St.le_refl _, ⟨rfl, trivial⟩, X2 _⟩); refine X3 ?_; refine X0 ?_; refine JR ?_; refine Z0 ?_; refine JD ?_
 (clear hf hi hs hd hn hz hp; simp [XL, *] at hr; subst hr; exact X1 ⟨_, St.le_refl _, ⟨rfl, trivial⟩, X2 _⟩); refine Zy ?_; refine ZK ?_; refine Z8 (hcon := hz) ?_; refine Zp ?_; refine Zi ?_; refine Zl ?_
 refine Z0 ?_; refine JD ?_; refine XB rfl (fun hq => ?_) (fun hq => ?_); refine X0 ?_; refine JR ?_; refine Z0 ?_; refine JD ?_
 (clear hf hi hs hd hn hz hp; simp [XL, *] at hr; subst hr; exact X1 ⟨_, St.le_refl _, ⟨rfl, trivial⟩, X2 _⟩); refine X0 ?_; refine JR ?_; refine Zy ?_; refine Zz ?_; refine Z1 ?_; refine Zj ?_
 refine Zj ?_; refine Zj ?_; refine Zj ?_; refine Zl ?_; refine Z0 ?_; refine JD ?_; refine JF ?_; refine X0 ?_; refine JR ?_; refine Zy ?_; refine Zz ?_; refine Z1 ?_; refine Zj ?_; refine Zj ?_; refine Zj ?_
 refine Zj ?_; refine Zl ?_; refine Z1 ?_; refine Zj ?_; refine Zj ?_; refine Zj ?_; refine Zj ?_; refine Zl ?_; refine Z0 ?_; refine JD ?_; refine JF ?_; refine X3 ?_; refine X0 ?_; refine JR ?_; refine Z0 ?_
 refine JD ?_; (clear hf hi hs hd hn hz hp; simp [XL, *] at hr; subst hr; exact X1 ⟨_, St.le_refl _, ⟨rfl, trivial⟩, X2 _⟩); refine Zj ?_; refine Zj ?_; refine Zj ?_; refine Zj ?_; refine Zi ?_; refine Z0 ?_
 refine JD ?_; refine JT ?_; refine X0 ?_; refine JR ?_; refine Z0 ?_; refine JD ?_; (clear hf hi hs hd hn hz hp; simp [XL, *] at hr; subst hr; exact X1 ⟨_, St.le_refl _, ⟨rfl, trivial⟩, X2 _⟩)
end Go.Fw
namespace Go.Fw
open Go
set_option linter.unusedVariables false
set_option linter.unusedSimpArgs false
def YG (b : List UInt8) (e : Int × Int) : Prop := e.2 = 0 → ∃ q : Nat, e.1 = (q : Int) ∧ q ≤ b.length
theorem X59 (b : List UInt8) (a : Int) : YG b (XC b a).2 := by
 intro h
 obtain ⟨k, rfl, hk, h1, h2, he⟩ := X6r h
 refine ⟨_, he, ?_⟩
 simp only [List.length_drop] at h1
 omega
theorem X00 (b : List UInt8) (a : Int) : YG b (Xf b a).2 := by
 intro h
 unfold Xf at h ⊢
 simp only at h ⊢
 split
 ·rename_i h1; rw [if_pos h1] at h; exact absurd h h1
 rename_i h1; rw [if_neg h1] at h
 split
 ·rename_i h2; rw [if_pos h2] at h; simp at h
 rename_i h2; rw [if_neg h2] at h
 split
 ·rename_i h3; rw [if_pos h3] at h; simp at h
 exact X59 b a (Classical.not_not.1 h1)
theorem X1W (b : List UInt8) (a : Int) : ∃ n : Nat, (Xf b a).1 = n := by
 unfold Xf
 simp only
 split
 ·exact ⟨0, rfl⟩
 split
 ·exact ⟨0, rfl⟩
 split
 ·exact ⟨0, rfl⟩
 exact ⟨_, rfl⟩
theorem X8n {b : List UInt8} {a : Int} (h : (Xf b a).2.2 ≠ 0) : (Xf b a).1 = 0 := by
 unfold Xf at h ⊢
 simp only at h ⊢
 split
 ·rfl
 rename_i h1; rw [if_neg h1] at h
 split
 ·rfl
 rename_i h2; rw [if_neg h2] at h
 split
 ·rfl
 rename_i h3; rw [if_neg h3] at h
 simp at h
theorem X2t (b : List UInt8) (a : Int) : YG b (Xn b a).2 := by
 intro h
 unfold Xn at h ⊢
 simp only at h ⊢
 split
 ·rename_i h1; rw [if_pos h1] at h; exact absurd h h1
 rename_i h1; rw [if_neg h1] at h
 split
 ·rename_i h3; rw [if_pos h3] at h; simp at h
 exact X59 b a (Classical.not_not.1 h1)
theorem Xaj {b : List UInt8} {a : Int} (h : (Xn b a).2.2 ≠ 0) : (Xn b a).1 = 0 := by
 unfold Xn at h ⊢
 simp only at h ⊢
 split
 ·rfl
 rename_i h1; rw [if_neg h1] at h
 split
 ·rfl
 rename_i h3; rw [if_neg h3] at h
 simp at h
theorem Xa0 (b : List UInt8) (a most : Int) : YG b (Ye b a most).2 := by
 intro h
 have hu := X00 b a
 obtain ⟨n, hn⟩ := X1W b a
 unfold Ye at h ⊢
 simp only at h ⊢
 split
 ·rename_i h1; rw [if_pos h1] at h; exact absurd h h1
 rename_i h1; rw [if_neg h1] at h
 split
 ·rename_i h2; rw [if_pos h2] at h; simp at h
 rename_i h2; rw [if_neg h2] at h
 split
 ·rename_i h3; rw [if_pos h3] at h; simp at h
 rename_i h3
 obtain ⟨q, hq, hql⟩ := hu (Classical.not_not.1 h1)
 rw [hn] at h3 ⊢
 rw [hq] at h3 ⊢
 exact ⟨q + n, by simp, by omega⟩
section
variable {g : Nat → Int → Val × Int × Int} {a : Int}
theorem VL {k : Nat} (h : (Xr g a k).2.2 = 0) : Xr g a (k + 1) = ((Xr g a k).1 ++ [(g k (Xr g a k).2.1).1], (g k (Xr g a k).2.1).2.1, (g k (Xr g a k).2.1).2.2) := by
 rw [Xr]; simp [h]
theorem X0q {k : Nat} (h : (Xr g a k).2.2 ≠ 0) : ∀ j, k ≤ j → Xr g a j = Xr g a k
 | 0, hj => by obtain rfl : k = 0 := by omega
               rfl
 | j + 1, hj => by
  by_cases e : k = j + 1
  ·rw [e]
  ·have := X0q h j (by omega)
   rw [Xr, this]; simp [h]
theorem X9f {k : Nat} (h : (Xr g a k).2.2 = 0) : (Xr g a k).1.length = k := by
 induction k with
 | zero => rfl
 | succ k ih =>
  by_cases e : (Xr g a k).2.2 = 0
  ·rw [VL e]; simp [ih e]
  ·rw [X0q e (k + 1) (by omega)] at h; exact absurd h e
theorem X15 {b : List UInt8} (hg : ∀ i q : Nat, q ≤ b.length → YG b (g i q).2) (h0 : ∃ q : Nat, a = (q : Int) ∧ q ≤ b.length) : ∀ k, YG b (Xr g a k).2
 | 0 => fun _ => h0
 | k + 1 => by
  by_cases e : (Xr g a k).2.2 = 0
  ·rw [VL e]
   obtain ⟨q, h1, h2⟩ := X15 hg h0 k e
   intro h
   rw [h1] at h ⊢
   exact hg k q h2 h
  ·intro h; rw [X0q e (k + 1) (by omega)] at h; exact absurd h e
theorem X4G {k : Nat} (h : (Xr g a k).2.2 = 0) : (Xr g a (k + 1)).1.length = k + 1 := by
 rw [VL h]; simp [X9f h]
end
theorem X7c {gl gp : Nat → Int → Val × Int × Int} {b : List UInt8} (hgl : ∀ i q : Nat, q ≤ b.length → YG b (gl i q).2) (hgp : ∀ i q : Nat, q ≤ b.length → YG b (gp i q).2) (a : Nat) (ha : a ≤ b.length) (k : Int) : YG b (XW gl gp b a k).2 := by
 unfold XW
 split
 ·exact X2t b a
 split
 ·simp only
  split
  ·exact X2t b a
  ·exact X2t b _
 split
 ·exact Xa0 b a 100
 split
 ·simp only
  split
  ·exact X00 b a
  rename_i h1
  split
  ·intro h; simp at h
  ·have h0 := X00 b a (Classical.not_not.1 h1)
   split
   ·exact X15 hgl h0 _
   ·exact X15 hgp h0 _
 ·exact fun _ => ⟨a, rfl, ha⟩
theorem X2J {gl gp : Nat → Int → Val × Int × Int} {b : List UInt8} (hgl : ∀ i q : Nat, q ≤ b.length → YG b (gl i q).2) (hgp : ∀ i q : Nat, q ≤ b.length → YG b (gp i q).2) (m a : Nat) (ha : a ≤ b.length) (want : Int) : YG b (Yt gl gp m b a want).2 := by
 unfold Yt
 split
 ·intro h; simp at h
 simp only
 split
 ·intro h; simp at h
 ·rename_i h1 h2
  have := X7c hgl hgp (a + 1) (by omega) ((((b[(a : Int).toNat]?).getD 0).toNat : Nat) : Int)
  rw [Int.natCast_add] at this
  split
  ·intro h; simp at h
  ·exact this
theorem X0c {b : List UInt8} (i q : Nat) : YG b (noG i q).2 := fun h => by simp [noG] at h
theorem X1z {b : List UInt8} (i q : Nat) (h : q ≤ b.length) : YG b (UI b i q).2 :=
 X2J (fun i q _ => X0c i q) (fun i q _ => X0c i q) 0 q h _
theorem X3Q {b : List UInt8} : ∀ (m q : Nat), q ≤ b.length → YG b (Uo b m q).2
 | 0, q, h => X2J (fun i q _ => X0c i q) (fun i q h => X1z i q h) 0 q h _
 | m + 1, q, h => X2J (fun i q h => X3Q m q h) (fun i q h => X1z i q h) (m + 1) q h _
end Go.Fw
namespace Go.Fw
open Go
set_option linter.unusedVariables false
set_option linter.unusedSimpArgs false
theorem X2P : ∀ {l : List Val}, (∀ x ∈ l, XU x) → Vq l
 | [], _ => by rw [Vq]; trivial
 | v :: r, h => by
  rw [Vq]
  exact ⟨h v (List.mem_cons_self ..), X2P fun x hx => h x (List.mem_cons_of_mem _ hx)⟩
theorem X7s {m : Nat} {k n d : Int} {s : List UInt8} {l : List Val} (h : X6 m (.mk k n d s l) = true) : s.length ≤ 100 ∧ l.length ≤ 64 := by
 rw [X6] at h
 by_cases h4 : k = 4
 ·subst h4; simp at h; exact ⟨by omega, by rw [h.1.2]; simp⟩
 by_cases h7 : k = 7
 ·subst h7; simp at h; exact ⟨by rw [h.1.2]; simp, by omega⟩
 by_cases h8 : k = 8
 ·subst h8; simp at h; exact ⟨by rw [h.1.2]; simp, by omega⟩
 simp [h4, h7, h8] at h
 exact ⟨by rw [h.1.1.2]; simp, by rw [h.1.2]; simp⟩
theorem X3N : ∀ (v : Val) (m : Nat), X6 m v = true → XU v
 | .mk k n d s l, m, h => by
  have h1 := X7s h
  rw [XU]
  exact ⟨by omega, by omega, X2P fun x hx => X3N x m (X3P h x hx)⟩
termination_by v => SizeOf.sizeOf v
decreasing_by
 have h1 := List.sizeOf_lt_of_mem (show x ∈ l from hx)
 simp only [Val.mk.sizeOf_spec]
 omega
theorem X9z {gl gp : Nat → Int → Val × Int × Int} {m : Nat} {b : List UInt8} {a want : Int} (h : (Yt gl gp m b a want).2.2 = 0) : X6 8 (Yt gl gp m b a want).1 = true := by
 unfold Yt at h ⊢
 split
 ·rename_i h1; rw [if_pos h1] at h; simp at h
 rename_i h1
 rw [if_neg h1] at h
 simp only at h ⊢
 split
 ·rename_i h2; rw [if_pos h2] at h; simp at h
 rename_i h2
 rw [if_neg h2] at h
 split
 ·rename_i h3; rw [if_pos h3] at h; simp at h
 rename_i h3
 rw [if_neg h3] at h
 cases hv : X6 8 (XW gl gp b (a + 1) ((((b[a.toNat]?).getD 0).toNat : Nat) : Int)).1 with
 | true => rfl
 | false => exact absurd ⟨h, hv⟩ h3
theorem X9H (b : List UInt8) (a most : Int) (hm : 0 ≤ most) : ((Ye b a most).1.length : Int) ≤ most := by
 obtain ⟨n, hn⟩ := X1W b a
 unfold Ye
 simp only
 split
 ·simpa using hm
 split
 ·simpa using hm
 split
 ·simpa using hm
 ·rename_i h1 h2 h3
  rw [hn] at h2 ⊢
  simp
  omega
end Go.Fw
namespace Go.Fw
open Go
set_option linter.unusedVariables false
theorem VW {n : Nat} (h : n ≤ 300) : (Xk n).length ≤ 10 := by
 rw [Vd (by omega)]
 exact Vv (by omega)
theorem X0H {n : Int} (h : -9223372036854775808 ≤ n ∧ n ≤ 9223372036854775807) : (XF n).length ≤ 10 := Vv (X5w h)
theorem X7H {m : Nat} {k n d : Int} {s : List UInt8} {l : List Val} (h : X6 m (.mk k n d s l) = true) (h7 : k ≠ 7) (h8 : k ≠ 8) : (Xq (.mk k n d s l)).length ≤ 111 := by
 rw [X6] at h
 rw [Xq]
 simp only [List.length_cons]
 by_cases h1 : k = 1 ∨ k = 2 ∨ k = 5 ∨ k = 6
 ·rw [if_pos h1]
  have hn : -9223372036854775808 ≤ n ∧ n ≤ 9223372036854775807 := by
   rcases h1 with rfl | rfl | rfl | rfl <;> simp at h <;> omega
  have := X0H hn
  omega
 rw [if_neg h1]
 by_cases h3 : k = 3
 ·subst h3
  rw [if_pos rfl]
  have hnd : (-9223372036854775808 ≤ n ∧ n ≤ 9223372036854775807) ∧ -9223372036854775808 ≤ d ∧ d ≤ 9223372036854775807 := by simp [YV] at h; omega
  have h5 := X0H hnd.1
  have h6 := X0H hnd.2
  rw [List.length_append]
  omega
 rw [if_neg h3]
 by_cases h4 : k = 4
 ·subst h4
  rw [if_pos rfl]
  have hs : s.length ≤ 100 := by simp at h; omega
  have := VW (n := s.length) (by omega)
  unfold Xo
  rw [List.length_append]
  omega
 rw [if_neg h4, if_neg (by omega)]
 simp
theorem X49 {m : Nat} {n d : Int} {s : List UInt8} {l : List Val} (h : X6 m (.mk 8 n d s l) = true) : l.length ≤ 64 ∧ 1 ≤ m ∧ Yk (m - 1) l = true := by
 rw [X6] at h
 simp at h
 exact ⟨h.2.1.2.1, by omega, h.2.2⟩
end Go.Fw
namespace Go.Fw
open Go Go.Proofs
set_option maxRecDepth 100000
set_option linter.unusedVariables false
set_option linter.unusedSimpArgs false
theorem X2X {c : Chg} (h : Y9 c = 0) : (1 ≤ c.op ∧ c.op ≤ 8) ∧ (1 ≤ c.id ∧ c.id ≤ 1000000) ∧ (c.op = 6 → (1 ≤ c.src ∧ c.src ≤ 1000000) ∧ 1 ≤ c.dst ∧ c.dst ≤ 1000000) ∧ (XT c.op = true → c.name.length ≤ 20) ∧
  (XP c.op = true → X6 8 c.v = true ∧ (Xq c.v).length ≤ 111) := by
 unfold Y9 at h
 split at h
 ·omega
 rename_i h1
 split at h
 ·omega
 rename_i h2
 split at h
 ·omega
 rename_i h3
 split at h
 ·omega
 rename_i h4
 split at h
 ·omega
 rename_i h5
 have i1 : decide (1 ≤ c.op ∧ c.op ≤ 8) = true := by
  cases hd : decide (1 ≤ c.op ∧ c.op ≤ 8) with
  | true => rfl
  | false => exact absurd (.inl hd) h1
 have i2 : idV c.id = true := by
  cases hd : idV c.id with
  | true => rfl
  | false => exact absurd (.inr hd) h1
 refine ⟨of_decide_eq_true i1, of_decide_eq_true i2, fun h6 => ?_, fun hn => ?_, fun hv => ?_⟩
 ·have j1 : idV c.src = true := by
   cases hd : idV c.src with
   | true => rfl
   | false => exact absurd (.inl ⟨h6, .inl hd⟩) h2
  have j2 : idV c.dst = true := by
   cases hd : idV c.dst with
   | true => rfl
   | false => exact absurd (.inl ⟨h6, .inr hd⟩) h2
  exact ⟨of_decide_eq_true j1, of_decide_eq_true j2⟩
 ·have j1 : XM c.name = true := by
   cases hd : XM c.name with
   | true => rfl
   | false => exact absurd ⟨hn, hd⟩ h4
  unfold XM at j1
  simp at j1
  omega
 ·have j1 : X6 8 c.v = true ∧ (c.v.kind = 0 ∨ c.v.kind = 1 ∨ c.v.kind = 2 ∨ c.v.kind = 4) := by
   cases hz : Uq c.v with
   | true =>
    unfold Uq at hz
    simp at hz
    exact ⟨hz.1, .inl hz.2⟩
   | false =>
    cases hp : Vt c.v with
    | true =>
     unfold Vt X21 at hp
     simp at hp
     exact ⟨hp.2, .inr hp.1⟩
    | false => exact absurd ⟨hv, hz, hp⟩ h5
  obtain ⟨op, id, src, dst, name, ⟨k, n, d, s, l⟩⟩ := c
  simp only [Val.kind] at j1 ⊢
  exact ⟨j1.1, X7H j1.1 (by omega) (by omega)⟩
def V9 (op : Int) : Bool × Bool × Bool := (decide (op = 6), decide (op ≠ 1 ∧ op ≠ 2 ∧ op ≠ 7), decide (op ≠ 1 ∧ op ≠ 2 ∧ op ≠ 7 ∧ op ≠ 3 ∧ op ≠ 4 ∧ op ≠ 6))
theorem X5W (op : Int) : Con Tryd.prog 28 [] [ai op] [] (.tup [ab (V9 op).1, ab (V9 op).2.1, ab (V9 op).2.2]) := by
 refine Xb (xs := [ab (V9 op).1, ab (V9 op).2.1, ab (V9 op).2.2]) Tryd.func28 rfl Tryd.ntmps28 rfl rfl rfl (fun E => ?_)
 by_cases k1 : op = 1
 ·subst k1
  repeat first | refine X0 ?_ | (refine JR ?_; (repeat first | refine Z1 ?_ | refine Z0 ?_ | refine Zs ?_); refine JD ?_) | refine JT ?_ | refine X5 ?_ | refine X3 ?_
  exact X1 ⟨_, St.le_refl _, ⟨rfl, rfl, rfl, trivial⟩, X2 _⟩
 by_cases k2 : op = 2
 ·subst k2
  repeat first | refine X0 ?_ | (refine JR ?_; (repeat first | refine Z1 ?_ | refine Z0 ?_ | refine Zs ?_); refine JD ?_) | refine JT ?_ | refine JF ?_ | refine X5 ?_ | refine X3 ?_
  exact X1 ⟨_, St.le_refl _, ⟨rfl, rfl, rfl, trivial⟩, X2 _⟩
 by_cases k7 : op = 7
 ·subst k7
  repeat first | refine X0 ?_ | (refine JR ?_; (repeat first | refine Z1 ?_ | refine Z0 ?_ | refine Zs ?_); refine JD ?_) | refine JT ?_ | refine JF ?_ | refine X5 ?_
  exact X1 ⟨_, St.le_refl _, ⟨rfl, rfl, rfl, trivial⟩, X2 _⟩
 by_cases k3 : op = 3
 ·subst k3
  repeat first | refine X0 ?_ | (refine JR ?_; (repeat first | refine Z1 ?_ | refine Z0 ?_ | refine Zs ?_); refine JD ?_) | refine JT ?_ | refine JF ?_ | refine X5 ?_ | refine X3 ?_
  exact X1 ⟨_, St.le_refl _, ⟨rfl, rfl, rfl, trivial⟩, X2 _⟩
 by_cases k4 : op = 4
 ·subst k4
  repeat first | refine X0 ?_ | (refine JR ?_; (repeat first | refine Z1 ?_ | refine Z0 ?_ | refine Zs ?_); refine JD ?_) | refine JT ?_ | refine JF ?_ | refine X5 ?_
  exact X1 ⟨_, St.le_refl _, ⟨rfl, rfl, rfl, trivial⟩, X2 _⟩
 by_cases k6 : op = 6
 ·subst k6
  repeat first | refine X0 ?_ | (refine JR ?_; (repeat first | refine Z1 ?_ | refine Z0 ?_ | refine Zs ?_); refine JD ?_) | refine JT ?_ | refine JF ?_ | refine X5 ?_
  exact X1 ⟨_, St.le_refl _, ⟨rfl, rfl, rfl, trivial⟩, X2 _⟩
 rw [show V9 op = (false, true, true) by unfold V9; rw [decide_eq_false (by omega), decide_eq_true (by omega), decide_eq_true (by omega)]]
 repeat first | refine X0 ?_ | (refine JR ?_; (repeat first | refine Z1 ?_ | refine Z0 ?_ | refine Zs ?_); refine JD ?_) | refine JF ?_ | refine X5 ?_ | refine X3 ?_
 exact X1 ⟨_, St.le_refl _, ⟨rfl, rfl, rfl, trivial⟩, X2 _⟩
theorem X7O (c : Chg) (h : Y9 c = 0) : Con Tryd.prog 21 [] [Xy c] [(130, .row 1 ((XI c).map Xa))] (.own 130 ((XI c).map Xa).length) := by
 obtain ⟨⟨hop1, hop2⟩, hid, hsd, hnm, hvl⟩ := X2X h
 obtain ⟨op, id, src, dst, name, v⟩ := c
 simp only at hop1 hop2 hid hsd hnm hvl
 have hpi := Vu id (by omega)
 have hli : (Xk id).length ≤ 10 := by rw [Vd (by omega)]; exact Vv (by omega)
 have hf := X5W op
 clear h
 by_cases k1 : op = 1
 ·subst k1
  clear hop1 hop2
  have hput : XI ⟨1, id, src, dst, name, v⟩ = UInt8.ofNat 1 :: (Xk id) := by unfold XI; simp [XT, XP]
  rw [hput]
  clear hput
  generalize Xk id = w0 at *
  obtain ⟨vk, vn, vd, vs, vl⟩ := v
  simp only [Xy, Xh] at *
  refine Xb (xs := [.own 130 ((UInt8.ofNat 1 :: (w0)).map Xa).length]) Tryd.func21 rfl Tryd.ntmps21 rfl rfl rfl (fun E => ?_)
  repeat first | refine X0 ?_ | (refine JR ?_; (repeat first | refine Z3 (u := nj 1) (r := n8 1) ?_ (hr := by exact Yi rfl rfl) | refine ZX (γ := 130) ?_ | refine Z1 ?_ | refine Z0 ?_ | refine Zy ?_ | refine Zz ?_ | refine Zx (γ := 100) ?_ | refine ZC ?_ | refine Z6 ?_ | refine Z8 (hcon := hf) ?_ | refine Z8 (hcon := hpi) ?_); refine JD ?_) | refine JF ?_ | refine X3 ?_
  refine X1 ⟨_, Xi 2 (y := .own 130 ((UInt8.ofNat 1 :: (w0)).map Xa).length) (AVal.le_of_eq ?_), ⟨rfl, trivial⟩, Xc ⟨?_, trivial⟩⟩
  ·refine Eq.trans (b := AVal.own 130 (_ + _)) rfl ?_
   congr 1
   simp only [List.length_append, List.length_map, List.length_cons, List.length_nil] <;> omega
  ·refine Eq.trans (b := AObj.row 1 (_ ++ _)) rfl ?_
   simp only [List.map_append, List.map_cons, List.map_nil, List.append_assoc, List.cons_append, List.nil_append] <;> rfl
 by_cases k2 : op = 2
 ·subst k2
  clear hop1 hop2
  have hput : XI ⟨2, id, src, dst, name, v⟩ = UInt8.ofNat 2 :: (Xk id) := by unfold XI; simp [XT, XP]
  rw [hput]
  clear hput
  generalize Xk id = w0 at *
  obtain ⟨vk, vn, vd, vs, vl⟩ := v
  simp only [Xy, Xh] at *
  refine Xb (xs := [.own 130 ((UInt8.ofNat 2 :: (w0)).map Xa).length]) Tryd.func21 rfl Tryd.ntmps21 rfl rfl rfl (fun E => ?_)
  repeat first | refine X0 ?_ | (refine JR ?_; (repeat first | refine Z3 (u := nj 2) (r := n8 2) ?_ (hr := by exact Yi rfl rfl) | refine ZX (γ := 130) ?_ | refine Z1 ?_ | refine Z0 ?_ | refine Zy ?_ | refine Zz ?_ | refine Zx (γ := 100) ?_ | refine ZC ?_ | refine Z6 ?_ | refine Z8 (hcon := hf) ?_ | refine Z8 (hcon := hpi) ?_); refine JD ?_) | refine JF ?_ | refine X3 ?_
  refine X1 ⟨_, Xi 2 (y := .own 130 ((UInt8.ofNat 2 :: (w0)).map Xa).length) (AVal.le_of_eq ?_), ⟨rfl, trivial⟩, Xc ⟨?_, trivial⟩⟩
  ·refine Eq.trans (b := AVal.own 130 (_ + _)) rfl ?_
   congr 1
   simp only [List.length_append, List.length_map, List.length_cons, List.length_nil] <;> omega
  ·refine Eq.trans (b := AObj.row 1 (_ ++ _)) rfl ?_
   simp only [List.map_append, List.map_cons, List.map_nil, List.append_assoc, List.cons_append, List.nil_append] <;> rfl
 by_cases k3 : op = 3
 ·subst k3
  clear hop1 hop2
  have hnm := hnm rfl
  have hpn := VB name (by omega)
  have hln : (Xo name).length ≤ 30 := by
   have := VW (n := name.length) (by omega)
   unfold Xo
   rw [List.length_append]
   omega
  have hput : XI ⟨3, id, src, dst, name, v⟩ = UInt8.ofNat 3 :: (Xk id ++ Xo name) := by unfold XI; simp [XT, XP]
  rw [hput]
  clear hput
  generalize Xk id = w0 at *
  generalize Xo name = w1 at *
  obtain ⟨vk, vn, vd, vs, vl⟩ := v
  simp only [Xy, Xh] at *
  refine Xb (xs := [.own 130 ((UInt8.ofNat 3 :: (w0 ++ w1)).map Xa).length]) Tryd.func21 rfl Tryd.ntmps21 rfl rfl rfl (fun E => ?_)
  repeat first | refine X0 ?_ | (refine JR ?_; (repeat first | refine Z3 (u := nj 3) (r := n8 3) ?_ (hr := by exact Yi rfl rfl) | refine ZX (γ := 130) ?_ | refine Z1 ?_ | refine Z0 ?_ | refine Zy ?_ | refine Zz ?_ | refine Zx (γ := 100) ?_ | refine ZC ?_ | refine Z6 ?_ | refine Z8 (hcon := hf) ?_ | refine Z8 (hcon := hpi) ?_ | refine Z8 (hcon := hpn) ?_); refine JD ?_) | refine JT ?_ | refine JF ?_ | refine X3 ?_
  refine X1 ⟨_, Xi 2 (y := .own 130 ((UInt8.ofNat 3 :: (w0 ++ w1)).map Xa).length) (AVal.le_of_eq ?_), ⟨rfl, trivial⟩, Xc ⟨?_, trivial⟩⟩
  ·refine Eq.trans (b := AVal.own 130 (_ + _)) rfl ?_
   congr 1
   simp only [List.length_append, List.length_map, List.length_cons, List.length_nil] <;> omega
  ·refine Eq.trans (b := AObj.row 1 (_ ++ _)) rfl ?_
   simp only [List.map_append, List.map_cons, List.map_nil, List.append_assoc, List.cons_append, List.nil_append] <;> rfl
 by_cases k4 : op = 4
 ·subst k4
  clear hop1 hop2
  have hnm := hnm rfl
  have hpn := VB name (by omega)
  have hln : (Xo name).length ≤ 30 := by
   have := VW (n := name.length) (by omega)
   unfold Xo
   rw [List.length_append]
   omega
  have hput : XI ⟨4, id, src, dst, name, v⟩ = UInt8.ofNat 4 :: (Xk id ++ Xo name) := by unfold XI; simp [XT, XP]
  rw [hput]
  clear hput
  generalize Xk id = w0 at *
  generalize Xo name = w1 at *
  obtain ⟨vk, vn, vd, vs, vl⟩ := v
  simp only [Xy, Xh] at *
  refine Xb (xs := [.own 130 ((UInt8.ofNat 4 :: (w0 ++ w1)).map Xa).length]) Tryd.func21 rfl Tryd.ntmps21 rfl rfl rfl (fun E => ?_)
  repeat first | refine X0 ?_ | (refine JR ?_; (repeat first | refine Z3 (u := nj 4) (r := n8 4) ?_ (hr := by exact Yi rfl rfl) | refine ZX (γ := 130) ?_ | refine Z1 ?_ | refine Z0 ?_ | refine Zy ?_ | refine Zz ?_ | refine Zx (γ := 100) ?_ | refine ZC ?_ | refine Z6 ?_ | refine Z8 (hcon := hf) ?_ | refine Z8 (hcon := hpi) ?_ | refine Z8 (hcon := hpn) ?_); refine JD ?_) | refine JT ?_ | refine JF ?_ | refine X3 ?_
  refine X1 ⟨_, Xi 2 (y := .own 130 ((UInt8.ofNat 4 :: (w0 ++ w1)).map Xa).length) (AVal.le_of_eq ?_), ⟨rfl, trivial⟩, Xc ⟨?_, trivial⟩⟩
  ·refine Eq.trans (b := AVal.own 130 (_ + _)) rfl ?_
   congr 1
   simp only [List.length_append, List.length_map, List.length_cons, List.length_nil] <;> omega
  ·refine Eq.trans (b := AObj.row 1 (_ ++ _)) rfl ?_
   simp only [List.map_append, List.map_cons, List.map_nil, List.append_assoc, List.cons_append, List.nil_append] <;> rfl
 by_cases k5 : op = 5
 ·subst k5
  clear hop1 hop2
  have hnm := hnm rfl
  have hpn := VB name (by omega)
  have hln : (Xo name).length ≤ 30 := by
   have := VW (n := name.length) (by omega)
   unfold Xo
   rw [List.length_append]
   omega
  have hvl := hvl rfl
  have hpv := X4Z v (by omega)
  have hlv : (Y4 v).length ≤ 111 := by
   unfold Y4
   rw [if_pos hvl.1]
   exact hvl.2
  have hput : XI ⟨5, id, src, dst, name, v⟩ = UInt8.ofNat 5 :: (Xk id ++ Xo name ++ Y4 v) := by unfold XI; simp [XT, XP]
  rw [hput]
  clear hput
  generalize Xk id = w0 at *
  generalize Xo name = w1 at *
  generalize Y4 v = w2 at *
  obtain ⟨vk, vn, vd, vs, vl⟩ := v
  simp only [Xy, Xh] at *
  refine Xb (xs := [.own 130 ((UInt8.ofNat 5 :: (w0 ++ w1 ++ w2)).map Xa).length]) Tryd.func21 rfl Tryd.ntmps21 rfl rfl rfl (fun E => ?_)
  repeat first | refine X0 ?_ | (refine JR ?_; (repeat first | refine Z3 (u := nj 5) (r := n8 5) ?_ (hr := by exact Yi rfl rfl) | refine ZX (γ := 130) ?_ | refine Z1 ?_ | refine Z0 ?_ | refine Zy ?_ | refine Zz ?_ | refine ZK ?_ | refine Zx (γ := 100) ?_ | refine ZC ?_ | refine Z6 ?_ | refine Z8 (hcon := hf) ?_ | refine Z8 (hcon := hpi) ?_ | refine Z8 (hcon := hpn) ?_ | refine Z8 (hcon := hpv) ?_); refine JD ?_) | refine JT ?_ | refine JF ?_ | refine X3 ?_
  refine X1 ⟨_, Xi 2 (y := .own 130 ((UInt8.ofNat 5 :: (w0 ++ w1 ++ w2)).map Xa).length) (AVal.le_of_eq ?_), ⟨rfl, trivial⟩, Xc ⟨?_, trivial⟩⟩
  ·refine Eq.trans (b := AVal.own 130 (_ + _)) rfl ?_
   congr 1
   simp only [List.length_append, List.length_map, List.length_cons, List.length_nil] <;> omega
  ·refine Eq.trans (b := AObj.row 1 (_ ++ _)) rfl ?_
   simp only [List.map_append, List.map_cons, List.map_nil, List.append_assoc, List.cons_append, List.nil_append] <;> rfl
 by_cases k6 : op = 6
 ·subst k6
  clear hop1 hop2
  have hsd := hsd rfl
  have hps := Vu src (by omega)
  have hpd := Vu dst (by omega)
  have hls : (Xk src).length ≤ 10 := by rw [Vd (by omega)]; exact Vv (by omega)
  have hld : (Xk dst).length ≤ 10 := by rw [Vd (by omega)]; exact Vv (by omega)
  have hnm := hnm rfl
  have hpn := VB name (by omega)
  have hln : (Xo name).length ≤ 30 := by
   have := VW (n := name.length) (by omega)
   unfold Xo
   rw [List.length_append]
   omega
  have hput : XI ⟨6, id, src, dst, name, v⟩ = UInt8.ofNat 6 :: (Xk id ++ Xk src ++ Xk dst ++ Xo name) := by unfold XI; simp [XT, XP]
  rw [hput]
  clear hput
  generalize Xk id = w0 at *
  generalize Xk src = w1 at *
  generalize Xk dst = w2 at *
  generalize Xo name = w3 at *
  obtain ⟨vk, vn, vd, vs, vl⟩ := v
  simp only [Xy, Xh] at *
  refine Xb (xs := [.own 130 ((UInt8.ofNat 6 :: (w0 ++ w1 ++ w2 ++ w3)).map Xa).length]) Tryd.func21 rfl Tryd.ntmps21 rfl rfl rfl (fun E => ?_)
  repeat first | refine X0 ?_ | (refine JR ?_; (repeat first | refine Z3 (u := nj 6) (r := n8 6) ?_ (hr := by exact Yi rfl rfl) | refine ZX (γ := 130) ?_ | refine Z1 ?_ | refine Z0 ?_ | refine Zy ?_ | refine Zz ?_ | refine Zx (γ := 100) ?_ | refine ZC ?_ | refine Z6 ?_ | refine Z8 (hcon := hf) ?_ | refine Z8 (hcon := hpi) ?_ | refine Z8 (hcon := hps) ?_ | refine Z8 (hcon := hpd) ?_ | refine Z8 (hcon := hpn) ?_); refine JD ?_) | refine JT ?_ | refine JF ?_ | refine X3 ?_
  refine X1 ⟨_, Xi 2 (y := .own 130 ((UInt8.ofNat 6 :: (w0 ++ w1 ++ w2 ++ w3)).map Xa).length) (AVal.le_of_eq ?_), ⟨rfl, trivial⟩, Xc ⟨?_, trivial⟩⟩
  ·refine Eq.trans (b := AVal.own 130 (_ + _)) rfl ?_
   congr 1
   simp only [List.length_append, List.length_map, List.length_cons, List.length_nil] <;> omega
  ·refine Eq.trans (b := AObj.row 1 (_ ++ _)) rfl ?_
   simp only [List.map_append, List.map_cons, List.map_nil, List.append_assoc, List.cons_append, List.nil_append] <;> rfl
 by_cases k7 : op = 7
 ·subst k7
  clear hop1 hop2
  have hput : XI ⟨7, id, src, dst, name, v⟩ = UInt8.ofNat 7 :: (Xk id) := by unfold XI; simp [XT, XP]
  rw [hput]
  clear hput
  generalize Xk id = w0 at *
  obtain ⟨vk, vn, vd, vs, vl⟩ := v
  simp only [Xy, Xh] at *
  refine Xb (xs := [.own 130 ((UInt8.ofNat 7 :: (w0)).map Xa).length]) Tryd.func21 rfl Tryd.ntmps21 rfl rfl rfl (fun E => ?_)
  repeat first | refine X0 ?_ | (refine JR ?_; (repeat first | refine Z3 (u := nj 7) (r := n8 7) ?_ (hr := by exact Yi rfl rfl) | refine ZX (γ := 130) ?_ | refine Z1 ?_ | refine Z0 ?_ | refine Zy ?_ | refine Zz ?_ | refine Zx (γ := 100) ?_ | refine ZC ?_ | refine Z6 ?_ | refine Z8 (hcon := hf) ?_ | refine Z8 (hcon := hpi) ?_); refine JD ?_) | refine JF ?_ | refine X3 ?_
  refine X1 ⟨_, Xi 2 (y := .own 130 ((UInt8.ofNat 7 :: (w0)).map Xa).length) (AVal.le_of_eq ?_), ⟨rfl, trivial⟩, Xc ⟨?_, trivial⟩⟩
  ·refine Eq.trans (b := AVal.own 130 (_ + _)) rfl ?_
   congr 1
   simp only [List.length_append, List.length_map, List.length_cons, List.length_nil] <;> omega
  ·refine Eq.trans (b := AObj.row 1 (_ ++ _)) rfl ?_
   simp only [List.map_append, List.map_cons, List.map_nil, List.append_assoc, List.cons_append, List.nil_append] <;> rfl
 by_cases k8 : op = 8
 ·subst k8
  clear hop1 hop2
  have hnm := hnm rfl
  have hpn := VB name (by omega)
  have hln : (Xo name).length ≤ 30 := by
   have := VW (n := name.length) (by omega)
   unfold Xo
   rw [List.length_append]
   omega
  have hvl := hvl rfl
  have hpv := X4Z v (by omega)
  have hlv : (Y4 v).length ≤ 111 := by
   unfold Y4
   rw [if_pos hvl.1]
   exact hvl.2
  have hput : XI ⟨8, id, src, dst, name, v⟩ = UInt8.ofNat 8 :: (Xk id ++ Xo name ++ Y4 v) := by unfold XI; simp [XT, XP]
  rw [hput]
  clear hput
  generalize Xk id = w0 at *
  generalize Xo name = w1 at *
  generalize Y4 v = w2 at *
  obtain ⟨vk, vn, vd, vs, vl⟩ := v
  simp only [Xy, Xh] at *
  refine Xb (xs := [.own 130 ((UInt8.ofNat 8 :: (w0 ++ w1 ++ w2)).map Xa).length]) Tryd.func21 rfl Tryd.ntmps21 rfl rfl rfl (fun E => ?_)
  repeat first | refine X0 ?_ | (refine JR ?_; (repeat first | refine Z3 (u := nj 8) (r := n8 8) ?_ (hr := by exact Yi rfl rfl) | refine ZX (γ := 130) ?_ | refine Z1 ?_ | refine Z0 ?_ | refine Zy ?_ | refine Zz ?_ | refine ZK ?_ | refine Zx (γ := 100) ?_ | refine ZC ?_ | refine Z6 ?_ | refine Z8 (hcon := hf) ?_ | refine Z8 (hcon := hpi) ?_ | refine Z8 (hcon := hpn) ?_ | refine Z8 (hcon := hpv) ?_); refine JD ?_) | refine JT ?_ | refine JF ?_ | refine X3 ?_
  refine X1 ⟨_, Xi 2 (y := .own 130 ((UInt8.ofNat 8 :: (w0 ++ w1 ++ w2)).map Xa).length) (AVal.le_of_eq ?_), ⟨rfl, trivial⟩, Xc ⟨?_, trivial⟩⟩
  ·refine Eq.trans (b := AVal.own 130 (_ + _)) rfl ?_
   congr 1
   simp only [List.length_append, List.length_map, List.length_cons, List.length_nil] <;> omega
  ·refine Eq.trans (b := AObj.row 1 (_ ++ _)) rfl ?_
   simp only [List.map_append, List.map_cons, List.map_nil, List.append_assoc, List.cons_append, List.nil_append] <;> rfl
 omega
theorem X63 (c : Chg) (h : Y9 c = 0) : Con Tryd.prog 21 [] [Xy c] [] (.d (Xv (XI c))) := (X7O c h).data (by simp)
end Go.Fw
