/- The check of a change: the program's. -/
import Derived.Test.YtpfldfkhgplcgaaGreatDoorK18
set_option maxHeartbeats 32000000
namespace Go.Fw
open Go Go.Proofs
set_option maxRecDepth 100000
set_option linter.unusedVariables false
set_option linter.unusedSimpArgs false
def Xx (u : Bool × Bool × Bool × Bool) (i si di : Bool) (src dst : Int) (name : List UInt8) (nv zv pv : Bool) : Int :=
 if u.2.2.2 = false ∨ i = false then 1
 else if (u.1 = true ∧ (si = false ∨ di = false)) ∨ (u.1 = false ∧ (src ≠ 0 ∨ dst ≠ 0)) then 1
 else if (u.2.1 = false ∧ name ≠ []) ∨ (u.2.2.1 = false ∧ zv = false) then 1
 else if u.2.1 = true ∧ nv = false then 6 else if u.2.2.1 = true ∧ zv = false ∧ pv = false then 8 else 0
theorem X9T (c : Chg) : Ug c = Xx (V9 c.op) (idV c.id) (idV c.src) (idV c.dst) c.src c.dst c.name (Y2 c.name) (UQ c.v) (VW c.v) := by
 unfold Ug Xx V9
 simp only [decide_eq_true_eq, decide_eq_false_iff_not]
abbrev Xfv (op id src dst : Int) (name : List UInt8) (k n d : Int) (s : List UInt8) (l : List Val) : AVal := .agg [ai op, ai id, ai src, ai dst, .d (.v (.string (X6 name))), ai k, ai n, ai d, .d (.v (.string (X6 s))), .d (.sl 5 (Xy l))]
def Y3 : Chg → AVal
 | ⟨op, id, src, dst, name, .mk k n d s l⟩ => Xfv op id src dst name k n d s l
theorem XbH (c : Chg) : Con Tryz.prog 83 [] [Y3 c] [] (ai (Ug c)) := by
 rw [X9T]
 obtain ⟨op, id, src, dst, name, v⟩ := c
 have hf := XcX op
 have hi := X5Q id
 have hs := X5Q src
 have hd := X5Q dst
 have hn := X2X name
 have hz := Xdf v
 have hp := Xf3 v
 generalize idV id = i at *
 generalize idV src = si at *
 generalize idV dst = di at *
 generalize Y2 name = nv at *
 generalize UQ v = zv at *
 generalize VW v = pv at *
 obtain ⟨k, n, d, s, l⟩ := v
 simp only [Y3, Xi] at *
 refine Xb (xs := [ai (Xx (V9 op) i si di src dst name nv zv pv)]) Tryz.func83 rfl Tryz.ntmps83 rfl rfl rfl (fun E => ?_)
 generalize V9 op = u at *
 obtain ⟨en, nm, vl, ok⟩ := u
 simp only at hf
 obtain ⟨r, hr⟩ : ∃ r, r = Xx (en, nm, vl, ok) i si di src dst name nv zv pv := ⟨_, rfl⟩
 rw [← hr]
 refine QHa ?_; refine Z9 (hcon := hf) ?_; refine QCc ?_; refine Qe ?_; refine Qf ?_; refine QDc ?_; refine XW rfl rfl (fun hq => ?_) (fun hq => ?_); refine QFa ?_; refine Z9 (hcon := hi) ?_; refine Zu ?_; refine QT ?_; refine XL rfl (fun hq => ?_) (fun hq => ?_); refine Qd ?_; (clear hf hi hs hd hn hz hp; simp [Xx, *] at hr; subst hr; exact X1 ⟨_, St.le_refl _, ⟨rfl, trivial⟩, X3 _⟩); refine QWa ?_; refine X1t rfl rfl (fun hq => ?_) (fun hq => ?_); refine QEc ?_; refine XW rfl rfl (fun hq => ?_) (fun hq => ?_); refine QGc ?_; refine XW rfl rfl (fun hq => ?_) (fun hq => ?_); refine QFa ?_; refine Zu ?_; refine Qba ?_; refine QBb ?_; refine QJa ?_; refine QXb ?_; refine QGa ?_; refine QDc ?_; refine XW rfl rfl (fun hq => ?_) (fun hq => ?_); refine QO ?_; refine Zo ?_; refine QAc ?_; refine QDc ?_; refine XW rfl rfl (fun hq => ?_) (fun hq => ?_); refine QIc ?_; refine QXb ?_; refine QGa ?_; refine QJc ?_; refine XL rfl (fun hq => ?_) (fun hq => ?_); refine Qd ?_; (clear hf hi hs hd hn hz hp; simp [Xx, *] at hr; subst hr; exact X1 ⟨_, St.le_refl _, ⟨rfl, trivial⟩, X3 _⟩); refine QLc ?_; refine XW rfl rfl (fun hq => ?_) (fun hq => ?_); refine QNc ?_; (clear hf hi hs hd hn hz hp; simp [Xx, *] at hr; subst hr; exact X1 ⟨_, St.le_refl _, ⟨rfl, trivial⟩, X3 _⟩); refine QOc ?_; refine XL rfl (fun hq => ?_) (fun hq => ?_); refine Qd ?_; (clear hf hi hs hd hn hz hp; simp [Xx, *] at hr; subst hr; exact X1 ⟨_, St.le_refl _, ⟨rfl, trivial⟩, X3 _⟩); refine QMc ?_; (clear hf hi hs hd hn hz hp; simp [Xx, *] at hr; subst hr; exact X1 ⟨_, St.le_refl _, ⟨rfl, trivial⟩, X3 _⟩); refine QKc ?_; refine Zu ?_; refine Zn ?_; refine QT ?_; refine XL rfl (fun hq => ?_) (fun hq => ?_); refine Qd ?_; (clear hf hi hs hd hn hz hp; simp [Xx, *] at hr; subst hr; exact X1 ⟨_, St.le_refl _, ⟨rfl, trivial⟩, X3 _⟩); refine QGa ?_; refine QJc ?_; refine XL rfl (fun hq => ?_) (fun hq => ?_); refine Qd ?_; (clear hf hi hs hd hn hz hp; simp [Xx, *] at hr; subst hr; exact X1 ⟨_, St.le_refl _, ⟨rfl, trivial⟩, X3 _⟩); refine QQc ?_; (clear hf hi hs hd hn hz hp; simp [Xx, *] at hr; subst hr; exact X1 ⟨_, St.le_refl _, ⟨rfl, trivial⟩, X3 _⟩); refine QRc ?_; refine QFc ?_; refine XI rfl rfl (fun hq => ?_) (fun hq => ?_); refine QHc ?_; refine QSc ?_; refine Zo ?_; refine QTc ?_; (clear hf hi hs hd hn hz hp; simp [Xx, *] at hr; subst hr; exact X1 ⟨_, St.le_refl _, ⟨rfl, trivial⟩, X3 _⟩); refine QFa ?_; refine QDc ?_; refine XW rfl rfl (fun hq => ?_) (fun hq => ?_); refine QIc ?_; refine QXb ?_; refine QGa ?_; refine QPc ?_; refine QLc ?_; refine XW rfl rfl (fun hq => ?_) (fun hq => ?_); refine QNc ?_; (clear hf hi hs hd hn hz hp; simp [Xx, *] at hr; subst hr; exact X1 ⟨_, St.le_refl _, ⟨rfl, trivial⟩, X3 _⟩); refine QOc ?_; refine XL rfl (fun hq => ?_) (fun hq => ?_); refine Qd ?_; (clear hf hi hs hd hn hz hp; simp [Xx, *] at hr; subst hr; exact X1 ⟨_, St.le_refl _, ⟨rfl, trivial⟩, X3 _⟩); refine QMc ?_
 (clear hf hi hs hd hn hz hp; simp [Xx, *] at hr; subst hr; exact X1 ⟨_, St.le_refl _, ⟨rfl, trivial⟩, X3 _⟩); refine QKc ?_; refine Zu ?_; refine Zn ?_; refine QT ?_; refine XL rfl (fun hq => ?_) (fun hq => ?_); refine Qd ?_; (clear hf hi hs hd hn hz hp; simp [Xx, *] at hr; subst hr; exact X1 ⟨_, St.le_refl _, ⟨rfl, trivial⟩, X3 _⟩); refine QGa ?_; refine QPc ?_; refine QQc ?_; (clear hf hi hs hd hn hz hp; simp [Xx, *] at hr; subst hr; exact X1 ⟨_, St.le_refl _, ⟨rfl, trivial⟩, X3 _⟩); refine QHc ?_; refine QSc ?_; refine QSc ?_; refine Zo ?_; refine QTc ?_; (clear hf hi hs hd hn hz hp; simp [Xx, *] at hr; subst hr; exact X1 ⟨_, St.le_refl _, ⟨rfl, trivial⟩, X3 _⟩); refine QHc ?_; refine Zn ?_; refine Zn ?_; refine Qba ?_; refine QSc ?_; refine QSc ?_; refine Zo ?_; refine QTc ?_; (clear hf hi hs hd hn hz hp; simp [Xx, *] at hr; subst hr; exact X1 ⟨_, St.le_refl _, ⟨rfl, trivial⟩, X3 _⟩); refine QHc ?_; refine Zo ?_; refine QSc ?_; refine Zo ?_; refine QAc ?_; refine Zu ?_; refine QIa ?_; refine Zv ?_; refine Z1 ?_; refine XI rfl rfl (fun hq => ?_) (fun hq => ?_); refine QUc ?_; refine Zn ?_; refine QT ?_; refine QEb ?_; (clear hf hi hs hd hn hz hp; simp [Xx, *] at hr; subst hr; exact X1 ⟨_, St.le_refl _, ⟨rfl, trivial⟩, X3 _⟩); refine QVc ?_; refine Zq ?_; refine Zn ?_; refine QT ?_; refine Vt rfl (fun hq => ?_) (fun hq => ?_); refine Qd ?_; (clear hf hi hs hd hn hz hp; simp [Xx, *] at hr; subst hr; exact X1 ⟨_, St.le_refl _, ⟨rfl, trivial⟩, X3 _⟩); refine QGa ?_; refine QDc ?_; refine XW rfl rfl (fun hq => ?_) (fun hq => ?_); refine QO ?_; refine Zo ?_; refine QAc ?_; refine QDc ?_; refine XW rfl rfl (fun hq => ?_) (fun hq => ?_); refine QIc ?_; refine QXb ?_; refine QGa ?_; refine QJc ?_; refine XL rfl (fun hq => ?_) (fun hq => ?_); refine Qd ?_; (clear hf hi hs hd hn hz hp; simp [Xx, *] at hr; subst hr; exact X1 ⟨_, St.le_refl _, ⟨rfl, trivial⟩, X3 _⟩); refine QLc ?_; refine XW rfl rfl (fun hq => ?_) (fun hq => ?_); refine QNc ?_; (clear hf hi hs hd hn hz hp; simp [Xx, *] at hr; subst hr; exact X1 ⟨_, St.le_refl _, ⟨rfl, trivial⟩, X3 _⟩); refine QOc ?_; refine XL rfl (fun hq => ?_) (fun hq => ?_); refine Qd ?_; (clear hf hi hs hd hn hz hp; simp [Xx, *] at hr; subst hr; exact X1 ⟨_, St.le_refl _, ⟨rfl, trivial⟩, X3 _⟩); refine QMc ?_; (clear hf hi hs hd hn hz hp; simp [Xx, *] at hr; subst hr; exact X1 ⟨_, St.le_refl _, ⟨rfl, trivial⟩, X3 _⟩); refine QKc ?_; refine Zu ?_; refine Zn ?_; refine QT ?_; refine XL rfl (fun hq => ?_) (fun hq => ?_); refine Qd ?_; (clear hf hi hs hd hn hz hp; simp [Xx, *] at hr; subst hr; exact X1 ⟨_, St.le_refl _, ⟨rfl, trivial⟩, X3 _⟩); refine QGa ?_; refine QJc ?_; refine XL rfl (fun hq => ?_) (fun hq => ?_); refine Qd ?_; (clear hf hi hs hd hn hz hp; simp [Xx, *] at hr; subst hr; exact X1 ⟨_, St.le_refl _, ⟨rfl, trivial⟩, X3 _⟩); refine QQc ?_; (clear hf hi hs hd hn hz hp; simp [Xx, *] at hr; subst hr; exact X1 ⟨_, St.le_refl _, ⟨rfl, trivial⟩, X3 _⟩); refine QRc ?_; refine QFc ?_
 refine XI rfl rfl (fun hq => ?_) (fun hq => ?_); refine QHc ?_; refine QSc ?_; refine Zo ?_; refine QTc ?_; (clear hf hi hs hd hn hz hp; simp [Xx, *] at hr; subst hr; exact X1 ⟨_, St.le_refl _, ⟨rfl, trivial⟩, X3 _⟩); refine QFa ?_; refine QDc ?_; refine XW rfl rfl (fun hq => ?_) (fun hq => ?_); refine QIc ?_; refine QXb ?_; refine QGa ?_; refine QPc ?_; refine QLc ?_; refine XW rfl rfl (fun hq => ?_) (fun hq => ?_); refine QNc ?_; (clear hf hi hs hd hn hz hp; simp [Xx, *] at hr; subst hr; exact X1 ⟨_, St.le_refl _, ⟨rfl, trivial⟩, X3 _⟩); refine QOc ?_; refine XL rfl (fun hq => ?_) (fun hq => ?_); refine Qd ?_; (clear hf hi hs hd hn hz hp; simp [Xx, *] at hr; subst hr; exact X1 ⟨_, St.le_refl _, ⟨rfl, trivial⟩, X3 _⟩); refine QMc ?_; (clear hf hi hs hd hn hz hp; simp [Xx, *] at hr; subst hr; exact X1 ⟨_, St.le_refl _, ⟨rfl, trivial⟩, X3 _⟩); refine QKc ?_; refine Zu ?_; refine Zn ?_; refine QT ?_; refine XL rfl (fun hq => ?_) (fun hq => ?_); refine Qd ?_; (clear hf hi hs hd hn hz hp; simp [Xx, *] at hr; subst hr; exact X1 ⟨_, St.le_refl _, ⟨rfl, trivial⟩, X3 _⟩); refine QGa ?_; refine QPc ?_; refine QQc ?_; (clear hf hi hs hd hn hz hp; simp [Xx, *] at hr; subst hr; exact X1 ⟨_, St.le_refl _, ⟨rfl, trivial⟩, X3 _⟩); refine QHc ?_; refine QTc ?_; (clear hf hi hs hd hn hz hp; simp [Xx, *] at hr; subst hr; exact X1 ⟨_, St.le_refl _, ⟨rfl, trivial⟩, X3 _⟩)
end Go.Fw
