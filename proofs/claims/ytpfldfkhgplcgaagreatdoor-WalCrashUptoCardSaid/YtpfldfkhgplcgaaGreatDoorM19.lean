/- The check of a change: the program's. -/
import Derived.Test.YtpfldfkhgplcgaaGreatDoorM18
set_option maxHeartbeats 32000000
namespace Go.Fw
open Go Go.Proofs
set_option maxRecDepth 100000
set_option linter.unusedVariables false
set_option linter.unusedSimpArgs false
def Xy (u : Bool × Bool × Bool × Bool) (i si di : Bool) (src dst : Int) (name : List UInt8) (nv zv pv : Bool) : Int :=
 if u.2.2.2 = false ∨ i = false then 1
 else if (u.1 = true ∧ (si = false ∨ di = false)) ∨ (u.1 = false ∧ (src ≠ 0 ∨ dst ≠ 0)) then 1
 else if (u.2.1 = false ∧ name ≠ []) ∨ (u.2.2.1 = false ∧ zv = false) then 1
 else if u.2.1 = true ∧ nv = false then 6 else if u.2.2.1 = true ∧ zv = false ∧ pv = false then 8 else 0
theorem X8N (c : Chg) : YM c = Xy (Vp c.op) (idV c.id) (idV c.src) (idV c.dst) c.src c.dst c.name (Yl c.name) (V6 c.v) (X07 c.v) := by
 unfold YM Xy Vp
 simp only [decide_eq_true_eq, decide_eq_false_iff_not]
abbrev Xcj (op id src dst : Int) (name : List UInt8) (k n d : Int) (s : List UInt8) (l : List Val) : AVal := .agg [ai op, ai id, ai src, ai dst, .d (.v (.string (X7 name))), ai k, ai n, ai d, .d (.v (.string (X7 s))), .d (.sl 5 (XF l))]
def Ye : Chg → AVal
 | ⟨op, id, src, dst, name, .mk k n d s l⟩ => Xcj op id src dst name k n d s l
theorem XgL (c : Chg) : Con Tryz.prog 83 [] [Ye c] [] (ai (YM c)) := by
 rw [X8N]
 obtain ⟨op, id, src, dst, name, v⟩ := c
 have hf := XhB op
 have hi := X64 id
 have hs := X64 src
 have hd := X64 dst
 have hn := X3G name
 have hz := XgF v
 have hp := XdK v
 generalize idV id = i at *
 generalize idV src = si at *
 generalize idV dst = di at *
 generalize Yl name = nv at *
 generalize V6 v = zv at *
 generalize X07 v = pv at *
 obtain ⟨k, n, d, s, l⟩ := v
 simp only [Ye, Xo] at *
 refine Xa (xs := [ai (Xy (Vp op) i si di src dst name nv zv pv)]) Tryz.func83 rfl Tryz.ntmps83 rfl rfl rfl (fun E => ?_)
 generalize Vp op = u at *
 obtain ⟨en, nm, vl, ok⟩ := u
 simp only at hf
 obtain ⟨r, hr⟩ : ∃ r, r = Xy (en, nm, vl, ok) i si di src dst name nv zv pv := ⟨_, rfl⟩
 rw [← hr]
 refine QJa ?_; refine Z9 (hcon := hf) ?_; refine Qbc ?_; refine Qrc ?_; refine Qna ?_; refine Qe ?_; refine Qf ?_; refine QCc ?_; refine Yg rfl rfl (fun hq => ?_) (fun hq => ?_); refine QHa ?_; refine Z9 (hcon := hi) ?_; refine Zu ?_; refine QU ?_; refine XU rfl (fun hq => ?_) (fun hq => ?_); refine Qd ?_; (clear hf hi hs hd hn hz hp; simp [Xy, *] at hr; subst hr; exact X1 ⟨_, St.le_refl _, ⟨rfl, trivial⟩, X3 _⟩); refine QYa ?_; refine X1I rfl rfl (fun hq => ?_) (fun hq => ?_); refine QDc ?_; refine Yg rfl rfl (fun hq => ?_) (fun hq => ?_); refine QFc ?_; refine Yg rfl rfl (fun hq => ?_) (fun hq => ?_); refine QHa ?_; refine Zu ?_; refine Qca ?_; refine QCb ?_; refine QLa ?_; refine QYb ?_; refine QIa ?_; refine QCc ?_; refine Yg rfl rfl (fun hq => ?_) (fun hq => ?_); refine QQ ?_; refine Zo ?_; refine QAc ?_; refine QCc ?_; refine Yg rfl rfl (fun hq => ?_) (fun hq => ?_); refine QHc ?_; refine QYb ?_; refine QIa ?_; refine QIc ?_; refine XU rfl (fun hq => ?_) (fun hq => ?_); refine Qd ?_; (clear hf hi hs hd hn hz hp; simp [Xy, *] at hr; subst hr; exact X1 ⟨_, St.le_refl _, ⟨rfl, trivial⟩, X3 _⟩); refine QYa ?_; refine QJc ?_; refine Z1 ?_; refine Yg rfl rfl (fun hq => ?_) (fun hq => ?_); refine QLc ?_; (clear hf hi hs hd hn hz hp; simp [Xy, *] at hr; subst hr; exact X1 ⟨_, St.le_refl _, ⟨rfl, trivial⟩, X3 _⟩); refine QMc ?_; refine XU rfl (fun hq => ?_) (fun hq => ?_); refine Qd ?_; (clear hf hi hs hd hn hz hp; simp [Xy, *] at hr; subst hr; exact X1 ⟨_, St.le_refl _, ⟨rfl, trivial⟩, X3 _⟩); refine QKc ?_; (clear hf hi hs hd hn hz hp; simp [Xy, *] at hr; subst hr; exact X1 ⟨_, St.le_refl _, ⟨rfl, trivial⟩, X3 _⟩); refine QJc ?_; refine QU ?_; refine XU rfl (fun hq => ?_) (fun hq => ?_); refine Qd ?_; (clear hf hi hs hd hn hz hp; simp [Xy, *] at hr; subst hr; exact X1 ⟨_, St.le_refl _, ⟨rfl, trivial⟩, X3 _⟩); refine QIa ?_; refine QIc ?_; refine XU rfl (fun hq => ?_) (fun hq => ?_); refine Qd ?_; (clear hf hi hs hd hn hz hp; simp [Xy, *] at hr; subst hr; exact X1 ⟨_, St.le_refl _, ⟨rfl, trivial⟩, X3 _⟩); refine QOc ?_; (clear hf hi hs hd hn hz hp; simp [Xy, *] at hr; subst hr; exact X1 ⟨_, St.le_refl _, ⟨rfl, trivial⟩, X3 _⟩); refine QPc ?_; refine QEc ?_; refine XR rfl rfl (fun hq => ?_) (fun hq => ?_); refine QGc ?_; refine QRc ?_; refine Qc ?_; refine QFb ?_; (clear hf hi hs hd hn hz hp; simp [Xy, *] at hr; subst hr; exact X1 ⟨_, St.le_refl _, ⟨rfl, trivial⟩, X3 _⟩); refine QHa ?_; refine QCc ?_; refine Yg rfl rfl (fun hq => ?_) (fun hq => ?_); refine QHc ?_; refine QYb ?_; refine QIa ?_; refine QNc ?_; refine QYa ?_; refine QJc ?_; refine Z1 ?_; refine Yg rfl rfl (fun hq => ?_) (fun hq => ?_); refine QLc ?_; (clear hf hi hs hd hn hz hp; simp [Xy, *] at hr; subst hr; exact X1 ⟨_, St.le_refl _, ⟨rfl, trivial⟩, X3 _⟩); refine QMc ?_; refine XU rfl (fun hq => ?_) (fun hq => ?_); refine Qd ?_; (clear hf hi hs hd hn hz hp; simp [Xy, *] at hr; subst hr; exact X1 ⟨_, St.le_refl _, ⟨rfl, trivial⟩, X3 _⟩); refine QKc ?_
 (clear hf hi hs hd hn hz hp; simp [Xy, *] at hr; subst hr; exact X1 ⟨_, St.le_refl _, ⟨rfl, trivial⟩, X3 _⟩); refine QJc ?_; refine QU ?_; refine XU rfl (fun hq => ?_) (fun hq => ?_); refine Qd ?_; (clear hf hi hs hd hn hz hp; simp [Xy, *] at hr; subst hr; exact X1 ⟨_, St.le_refl _, ⟨rfl, trivial⟩, X3 _⟩); refine QIa ?_; refine QNc ?_; refine QOc ?_; (clear hf hi hs hd hn hz hp; simp [Xy, *] at hr; subst hr; exact X1 ⟨_, St.le_refl _, ⟨rfl, trivial⟩, X3 _⟩); refine QGc ?_; refine QQc ?_; refine QRc ?_; refine Qc ?_; refine QFb ?_; (clear hf hi hs hd hn hz hp; simp [Xy, *] at hr; subst hr; exact X1 ⟨_, St.le_refl _, ⟨rfl, trivial⟩, X3 _⟩); refine QGc ?_; refine Zn ?_; refine Zn ?_; refine Qca ?_; refine QQc ?_; refine QRc ?_; refine Qc ?_; refine QFb ?_; (clear hf hi hs hd hn hz hp; simp [Xy, *] at hr; subst hr; exact X1 ⟨_, St.le_refl _, ⟨rfl, trivial⟩, X3 _⟩); refine QGc ?_; refine Zo ?_; refine QQc ?_; refine Zo ?_; refine QAc ?_; refine Zu ?_; refine QKa ?_; refine Zv ?_; refine Z1 ?_; refine XR rfl rfl (fun hq => ?_) (fun hq => ?_); refine QSc ?_; refine Zn ?_; refine QU ?_; refine QFb ?_; (clear hf hi hs hd hn hz hp; simp [Xy, *] at hr; subst hr; exact X1 ⟨_, St.le_refl _, ⟨rfl, trivial⟩, X3 _⟩); refine QTc ?_; refine Zq ?_; refine Zn ?_; refine QU ?_; refine VP rfl (fun hq => ?_) (fun hq => ?_); refine Qd ?_; (clear hf hi hs hd hn hz hp; simp [Xy, *] at hr; subst hr; exact X1 ⟨_, St.le_refl _, ⟨rfl, trivial⟩, X3 _⟩); refine QIa ?_; refine QCc ?_; refine Yg rfl rfl (fun hq => ?_) (fun hq => ?_); refine QQ ?_; refine Zo ?_; refine QAc ?_; refine QCc ?_; refine Yg rfl rfl (fun hq => ?_) (fun hq => ?_); refine QHc ?_; refine QYb ?_; refine QIa ?_; refine QIc ?_; refine XU rfl (fun hq => ?_) (fun hq => ?_); refine Qd ?_; (clear hf hi hs hd hn hz hp; simp [Xy, *] at hr; subst hr; exact X1 ⟨_, St.le_refl _, ⟨rfl, trivial⟩, X3 _⟩); refine QYa ?_; refine QJc ?_; refine Z1 ?_; refine Yg rfl rfl (fun hq => ?_) (fun hq => ?_); refine QLc ?_; (clear hf hi hs hd hn hz hp; simp [Xy, *] at hr; subst hr; exact X1 ⟨_, St.le_refl _, ⟨rfl, trivial⟩, X3 _⟩); refine QMc ?_; refine XU rfl (fun hq => ?_) (fun hq => ?_); refine Qd ?_; (clear hf hi hs hd hn hz hp; simp [Xy, *] at hr; subst hr; exact X1 ⟨_, St.le_refl _, ⟨rfl, trivial⟩, X3 _⟩); refine QKc ?_; (clear hf hi hs hd hn hz hp; simp [Xy, *] at hr; subst hr; exact X1 ⟨_, St.le_refl _, ⟨rfl, trivial⟩, X3 _⟩); refine QJc ?_; refine QU ?_; refine XU rfl (fun hq => ?_) (fun hq => ?_); refine Qd ?_; (clear hf hi hs hd hn hz hp; simp [Xy, *] at hr; subst hr; exact X1 ⟨_, St.le_refl _, ⟨rfl, trivial⟩, X3 _⟩); refine QIa ?_; refine QIc ?_; refine XU rfl (fun hq => ?_) (fun hq => ?_); refine Qd ?_; (clear hf hi hs hd hn hz hp; simp [Xy, *] at hr; subst hr; exact X1 ⟨_, St.le_refl _, ⟨rfl, trivial⟩, X3 _⟩); refine QOc ?_; (clear hf hi hs hd hn hz hp; simp [Xy, *] at hr; subst hr; exact X1 ⟨_, St.le_refl _, ⟨rfl, trivial⟩, X3 _⟩); refine QPc ?_; refine QEc ?_; refine XR rfl rfl (fun hq => ?_) (fun hq => ?_)
 refine QGc ?_; refine QRc ?_; refine Qc ?_; refine QFb ?_; (clear hf hi hs hd hn hz hp; simp [Xy, *] at hr; subst hr; exact X1 ⟨_, St.le_refl _, ⟨rfl, trivial⟩, X3 _⟩); refine QHa ?_; refine QCc ?_; refine Yg rfl rfl (fun hq => ?_) (fun hq => ?_); refine QHc ?_; refine QYb ?_; refine QIa ?_; refine QNc ?_; refine QYa ?_; refine QJc ?_; refine Z1 ?_; refine Yg rfl rfl (fun hq => ?_) (fun hq => ?_); refine QLc ?_; (clear hf hi hs hd hn hz hp; simp [Xy, *] at hr; subst hr; exact X1 ⟨_, St.le_refl _, ⟨rfl, trivial⟩, X3 _⟩); refine QMc ?_; refine XU rfl (fun hq => ?_) (fun hq => ?_); refine Qd ?_; (clear hf hi hs hd hn hz hp; simp [Xy, *] at hr; subst hr; exact X1 ⟨_, St.le_refl _, ⟨rfl, trivial⟩, X3 _⟩); refine QKc ?_; (clear hf hi hs hd hn hz hp; simp [Xy, *] at hr; subst hr; exact X1 ⟨_, St.le_refl _, ⟨rfl, trivial⟩, X3 _⟩); refine QJc ?_; refine QU ?_; refine XU rfl (fun hq => ?_) (fun hq => ?_); refine Qd ?_; (clear hf hi hs hd hn hz hp; simp [Xy, *] at hr; subst hr; exact X1 ⟨_, St.le_refl _, ⟨rfl, trivial⟩, X3 _⟩); refine QIa ?_; refine QNc ?_; refine QOc ?_; (clear hf hi hs hd hn hz hp; simp [Xy, *] at hr; subst hr; exact X1 ⟨_, St.le_refl _, ⟨rfl, trivial⟩, X3 _⟩); refine QGc ?_; refine Qsa ?_; refine QFb ?_; (clear hf hi hs hd hn hz hp; simp [Xy, *] at hr; subst hr; exact X1 ⟨_, St.le_refl _, ⟨rfl, trivial⟩, X3 _⟩)
end Go.Fw
