/- The check of a change: the program's. -/
import Derived.Test.YtonekjkmnhfjmaaGreatDoorM19
set_option maxHeartbeats 32000000
namespace Go.Fw
open Go Go.Proofs
set_option maxRecDepth 100000
set_option linter.unusedVariables false
set_option linter.unusedSimpArgs false
def XH (u : Bool × Bool × Bool × Bool) (i si di : Bool) (src dst : Int) (name : List UInt8) (nv zv pv : Bool) : Int :=
 if u.2.2.2 = false ∨ i = false then 1
 else if (u.1 = true ∧ (si = false ∨ di = false)) ∨ (u.1 = false ∧ (src ≠ 0 ∨ dst ≠ 0)) then 1
 else if (u.2.1 = false ∧ name ≠ []) ∨ (u.2.2.1 = false ∧ zv = false) then 1
 else if u.2.1 = true ∧ nv = false then 6 else if u.2.2.1 = true ∧ zv = false ∧ pv = false then 8 else 0
theorem X9L (c : Chg) : YF c = XH (UV c.op) (idV c.id) (idV c.src) (idV c.dst) c.src c.dst c.name (XP c.name) (Yo c.v) (Yd c.v) := by
 unfold YF XH UV
 simp only [decide_eq_true_eq, decide_eq_false_iff_not]
abbrev XY (op id src dst : Int) (name : List UInt8) (k n d : Int) (s : List UInt8) (l : List Val) : AVal := .agg [ai op, ai id, ai src, ai dst, .d (.v (.string (X5 name))), ai k, ai n, ai d, .d (.v (.string (X5 s))), .d (.sl 5 (Xx l))]
def Xs : Chg → AVal
 | ⟨op, id, src, dst, name, .mk k n d s l⟩ => XY op id src dst name k n d s l
theorem X2M (c : Chg) : Con Tryz.prog 140 [] [Xs c] [] (ai (YF c)) := by
 rw [X9L]
 obtain ⟨op, id, src, dst, name, v⟩ := c
 have hf := Xej op
 have hi := X7e id
 have hs := X7e src
 have hd := X7e dst
 have hn := X7c name
 have hz := X5E v
 have hp := X8Z v
 generalize idV id = i at *
 generalize idV src = si at *
 generalize idV dst = di at *
 generalize XP name = nv at *
 generalize Yo v = zv at *
 generalize Yd v = pv at *
 obtain ⟨k, n, d, s, l⟩ := v
 simp only [Xs, XG] at *
 refine Xc (xs := [ai (XH (UV op) i si di src dst name nv zv pv)]) Tryz.func140 rfl Tryz.ntmps140 rfl rfl rfl (fun E => ?_)
 generalize UV op = u at *
 obtain ⟨en, nm, vl, ok⟩ := u
 simp only at hf
 obtain ⟨r, hr⟩ : ∃ r, r = XH (en, nm, vl, ok) i si di src dst name nv zv pv := ⟨_, rfl⟩
 rw [← hr]
 refine QVa ?_; refine Z9 (hcon := hf) ?_; refine QWd ?_; refine QO ?_; refine Qd ?_; refine QXd ?_; refine Yw rfl rfl (fun hq => ?_) (fun hq => ?_); refine QTa ?_; refine Z9 (hcon := hi) ?_; refine Zu ?_; refine Zq ?_; refine Qb ?_; refine YZ rfl (fun hq => ?_) (fun hq => ?_); refine Qc ?_; (clear hf hi hs hd hn hz hp; simp [XH, *] at hr; subst hr; exact X1 ⟨_, St.le_refl _, ⟨rfl, trivial⟩, X3 _⟩); refine QUa ?_; refine Z1 ?_; refine XgU rfl rfl (fun hq => ?_) (fun hq => ?_); refine QYd ?_; refine Yw rfl rfl (fun hq => ?_) (fun hq => ?_); refine QZd ?_; refine Yw rfl rfl (fun hq => ?_) (fun hq => ?_); refine QTa ?_; refine Zu ?_; refine Qvb ?_; refine QU ?_; refine Zq ?_; refine Qmd ?_; refine QUa ?_; refine QXd ?_; refine Yw rfl rfl (fun hq => ?_) (fun hq => ?_); refine Qh ?_; refine QU ?_; refine QZa ?_; refine QXd ?_; refine Yw rfl rfl (fun hq => ?_) (fun hq => ?_); refine Qbe ?_; refine Qce ?_; refine YZ rfl (fun hq => ?_) (fun hq => ?_); refine Qc ?_; (clear hf hi hs hd hn hz hp; simp [XH, *] at hr; subst hr; exact X1 ⟨_, St.le_refl _, ⟨rfl, trivial⟩, X3 _⟩); refine QUa ?_; refine Qde ?_; refine Yw rfl rfl (fun hq => ?_) (fun hq => ?_); refine Qfe ?_; (clear hf hi hs hd hn hz hp; simp [XH, *] at hr; subst hr; exact X1 ⟨_, St.le_refl _, ⟨rfl, trivial⟩, X3 _⟩); refine Qge ?_; refine YZ rfl (fun hq => ?_) (fun hq => ?_); refine Qc ?_; (clear hf hi hs hd hn hz hp; simp [XH, *] at hr; subst hr; exact X1 ⟨_, St.le_refl _, ⟨rfl, trivial⟩, X3 _⟩); refine Qee ?_; (clear hf hi hs hd hn hz hp; simp [XH, *] at hr; subst hr; exact X1 ⟨_, St.le_refl _, ⟨rfl, trivial⟩, X3 _⟩); refine Qhe ?_; refine YZ rfl (fun hq => ?_) (fun hq => ?_); refine Qc ?_; (clear hf hi hs hd hn hz hp; simp [XH, *] at hr; subst hr; exact X1 ⟨_, St.le_refl _, ⟨rfl, trivial⟩, X3 _⟩); refine QUa ?_; refine Qce ?_; refine YZ rfl (fun hq => ?_) (fun hq => ?_); refine Qc ?_; (clear hf hi hs hd hn hz hp; simp [XH, *] at hr; subst hr; exact X1 ⟨_, St.le_refl _, ⟨rfl, trivial⟩, X3 _⟩); refine QUa ?_; refine Qie ?_; (clear hf hi hs hd hn hz hp; simp [XH, *] at hr; subst hr; exact X1 ⟨_, St.le_refl _, ⟨rfl, trivial⟩, X3 _⟩); refine QTa ?_; refine ZM ?_; refine Zn ?_; refine Z1 ?_; refine Vn rfl rfl (fun hq => ?_) (fun hq => ?_); refine Qae ?_; refine Qje ?_; (clear hf hi hs hd hn hz hp; simp [XH, *] at hr; subst hr; exact X1 ⟨_, St.le_refl _, ⟨rfl, trivial⟩, X3 _⟩); refine QTa ?_; refine QXd ?_; refine Yw rfl rfl (fun hq => ?_) (fun hq => ?_); refine Qbe ?_; refine Qza ?_; refine Qmd ?_; refine QUa ?_; refine Qde ?_; refine Yw rfl rfl (fun hq => ?_) (fun hq => ?_); refine Qfe ?_; (clear hf hi hs hd hn hz hp; simp [XH, *] at hr; subst hr; exact X1 ⟨_, St.le_refl _, ⟨rfl, trivial⟩, X3 _⟩); refine Qge ?_; refine YZ rfl (fun hq => ?_) (fun hq => ?_); refine Qc ?_; (clear hf hi hs hd hn hz hp; simp [XH, *] at hr; subst hr; exact X1 ⟨_, St.le_refl _, ⟨rfl, trivial⟩, X3 _⟩); refine Qee ?_; (clear hf hi hs hd hn hz hp; simp [XH, *] at hr; subst hr; exact X1 ⟨_, St.le_refl _, ⟨rfl, trivial⟩, X3 _⟩)
 refine Qhe ?_; refine YZ rfl (fun hq => ?_) (fun hq => ?_); refine Qc ?_; (clear hf hi hs hd hn hz hp; simp [XH, *] at hr; subst hr; exact X1 ⟨_, St.le_refl _, ⟨rfl, trivial⟩, X3 _⟩); refine QUa ?_; refine Qza ?_; refine Qmd ?_; refine QUa ?_; refine Qie ?_; (clear hf hi hs hd hn hz hp; simp [XH, *] at hr; subst hr; exact X1 ⟨_, St.le_refl _, ⟨rfl, trivial⟩, X3 _⟩); refine Qae ?_; refine QT ?_; refine Qje ?_; (clear hf hi hs hd hn hz hp; simp [XH, *] at hr; subst hr; exact X1 ⟨_, St.le_refl _, ⟨rfl, trivial⟩, X3 _⟩); refine Qae ?_; refine Zn ?_; refine Zn ?_; refine Qw ?_; refine QT ?_; refine Qje ?_; (clear hf hi hs hd hn hz hp; simp [XH, *] at hr; subst hr; exact X1 ⟨_, St.le_refl _, ⟨rfl, trivial⟩, X3 _⟩); refine Qae ?_; refine Zo ?_; refine QT ?_; refine QU ?_; refine QZa ?_; refine Zu ?_; refine Qub ?_; refine Z1 ?_; refine Vn rfl rfl (fun hq => ?_) (fun hq => ?_); refine Qh ?_; refine Qk ?_; refine Qn ?_; refine Qb ?_; refine JT ?_; refine Qc ?_; (clear hf hi hs hd hn hz hp; simp [XH, *] at hr; subst hr; exact X1 ⟨_, St.le_refl _, ⟨rfl, trivial⟩, X3 _⟩); refine QTa ?_; refine Qke ?_; refine Qn ?_; refine Qb ?_; refine X2I rfl (fun hq => ?_) (fun hq => ?_); refine Qc ?_; (clear hf hi hs hd hn hz hp; simp [XH, *] at hr; subst hr; exact X1 ⟨_, St.le_refl _, ⟨rfl, trivial⟩, X3 _⟩); refine QUa ?_; refine QXd ?_; refine Yw rfl rfl (fun hq => ?_) (fun hq => ?_); refine Qh ?_; refine QU ?_; refine QZa ?_; refine QXd ?_; refine Yw rfl rfl (fun hq => ?_) (fun hq => ?_); refine Qbe ?_; refine Qce ?_; refine YZ rfl (fun hq => ?_) (fun hq => ?_); refine Qc ?_; (clear hf hi hs hd hn hz hp; simp [XH, *] at hr; subst hr; exact X1 ⟨_, St.le_refl _, ⟨rfl, trivial⟩, X3 _⟩); refine QUa ?_; refine Qde ?_; refine Yw rfl rfl (fun hq => ?_) (fun hq => ?_); refine Qfe ?_; (clear hf hi hs hd hn hz hp; simp [XH, *] at hr; subst hr; exact X1 ⟨_, St.le_refl _, ⟨rfl, trivial⟩, X3 _⟩); refine Qge ?_; refine YZ rfl (fun hq => ?_) (fun hq => ?_); refine Qc ?_; (clear hf hi hs hd hn hz hp; simp [XH, *] at hr; subst hr; exact X1 ⟨_, St.le_refl _, ⟨rfl, trivial⟩, X3 _⟩); refine Qee ?_; (clear hf hi hs hd hn hz hp; simp [XH, *] at hr; subst hr; exact X1 ⟨_, St.le_refl _, ⟨rfl, trivial⟩, X3 _⟩); refine Qhe ?_; refine YZ rfl (fun hq => ?_) (fun hq => ?_); refine Qc ?_; (clear hf hi hs hd hn hz hp; simp [XH, *] at hr; subst hr; exact X1 ⟨_, St.le_refl _, ⟨rfl, trivial⟩, X3 _⟩); refine QUa ?_; refine Qce ?_; refine YZ rfl (fun hq => ?_) (fun hq => ?_); refine Qc ?_; (clear hf hi hs hd hn hz hp; simp [XH, *] at hr; subst hr; exact X1 ⟨_, St.le_refl _, ⟨rfl, trivial⟩, X3 _⟩); refine QUa ?_; refine Qie ?_; (clear hf hi hs hd hn hz hp; simp [XH, *] at hr; subst hr; exact X1 ⟨_, St.le_refl _, ⟨rfl, trivial⟩, X3 _⟩); refine QTa ?_; refine ZM ?_; refine Zn ?_; refine Z1 ?_; refine Vn rfl rfl (fun hq => ?_) (fun hq => ?_); refine Qae ?_; refine Qje ?_; (clear hf hi hs hd hn hz hp; simp [XH, *] at hr; subst hr; exact X1 ⟨_, St.le_refl _, ⟨rfl, trivial⟩, X3 _⟩); refine QTa ?_; refine QXd ?_
 refine Yw rfl rfl (fun hq => ?_) (fun hq => ?_); refine Qbe ?_; refine Qza ?_; refine Qmd ?_; refine QUa ?_; refine Qde ?_; refine Yw rfl rfl (fun hq => ?_) (fun hq => ?_); refine Qfe ?_; (clear hf hi hs hd hn hz hp; simp [XH, *] at hr; subst hr; exact X1 ⟨_, St.le_refl _, ⟨rfl, trivial⟩, X3 _⟩); refine Qge ?_; refine YZ rfl (fun hq => ?_) (fun hq => ?_); refine Qc ?_; (clear hf hi hs hd hn hz hp; simp [XH, *] at hr; subst hr; exact X1 ⟨_, St.le_refl _, ⟨rfl, trivial⟩, X3 _⟩); refine Qee ?_; (clear hf hi hs hd hn hz hp; simp [XH, *] at hr; subst hr; exact X1 ⟨_, St.le_refl _, ⟨rfl, trivial⟩, X3 _⟩); refine Qhe ?_; refine YZ rfl (fun hq => ?_) (fun hq => ?_); refine Qc ?_; (clear hf hi hs hd hn hz hp; simp [XH, *] at hr; subst hr; exact X1 ⟨_, St.le_refl _, ⟨rfl, trivial⟩, X3 _⟩); refine QUa ?_; refine Qza ?_; refine Qmd ?_; refine QUa ?_; refine Qie ?_; (clear hf hi hs hd hn hz hp; simp [XH, *] at hr; subst hr; exact X1 ⟨_, St.le_refl _, ⟨rfl, trivial⟩, X3 _⟩); refine Qae ?_; refine Qna ?_; refine JT ?_; refine Qc ?_; (clear hf hi hs hd hn hz hp; simp [XH, *] at hr; subst hr; exact X1 ⟨_, St.le_refl _, ⟨rfl, trivial⟩, X3 _⟩)
end Go.Fw
