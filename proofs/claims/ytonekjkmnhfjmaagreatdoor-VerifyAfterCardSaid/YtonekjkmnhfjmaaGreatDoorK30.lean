/- The check of a change: the program's. -/
import Derived.Test.YtonekjkmnhfjmaaGreatDoorK21
set_option maxHeartbeats 32000000
namespace Go.Fw
open Go Go.Proofs
set_option maxRecDepth 100000
set_option linter.unusedVariables false
set_option linter.unusedSimpArgs false
def XD (u : Bool × Bool × Bool × Bool) (i si di : Bool) (src dst : Int) (name : List UInt8) (nv zv pv : Bool) : Int :=
 if u.2.2.2 = false ∨ i = false then 1
 else if (u.1 = true ∧ (si = false ∨ di = false)) ∨ (u.1 = false ∧ (src ≠ 0 ∨ dst ≠ 0)) then 1
 else if (u.2.1 = false ∧ name ≠ []) ∨ (u.2.2.1 = false ∧ zv = false) then 1
 else if u.2.1 = true ∧ nv = false then 6 else if u.2.2.1 = true ∧ zv = false ∧ pv = false then 8 else 0
theorem X8s (c : Chg) : YZ c = XD (Vf c.op) (idV c.id) (idV c.src) (idV c.dst) c.src c.dst c.name (Xt c.name) (YA c.v) (XV c.v) := by
 unfold YZ XD Vf
 simp only [decide_eq_true_eq, decide_eq_false_iff_not]
abbrev Y1 (op id src dst : Int) (name : List UInt8) (k n d : Int) (s : List UInt8) (l : List Val) : AVal := .agg [ai op, ai id, ai src, ai dst, .d (.v (.string (X5 name))), ai k, ai n, ai d, .d (.v (.string (X5 s))), .d (.sl 5 (XG l))]
def Xu : Chg → AVal
 | ⟨op, id, src, dst, name, .mk k n d s l⟩ => Y1 op id src dst name k n d s l
theorem X2K (c : Chg) : Con Tryz.prog 140 [] [Xu c] [] (ai (YZ c)) := by
 rw [X8s]
 obtain ⟨op, id, src, dst, name, v⟩ := c
 have hf := Xe5 op
 have hi := X63 id
 have hs := X63 src
 have hd := X63 dst
 have hn := X1M name
 have hz := X7m v
 have hp := X9N v
 generalize idV id = i at *
 generalize idV src = si at *
 generalize idV dst = di at *
 generalize Xt name = nv at *
 generalize YA v = zv at *
 generalize XV v = pv at *
 obtain ⟨k, n, d, s, l⟩ := v
 simp only [Xu, Xm] at *
 refine Xc (xs := [ai (XD (Vf op) i si di src dst name nv zv pv)]) Tryz.func140 rfl Tryz.ntmps140 rfl rfl rfl (fun E => ?_)
 generalize Vf op = u at *
 obtain ⟨en, nm, vl, ok⟩ := u
 simp only at hf
 obtain ⟨r, hr⟩ : ∃ r, r = XD (en, nm, vl, ok) i si di src dst name nv zv pv := ⟨_, rfl⟩
 rw [← hr]
 refine QHb ?_; refine QJb ?_; refine Zr (hcon := hf) ?_; refine QHe ?_; refine Qma ?_; refine Qd ?_; refine QIe ?_; refine Y4 rfl rfl (fun hq => ?_) (fun hq => ?_); refine QIb ?_; refine Zr (hcon := hi) ?_; refine Zd ?_; refine QN ?_; refine XO rfl (fun hq => ?_) (fun hq => ?_); refine Qc ?_; (clear hf hi hs hd hn hz hp; simp [XD, *] at hr; subst hr; exact X1 ⟨_, St.le_refl _, ⟨rfl, trivial⟩, X3 _⟩); refine Qic ?_; refine X2U rfl rfl (fun hq => ?_) (fun hq => ?_); refine Qgg ?_; refine Y4 rfl rfl (fun hq => ?_) (fun hq => ?_); refine Qhg ?_; refine Y4 rfl rfl (fun hq => ?_) (fun hq => ?_); refine QIb ?_; refine Zd ?_; refine QW ?_; refine Qpc ?_; refine Qra ?_; refine QVe ?_; refine QJb ?_; refine QIe ?_; refine Y4 rfl rfl (fun hq => ?_) (fun hq => ?_); refine QI ?_; refine Qra ?_; refine QPb ?_; refine QIe ?_; refine Y4 rfl rfl (fun hq => ?_) (fun hq => ?_); refine Qjf ?_; refine QVe ?_; refine QJb ?_; refine Qig ?_; refine XO rfl (fun hq => ?_) (fun hq => ?_); refine Qc ?_; (clear hf hi hs hd hn hz hp; simp [XD, *] at hr; subst hr; exact X1 ⟨_, St.le_refl _, ⟨rfl, trivial⟩, X3 _⟩); refine Qlg ?_; refine Y4 rfl rfl (fun hq => ?_) (fun hq => ?_); refine QWe ?_; (clear hf hi hs hd hn hz hp; simp [XD, *] at hr; subst hr; exact X1 ⟨_, St.le_refl _, ⟨rfl, trivial⟩, X3 _⟩); refine Qmg ?_; refine XO rfl (fun hq => ?_) (fun hq => ?_); refine Qc ?_; (clear hf hi hs hd hn hz hp; simp [XD, *] at hr; subst hr; exact X1 ⟨_, St.le_refl _, ⟨rfl, trivial⟩, X3 _⟩); refine QUe ?_; (clear hf hi hs hd hn hz hp; simp [XD, *] at hr; subst hr; exact X1 ⟨_, St.le_refl _, ⟨rfl, trivial⟩, X3 _⟩); refine Qjg ?_; refine Qkg ?_; refine QN ?_; refine XO rfl (fun hq => ?_) (fun hq => ?_); refine Qc ?_; (clear hf hi hs hd hn hz hp; simp [XD, *] at hr; subst hr; exact X1 ⟨_, St.le_refl _, ⟨rfl, trivial⟩, X3 _⟩); refine QJb ?_; refine Qig ?_; refine XO rfl (fun hq => ?_) (fun hq => ?_); refine Qc ?_; (clear hf hi hs hd hn hz hp; simp [XD, *] at hr; subst hr; exact X1 ⟨_, St.le_refl _, ⟨rfl, trivial⟩, X3 _⟩); refine Qng ?_; (clear hf hi hs hd hn hz hp; simp [XD, *] at hr; subst hr; exact X1 ⟨_, St.le_refl _, ⟨rfl, trivial⟩, X3 _⟩); refine QLe ?_; refine ZB ?_; refine Z1 ?_; refine XY rfl rfl (fun hq => ?_) (fun hq => ?_); refine QKe ?_; refine Qog ?_; (clear hf hi hs hd hn hz hp; simp [XD, *] at hr; subst hr; exact X1 ⟨_, St.le_refl _, ⟨rfl, trivial⟩, X3 _⟩); refine QIb ?_; refine QIe ?_; refine Y4 rfl rfl (fun hq => ?_) (fun hq => ?_); refine Qjf ?_; refine QVe ?_; refine QJb ?_; refine QYe ?_; refine Qlg ?_; refine Y4 rfl rfl (fun hq => ?_) (fun hq => ?_); refine QWe ?_; (clear hf hi hs hd hn hz hp; simp [XD, *] at hr; subst hr; exact X1 ⟨_, St.le_refl _, ⟨rfl, trivial⟩, X3 _⟩); refine Qmg ?_; refine XO rfl (fun hq => ?_) (fun hq => ?_); refine Qc ?_; (clear hf hi hs hd hn hz hp; simp [XD, *] at hr; subst hr; exact X1 ⟨_, St.le_refl _, ⟨rfl, trivial⟩, X3 _⟩); refine QUe ?_
 (clear hf hi hs hd hn hz hp; simp [XD, *] at hr; subst hr; exact X1 ⟨_, St.le_refl _, ⟨rfl, trivial⟩, X3 _⟩); refine Qjg ?_; refine Qkg ?_; refine QN ?_; refine XO rfl (fun hq => ?_) (fun hq => ?_); refine Qc ?_; (clear hf hi hs hd hn hz hp; simp [XD, *] at hr; subst hr; exact X1 ⟨_, St.le_refl _, ⟨rfl, trivial⟩, X3 _⟩); refine QJb ?_; refine QYe ?_; refine Qng ?_; (clear hf hi hs hd hn hz hp; simp [XD, *] at hr; subst hr; exact X1 ⟨_, St.le_refl _, ⟨rfl, trivial⟩, X3 _⟩); refine QKe ?_; refine Qpa ?_; refine Qog ?_; (clear hf hi hs hd hn hz hp; simp [XD, *] at hr; subst hr; exact X1 ⟨_, St.le_refl _, ⟨rfl, trivial⟩, X3 _⟩); refine QKe ?_; refine ZB ?_; refine ZB ?_; refine QW ?_; refine Qpa ?_; refine Qog ?_; (clear hf hi hs hd hn hz hp; simp [XD, *] at hr; subst hr; exact X1 ⟨_, St.le_refl _, ⟨rfl, trivial⟩, X3 _⟩); refine QKe ?_; refine Qqa ?_; refine Qra ?_; refine QPb ?_; refine Zd ?_; refine Qoc ?_; refine Z1 ?_; refine XY rfl rfl (fun hq => ?_) (fun hq => ?_); refine QNe ?_; refine ZB ?_; refine QN ?_; refine JT ?_; refine Qc ?_; (clear hf hi hs hd hn hz hp; simp [XD, *] at hr; subst hr; exact X1 ⟨_, St.le_refl _, ⟨rfl, trivial⟩, X3 _⟩); refine QIb ?_; refine ZH ?_; refine ZE ?_; refine ZB ?_; refine QN ?_; refine VH rfl (fun hq => ?_) (fun hq => ?_); refine Qc ?_; (clear hf hi hs hd hn hz hp; simp [XD, *] at hr; subst hr; exact X1 ⟨_, St.le_refl _, ⟨rfl, trivial⟩, X3 _⟩); refine QJb ?_; refine QIe ?_; refine Y4 rfl rfl (fun hq => ?_) (fun hq => ?_); refine QI ?_; refine Qra ?_; refine QPb ?_; refine QIe ?_; refine Y4 rfl rfl (fun hq => ?_) (fun hq => ?_); refine Qjf ?_; refine QVe ?_; refine QJb ?_; refine Qig ?_; refine XO rfl (fun hq => ?_) (fun hq => ?_); refine Qc ?_; (clear hf hi hs hd hn hz hp; simp [XD, *] at hr; subst hr; exact X1 ⟨_, St.le_refl _, ⟨rfl, trivial⟩, X3 _⟩); refine Qlg ?_; refine Y4 rfl rfl (fun hq => ?_) (fun hq => ?_); refine QWe ?_; (clear hf hi hs hd hn hz hp; simp [XD, *] at hr; subst hr; exact X1 ⟨_, St.le_refl _, ⟨rfl, trivial⟩, X3 _⟩); refine Qmg ?_; refine XO rfl (fun hq => ?_) (fun hq => ?_); refine Qc ?_; (clear hf hi hs hd hn hz hp; simp [XD, *] at hr; subst hr; exact X1 ⟨_, St.le_refl _, ⟨rfl, trivial⟩, X3 _⟩); refine QUe ?_; (clear hf hi hs hd hn hz hp; simp [XD, *] at hr; subst hr; exact X1 ⟨_, St.le_refl _, ⟨rfl, trivial⟩, X3 _⟩); refine Qjg ?_; refine Qkg ?_; refine QN ?_; refine XO rfl (fun hq => ?_) (fun hq => ?_); refine Qc ?_; (clear hf hi hs hd hn hz hp; simp [XD, *] at hr; subst hr; exact X1 ⟨_, St.le_refl _, ⟨rfl, trivial⟩, X3 _⟩); refine QJb ?_; refine Qig ?_; refine XO rfl (fun hq => ?_) (fun hq => ?_); refine Qc ?_; (clear hf hi hs hd hn hz hp; simp [XD, *] at hr; subst hr; exact X1 ⟨_, St.le_refl _, ⟨rfl, trivial⟩, X3 _⟩); refine Qng ?_; (clear hf hi hs hd hn hz hp; simp [XD, *] at hr; subst hr; exact X1 ⟨_, St.le_refl _, ⟨rfl, trivial⟩, X3 _⟩); refine QLe ?_; refine ZB ?_; refine Z1 ?_; refine XY rfl rfl (fun hq => ?_) (fun hq => ?_); refine QKe ?_; refine Qog ?_
 (clear hf hi hs hd hn hz hp; simp [XD, *] at hr; subst hr; exact X1 ⟨_, St.le_refl _, ⟨rfl, trivial⟩, X3 _⟩); refine QIb ?_; refine QIe ?_; refine Y4 rfl rfl (fun hq => ?_) (fun hq => ?_); refine Qjf ?_; refine QVe ?_; refine QJb ?_; refine QYe ?_; refine Qlg ?_; refine Y4 rfl rfl (fun hq => ?_) (fun hq => ?_); refine QWe ?_; (clear hf hi hs hd hn hz hp; simp [XD, *] at hr; subst hr; exact X1 ⟨_, St.le_refl _, ⟨rfl, trivial⟩, X3 _⟩); refine Qmg ?_; refine XO rfl (fun hq => ?_) (fun hq => ?_); refine Qc ?_; (clear hf hi hs hd hn hz hp; simp [XD, *] at hr; subst hr; exact X1 ⟨_, St.le_refl _, ⟨rfl, trivial⟩, X3 _⟩); refine QUe ?_; (clear hf hi hs hd hn hz hp; simp [XD, *] at hr; subst hr; exact X1 ⟨_, St.le_refl _, ⟨rfl, trivial⟩, X3 _⟩); refine Qjg ?_; refine Qkg ?_; refine QN ?_; refine XO rfl (fun hq => ?_) (fun hq => ?_); refine Qc ?_; (clear hf hi hs hd hn hz hp; simp [XD, *] at hr; subst hr; exact X1 ⟨_, St.le_refl _, ⟨rfl, trivial⟩, X3 _⟩); refine QJb ?_; refine QYe ?_; refine Qng ?_; (clear hf hi hs hd hn hz hp; simp [XD, *] at hr; subst hr; exact X1 ⟨_, St.le_refl _, ⟨rfl, trivial⟩, X3 _⟩); refine QKe ?_; refine Qme ?_; refine Qc ?_; (clear hf hi hs hd hn hz hp; simp [XD, *] at hr; subst hr; exact X1 ⟨_, St.le_refl _, ⟨rfl, trivial⟩, X3 _⟩)
end Go.Fw
