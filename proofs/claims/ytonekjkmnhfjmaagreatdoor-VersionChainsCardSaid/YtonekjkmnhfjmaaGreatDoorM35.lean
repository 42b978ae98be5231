/- Nodes and edges put by the reference. -/
import Derived.Test.YtonekjkmnhfjmaaGreatDoorM34
set_option maxHeartbeats 16000000
namespace Go.Fw
open Go Go.Proofs
set_option maxRecDepth 100000
set_option linter.unusedVariables false
set_option linter.unusedSimpArgs false
theorem X8v (g : Gra) (n : Nod) (hl : g.nodes.length ≤ 100000) (hn1 : 0 ≤ n.id) (hn2 : n.id ≤ 1000000) : Con Tryz.prog 113 [] [Xl g, .agg [ai n.id, .d (.sl 1 (n.labels.map Xb)), .d (.sl 6 (n.props.map X6))]] [] (Xl (U1 g n)) := by
 refine Xc (xs := [Xl (U1 g n)]) Tryz.func113 rfl Tryz.ntmps113 rfl rfl rfl (fun E => ?_)
 obtain ⟨ns, es, nn, ne⟩ := g
 obtain ⟨nid, nl, np⟩ := n
 unfold U1 Xl
 simp only at hl hn1 hn2 ⊢
 have hRl : (Yh ltI Nod.id ns nid [(⟨nid, nl, np⟩ : Nod)]).length ≤ ns.length + 1 := by
  have := X0W (lt := ltI) (key := Nod.id) (l := ns) (k := nid) (ns := [(⟨nid, nl, np⟩ : Nod)])
  simpa using this
 generalize hR : Yh ltI Nod.id ns nid [(⟨nid, nl, np⟩ : Nod)] = R at *
 have hlm : (ns.map X9).length = ns.length := by simp
 refine QZc ?_; refine Zw (γ := 102) ?_; refine JD ?_; refine Qc ?_; refine Qac ?_; refine Xm (YX 5 130 3 rfl rfl rfl) ?_
 refine Xz (ι := Nat × Bool × List Nod) (fun q => q.1 ≤ ns.length ∧ q.2.2 ++ Vv ltI Nod.id (ns.drop q.1) nid [(⟨nid, nl, np⟩ : Nod)] q.2.1 = R) (fun q => ⟨65, [(2, .ptr 100 0), (3, .ptr 101 0), (4, .ptr 102 0), (5, .own 130 (q.2.2.map X9).length), (6, ab q.2.1), (7, ai q.1)], [(100, .box [.d (.sl 3 (ns.map X9)), .d (.sl 5 (es.map Xe)), ai nn, ai ne]), (101, .box [ai nid, .d (.sl 1 (nl.map Xb)), .d (.sl 6 (np.map X6))]), (102, .box [ani, ani, ai 0, ai 0]), (130, .row 3 (q.2.2.map X9))]⟩) (fun q => ns.length - q.1) (0, false, []) ⟨Nat.zero_le _, by simpa [Vv] using hR⟩
  (X7 rfl JM ⟨rfl, rfl, rfl, rfl, trivial⟩) ?_
 rintro ⟨i, b, out⟩ ⟨hi, hg⟩
 simp only at hi hg
 have hrm := X0q hg
 have hroom : (out.map X9).length ≤ 100001 := by rw [List.length_map]; omega
 by_cases hil : i < ns.length
 case neg =>
  have hn : ¬ (i : Int) < (ns.map X9).length := by omega
  rw [List.drop_of_length_le (by omega), X6N] at hg
  have hR2 : R.length ≤ ns.length + 1 := hRl
  cases b with
  | true =>
   rw [if_pos rfl, List.append_nil] at hg
   subst hg
   refine Qgf ?_; refine Qeg ?_; refine Qfg ?_
   (show AWP Tryz.prog E _ _ _; refine X1 ?_; exact (show Xd _ _ _ _ _ from ⟨_, St.le_refl _, ⟨⟨102, 0, _, rfl, rfl, .inr ⟨4, _, rfl, rfl, rfl, rfl⟩⟩, trivial⟩, X3 _⟩))
  | false =>
   rw [if_neg (by simp)] at hg
   subst hg
   have hap : (out ++ [(⟨nid, nl, np⟩ : Nod)]).map X9 = out.map X9 ++ [[.v (.int .i64 nid), .sl 1 (nl.map Xb), .sl 6 (np.map X6)]] := by simp [X9]
   rw [hap]
   refine Qgf ?_; refine Qvd ?_; refine Qx ?_; refine QAa ?_; refine ZL ?_; refine Z5 ?_; refine QLd ?_; refine Qfg ?_
   (show AWP Tryz.prog E _ _ _; refine X1 ?_; exact (show Xd _ _ _ _ _ from ⟨_, St.le_refl _, ⟨⟨102, 0, _, rfl, rfl, .inr ⟨4, _, rfl, rfl, rfl, rfl⟩⟩, trivial⟩, X3 _⟩))
 have hn : (i : Int) < (ns.map X9).length := by omega
 obtain ⟨x, hx⟩ := Xu (l := ns) hil
 have hxc : (ns.map X9)[i]? = some (X9 x) := XD hx
 have hirr : ltI x.id nid = true → x.id ≠ nid := fun h e => by rw [e, YB.irr] at h; cases h
 rw [X5i hx hirr] at hg
 obtain ⟨xid, xl, xp⟩ := x
 simp only [X9] at hxc hg hirr
 clear hx
 cases b with
 | true =>
  rw [if_neg (by simp), List.nil_append, Bool.true_or] at hg
  by_cases hq : xid = nid
  ·subst hq
   rw [if_pos rfl, List.nil_append] at hg
   refine Qgg ?_; refine Qhg ?_
   refine ⟨(i + 1, true, out), ⟨by simp only; omega, hg⟩, by simp only; omega, ?_⟩
   dsimp only
   skip
   exact X7 rfl ⟨JL, JL, JL, JL, JL, JL, trivial⟩ ⟨rfl, rfl, rfl, rfl, trivial⟩
  ·rw [if_neg hq, ← List.append_assoc] at hg
   have hap : (out ++ [(⟨xid, xl, xp⟩ : Nod)]).map X9 = out.map X9 ++ [[.v (.int .i64 xid), .sl 1 (xl.map Xb), .sl 6 (xp.map X6)]] := by simp [X9]
   refine Qgg ?_; refine Qjg ?_
   refine ⟨(i + 1, true, out ++ [(⟨xid, xl, xp⟩ : Nod)]), ⟨by simp only; omega, hg⟩, by simp only; omega, ?_⟩
   dsimp only
   rw [hap]
   exact Qkg
 | false =>
  by_cases hp : xid < nid
  ·have hpb : ltI xid nid = true := decide_eq_true hp
   have hq := hirr hpb
   have hp' : ¬ nid ≤ xid := by omega
   rw [hpb, if_neg (by simp), if_neg hq, List.nil_append, ← List.append_assoc] at hg
   have hap : (out ++ [(⟨xid, xl, xp⟩ : Nod)]).map X9 = out.map X9 ++ [[.v (.int .i64 xid), .sl 1 (xl.map Xb), .sl 6 (xp.map X6)]] := by simp [X9]
   refine Qlg ?_; refine QH ?_; refine QUa ?_; refine Qjg ?_
   refine ⟨(i + 1, false, out ++ [(⟨xid, xl, xp⟩ : Nod)]), ⟨by simp only; omega, hg⟩, by simp only; omega, ?_⟩
   dsimp only
   rw [hap]
   exact Qkg
  ·have hpb : ltI xid nid = false := decide_eq_false hp
   have hp' : nid ≤ xid := by omega
   rw [hpb, if_pos ⟨rfl, rfl⟩] at hg
   by_cases hq : xid = nid
   ·subst hq
    rw [if_pos rfl, List.append_nil, ← List.append_assoc] at hg
    have hap : (out ++ [(⟨xid, nl, np⟩ : Nod)]).map X9 = out.map X9 ++ [[.v (.int .i64 xid), .sl 1 (nl.map Xb), .sl 6 (np.map X6)]] := by simp [X9]
    refine Qmg ?_; refine Qhg ?_
    refine ⟨(i + 1, true, out ++ [(⟨xid, nl, np⟩ : Nod)]), ⟨by simp only; omega, hg⟩, by simp only; omega, ?_⟩
    dsimp only
    rw [hap]
    exact Qkg
   ·rw [if_neg hq, List.append_assoc, ← List.append_assoc, ← List.append_assoc] at hg
    have hap : (out ++ [(⟨nid, nl, np⟩ : Nod)] ++ [(⟨xid, xl, xp⟩ : Nod)]).map X9 = (out.map X9 ++ [[.v (.int .i64 nid), .sl 1 (nl.map Xb), .sl 6 (np.map X6)]]) ++ [[.v (.int .i64 xid), .sl 1 (xl.map Xb), .sl 6 (xp.map X6)]] := by simp [X9]
    refine Qmg ?_; refine Qjg ?_
    refine ⟨(i + 1, true, out ++ [(⟨nid, nl, np⟩ : Nod)] ++ [(⟨xid, xl, xp⟩ : Nod)]), ⟨by simp only; omega, hg⟩, by simp only; omega, ?_⟩
    dsimp only
    rw [hap]
    exact Qkg
theorem X8T (g : Gra) (n : Edg) (hl : g.edges.length ≤ 100000) (hn1 : 0 ≤ n.id) (hn2 : n.id ≤ 1000000) : Con Tryz.prog 114 [] [Xl g, .agg [ai n.id, ai n.src, ai n.dst, Uo n.typ, .d (.sl 6 (n.props.map X6))]] [] (Xl (V5 g n)) := by
 refine Xc (xs := [Xl (V5 g n)]) Tryz.func114 rfl Tryz.ntmps114 rfl rfl rfl (fun E => ?_)
 obtain ⟨ns, es, nn, ne⟩ := g
 obtain ⟨nid, nsr, nds, nt, np⟩ := n
 unfold V5 Xl
 simp only at hl hn1 hn2 ⊢
 have hRl : (Yh ltI Edg.id es nid [(⟨nid, nsr, nds, nt, np⟩ : Edg)]).length ≤ es.length + 1 := by
  have := X0W (lt := ltI) (key := Edg.id) (l := es) (k := nid) (ns := [(⟨nid, nsr, nds, nt, np⟩ : Edg)])
  simpa using this
 generalize hR : Yh ltI Edg.id es nid [(⟨nid, nsr, nds, nt, np⟩ : Edg)] = R at *
 have hlm : (es.map Xe).length = es.length := by simp
 refine QZc ?_; refine Zw (γ := 102) ?_; refine JD ?_; refine Qc ?_; refine Qac ?_; refine Xm (YX 5 130 5 rfl rfl rfl) ?_
 refine Xz (ι := Nat × Bool × List Edg) (fun q => q.1 ≤ es.length ∧ q.2.2 ++ Vv ltI Edg.id (es.drop q.1) nid [(⟨nid, nsr, nds, nt, np⟩ : Edg)] q.2.1 = R) (fun q => ⟨65, [(2, .ptr 100 0), (3, .ptr 101 0), (4, .ptr 102 0), (5, .own 130 (q.2.2.map Xe).length), (6, ab q.2.1), (7, ai q.1)], [(100, .box [.d (.sl 3 (ns.map X9)), .d (.sl 5 (es.map Xe)), ai nn, ai ne]), (101, .box [ai nid, ai nsr, ai nds, .d (.v (.string (X5 nt))), .d (.sl 6 (np.map X6))]), (102, .box [ani, ani, ai 0, ai 0]), (130, .row 5 (q.2.2.map Xe))]⟩) (fun q => es.length - q.1) (0, false, []) ⟨Nat.zero_le _, by simpa [Vv] using hR⟩
  (X7 rfl JM ⟨rfl, rfl, rfl, rfl, trivial⟩) ?_
 rintro ⟨i, b, out⟩ ⟨hi, hg⟩
 simp only at hi hg
 have hrm := X0q hg
 have hroom : (out.map Xe).length ≤ 100001 := by rw [List.length_map]; omega
 by_cases hil : i < es.length
 case neg =>
  have hn : ¬ (i : Int) < (es.map Xe).length := by omega
  rw [List.drop_of_length_le (by omega), X6N] at hg
  have hR2 : R.length ≤ es.length + 1 := hRl
  cases b with
  | true =>
   rw [if_pos rfl, List.append_nil] at hg
   subst hg
   refine Qgf ?_; refine Qeg ?_; refine Qfg ?_
   (show AWP Tryz.prog E _ _ _; refine X1 ?_; exact (show Xd _ _ _ _ _ from ⟨_, St.le_refl _, ⟨⟨102, 0, _, rfl, rfl, .inr ⟨4, _, rfl, rfl, rfl, rfl⟩⟩, trivial⟩, X3 _⟩))
  | false =>
   rw [if_neg (by simp)] at hg
   subst hg
   have hap : (out ++ [(⟨nid, nsr, nds, nt, np⟩ : Edg)]).map Xe = out.map Xe ++ [[.v (.int .i64 nid), .v (.int .i64 nsr), .v (.int .i64 nds), .v (.string (X5 nt)), .sl 6 (np.map X6)]] := by simp [Xe]
   rw [hap]
   refine Qgf ?_; refine Qvd ?_; refine Qx ?_; refine QAa ?_; refine ZL ?_; refine Z5 ?_; refine QLd ?_; refine Qfg ?_
   (show AWP Tryz.prog E _ _ _; refine X1 ?_; exact (show Xd _ _ _ _ _ from ⟨_, St.le_refl _, ⟨⟨102, 0, _, rfl, rfl, .inr ⟨4, _, rfl, rfl, rfl, rfl⟩⟩, trivial⟩, X3 _⟩))
 have hn : (i : Int) < (es.map Xe).length := by omega
 obtain ⟨x, hx⟩ := Xu (l := es) hil
 have hxc : (es.map Xe)[i]? = some (Xe x) := XD hx
 have hirr : ltI x.id nid = true → x.id ≠ nid := fun h e => by rw [e, YB.irr] at h; cases h
 rw [X5i hx hirr] at hg
 obtain ⟨xid, xs, xd, xt, xp⟩ := x
 simp only [Xe] at hxc hg hirr
 clear hx
 cases b with
 | true =>
  rw [if_neg (by simp), List.nil_append, Bool.true_or] at hg
  by_cases hq : xid = nid
  ·subst hq
   rw [if_pos rfl, List.nil_append] at hg
   refine Qgg ?_; refine Qhg ?_
   refine ⟨(i + 1, true, out), ⟨by simp only; omega, hg⟩, by simp only; omega, ?_⟩
   dsimp only
   skip
   exact X7 rfl ⟨JL, JL, JL, JL, JL, JL, trivial⟩ ⟨rfl, rfl, rfl, rfl, trivial⟩
  ·rw [if_neg hq, ← List.append_assoc] at hg
   have hap : (out ++ [(⟨xid, xs, xd, xt, xp⟩ : Edg)]).map Xe = out.map Xe ++ [[.v (.int .i64 xid), .v (.int .i64 xs), .v (.int .i64 xd), .v (.string (X5 xt)), .sl 6 (xp.map X6)]] := by simp [Xe]
   refine Qgg ?_; refine Qjg ?_
   refine ⟨(i + 1, true, out ++ [(⟨xid, xs, xd, xt, xp⟩ : Edg)]), ⟨by simp only; omega, hg⟩, by simp only; omega, ?_⟩
   dsimp only
   rw [hap]
   exact Qkg
 | false =>
  by_cases hp : xid < nid
  ·have hpb : ltI xid nid = true := decide_eq_true hp
   have hq := hirr hpb
   have hp' : ¬ nid ≤ xid := by omega
   rw [hpb, if_neg (by simp), if_neg hq, List.nil_append, ← List.append_assoc] at hg
   have hap : (out ++ [(⟨xid, xs, xd, xt, xp⟩ : Edg)]).map Xe = out.map Xe ++ [[.v (.int .i64 xid), .v (.int .i64 xs), .v (.int .i64 xd), .v (.string (X5 xt)), .sl 6 (xp.map X6)]] := by simp [Xe]
   refine Qlg ?_; refine QH ?_; refine QUa ?_; refine Qjg ?_
   refine ⟨(i + 1, false, out ++ [(⟨xid, xs, xd, xt, xp⟩ : Edg)]), ⟨by simp only; omega, hg⟩, by simp only; omega, ?_⟩
   dsimp only
   rw [hap]
   exact Qkg
  ·have hpb : ltI xid nid = false := decide_eq_false hp
   have hp' : nid ≤ xid := by omega
   rw [hpb, if_pos ⟨rfl, rfl⟩] at hg
   by_cases hq : xid = nid
   ·subst hq
    rw [if_pos rfl, List.append_nil, ← List.append_assoc] at hg
    have hap : (out ++ [(⟨xid, nsr, nds, nt, np⟩ : Edg)]).map Xe = out.map Xe ++ [[.v (.int .i64 xid), .v (.int .i64 nsr), .v (.int .i64 nds), .v (.string (X5 nt)), .sl 6 (np.map X6)]] := by simp [Xe]
    refine Qmg ?_; refine Qhg ?_
    refine ⟨(i + 1, true, out ++ [(⟨xid, nsr, nds, nt, np⟩ : Edg)]), ⟨by simp only; omega, hg⟩, by simp only; omega, ?_⟩
    dsimp only
    rw [hap]
    exact Qkg
   ·rw [if_neg hq, List.append_assoc, ← List.append_assoc, ← List.append_assoc] at hg
    have hap : (out ++ [(⟨nid, nsr, nds, nt, np⟩ : Edg)] ++ [(⟨xid, xs, xd, xt, xp⟩ : Edg)]).map Xe = (out.map Xe ++ [[.v (.int .i64 nid), .v (.int .i64 nsr), .v (.int .i64 nds), .v (.string (X5 nt)), .sl 6 (np.map X6)]]) ++ [[.v (.int .i64 xid), .v (.int .i64 xs), .v (.int .i64 xd), .v (.string (X5 xt)), .sl 6 (xp.map X6)]] := by simp [Xe]
    refine Qmg ?_; refine Qjg ?_
    refine ⟨(i + 1, true, out ++ [(⟨nid, nsr, nds, nt, np⟩ : Edg)] ++ [(⟨xid, xs, xd, xt, xp⟩ : Edg)]), ⟨by simp only; omega, hg⟩, by simp only; omega, ?_⟩
    dsimp only
    rw [hap]
    exact Qkg
open Go
abbrev AD := Int × Int × Int
def cAD (a : AD) : List D := [.v (.int .i64 a.1), .v (.int .i64 a.2.1), .v (.int .i64 a.2.2)]
def ltA (a b : AD) : Bool := decide (a.2.1 < b.2.1) || (decide (a.2.1 = b.2.1) && decide (a.2.2 < b.2.2))
def VW (out : List AD) (a : AD) : Nat → Nat
 | 0 => 0
 | k + 1 => match out[k]? with
  | some b => if ltA a b then VW out a k else k + 1
  | none => k + 1
def Vt (out : List AD) (a : AD) : List AD := out.take (VW out a out.length) ++ a :: out.drop (VW out a out.length)
theorem Xbz (out : List AD) (a : AD) : ∀ k, VW out a k ≤ k
 | 0 => Nat.le_refl _
 | k + 1 => by
  rw [VW]
  cases h : out[k]? with
  | none => exact Nat.le_refl _
  | some b =>
   simp only
   split
   ·exact Nat.le_succ_of_le (Xbz out a k)
   ·exact Nat.le_refl _
theorem XhM {out : List AD} {a b : AD} {k : Nat} (h : out[k]? = some b) : VW out a (k + 1) = if ltA a b then VW out a k else k + 1 := by rw [VW, h]
theorem Xbp (out : List AD) (a : AD) : (Vt out a).length = out.length + 1 := by
 have := Xbz out a out.length
 unfold Vt
 rw [List.length_append, List.length_cons, List.length_take, List.length_drop]; omega
def Yi (out : List AD) (a : AD) (k : Nat) : List AD := if k = out.length then out ++ [a] else out.take (k + 1) ++ out.drop k
theorem X5x {out : List AD} {a : AD} {k : Nat} (h : k ≤ out.length) : (Yi out a k).length = out.length + 1 := by
 unfold Yi
 split
 ·simp
 ·rw [List.length_append, List.length_take, List.length_drop]; omega
theorem XfR {out : List AD} {a b : AD} {k : Nat} (h : out[k]? = some b) : (Yi out a (k + 1))[k]? = some b := by
 have hl := (List.getElem?_eq_some_iff.1 h).1
 unfold Yi
 split
 ·rw [List.getElem?_append_left hl]; exact h
 ·rw [List.getElem?_append_left (by rw [List.length_take]; omega), List.getElem?_take, if_pos (by omega)]; exact h
theorem Xfk {out : List AD} {a b : AD} {k : Nat} (h : out[k]? = some b) : (Yi out a (k + 1)).set (k + 1) b = Yi out a k := by
 obtain ⟨hl, hb⟩ := List.getElem?_eq_some_iff.1 h
 have e : Yi out a k = out.take (k + 1) ++ out.drop k := by unfold Yi; rw [if_neg (by omega)]
 have ed : out.drop k = b :: out.drop (k + 1) := by rw [List.drop_eq_getElem_cons hl, hb]
 rw [e]
 unfold Yi
 split
 ·rename_i q
  rw [List.set_append_right _ _ (by omega), q, Nat.sub_self, List.set_cons_zero, List.take_length, ed, show k + 1 = out.length from q, List.drop_length]
 ·rename_i q
  have hk : k + 1 < out.length := by omega
  rw [show k + 1 + 1 = (k + 1) + 1 from rfl, List.take_succ_eq_append_getElem hk, List.append_assoc, List.set_append_right _ _ (by rw [List.length_take]; omega), List.length_take, Nat.min_eq_left (by omega), Nat.sub_self, ed]
  rfl
theorem XfN {out : List AD} {a : AD} {k : Nat} (h : k ≤ out.length) : (Yi out a k).set k a = out.take k ++ a :: out.drop k := by
 unfold Yi
 split
 ·rename_i q
  subst q
  rw [List.set_append_right _ _ (Nat.le_refl _), Nat.sub_self, List.set_cons_zero, List.take_length, List.drop_length]
 ·rename_i q
  have hk : k < out.length := by omega
  rw [List.take_succ_eq_append_getElem hk, List.append_assoc, List.set_append_right _ _ (by rw [List.length_take]; omega), List.length_take, Nat.min_eq_left (by omega), Nat.sub_self]
  rfl
def Vd (e : Edg) (id : Int) : AD := if e.src = id then (id, e.dst, e.id) else if e.dst = id then (id, e.src, e.id) else (0, 0, 0)
def isA (e : Edg) (id : Int) : Bool := decide (e.src = id) || decide (e.dst = id)
def Uz (id : Int) : List AD → List Edg → List AD
 | out, [] => out
 | out, e :: r => if isA e id then Uz id (Vt out (Vd e id)) r else Uz id out r
theorem XhD {id : Int} {out : List AD} {l : List Edg} {i : Nat} {e : Edg} (h : l[i]? = some e) : Uz id out (l.drop i) = if isA e id then Uz id (Vt out (Vd e id)) (l.drop (i + 1)) else Uz id out (l.drop (i + 1)) := by
 obtain ⟨hl, h⟩ := List.getElem?_eq_some_iff.1 h
 rw [List.drop_eq_getElem_cons hl, h, Uz]
theorem X3X (id : Int) : ∀ (l : List Edg) (out : List AD), (Uz id out l).length = out.length + l.countP fun e => isA e id
 | [], out => by simp [Uz]
 | e :: r, out => by
  rw [Uz, List.countP_cons]
  split
  ·rw [X3X id r, Xbp]; omega
  ·rw [X3X id r]; omega
theorem XgN (l : List Edg) (id : Int) : decide (0 < (Uz id [] l).length) = UG l id := by
 rw [X3X, List.length_nil, Nat.zero_add]
 unfold UG
 rw [Bool.eq_iff_iff]
 simp only [decide_eq_true_eq, List.any_eq_true]
 rw [List.countP_pos_iff]
 simp only [isA, Bool.or_eq_true, decide_eq_true_eq]
end Go.Fw
