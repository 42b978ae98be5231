/- A bare node added by the reference. -/
import Derived.Test.YtonekjkmnhfjmaaGreatDoorM28
import Derived.Test.YtonekjkmnhfjmaaGreatDoorM36
set_option maxHeartbeats 16000000
namespace Go.Fw
open Go Go.Proofs
set_option maxRecDepth 100000
set_option linter.unusedVariables false
set_option linter.unusedSimpArgs false
def X0y (l : List Edg) (id : Int) : Option Edg := l.find? fun e => decide (e.id = id)
abbrev X1b : Edg := ⟨0, 0, 0, [], []⟩
def U0 (e : Edg) : AVal := .agg [ai e.id, ai e.src, ai e.dst, Uo e.typ, .d (.sl 6 (e.props.map X6))]
theorem XfO {l : List Edg} {i : Nat} {n : Edg} {id : Int} (h : l[i]? = some n) : X0y (l.drop i) id = if n.id = id then some n else X0y (l.drop (i + 1)) id := by
 obtain ⟨hi, h⟩ := List.getElem?_eq_some_iff.1 h
 unfold X0y
 rw [List.drop_eq_getElem_cons hi, h, List.find?_cons]
 by_cases q : n.id = id <;> simp [q]
theorem Xe9 (g : Gra) (id : Int) (hl : g.edges.length ≤ 9223372036854775807) : Con Tryz.prog 112 [] [Xl g, ai id] [] (.tup [U0 ((X0y g.edges id).getD X1b), ab (X0y g.edges id).isSome]) := by
 refine Xc (xs := [U0 ((X0y g.edges id).getD X1b), ab (X0y g.edges id).isSome]) Tryz.func112 rfl Tryz.ntmps112 rfl rfl rfl (fun E => ?_)
 obtain ⟨ns, es, nn, ne⟩ := g
 unfold Xl
 simp only at hl ⊢
 generalize hG : X0y es id = G
 refine Qpd ?_; refine Qua ?_
 refine Xz (fun i : Nat => i ≤ es.length ∧ X0y (es.drop i) id = G) (fun i => ⟨28, [(1, ai id), (2, .ptr 100 0), (4, .ptr 101 0), (6, ai i)], [(100, .box [.d (.sl 3 (ns.map X9)), .d (.sl 5 (es.map Xe)), ai nn, ai ne]), (101, .box [ai 0, ai 0, ai 0, Uo [], ani])]⟩) (fun i => es.length - i) 0 ⟨Nat.zero_le _, by simpa using hG⟩
  (X7 rfl JM ⟨rfl, rfl, trivial⟩) ?_
 rintro i ⟨hi, hg⟩
 by_cases hil : i < es.length
 case neg =>
  have hn : ¬ (i : Int) < (es.map Xe).length := by rw [List.length_map]; omega
  rw [List.drop_of_length_le (by omega)] at hg
  have hg : none = G := hg
  subst hg
  simp only [Option.getD_none, Option.isSome_none, X1b, U0, List.map_nil]
  refine Qgf ?_; refine Qga ?_
  (show AWP Tryz.prog E _ _ _; refine X1 ?_; exact (show Xd _ _ _ _ _ from ⟨_, Y5 101 (cs' := [ai 0, ai 0, ai 0, Uo [], .d (.sl 6 [])]) rfl JM rfl, ⟨⟨101, 0, _, rfl, rfl, .inr ⟨5, _, rfl, rfl, rfl, rfl⟩⟩, rfl, trivial⟩, X3 _⟩))
 have hn : (i : Int) < (es.map Xe).length := by rw [List.length_map]; omega
 obtain ⟨x, hx⟩ := Xu (l := es) hil
 have hxc : (es.map Xe)[i]? = some (Xe x) := XD hx
 rw [XfO hx] at hg
 obtain ⟨xid, src, dst, typ, props⟩ := x
 simp only [Xe] at hxc hg
 clear hx
 by_cases hq : xid = id
 ·rw [if_pos hq] at hg
  subst hg
  subst hq
  simp only [Option.getD_some, Option.isSome_some, U0]
  refine Qjf ?_
  (show AWP Tryz.prog E _ _ _; refine X1 ?_; exact (show Xd _ _ _ _ _ from ⟨_, St.le_refl _, ⟨⟨101, 0, _, rfl, rfl, .inr ⟨5, _, rfl, rfl, rfl, rfl⟩⟩, rfl, trivial⟩, X3 _⟩))
 rw [if_neg hq] at hg
 exact Qkf
def UH (id : Int) : Chg := ⟨1, id, 0, 0, [], .mk 0 0 0 [] []⟩
theorem Xfm {id : Int} (h1 : 1 ≤ id) (h2 : id ≤ 1000000) : YF (UH id) = 0 := by
 have hi : idV id = true := by unfold idV; simp; omega
 unfold YF UH
 simp [hi, Vl, Vp, Yo, X8]
 try rfl
end Go.Fw
