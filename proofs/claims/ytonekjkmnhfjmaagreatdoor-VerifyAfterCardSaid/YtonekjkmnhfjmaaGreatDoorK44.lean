/- The reference's steps of a node, and whether it is used. -/
import Derived.Test.YtonekjkmnhfjmaaGreatDoorK37
import Derived.Test.YtonekjkmnhfjmaaGreatDoorK43
set_option maxHeartbeats 16000000
namespace Go.Fw
open Go Go.Proofs
set_option maxRecDepth 100000
set_option linter.unusedVariables false
set_option linter.unusedSimpArgs false
theorem XaE {sz q o : Nat} {R : List (List D)} {r : List D} {d : D} {T : List (Option D)} (hz : ∀ x ∈ R, x.length = sz) (hq : R[q]? = some r) (ho : r[o]? = some d) : (Xy (R.flatten.map some ++ T) none)[0 + q * sz + o]? = some (.d d) := by
 rw [Nat.zero_add]
 simp only [Xy, List.getElem?_map, X0l T hz hq ho]; rfl
theorem X9k {sz i : Nat} {xs : List (List D)} {T : List (Option D)} {b b' : List D} (h : ∀ x ∈ xs, x.length = sz) (hx : xs[i]? = some b) (hb : b'.length = sz) :
  Xy ((xs.set i b').flatten.map some ++ T) none = (Xy (xs.flatten.map some ++ T) none).take (0 + i * sz) ++ b'.map .d ++ (Xy (xs.flatten.map some ++ T) none).drop (0 + i * sz + (b'.map AVal.d).length) := by
 have e := XbD (a := []) (b := b) (c := []) (b' := b') (o := 0) (T := T) h (by simpa using hx) rfl (by rw [hb, h b (List.mem_of_getElem? hx)])
 simp only [List.nil_append, List.append_nil, Nat.add_zero, Nat.zero_add] at e ⊢
 exact e
theorem Xa0 (l : List AD) : ∀ x ∈ l.map cAD, x.length = 3 := fun x hx => by obtain ⟨p, _, rfl⟩ := List.mem_map.1 hx; rfl
theorem Xey (e : Edg) (id : Int) : Con Tryz.prog 294 [] [Uj e, ai id, ai 3] [] (.tup [.agg [ai (Vy e id).1, ai (Vy e id).2.1, ai (Vy e id).2.2], ab (isA e id)]) := by
 refine Xc (xs := [.agg [ai (Vy e id).1, ai (Vy e id).2.1, ai (Vy e id).2.2], ab (isA e id)]) Tryz.func294 rfl Tryz.ntmps294 rfl rfl rfl (fun E => ?_)
 obtain ⟨eid, src, dst, typ, ps⟩ := e
 simp only [Uj]
 by_cases h1 : src = id
 ·have hs : Vy ⟨eid, src, dst, typ, ps⟩ id = (id, dst, eid) := if_pos h1
  have hi : isA ⟨eid, src, dst, typ, ps⟩ id = true := by simp [isA, h1]
  rw [hs, hi]
  clear hs hi
  subst h1
  refine Qpi ?_; refine Qv ?_; refine Qke ?_; refine ZJ ?_; refine QCa ?_
  (show AWP Tryz.prog E _ _ _; refine X1 ?_; exact (show Xd _ _ _ _ _ from ⟨_, St.le_refl _, ⟨⟨101, 0, _, rfl, rfl, .inr ⟨3, _, rfl, rfl, rfl, rfl⟩⟩, rfl, trivial⟩, X3 _⟩))
 by_cases h2 : dst = id
 ·have hs : Vy ⟨eid, src, dst, typ, ps⟩ id = (id, src, eid) := by unfold Vy; rw [if_neg h1, if_pos h2]
  have hi : isA ⟨eid, src, dst, typ, ps⟩ id = true := by simp [isA, h2]
  rw [hs, hi]
  clear hs hi
  subst h2
  refine Qpi ?_; refine Qj ?_; refine Qh ?_; refine QWa ?_; refine QJd ?_; refine Z4 ?_; refine ZB ?_; refine Qv ?_; refine Qke ?_; refine ZJ ?_; refine QCa ?_
  (show AWP Tryz.prog E _ _ _; refine X1 ?_; exact (show Xd _ _ _ _ _ from ⟨_, St.le_refl _, ⟨⟨101, 0, _, rfl, rfl, .inr ⟨3, _, rfl, rfl, rfl, rfl⟩⟩, rfl, trivial⟩, X3 _⟩))
 have hs : Vy ⟨eid, src, dst, typ, ps⟩ id = (0, 0, 0) := by unfold Vy; rw [if_neg h1, if_neg h2]
 have hi : isA ⟨eid, src, dst, typ, ps⟩ id = false := by simp [isA, h1, h2]
 rw [hs, hi]
 clear hs hi
 refine Qpi ?_; refine Qj ?_; refine Qh ?_; refine QWa ?_; refine QJd ?_; refine Z4 ?_; refine ZB ?_; refine Qj ?_; refine QDa ?_
 (show AWP Tryz.prog E _ _ _; refine X1 ?_; exact (show Xd _ _ _ _ _ from ⟨_, St.le_refl _, ⟨⟨101, 0, _, rfl, rfl, .inr ⟨3, _, rfl, rfl, rfl, rfl⟩⟩, rfl, trivial⟩, X3 _⟩))
theorem Xgx (e : Edg) : Con Tryz.prog 295 [] [Uj e, .d (.sl 1 [])] [] (ab true) := by
 refine Xc (xs := [ab true]) Tryz.func295 rfl Tryz.ntmps295 rfl rfl rfl (fun E => ?_)
 obtain ⟨eid, src, dst, typ, ps⟩ := e
 simp only [Uj]
 refine Qjd ?_; refine Qrd ?_; refine QW ?_; refine QPa ?_
 (show AWP Tryz.prog E _ _ _; refine X1 ?_; exact (show Xd _ _ _ _ _ from ⟨_, St.le_refl _, ⟨rfl, trivial⟩, X3 _⟩))
theorem Xin (g : Gra) (id : Int) (hl : g.edges.length ≤ 100000) : Con Tryz.prog 239 [] [Xj g, ai id, .d (.sl 1 []), ai 3] [] (.d (.sl 3 ((UV id [] g.edges).map cAD))) := by
 refine Xc (xs := [.d (.sl 3 ((UV id [] g.edges).map cAD))]) Tryz.func239 rfl Tryz.ntmps239 rfl rfl rfl (fun E => ?_)
 obtain ⟨ns, es, nn, ne⟩ := g
 unfold Xj
 simp only at hl ⊢
 have hlm : (es.map Xf).length = es.length := by simp
 have hRl : (UV id [] es).length ≤ es.length := by
  rw [X4t]; simp only [List.length_nil, Nat.zero_add]; exact List.countP_le_length
 generalize hR : UV id [] es = R at *
 refine QHb ?_; refine QXc ?_; refine Xk (U1 9 130 3 rfl rfl rfl) ?_
 refine Xz (ι := Nat × List AD) (fun q => q.1 ≤ es.length ∧ UV id q.2 (es.drop q.1) = R ∧ q.2.length ≤ q.1) (fun q => ⟨100, [(1, ai id), (2, .d (.sl 1 [])), (3, ai 3), (4, .ptr 100 0), (9, .own 130 (q.2.map cAD).length), (10, ai q.1)], [(100, .box [.d (.sl 3 (ns.map X9)), .d (.sl 5 (es.map Xf)), ai nn, ai ne]), (130, .row 3 (q.2.map cAD))]⟩) (fun q => es.length - q.1) (0, []) ⟨Nat.zero_le _, by simpa using hR, Nat.le_refl _⟩
  (X6 rfl JM ⟨rfl, rfl, trivial⟩) ?_
 rintro ⟨i, out⟩ ⟨hi, hg, hol⟩
 simp only at hi hg hol
 have hom : (out.map cAD).length = out.length := by simp
 by_cases hil : i < es.length
 case neg =>
  have hn : ¬ (i : Int) < (es.map Xf).length := by omega
  rw [List.drop_of_length_le (by omega)] at hg
  have hg : out = R := hg
  subst hg
  refine Qgh ?_; refine Qtf ?_; refine Xk (Ys 8 130 rfl rfl rfl) ?_
  (show AWP Tryz.prog E _ _ _; refine X1 ?_; exact (show Xd _ _ _ _ _ from ⟨_, St.le_refl _, ⟨rfl, trivial⟩, X3 _⟩))
 have hn : (i : Int) < (es.map Xf).length := by omega
 obtain ⟨x, hx⟩ := Xs (l := es) hil
 have hxc : (es.map Xf)[i]? = some (Xf x) := Xx hx
 rw [XhT hx] at hg
 have h7 := Xey x id
 have h8 := Xgx x
 clear hx hR hRl
 generalize Vy x id = a at *
 generalize isA x id = ia at *
 obtain ⟨eid, src, dst, typ, ps⟩ := x
 simp only [Uj, Xf] at h7 h8 hxc
 cases ia with
 | false =>
  rw [if_neg (by simp)] at hg
  refine Qjh ?_; refine Qic ?_; refine Qdc ?_; refine Qq ?_; refine Zr (hcon := h7) ?_; refine QHe ?_; refine Qwe ?_; refine Qpf ?_; refine ZB ?_; refine Qm ?_; refine Xq ?_; refine Qgb ?_; exact ⟨(i + 1, out), ⟨by simp only; omega, hg, by simp only; omega⟩, by simp only; omega, X6 rfl JM ⟨rfl, rfl, trivial⟩⟩
 | true =>
  rw [if_pos rfl] at hg
  have hroom : (out.map cAD).length ≤ 100000 := by omega
  refine Qjh ?_; refine Qic ?_; refine Qdc ?_; refine Qq ?_; refine Zr (hcon := h7) ?_; refine QHe ?_; refine Qwe ?_; refine QJd ?_; refine Qdc ?_; refine Z1 ?_; refine Zr (hcon := h8) ?_; refine Qha ?_; refine Qd ?_; refine Z5 ?_; refine QC ?_; refine ZX ?_; refine Zo ?_; refine Qn ?_; refine Qma ?_
  clear h7 h8 hxc
  obtain ⟨a1, a2, a3⟩ := a
  have hfl : (out.map cAD ++ [[.v (.int .i64 a1), .v (.int .i64 a2), .v (.int .i64 a3)]]) = (Yr out (a1, a2, a3) out.length).map cAD := by unfold Yr; rw [if_pos rfl]; simp [cAD]
  refine X0n 9 130 120 (n := out.length + 1) (xs := out.map cAD ++ [[.v (.int .i64 a1), .v (.int .i64 a2), .v (.int .i64 a3)]]) (by conv => lhs; whnf) (by simp) (Eq.trans (b := .own 130 ((out.map cAD).length + 1)) rfl (by rw [hom])) (by simp) rfl rfl (fun c k hc1 hc2 hc3 hz => ?_)
  rw [hfl] at hc1 hc3 ⊢
  have hsl : ∀ j, j ≤ out.length → ((Yr out (a1, a2, a3) j).map cAD).length = out.length + 1 := fun j hj => by rw [List.length_map, X7F hj]
  rw [hsl _ (Nat.le_refl _)] at hc1 hc3
  refine Xz (fun j : Nat => j ≤ out.length ∧ X0d out (a1, a2, a3) j = X0d out (a1, a2, a3) out.length) (fun j => ⟨100, [(1, ai id), (2, .d (.sl 1 [])), (3, ai 3), (4, .ptr 100 0), (9, .rs 120 0 (out.length + 1) c), (10, ai i), (11, .ptr 101 0), (13, ai j)], [(100, .box [.d (.sl 3 (ns.map X9)), .d (.sl 5 (es.map Xf)), ai nn, ai ne]), (101, .box [ai a1, ai a2, ai a3]), (120, .raw (((Yr out (a1, a2, a3) j).map cAD).flatten.map some ++ List.replicate k none) none)]⟩) (fun j => j) out.length ⟨Nat.le_refl _, rfl⟩
   (X6 rfl JM ⟨rfl, rfl, rfl, trivial⟩) ?_
  rintro j ⟨hj, hp⟩
  have hz3 := Xa0 (Yr out (a1, a2, a3) j)
  have hlen := Vu (k := k) hz3
  rw [hsl j hj] at hlen
  have hjn : j < out.length + 1 := by omega
  obtain ⟨y, hy⟩ := Xs (l := Yr out (a1, a2, a3) j) (k := j) (by rw [X7F hj]; omega)
  have hyc : ((Yr out (a1, a2, a3) j).map cAD)[j]? = some (cAD y) := Xx hy
  have hput : X0d out (a1, a2, a3) j = j → Xy (((VN out (a1, a2, a3)).map cAD).flatten.map some ++ List.replicate k none) none = (Xy (((Yr out (a1, a2, a3) j).map cAD).flatten.map some ++ List.replicate k none) none).take (0 + j * 3) ++ [ai a1, ai a2, ai a3] ++ (Xy (((Yr out (a1, a2, a3) j).map cAD).flatten.map some ++ List.replicate k none) none).drop (0 + j * 3 + [ai a1, ai a2, ai a3].length) := fun hpj => by
   have e := X9k (b' := cAD (a1, a2, a3)) (T := List.replicate k none) hz3 hyc rfl
   rw [show cAD (a1, a2, a3) = cAD (a1, a2, a3) from rfl, ← List.map_set, Xhz hj, show out.take j ++ (a1, a2, a3) :: out.drop j = VN out (a1, a2, a3) by unfold VN; rw [← hp, hpj]] at e
   exact e
  have hbd : 0 + j * 3 + 3 ≤ (((Yr out (a1, a2, a3) j).map cAD).flatten.map some ++ List.replicate k (none : Option D)).length := by rw [hlen]; omega
  have hnl : (VN out (a1, a2, a3)).length = out.length + 1 := X85 _ _
  have hnm : ((VN out (a1, a2, a3)).map cAD).length = out.length + 1 := by rw [List.length_map]; exact hnl
  have hnz := Xa0 (VN out (a1, a2, a3))
  have hnlen := Vu (k := k) hnz
  rw [hnm] at hnlen
  clear hy hyc y hfl hz
  cases j with
  | zero =>
   have hpj := hput rfl
   clear hput hp
   generalize VN out (a1, a2, a3) = O at *
   generalize hC : ((Yr out (a1, a2, a3) 0).map cAD).flatten.map some ++ List.replicate k (none : Option D) = C at *
   refine QFb ?_; refine Qpf ?_; refine QI ?_; refine Qpa ?_; refine Qpa ?_; refine Qpa ?_; refine Qpa ?_; refine Qpa ?_; refine Qra ?_; refine Qqi ?_; (refine Z0j (cs' := ((O.map cAD).flatten.map some ++ List.replicate k none)) (ho' := none) ?_ (hcs := ?hcs129); (case hcs129 => exact hpj)); refine JD ?_; refine Qgb ?_
   refine ⟨(i + 1, O), ⟨by simp only; omega, hg, by simp only; omega⟩, by simp only; omega, ?_⟩
   refine St.le_trans (Vi 9 120 130 (n := out.length + 1) (c := c) (O.map cAD) (by conv => lhs; whnf) (by conv => lhs; whnf) ?_ hnm hnz hc1 hc2 (by rw [hnlen]; exact hc3) rfl rfl) ?_
   ·rw [← hnm]; exact X3E hnz
   ·dsimp only
    rw [hnm]
    exact X6 rfl JM ⟨rfl, rfl, trivial⟩
  | succ j =>
   obtain ⟨⟨b1, b2, b3⟩, hb⟩ := Xs (l := out) (k := j) (by omega)
   have hsa := XhM (a := (a1, a2, a3)) hb
   have hsc : ((Yr out (a1, a2, a3) (j + 1)).map cAD)[j]? = some (cAD (b1, b2, b3)) := Xx hsa
   have hss := Xe4 (a := (a1, a2, a3)) hb
   rw [XdG hb] at hp hput
   have hsub : (((j + 1 : Nat) : Int) - 1) = ((j : Nat) : Int) := by omega
   have hr1 : (Xy (((Yr out (a1, a2, a3) (j + 1)).map cAD).flatten.map some ++ List.replicate k none) none)[0 + j * 3 + 1]? = some (ai b2) := XaE (T := List.replicate k none) hz3 hsc rfl
   have hr2 : (Xy (((Yr out (a1, a2, a3) (j + 1)).map cAD).flatten.map some ++ List.replicate k none) none)[0 + j * 3 + 2]? = some (ai b3) := XaE (T := List.replicate k none) hz3 hsc rfl
   have hrow : ((Xy (((Yr out (a1, a2, a3) (j + 1)).map cAD).flatten.map some ++ List.replicate k none) none).drop (0 + j * 3)).take 3 = [ai b1, ai b2, ai b3] := X7p (List.replicate k none) hz3 hsc
   obtain ⟨y', hy'⟩ := Xs (l := Yr out (a1, a2, a3) (j + 1)) (k := j + 1) (by rw [X7F hj]; omega)
   have hmv : Xy (((Yr out (a1, a2, a3) j).map cAD).flatten.map some ++ List.replicate k none) none = (Xy (((Yr out (a1, a2, a3) (j + 1)).map cAD).flatten.map some ++ List.replicate k none) none).take (0 + (j + 1) * 3) ++ [ai b1, ai b2, ai b3] ++ (Xy (((Yr out (a1, a2, a3) (j + 1)).map cAD).flatten.map some ++ List.replicate k none) none).drop (0 + (j + 1) * 3 + [ai b1, ai b2, ai b3].length) := by
    have e := X9k (b' := cAD (b1, b2, b3)) (T := List.replicate k none) hz3 (Xx hy') rfl
    rw [← List.map_set, hss] at e
    exact e
   clear hsa hsc hss hb hy' y'
   have hlt : ltA (a1, a2, a3) (b1, b2, b3) = (decide (a2 < b2) || (decide (a2 = b2) && decide (a3 < b3))) := rfl
   rw [hlt] at hp hput
   generalize hC : ((Yr out (a1, a2, a3) (j + 1)).map cAD).flatten.map some ++ List.replicate k (none : Option D) = C at *
   by_cases c1 : a2 < b2
   ·rw [decide_eq_true c1, Bool.true_or, if_pos rfl] at hp
    clear hput
    generalize hC' : ((Yr out (a1, a2, a3) j).map cAD).flatten.map some ++ List.replicate k (none : Option D) = C' at *
    refine QFb ?_; refine QPb ?_; refine Qq ?_
    (refine Z9 (op := .sub) (r' := .int .i64 (j : Nat)) (u := .int .i64 ((j + 1 : Nat) : Int)) (v := .int .i64 1) ?_ (hr' := by exact congrArg (Value.int .i64) hsub) (hr := by exact XQ (by unfold Xv; omega)))
    refine QJg ?_; refine Z0o ?_ (hy := by exact hr1); refine Zq ?_; refine Qpf ?_; refine QI ?_; refine Qpa ?_; refine Qpa ?_; refine ZD ?_; refine QK ?_; refine ZB ?_; refine QDb ?_; refine Qd ?_; refine Qt ?_
    (refine Z9 (op := .sub) (r' := .int .i64 (j : Nat)) (u := .int .i64 ((j + 1 : Nat) : Int)) (v := .int .i64 1) ?_ (hr' := by exact congrArg (Value.int .i64) hsub) (hr := by exact XQ (by unfold Xv; omega)))
    refine Z0i (sz := 3) ?_; (refine Z0s (ys := [ai b1, ai b2, ai b3]) (sz := 3) ?_ (hy := ?hy131); (case hy131 => exact hrow)); refine Z0i (sz := 3) ?_; (refine Z0j (cs' := C') (ho' := none) ?_ (hcs := ?hcs132); (case hcs132 => exact hmv)); refine JD ?_; refine Qfb ?_
    (refine Z9 (op := .sub) (r' := .int .i64 (j : Nat)) (u := .int .i64 ((j + 1 : Nat) : Int)) (v := .int .i64 1) ?_ (hr' := by exact congrArg (Value.int .i64) hsub) (hr := by exact XQ (by unfold Xv; omega)))
    refine Qb ?_; exact ⟨j, ⟨by omega, hp⟩, by omega, X6 rfl JM ⟨rfl, rfl, by rw [hC']; rfl, trivial⟩⟩
   ·by_cases c2 : a2 = b2
    ·by_cases c3 : a3 < b3
     ·rw [decide_eq_true c2, decide_eq_true c3, Bool.and_true, Bool.or_true, if_pos rfl] at hp
      clear hput
      generalize hC' : ((Yr out (a1, a2, a3) j).map cAD).flatten.map some ++ List.replicate k (none : Option D) = C' at *
      refine QFb ?_; refine QPb ?_; refine Qq ?_
      (refine Z9 (op := .sub) (r' := .int .i64 (j : Nat)) (u := .int .i64 ((j + 1 : Nat) : Int)) (v := .int .i64 1) ?_ (hr' := by exact congrArg (Value.int .i64) hsub) (hr := by exact XQ (by unfold Xv; omega)))
      refine Qri ?_
      (refine Z9 (op := .sub) (r' := .int .i64 (j : Nat)) (u := .int .i64 ((j + 1 : Nat) : Int)) (v := .int .i64 1) ?_ (hr' := by exact congrArg (Value.int .i64) hsub) (hr := by exact XQ (by unfold Xv; omega)))
      refine QJg ?_; refine Z0o ?_ (hy := by exact hr1); refine Z4 ?_; refine QPb ?_; refine Qq ?_
      (refine Z9 (op := .sub) (r' := .int .i64 (j : Nat)) (u := .int .i64 ((j + 1 : Nat) : Int)) (v := .int .i64 1) ?_ (hr' := by exact congrArg (Value.int .i64) hsub) (hr := by exact XQ (by unfold Xv; omega)))
      refine QJg ?_; refine Z0o ?_ (hy := by exact hr2); refine Zq ?_; refine Qqb ?_; refine ZB ?_; refine QDb ?_; refine Qd ?_; refine Qt ?_
      (refine Z9 (op := .sub) (r' := .int .i64 (j : Nat)) (u := .int .i64 ((j + 1 : Nat) : Int)) (v := .int .i64 1) ?_ (hr' := by exact congrArg (Value.int .i64) hsub) (hr := by exact XQ (by unfold Xv; omega)))
      refine Z0i (sz := 3) ?_; (refine Z0s (ys := [ai b1, ai b2, ai b3]) (sz := 3) ?_ (hy := ?hy135); (case hy135 => exact hrow)); refine Z0i (sz := 3) ?_; (refine Z0j (cs' := C') (ho' := none) ?_ (hcs := ?hcs136); (case hcs136 => exact hmv)); refine JD ?_; refine Qfb ?_
      (refine Z9 (op := .sub) (r' := .int .i64 (j : Nat)) (u := .int .i64 ((j + 1 : Nat) : Int)) (v := .int .i64 1) ?_ (hr' := by exact congrArg (Value.int .i64) hsub) (hr := by exact XQ (by unfold Xv; omega)))
      refine Qb ?_; exact ⟨j, ⟨by omega, hp⟩, by omega, X6 rfl JM ⟨rfl, rfl, by rw [hC']; rfl, trivial⟩⟩
     ·rw [decide_eq_false c1, decide_eq_false c3, Bool.and_false, Bool.or_false, if_neg (by simp)] at hput
      have hpj := hput rfl
      clear hput hp hmv
      generalize VN out (a1, a2, a3) = O at *
      refine QFb ?_; refine QPb ?_; refine Qq ?_
      (refine Z9 (op := .sub) (r' := .int .i64 (j : Nat)) (u := .int .i64 ((j + 1 : Nat) : Int)) (v := .int .i64 1) ?_ (hr' := by exact congrArg (Value.int .i64) hsub) (hr := by exact XQ (by unfold Xv; omega)))
      refine Qri ?_
      (refine Z9 (op := .sub) (r' := .int .i64 (j : Nat)) (u := .int .i64 ((j + 1 : Nat) : Int)) (v := .int .i64 1) ?_ (hr' := by exact congrArg (Value.int .i64) hsub) (hr := by exact XQ (by unfold Xv; omega)))
      refine QJg ?_; refine Z0o ?_ (hy := by exact hr1); refine Z4 ?_; refine QPb ?_; refine Qq ?_
      (refine Z9 (op := .sub) (r' := .int .i64 (j : Nat)) (u := .int .i64 ((j + 1 : Nat) : Int)) (v := .int .i64 1) ?_ (hr' := by exact congrArg (Value.int .i64) hsub) (hr := by exact XQ (by unfold Xv; omega)))
      refine QJg ?_; refine Z0o ?_ (hy := by exact hr2); refine Zq ?_; refine Qqb ?_; refine ZB ?_; refine Qqi ?_; (refine Z0j (cs' := ((O.map cAD).flatten.map some ++ List.replicate k none)) (ho' := none) ?_ (hcs := ?hcs139); (case hcs139 => exact hpj)); refine JD ?_; refine Qgb ?_
      refine ⟨(i + 1, O), ⟨by simp only; omega, hg, by simp only; omega⟩, by simp only; omega, ?_⟩
      refine St.le_trans (Vi 9 120 130 (n := out.length + 1) (c := c) (O.map cAD) (by conv => lhs; whnf) (by conv => lhs; whnf) ?_ hnm hnz hc1 hc2 (by rw [hnlen]; exact hc3) rfl rfl) ?_
      ·rw [← hnm]; exact X3E hnz
      ·dsimp only
       rw [hnm]
       exact X6 rfl JM ⟨rfl, rfl, trivial⟩
    ·rw [decide_eq_false c1, decide_eq_false c2, Bool.false_and, Bool.or_false, if_neg (by simp)] at hput
     have hpj := hput rfl
     clear hput hp hmv
     generalize VN out (a1, a2, a3) = O at *
     refine QFb ?_; refine QPb ?_; refine Qq ?_
     (refine Z9 (op := .sub) (r' := .int .i64 (j : Nat)) (u := .int .i64 ((j + 1 : Nat) : Int)) (v := .int .i64 1) ?_ (hr' := by exact congrArg (Value.int .i64) hsub) (hr := by exact XQ (by unfold Xv; omega)))
     refine Qri ?_
     (refine Z9 (op := .sub) (r' := .int .i64 (j : Nat)) (u := .int .i64 ((j + 1 : Nat) : Int)) (v := .int .i64 1) ?_ (hr' := by exact congrArg (Value.int .i64) hsub) (hr := by exact XQ (by unfold Xv; omega)))
     refine QJg ?_; refine Z0o ?_ (hy := by exact hr1); refine Z4 ?_; refine Qpf ?_; refine Qra ?_; refine ZE ?_; refine ZB ?_; refine Qqi ?_; (refine Z0j (cs' := ((O.map cAD).flatten.map some ++ List.replicate k none)) (ho' := none) ?_ (hcs := ?hcs141); (case hcs141 => exact hpj)); refine JD ?_; refine Qgb ?_
     refine ⟨(i + 1, O), ⟨by simp only; omega, hg, by simp only; omega⟩, by simp only; omega, ?_⟩
     refine St.le_trans (Vi 9 120 130 (n := out.length + 1) (c := c) (O.map cAD) (by conv => lhs; whnf) (by conv => lhs; whnf) ?_ hnm hnz hc1 hc2 (by rw [hnlen]; exact hc3) rfl rfl) ?_
     ·rw [← hnm]; exact X3E hnz
     ·dsimp only
      rw [hnm]
      exact X6 rfl JM ⟨rfl, rfl, trivial⟩
end Go.Fw
