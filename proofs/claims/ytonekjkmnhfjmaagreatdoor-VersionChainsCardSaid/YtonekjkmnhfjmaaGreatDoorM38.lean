/- The reference's steps of a node, and whether it is used. -/
import Derived.Test.YtonekjkmnhfjmaaGreatDoorM35
import Derived.Test.YtonekjkmnhfjmaaGreatDoorM37
set_option maxHeartbeats 16000000
namespace Go.Fw
open Go Go.Proofs
set_option maxRecDepth 100000
set_option linter.unusedVariables false
set_option linter.unusedSimpArgs false
theorem Xbw {sz q o : Nat} {R : List (List D)} {r : List D} {d : D} {T : List (Option D)} (hz : ∀ x ∈ R, x.length = sz) (hq : R[q]? = some r) (ho : r[o]? = some d) : (XA (R.flatten.map some ++ T) none)[0 + q * sz + o]? = some (.d d) := by
 rw [Nat.zero_add]
 simp only [XA, List.getElem?_map, X04 T hz hq ho]; rfl
theorem XaW {sz i : Nat} {xs : List (List D)} {T : List (Option D)} {b b' : List D} (h : ∀ x ∈ xs, x.length = sz) (hx : xs[i]? = some b) (hb : b'.length = sz) :
  XA ((xs.set i b').flatten.map some ++ T) none = (XA (xs.flatten.map some ++ T) none).take (0 + i * sz) ++ b'.map .d ++ (XA (xs.flatten.map some ++ T) none).drop (0 + i * sz + (b'.map AVal.d).length) := by
 have e := Xbl (a := []) (b := b) (c := []) (b' := b') (o := 0) (T := T) h (by simpa using hx) rfl (by rw [hb, h b (List.mem_of_getElem? hx)])
 simp only [List.nil_append, List.append_nil, Nat.add_zero, Nat.zero_add] at e ⊢
 exact e
theorem X8a (l : List AD) : ∀ x ∈ l.map cAD, x.length = 3 := fun x hx => by obtain ⟨p, _, rfl⟩ := List.mem_map.1 hx; rfl
theorem Xec (e : Edg) (id : Int) : Con Tryz.prog 294 [] [U0 e, ai id, ai 3] [] (.tup [.agg [ai (Vd e id).1, ai (Vd e id).2.1, ai (Vd e id).2.2], ab (isA e id)]) := by
 refine Xc (xs := [.agg [ai (Vd e id).1, ai (Vd e id).2.1, ai (Vd e id).2.2], ab (isA e id)]) Tryz.func294 rfl Tryz.ntmps294 rfl rfl rfl (fun E => ?_)
 obtain ⟨eid, src, dst, typ, ps⟩ := e
 simp only [U0]
 by_cases h1 : src = id
 ·have hs : Vd ⟨eid, src, dst, typ, ps⟩ id = (id, dst, eid) := if_pos h1
  have hi : isA ⟨eid, src, dst, typ, ps⟩ id = true := by simp [isA, h1]
  rw [hs, hi]
  clear hs hi
  subst h1
  refine Qod ?_; refine Qba ?_; refine Qvg ?_; refine QIa ?_; refine Qkd ?_; refine Zx ?_; refine Qfa ?_
  (show AWP Tryz.prog E _ _ _; refine X1 ?_; exact (show Xd _ _ _ _ _ from ⟨_, St.le_refl _, ⟨⟨101, 0, _, rfl, rfl, .inr ⟨3, _, rfl, rfl, rfl, rfl⟩⟩, rfl, trivial⟩, X3 _⟩))
 by_cases h2 : dst = id
 ·have hs : Vd ⟨eid, src, dst, typ, ps⟩ id = (id, src, eid) := by unfold Vd; rw [if_neg h1, if_pos h2]
  have hi : isA ⟨eid, src, dst, typ, ps⟩ id = true := by simp [isA, h2]
  rw [hs, hi]
  clear hs hi
  subst h2
  refine Qod ?_; refine Qba ?_; refine Qvg ?_; refine QH ?_; refine Qt ?_; refine Qvg ?_; refine QIa ?_; refine Qkd ?_; refine Zx ?_; refine Qfa ?_
  (show AWP Tryz.prog E _ _ _; refine X1 ?_; exact (show Xd _ _ _ _ _ from ⟨_, St.le_refl _, ⟨⟨101, 0, _, rfl, rfl, .inr ⟨3, _, rfl, rfl, rfl, rfl⟩⟩, rfl, trivial⟩, X3 _⟩))
 have hs : Vd ⟨eid, src, dst, typ, ps⟩ id = (0, 0, 0) := by unfold Vd; rw [if_neg h1, if_neg h2]
 have hi : isA ⟨eid, src, dst, typ, ps⟩ id = false := by simp [isA, h1, h2]
 rw [hs, hi]
 clear hs hi
 refine Qod ?_; refine Qba ?_; refine Qvg ?_; refine QH ?_; refine Qt ?_; refine Qvg ?_; refine QH ?_; refine Qga ?_
 (show AWP Tryz.prog E _ _ _; refine X1 ?_; exact (show Xd _ _ _ _ _ from ⟨_, St.le_refl _, ⟨⟨101, 0, _, rfl, rfl, .inr ⟨3, _, rfl, rfl, rfl, rfl⟩⟩, rfl, trivial⟩, X3 _⟩))
theorem Xhk (e : Edg) : Con Tryz.prog 295 [] [U0 e, .d (.sl 1 [])] [] (ab true) := by
 refine Xc (xs := [ab true]) Tryz.func295 rfl Tryz.ntmps295 rfl rfl rfl (fun E => ?_)
 obtain ⟨eid, src, dst, typ, ps⟩ := e
 simp only [U0]
 refine Qoc ?_; refine Zd ?_; refine Zl ?_; refine Qw ?_; refine Qna ?_
 (show AWP Tryz.prog E _ _ _; refine X1 ?_; exact (show Xd _ _ _ _ _ from ⟨_, St.le_refl _, ⟨rfl, trivial⟩, X3 _⟩))
theorem Xfb (g : Gra) (id : Int) (hl : g.edges.length ≤ 100000) : Con Tryz.prog 239 [] [Xl g, ai id, .d (.sl 1 []), ai 3] [] (.d (.sl 3 ((Uz id [] g.edges).map cAD))) := by
 refine Xc (xs := [.d (.sl 3 ((Uz id [] g.edges).map cAD))]) Tryz.func239 rfl Tryz.ntmps239 rfl rfl rfl (fun E => ?_)
 obtain ⟨ns, es, nn, ne⟩ := g
 unfold Xl
 simp only at hl ⊢
 have hlm : (es.map Xe).length = es.length := by simp
 have hRl : (Uz id [] es).length ≤ es.length := by
  rw [X3X]; simp only [List.length_nil, Nat.zero_add]; exact List.countP_le_length
 generalize hR : Uz id [] es = R at *
 refine QSa ?_; refine Qac ?_; refine Xm (YX 9 130 3 rfl rfl rfl) ?_
 refine Xz (ι := Nat × List AD) (fun q => q.1 ≤ es.length ∧ Uz id q.2 (es.drop q.1) = R ∧ q.2.length ≤ q.1) (fun q => ⟨100, [(1, ai id), (2, .d (.sl 1 [])), (3, ai 3), (4, .ptr 100 0), (9, .own 130 (q.2.map cAD).length), (10, ai q.1)], [(100, .box [.d (.sl 3 (ns.map X9)), .d (.sl 5 (es.map Xe)), ai nn, ai ne]), (130, .row 3 (q.2.map cAD))]⟩) (fun q => es.length - q.1) (0, []) ⟨Nat.zero_le _, by simpa using hR, Nat.le_refl _⟩
  (X7 rfl JM ⟨rfl, rfl, trivial⟩) ?_
 rintro ⟨i, out⟩ ⟨hi, hg, hol⟩
 simp only at hi hg hol
 have hom : (out.map cAD).length = out.length := by simp
 by_cases hil : i < es.length
 case neg =>
  have hn : ¬ (i : Int) < (es.map Xe).length := by omega
  rw [List.drop_of_length_le (by omega)] at hg
  have hg : out = R := hg
  subst hg
  refine Qgf ?_; refine QJa ?_; refine QId ?_; refine Xm (Yq 8 130 rfl rfl rfl) ?_
  (show AWP Tryz.prog E _ _ _; refine X1 ?_; exact (show Xd _ _ _ _ _ from ⟨_, St.le_refl _, ⟨rfl, trivial⟩, X3 _⟩))
 have hn : (i : Int) < (es.map Xe).length := by omega
 obtain ⟨x, hx⟩ := Xu (l := es) hil
 have hxc : (es.map Xe)[i]? = some (Xe x) := XD hx
 rw [XhD hx] at hg
 have h7 := Xec x id
 have h8 := Xhk x
 clear hx hR hRl
 generalize Vd x id = a at *
 generalize isA x id = ia at *
 obtain ⟨eid, src, dst, typ, ps⟩ := x
 simp only [U0, Xe] at h7 h8 hxc
 cases ia with
 | false =>
  rw [if_neg (by simp)] at hg
  refine Qif ?_; refine Qic ?_; refine Qf ?_; refine Z9 (hcon := h7) ?_; refine QWd ?_; refine Qvd ?_; refine Qw ?_; refine Qae ?_; refine Zn ?_; refine Qx ?_; refine Xp ?_; refine QBa ?_; exact ⟨(i + 1, out), ⟨by simp only; omega, hg, by simp only; omega⟩, by simp only; omega, X7 rfl JM ⟨rfl, rfl, trivial⟩⟩
 | true =>
  rw [if_pos rfl] at hg
  have hroom : (out.map cAD).length ≤ 100000 := by omega
  refine Qif ?_; refine Qic ?_; refine Qf ?_; refine Z9 (hcon := h7) ?_; refine QWd ?_; refine Qvd ?_; refine QZa ?_; refine Qic ?_; refine Z1 ?_; refine Z9 (hcon := h8) ?_; refine QJ ?_; refine Qd ?_; refine Z0c ?_; refine QQ ?_; refine ZL ?_; refine Z5 ?_; refine QLd ?_; refine QO ?_
  clear h7 h8 hxc
  obtain ⟨a1, a2, a3⟩ := a
  have hfl : (out.map cAD ++ [[.v (.int .i64 a1), .v (.int .i64 a2), .v (.int .i64 a3)]]) = (Yi out (a1, a2, a3) out.length).map cAD := by unfold Yi; rw [if_pos rfl]; simp [cAD]
  refine X0r 9 130 120 (n := out.length + 1) (xs := out.map cAD ++ [[.v (.int .i64 a1), .v (.int .i64 a2), .v (.int .i64 a3)]]) (by conv => lhs; whnf) (by simp) (Eq.trans (b := .own 130 ((out.map cAD).length + 1)) rfl (by rw [hom])) (by simp) rfl rfl (fun c k hc1 hc2 hc3 hz => ?_)
  rw [hfl] at hc1 hc3 ⊢
  have hsl : ∀ j, j ≤ out.length → ((Yi out (a1, a2, a3) j).map cAD).length = out.length + 1 := fun j hj => by rw [List.length_map, X5x hj]
  rw [hsl _ (Nat.le_refl _)] at hc1 hc3
  refine Xz (fun j : Nat => j ≤ out.length ∧ VW out (a1, a2, a3) j = VW out (a1, a2, a3) out.length) (fun j => ⟨100, [(1, ai id), (2, .d (.sl 1 [])), (3, ai 3), (4, .ptr 100 0), (9, .rs 120 0 (out.length + 1) c), (10, ai i), (11, .ptr 101 0), (13, ai j)], [(100, .box [.d (.sl 3 (ns.map X9)), .d (.sl 5 (es.map Xe)), ai nn, ai ne]), (101, .box [ai a1, ai a2, ai a3]), (120, .raw (((Yi out (a1, a2, a3) j).map cAD).flatten.map some ++ List.replicate k none) none)]⟩) (fun j => j) out.length ⟨Nat.le_refl _, rfl⟩
   (X7 rfl JM ⟨rfl, rfl, rfl, trivial⟩) ?_
  rintro j ⟨hj, hp⟩
  have hz3 := X8a (Yi out (a1, a2, a3) j)
  have hlen := V0 (k := k) hz3
  rw [hsl j hj] at hlen
  have hjn : j < out.length + 1 := by omega
  obtain ⟨y, hy⟩ := Xu (l := Yi out (a1, a2, a3) j) (k := j) (by rw [X5x hj]; omega)
  have hyc : ((Yi out (a1, a2, a3) j).map cAD)[j]? = some (cAD y) := XD hy
  have hput : VW out (a1, a2, a3) j = j → XA (((Vt out (a1, a2, a3)).map cAD).flatten.map some ++ List.replicate k none) none = (XA (((Yi out (a1, a2, a3) j).map cAD).flatten.map some ++ List.replicate k none) none).take (0 + j * 3) ++ [ai a1, ai a2, ai a3] ++ (XA (((Yi out (a1, a2, a3) j).map cAD).flatten.map some ++ List.replicate k none) none).drop (0 + j * 3 + [ai a1, ai a2, ai a3].length) := fun hpj => by
   have e := XaW (b' := cAD (a1, a2, a3)) (T := List.replicate k none) hz3 hyc rfl
   rw [show cAD (a1, a2, a3) = cAD (a1, a2, a3) from rfl, ← List.map_set, XfN hj, show out.take j ++ (a1, a2, a3) :: out.drop j = Vt out (a1, a2, a3) by unfold Vt; rw [← hp, hpj]] at e
   exact e
  have hbd : 0 + j * 3 + 3 ≤ (((Yi out (a1, a2, a3) j).map cAD).flatten.map some ++ List.replicate k (none : Option D)).length := by rw [hlen]; omega
  have hnl : (Vt out (a1, a2, a3)).length = out.length + 1 := Xbp _ _
  have hnm : ((Vt out (a1, a2, a3)).map cAD).length = out.length + 1 := by rw [List.length_map]; exact hnl
  have hnz := X8a (Vt out (a1, a2, a3))
  have hnlen := V0 (k := k) hnz
  rw [hnm] at hnlen
  clear hy hyc y hfl hz
  cases j with
  | zero =>
   have hpj := hput rfl
   clear hput hp
   generalize Vt out (a1, a2, a3) = O at *
   generalize hC : ((Yi out (a1, a2, a3) 0).map cAD).flatten.map some ++ List.replicate k (none : Option D) = C at *
   refine QQa ?_; refine QUe ?_; refine QT ?_; refine QT ?_; refine QT ?_; refine QT ?_; refine QT ?_; refine QU ?_; refine Qwg ?_; (refine Z0u (cs' := ((O.map cAD).flatten.map some ++ List.replicate k none)) (ho' := none) ?_ (hcs := ?hcs129); (case hcs129 => exact hpj)); refine JD ?_; refine QBa ?_
   refine ⟨(i + 1, O), ⟨by simp only; omega, hg, by simp only; omega⟩, by simp only; omega, ?_⟩
   refine St.le_trans (UW 9 120 130 (n := out.length + 1) (c := c) (O.map cAD) (by conv => lhs; whnf) (by conv => lhs; whnf) ?_ hnm hnz hc1 hc2 (by rw [hnlen]; exact hc3) rfl rfl) ?_
   ·rw [← hnm]; exact X2r hnz
   ·dsimp only
    rw [hnm]
    exact X7 rfl JM ⟨rfl, rfl, trivial⟩
  | succ j =>
   obtain ⟨⟨b1, b2, b3⟩, hb⟩ := Xu (l := out) (k := j) (by omega)
   have hsa := XfR (a := (a1, a2, a3)) hb
   have hsc : ((Yi out (a1, a2, a3) (j + 1)).map cAD)[j]? = some (cAD (b1, b2, b3)) := XD hsa
   have hss := Xfk (a := (a1, a2, a3)) hb
   rw [XhM hb] at hp hput
   have hsub : (((j + 1 : Nat) : Int) - 1) = ((j : Nat) : Int) := by omega
   have hr1 : (XA (((Yi out (a1, a2, a3) (j + 1)).map cAD).flatten.map some ++ List.replicate k none) none)[0 + j * 3 + 1]? = some (ai b2) := Xbw (T := List.replicate k none) hz3 hsc rfl
   have hr2 : (XA (((Yi out (a1, a2, a3) (j + 1)).map cAD).flatten.map some ++ List.replicate k none) none)[0 + j * 3 + 2]? = some (ai b3) := Xbw (T := List.replicate k none) hz3 hsc rfl
   have hrow : ((XA (((Yi out (a1, a2, a3) (j + 1)).map cAD).flatten.map some ++ List.replicate k none) none).drop (0 + j * 3)).take 3 = [ai b1, ai b2, ai b3] := X7q (List.replicate k none) hz3 hsc
   obtain ⟨y', hy'⟩ := Xu (l := Yi out (a1, a2, a3) (j + 1)) (k := j + 1) (by rw [X5x hj]; omega)
   have hmv : XA (((Yi out (a1, a2, a3) j).map cAD).flatten.map some ++ List.replicate k none) none = (XA (((Yi out (a1, a2, a3) (j + 1)).map cAD).flatten.map some ++ List.replicate k none) none).take (0 + (j + 1) * 3) ++ [ai b1, ai b2, ai b3] ++ (XA (((Yi out (a1, a2, a3) (j + 1)).map cAD).flatten.map some ++ List.replicate k none) none).drop (0 + (j + 1) * 3 + [ai b1, ai b2, ai b3].length) := by
    have e := XaW (b' := cAD (b1, b2, b3)) (T := List.replicate k none) hz3 (XD hy') rfl
    rw [← List.map_set, hss] at e
    exact e
   clear hsa hsc hss hb hy' y'
   have hlt : ltA (a1, a2, a3) (b1, b2, b3) = (decide (a2 < b2) || (decide (a2 = b2) && decide (a3 < b3))) := rfl
   rw [hlt] at hp hput
   generalize hC : ((Yi out (a1, a2, a3) (j + 1)).map cAD).flatten.map some ++ List.replicate k (none : Option D) = C at *
   by_cases c1 : a2 < b2
   ·rw [decide_eq_true c1, Bool.true_or, if_pos rfl] at hp
    clear hput
    generalize hC' : ((Yi out (a1, a2, a3) j).map cAD).flatten.map some ++ List.replicate k (none : Option D) = C' at *
    refine QQa ?_; refine QZa ?_; refine Qf ?_
    (refine Z4 (op := .sub) (r' := .int .i64 (j : Nat)) (u := .int .i64 ((j + 1 : Nat) : Int)) (v := .int .i64 1) ?_ (hr' := by exact congrArg (Value.int .i64) hsub) (hr := by exact XU (by unfold Xw; omega)))
    refine QYf ?_; refine Z0x ?_ (hy := by exact hr1); refine Z8 ?_; refine QUe ?_; refine QT ?_; refine QT ?_; refine Zp ?_; refine Qk ?_; refine Zn ?_; refine QOa ?_; refine Qd ?_; refine QX ?_
    (refine Z4 (op := .sub) (r' := .int .i64 (j : Nat)) (u := .int .i64 ((j + 1 : Nat) : Int)) (v := .int .i64 1) ?_ (hr' := by exact congrArg (Value.int .i64) hsub) (hr := by exact XU (by unfold Xw; omega)))
    refine Z0t (sz := 3) ?_; (refine Z0A (ys := [ai b1, ai b2, ai b3]) (sz := 3) ?_ (hy := ?hy131); (case hy131 => exact hrow)); refine Z0t (sz := 3) ?_; (refine Z0u (cs' := C') (ho' := none) ?_ (hcs := ?hcs132); (case hcs132 => exact hmv)); refine JD ?_; refine QAa ?_
    (refine Z4 (op := .sub) (r' := .int .i64 (j : Nat)) (u := .int .i64 ((j + 1 : Nat) : Int)) (v := .int .i64 1) ?_ (hr' := by exact congrArg (Value.int .i64) hsub) (hr := by exact XU (by unfold Xw; omega)))
    refine Qb ?_; exact ⟨j, ⟨by omega, hp⟩, by omega, X7 rfl JM ⟨rfl, rfl, by rw [hC']; rfl, trivial⟩⟩
   ·by_cases c2 : a2 = b2
    ·by_cases c3 : a3 < b3
     ·rw [decide_eq_true c2, decide_eq_true c3, Bool.and_true, Bool.or_true, if_pos rfl] at hp
      clear hput
      generalize hC' : ((Yi out (a1, a2, a3) j).map cAD).flatten.map some ++ List.replicate k (none : Option D) = C' at *
      refine QQa ?_; refine QZa ?_; refine Qf ?_
      (refine Z4 (op := .sub) (r' := .int .i64 (j : Nat)) (u := .int .i64 ((j + 1 : Nat) : Int)) (v := .int .i64 1) ?_ (hr' := by exact congrArg (Value.int .i64) hsub) (hr := by exact XU (by unfold Xw; omega)))
      refine Qxg ?_
      (refine Z4 (op := .sub) (r' := .int .i64 (j : Nat)) (u := .int .i64 ((j + 1 : Nat) : Int)) (v := .int .i64 1) ?_ (hr' := by exact congrArg (Value.int .i64) hsub) (hr := by exact XU (by unfold Xw; omega)))
      refine QYf ?_; refine Z0x ?_ (hy := by exact hr1); refine Zl ?_; refine QZa ?_; refine Qf ?_
      (refine Z4 (op := .sub) (r' := .int .i64 (j : Nat)) (u := .int .i64 ((j + 1 : Nat) : Int)) (v := .int .i64 1) ?_ (hr' := by exact congrArg (Value.int .i64) hsub) (hr := by exact XU (by unfold Xw; omega)))
      refine QYf ?_; refine Z0x ?_ (hy := by exact hr2); refine Z8 ?_; refine Qn ?_; refine Zn ?_; refine QOa ?_; refine Qd ?_; refine QX ?_
      (refine Z4 (op := .sub) (r' := .int .i64 (j : Nat)) (u := .int .i64 ((j + 1 : Nat) : Int)) (v := .int .i64 1) ?_ (hr' := by exact congrArg (Value.int .i64) hsub) (hr := by exact XU (by unfold Xw; omega)))
      refine Z0t (sz := 3) ?_; (refine Z0A (ys := [ai b1, ai b2, ai b3]) (sz := 3) ?_ (hy := ?hy135); (case hy135 => exact hrow)); refine Z0t (sz := 3) ?_; (refine Z0u (cs' := C') (ho' := none) ?_ (hcs := ?hcs136); (case hcs136 => exact hmv)); refine JD ?_; refine QAa ?_
      (refine Z4 (op := .sub) (r' := .int .i64 (j : Nat)) (u := .int .i64 ((j + 1 : Nat) : Int)) (v := .int .i64 1) ?_ (hr' := by exact congrArg (Value.int .i64) hsub) (hr := by exact XU (by unfold Xw; omega)))
      refine Qb ?_; exact ⟨j, ⟨by omega, hp⟩, by omega, X7 rfl JM ⟨rfl, rfl, by rw [hC']; rfl, trivial⟩⟩
     ·rw [decide_eq_false c1, decide_eq_false c3, Bool.and_false, Bool.or_false, if_neg (by simp)] at hput
      have hpj := hput rfl
      clear hput hp hmv
      generalize Vt out (a1, a2, a3) = O at *
      refine QQa ?_; refine QZa ?_; refine Qf ?_
      (refine Z4 (op := .sub) (r' := .int .i64 (j : Nat)) (u := .int .i64 ((j + 1 : Nat) : Int)) (v := .int .i64 1) ?_ (hr' := by exact congrArg (Value.int .i64) hsub) (hr := by exact XU (by unfold Xw; omega)))
      refine Qxg ?_
      (refine Z4 (op := .sub) (r' := .int .i64 (j : Nat)) (u := .int .i64 ((j + 1 : Nat) : Int)) (v := .int .i64 1) ?_ (hr' := by exact congrArg (Value.int .i64) hsub) (hr := by exact XU (by unfold Xw; omega)))
      refine QYf ?_; refine Z0x ?_ (hy := by exact hr1); refine Zl ?_; refine QZa ?_; refine Qf ?_
      (refine Z4 (op := .sub) (r' := .int .i64 (j : Nat)) (u := .int .i64 ((j + 1 : Nat) : Int)) (v := .int .i64 1) ?_ (hr' := by exact congrArg (Value.int .i64) hsub) (hr := by exact XU (by unfold Xw; omega)))
      refine QYf ?_; refine Z0x ?_ (hy := by exact hr2); refine Z8 ?_; refine Qn ?_; refine Zn ?_; refine Qwg ?_; (refine Z0u (cs' := ((O.map cAD).flatten.map some ++ List.replicate k none)) (ho' := none) ?_ (hcs := ?hcs139); (case hcs139 => exact hpj)); refine JD ?_; refine QBa ?_
      refine ⟨(i + 1, O), ⟨by simp only; omega, hg, by simp only; omega⟩, by simp only; omega, ?_⟩
      refine St.le_trans (UW 9 120 130 (n := out.length + 1) (c := c) (O.map cAD) (by conv => lhs; whnf) (by conv => lhs; whnf) ?_ hnm hnz hc1 hc2 (by rw [hnlen]; exact hc3) rfl rfl) ?_
      ·rw [← hnm]; exact X2r hnz
      ·dsimp only
       rw [hnm]
       exact X7 rfl JM ⟨rfl, rfl, trivial⟩
    ·rw [decide_eq_false c1, decide_eq_false c2, Bool.false_and, Bool.or_false, if_neg (by simp)] at hput
     have hpj := hput rfl
     clear hput hp hmv
     generalize Vt out (a1, a2, a3) = O at *
     refine QQa ?_; refine QZa ?_; refine Qf ?_
     (refine Z4 (op := .sub) (r' := .int .i64 (j : Nat)) (u := .int .i64 ((j + 1 : Nat) : Int)) (v := .int .i64 1) ?_ (hr' := by exact congrArg (Value.int .i64) hsub) (hr := by exact XU (by unfold Xw; omega)))
     refine Qxg ?_
     (refine Z4 (op := .sub) (r' := .int .i64 (j : Nat)) (u := .int .i64 ((j + 1 : Nat) : Int)) (v := .int .i64 1) ?_ (hr' := by exact congrArg (Value.int .i64) hsub) (hr := by exact XU (by unfold Xw; omega)))
     refine QYf ?_; refine Z0x ?_ (hy := by exact hr1); refine Zl ?_; refine Qw ?_; refine Qae ?_; refine QU ?_; refine Zq ?_; refine Zn ?_; refine Qwg ?_; (refine Z0u (cs' := ((O.map cAD).flatten.map some ++ List.replicate k none)) (ho' := none) ?_ (hcs := ?hcs141); (case hcs141 => exact hpj)); refine JD ?_; refine QBa ?_
     refine ⟨(i + 1, O), ⟨by simp only; omega, hg, by simp only; omega⟩, by simp only; omega, ?_⟩
     refine St.le_trans (UW 9 120 130 (n := out.length + 1) (c := c) (O.map cAD) (by conv => lhs; whnf) (by conv => lhs; whnf) ?_ hnm hnz hc1 hc2 (by rw [hnlen]; exact hc3) rfl rfl) ?_
     ·rw [← hnm]; exact X2r hnz
     ·dsimp only
      rw [hnm]
      exact X7 rfl JM ⟨rfl, rfl, trivial⟩
end Go.Fw
