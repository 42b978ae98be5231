/- The reference's check of a graph. -/
import Derived.Test.YtonekjkmnhfjmaaGreatDoorM26
set_option maxHeartbeats 16000000
namespace Go.Fw
open Go Go.Proofs
set_option maxRecDepth 100000
set_option linter.unusedVariables false
set_option linter.unusedSimpArgs false
abbrev Xgp : Nod := ⟨0, [], []⟩
def UM : List Nod → Int → Nod × Bool
 | [], _ => (Xgp, false)
 | x :: r, n => if x.id = n then (x, true) else UM r n
theorem XaP : ∀ (l : List Nod) (n : Int), (UM l n).2 = Ye l n
 | [], n => rfl
 | x :: r, n => by
  unfold UM Ye
  rw [List.any_cons]
  by_cases h : x.id = n
  ·simp [h]
  ·have := XaP r n
   unfold Ye at this
   simp [h, this]
theorem Xdm {l : List Nod} {n : Int} {i : Nat} {x : Nod} (h : l[i]? = some x) : UM (l.drop i) n = if x.id = n then (x, true) else UM (l.drop (i + 1)) n := by
 obtain ⟨hi, rfl⟩ := List.getElem?_eq_some_iff.1 h
 rw [List.drop_eq_getElem_cons hi, UM]
theorem X9u (ns : List Nod) (es : List Edg) (nn ne n : Int) (hl : ns.length ≤ 9223372036854775807) : Con Tryz.prog 36 [] [.agg [.d (.sl 3 (ns.map X9)), .d (.sl 5 (es.map Xe)), ai nn, ai ne], ai n] [] (.tup [Y9 (UM ns n).1, ab (UM ns n).2]) := by
 refine Xc (xs := [Y9 (UM ns n).1, ab (UM ns n).2]) Tryz.func36 rfl Tryz.ntmps36 rfl rfl rfl (fun E => ?_)
 have hlm : (ns.map X9).length = ns.length := by simp
 generalize hG : UM ns n = G
 refine Qpd ?_; refine Qua ?_
 refine Xz (fun i : Nat => i ≤ ns.length ∧ UM (ns.drop i) n = G) (fun i => ⟨28, [(1, ai n), (2, .ptr 100 0), (4, .ptr 101 0), (6, ai i)], [(100, .box [.d (.sl 3 (ns.map X9)), .d (.sl 5 (es.map Xe)), ai nn, ai ne]), (101, .box [ai 0, ani, ani])]⟩) (fun i => ns.length - i) 0 ⟨Nat.zero_le _, by simpa using hG⟩
  (X7 rfl JM ⟨rfl, rfl, trivial⟩) ?_
 rintro i ⟨hi, hg⟩
 by_cases hil : i < ns.length
 case neg =>
  obtain rfl : i = ns.length := by omega
  have hn : ¬ ((ns.length : Nat) : Int) < (ns.map X9).length := by omega
  rw [List.drop_length, UM] at hg
  subst hg
  simp only [Y9, List.map_nil]
  refine Qgf ?_; refine Qga ?_; exact X1 ⟨_, Y5 101 (cs' := [ai 0, .d (.sl 1 []), .d (.sl 6 [])]) rfl JM rfl, ⟨⟨101, 0, _, rfl, rfl, .inr ⟨3, _, rfl, rfl, rfl, rfl⟩⟩, rfl, trivial⟩, X3 _⟩
 have hn : (i : Int) < (ns.map X9).length := by omega
 obtain ⟨x, hx⟩ := Xu (l := ns) hil
 have hxc : (ns.map X9)[i]? = some (X9 x) := XD hx
 rw [Xdm hx] at hg
 obtain ⟨id, labels, props⟩ := x
 simp only [X9] at hxc hg
 by_cases he : id = n
 ·rw [if_pos he] at hg
  subst hg
  simp only [Y9]
  refine Qjf ?_; exact X1 ⟨_, St.le_refl _, ⟨⟨101, 0, _, rfl, rfl, .inr ⟨3, _, rfl, rfl, rfl, rfl⟩⟩, rfl, trivial⟩, X3 _⟩
 ·rw [if_neg he] at hg
  exact Qkf
theorem XbG (ns : List Nod) (es : List Edg) (nn ne : Int) (hok : ∀ n ∈ ns, X2K n) (hl : ns.length ≤ 9223372036854775807) (i : Nat) (x : Nod) (hx : ns[i]? = some x) : Con Tryz.prog 105 [] [.agg [.d (.sl 3 (ns.map X9)), .d (.sl 5 (es.map Xe)), ai nn, ai ne], ai i] [] (ai (US nn (Ys ns i) x)) := by
 refine Xc (xs := [ai (US nn (Ys ns i) x)]) Tryz.func105 rfl Tryz.ntmps105 rfl rfl rfl (fun E => ?_)
 have hil := (List.getElem?_eq_some_iff.1 hx).1
 have hxc : (ns.map X9)[i]? = some (X9 x) := XD hx
 have hxh := hok x (List.mem_of_getElem? hx)
 have hpc := XaA x.labels x.props hxh.1 hxh.2.2.2
 clear hxh
 by_cases h0 : i = 0
 ·subst h0
  rw [Xbd]
  obtain ⟨id, labels, props⟩ := x
  simp only [X9] at hxc hpc ⊢
  by_cases q2 : id < 1
  ·rw [if_pos (show id < 1 ∨ nn ≤ id from .inl q2)]
   refine Qng ?_; exact QVe
  by_cases q3 : nn ≤ id
  ·rw [if_pos (show id < 1 ∨ nn ≤ id from .inr q3)]
   refine Qog ?_; exact QF
  rw [if_neg (show ¬ (id < 1 ∨ nn ≤ id) from fun h => h.elim q2 q3)]
  generalize U5 labels props = e at *
  refine Qog ?_; refine QXe ?_; exact QNa
 ·obtain ⟨j, rfl⟩ : ∃ j, i = j + 1 := ⟨i - 1, by omega⟩
  obtain ⟨p, hp⟩ := Xu (l := ns) (k := j) (by omega)
  have hpp : (ns.map X9)[j]? = some (X9 p) := XD hp
  rw [XaV hp]
  clear hp hx
  obtain ⟨id, labels, props⟩ := x
  obtain ⟨pid, plabels, pprops⟩ := p
  simp only [X9] at hxc hpc hpp ⊢
  by_cases q1 : id ≤ pid
  ·rw [if_pos q1]
   refine Qpg ?_
   (refine Z4 (op := .sub) (r' := .int .i64 ((j : Nat) : Int)) (u := .int .i64 ((j + 1 : Nat) : Int)) (v := .int .i64 1) ?_ (hr' := by exact congrArg (Value.int .i64) (show (((j + 1 : Nat) : Int) - 1) = (j : Int) by omega)) (hr := by exact XU (by unfold Xw; omega)))
   exact QZe
  rw [if_neg q1]
  by_cases q2 : id < 1
  ·rw [if_pos (show id < 1 ∨ nn ≤ id from .inl q2)]
   refine Qpg ?_
   (refine Z4 (op := .sub) (r' := .int .i64 ((j : Nat) : Int)) (u := .int .i64 ((j + 1 : Nat) : Int)) (v := .int .i64 1) ?_ (hr' := by exact congrArg (Value.int .i64) (show (((j + 1 : Nat) : Int) - 1) = (j : Int) by omega)) (hr := by exact XU (by unfold Xw; omega)))
   exact Qaf
  by_cases q3 : nn ≤ id
  ·rw [if_pos (show id < 1 ∨ nn ≤ id from .inr q3)]
   refine Qpg ?_
   (refine Z4 (op := .sub) (r' := .int .i64 ((j : Nat) : Int)) (u := .int .i64 ((j + 1 : Nat) : Int)) (v := .int .i64 1) ?_ (hr' := by exact congrArg (Value.int .i64) (show (((j + 1 : Nat) : Int) - 1) = (j : Int) by omega)) (hr := by exact XU (by unfold Xw; omega)))
   refine Qbf ?_; exact QF
  rw [if_neg (show ¬ (id < 1 ∨ nn ≤ id) from fun h => h.elim q2 q3)]
  generalize U5 labels props = e at *
  refine Qpg ?_
  (refine Z4 (op := .sub) (r' := .int .i64 ((j : Nat) : Int)) (u := .int .i64 ((j + 1 : Nat) : Int)) (v := .int .i64 1) ?_ (hr' := by exact congrArg (Value.int .i64) (show (((j + 1 : Nat) : Int) - 1) = (j : Int) by omega)) (hr := by exact XU (by unfold Xw; omega)))
  refine Qbf ?_; refine QXe ?_; exact QNa
theorem Xdd (ns : List Nod) (es : List Edg) (nn ne : Int) (hok : ∀ e ∈ es, X4n e) (hnl : ns.length ≤ 9223372036854775807) (hl : es.length ≤ 9223372036854775807) (i : Nat) (x : Edg) (hx : es[i]? = some x) : Con Tryz.prog 106 [] [.agg [.d (.sl 3 (ns.map X9)), .d (.sl 5 (es.map Xe)), ai nn, ai ne], ai i] [] (ai (Vg ns ne (Ys es i) x)) := by
 refine Xc (xs := [ai (Vg ns ne (Ys es i) x)]) Tryz.func106 rfl Tryz.ntmps106 rfl rfl rfl (fun E => ?_)
 have hil := (List.getElem?_eq_some_iff.1 hx).1
 have hxc : (es.map Xe)[i]? = some (Xe x) := XD hx
 have hxh := hok x (List.mem_of_getElem? hx)
 have hpc := XaA [] x.props (by simp) hxh.2.2
 have hs1 := X9u ns es nn ne x.src hnl
 have hs2 := X9u ns es nn ne x.dst hnl
 rw [XaP] at hs1 hs2
 have hnm := X72 x.typ
 clear hxh
 by_cases h0 : i = 0
 ·subst h0
  rw [Xbc]
  obtain ⟨id, src, dst, typ, props⟩ := x
  simp only [Xe, Y9] at hxc hpc hs1 hs2 hnm ⊢
  simp only [List.map_nil] at hpc
  generalize Ye ns src = b1 at *
  generalize Ye ns dst = b2 at *
  generalize (UM ns src).1 = m1 at *
  generalize (UM ns dst).1 = m2 at *
  generalize XP typ = b3 at *
  generalize U5 [] props = e at *
  by_cases q2 : id < 1
  ·rw [if_pos (show id < 1 ∨ ne ≤ id from .inl q2)]
   refine Qng ?_; exact QVe
  by_cases q3 : ne ≤ id
  ·rw [if_pos (show id < 1 ∨ ne ≤ id from .inr q3)]
   refine Qog ?_; exact QF
  rw [if_neg (show ¬ (id < 1 ∨ ne ≤ id) from fun h => h.elim q2 q3)]
  cases b1 with
  | false =>
   rw [if_pos (show false = false ∨ b2 = false from .inl rfl)]
   refine Qog ?_; refine Qrg ?_; refine Qvd ?_; exact QUb
  | true =>
   cases b2 with
   | false =>
    rw [if_pos (show true = false ∨ false = false from .inr rfl)]
    refine Qog ?_; refine Qrg ?_; refine Qcg ?_; exact QG
   | true =>
    rw [if_neg (show ¬ (true = false ∨ true = false) by simp)]
    cases b3 with
    | false =>
     rw [if_pos (show false = false from rfl)]
     refine Qog ?_; refine Qsg ?_; exact QZb
    | true =>
     rw [if_neg (show ¬ true = false by simp)]
     refine Qog ?_; refine Qsg ?_; refine QYb ?_; refine QUa ?_; refine Z9 (hcon := hpc) ?_; exact QNa
 ·obtain ⟨j, rfl⟩ : ∃ j, i = j + 1 := ⟨i - 1, by omega⟩
  obtain ⟨p, hp⟩ := Xu (l := es) (k := j) (by omega)
  have hpp : (es.map Xe)[j]? = some (Xe p) := XD hp
  rw [X9r hp]
  clear hp hx
  obtain ⟨id, src, dst, typ, props⟩ := x
  obtain ⟨pid, psrc, pdst, ptyp, pprops⟩ := p
  simp only [Xe, Y9] at hxc hpc hpp hs1 hs2 hnm ⊢
  simp only [List.map_nil] at hpc
  generalize Ye ns src = b1 at *
  generalize Ye ns dst = b2 at *
  generalize (UM ns src).1 = m1 at *
  generalize (UM ns dst).1 = m2 at *
  generalize XP typ = b3 at *
  generalize U5 [] props = e at *
  by_cases q1 : id ≤ pid
  ·rw [if_pos q1]
   refine Qpg ?_
   (refine Z4 (op := .sub) (r' := .int .i64 ((j : Nat) : Int)) (u := .int .i64 ((j + 1 : Nat) : Int)) (v := .int .i64 1) ?_ (hr' := by exact congrArg (Value.int .i64) (show (((j + 1 : Nat) : Int) - 1) = (j : Int) by omega)) (hr := by exact XU (by unfold Xw; omega)))
   exact QZe
  rw [if_neg q1]
  by_cases q2 : id < 1
  ·rw [if_pos (show id < 1 ∨ ne ≤ id from .inl q2)]
   refine Qpg ?_
   (refine Z4 (op := .sub) (r' := .int .i64 ((j : Nat) : Int)) (u := .int .i64 ((j + 1 : Nat) : Int)) (v := .int .i64 1) ?_ (hr' := by exact congrArg (Value.int .i64) (show (((j + 1 : Nat) : Int) - 1) = (j : Int) by omega)) (hr := by exact XU (by unfold Xw; omega)))
   exact Qaf
  by_cases q3 : ne ≤ id
  ·rw [if_pos (show id < 1 ∨ ne ≤ id from .inr q3)]
   refine Qpg ?_
   (refine Z4 (op := .sub) (r' := .int .i64 ((j : Nat) : Int)) (u := .int .i64 ((j + 1 : Nat) : Int)) (v := .int .i64 1) ?_ (hr' := by exact congrArg (Value.int .i64) (show (((j + 1 : Nat) : Int) - 1) = (j : Int) by omega)) (hr := by exact XU (by unfold Xw; omega)))
   refine Qbf ?_; exact QF
  rw [if_neg (show ¬ (id < 1 ∨ ne ≤ id) from fun h => h.elim q2 q3)]
  cases b1 with
  | false =>
   rw [if_pos (show false = false ∨ b2 = false from .inl rfl)]
   refine Qpg ?_
   (refine Z4 (op := .sub) (r' := .int .i64 ((j : Nat) : Int)) (u := .int .i64 ((j + 1 : Nat) : Int)) (v := .int .i64 1) ?_ (hr' := by exact congrArg (Value.int .i64) (show (((j + 1 : Nat) : Int) - 1) = (j : Int) by omega)) (hr := by exact XU (by unfold Xw; omega)))
   refine Qbf ?_; refine Qrg ?_; refine Qvd ?_; exact QUb
  | true =>
   cases b2 with
   | false =>
    rw [if_pos (show true = false ∨ false = false from .inr rfl)]
    refine Qpg ?_
    (refine Z4 (op := .sub) (r' := .int .i64 ((j : Nat) : Int)) (u := .int .i64 ((j + 1 : Nat) : Int)) (v := .int .i64 1) ?_ (hr' := by exact congrArg (Value.int .i64) (show (((j + 1 : Nat) : Int) - 1) = (j : Int) by omega)) (hr := by exact XU (by unfold Xw; omega)))
    refine Qbf ?_; refine Qrg ?_; refine Qcg ?_; exact QG
   | true =>
    rw [if_neg (show ¬ (true = false ∨ true = false) by simp)]
    cases b3 with
    | false =>
     rw [if_pos (show false = false from rfl)]
     refine Qpg ?_
     (refine Z4 (op := .sub) (r' := .int .i64 ((j : Nat) : Int)) (u := .int .i64 ((j + 1 : Nat) : Int)) (v := .int .i64 1) ?_ (hr' := by exact congrArg (Value.int .i64) (show (((j + 1 : Nat) : Int) - 1) = (j : Int) by omega)) (hr := by exact XU (by unfold Xw; omega)))
     refine Qbf ?_; refine Qsg ?_; exact QZb
    | true =>
     rw [if_neg (show ¬ true = false by simp)]
     refine Qpg ?_
     (refine Z4 (op := .sub) (r' := .int .i64 ((j : Nat) : Int)) (u := .int .i64 ((j + 1 : Nat) : Int)) (v := .int .i64 1) ?_ (hr' := by exact congrArg (Value.int .i64) (show (((j + 1 : Nat) : Int) - 1) = (j : Int) by omega)) (hr := by exact XU (by unfold Xw; omega)))
     refine Qbf ?_; refine Qsg ?_; refine QYb ?_; refine QUa ?_; refine Z9 (hcon := hpc) ?_; exact QNa
theorem X9l (g : Gra) (hok : GraHold g) : Con Tryz.prog 59 [] [Xl g] [] (ai (Yj g)) := by
 obtain ⟨ns, es, nn, ne⟩ := g
 obtain ⟨hnl, hel, hnh, heh⟩ := hok
 simp only at hnl hel hnh heh
 unfold Xl
 simp only
 refine Xc (xs := [ai (Yj ⟨ns, es, nn, ne⟩)]) Tryz.func59 rfl Tryz.ntmps59 rfl rfl rfl (fun E => ?_)
 have hlm : (ns.map X9).length = ns.length := by simp
 have hle : (es.map Xe).length = es.length := by simp
 by_cases h1 : 2000 < ns.length
 ·rw [X4v (.inl h1)]
  have h1' : (2000 : Int) < (ns.map X9).length := by omega
  refine Qtb ?_; refine Qgb ?_; exact QC
 have h1' : ¬ (2000 : Int) < (ns.map X9).length := by omega
 by_cases h2 : 4000 < es.length
 ·rw [X4v (.inr h2)]
  have h2' : (4000 : Int) < (es.map Xe).length := by omega
  refine Qtb ?_; refine Qgb ?_; refine QAb ?_; exact QF
 have h2' : ¬ (4000 : Int) < (es.map Xe).length := by omega
 by_cases a1 : nn < 1
 ·rw [X18 h1 h2 (.inl a1)]
  refine Qtb ?_; refine Qgb ?_; refine QAb ?_; refine QDb ?_; refine Z8 ?_; refine Qv ?_; refine Qv ?_; exact Qfb
 by_cases a2 : 1000001 < nn
 ·rw [X18 h1 h2 (.inr (.inl a2))]
  refine QRe ?_; refine Qv ?_; exact Qfb
 by_cases a3 : ne < 1
 ·rw [X18 h1 h2 (.inr (.inr (.inl a3)))]
  refine QSe ?_; exact Qfb
 by_cases a4 : 1000001 < ne
 ·rw [X18 h1 h2 (.inr (.inr (.inr a4)))]
  refine QSe ?_; refine QZa ?_; refine Zs ?_; exact QF
 rw [X85 h1 h2 a1 a2 a3 a4]
 generalize hN : U7 nn none ns = N
 generalize hM : UY ns ne none es = M
 refine QSe ?_; refine QZa ?_; refine Zs ?_; refine QI ?_; refine Qua ?_
 refine Xz (fun i : Nat => i ≤ ns.length ∧ U7 nn (Ys ns i) (ns.drop i) = N) (fun i => ⟨61, [(1, .ptr 100 0), (3, ai i)], [(100, .box [.d (.sl 3 (ns.map X9)), .d (.sl 5 (es.map Xe)), ai nn, ai ne])]⟩) (fun i => ns.length - i) 0 ⟨Nat.zero_le _, by simpa [Ys] using hN⟩
  (X7 rfl JM ⟨rfl, trivial⟩) ?_
 rintro i ⟨hi, hg⟩
 by_cases hil : i < ns.length
 case pos =>
  have hn : (i : Int) < (ns.map X9).length := by omega
  obtain ⟨x, hx⟩ := Xu (l := ns) hil
  have hc := XbG ns es nn ne hnh hnl i x hx
  rw [Xbs hx] at hg
  generalize US nn (Ys ns i) x = e at *
  by_cases he : e = 0
  ·subst he
   rw [if_neg (by simp)] at hg
   refine Qtg ?_; refine Qid ?_; refine QBa ?_; exact Qug
  ·rw [if_pos he] at hg
   subst hg
   rw [if_pos he]
   refine Qtg ?_; exact Qhd
 obtain rfl : i = ns.length := by omega
 have hn : ¬ ((ns.length : Nat) : Int) < (ns.map X9).length := by omega
 rw [List.drop_length, U7] at hg
 subst hg
 rw [if_neg (by simp)]
 refine Qgf ?_; refine Qua ?_
 refine Xz (fun i : Nat => i ≤ es.length ∧ UY ns ne (Ys es i) (es.drop i) = M) (fun i => ⟨61, [(1, .ptr 100 0), (5, ai i)], [(100, .box [.d (.sl 3 (ns.map X9)), .d (.sl 5 (es.map Xe)), ai nn, ai ne])]⟩) (fun i => es.length - i) 0 ⟨Nat.zero_le _, by simpa [Ys] using hM⟩
  (X7 rfl JM ⟨rfl, trivial⟩) ?_
 clear hi hil hn
 rintro i ⟨hi, hg⟩
 by_cases hil : i < es.length
 case neg =>
  obtain rfl : i = es.length := by omega
  have hn : ¬ ((es.length : Nat) : Int) < (es.map Xe).length := by omega
  rw [List.drop_length, UY] at hg
  subst hg
  refine Qgf ?_; exact Qz
 have hn : (i : Int) < (es.map Xe).length := by omega
 obtain ⟨x, hx⟩ := Xu (l := es) hil
 have hc := Xdd ns es nn ne heh hnl hel i x hx
 rw [X9M hx] at hg
 generalize Vg ns ne (Ys es i) x = e at *
 by_cases he : e = 0
 ·subst he
  rw [if_neg (by simp)] at hg
  refine Qtg ?_; refine Qid ?_; refine QBa ?_; exact Qug
 ·rw [if_pos he] at hg
  subst hg
  refine Qtg ?_; exact Qhd
end Go.Fw
