/- The reference's check of a graph. -/
import Derived.Test.YtonekjkmnhfjmaaGreatDoorK26
set_option maxHeartbeats 16000000
namespace Go.Fw
open Go Go.Proofs
set_option maxRecDepth 100000
set_option linter.unusedVariables false
set_option linter.unusedSimpArgs false
abbrev XfK : Nod := ⟨0, [], []⟩
def Va : List Nod → Int → Nod × Bool
 | [], _ => (XfK, false)
 | x :: r, n => if x.id = n then (x, true) else Va r n
theorem Xa3 : ∀ (l : List Nod) (n : Int), (Va l n).2 = Y3 l n
 | [], n => rfl
 | x :: r, n => by
  unfold Va Y3
  rw [List.any_cons]
  by_cases h : x.id = n
  ·simp [h]
  ·have := Xa3 r n
   unfold Y3 at this
   simp [h, this]
theorem Xdb {l : List Nod} {n : Int} {i : Nat} {x : Nod} (h : l[i]? = some x) : Va (l.drop i) n = if x.id = n then (x, true) else Va (l.drop (i + 1)) n := by
 obtain ⟨hi, rfl⟩ := List.getElem?_eq_some_iff.1 h
 rw [List.drop_eq_getElem_cons hi, Va]
theorem X7U (ns : List Nod) (es : List Edg) (nn ne n : Int) (hl : ns.length ≤ 9223372036854775807) : Con Tryz.prog 36 [] [.agg [.d (.sl 3 (ns.map X9)), .d (.sl 5 (es.map Xf)), ai nn, ai ne], ai n] [] (.tup [Yo (Va ns n).1, ab (Va ns n).2]) := by
 refine Xc (xs := [Yo (Va ns n).1, ab (Va ns n).2]) Tryz.func36 rfl Tryz.ntmps36 rfl rfl rfl (fun E => ?_)
 have hlm : (ns.map X9).length = ns.length := by simp
 generalize hG : Va ns n = G
 refine Qoe ?_; refine Qb ?_; refine QZa ?_
 refine Xz (fun i : Nat => i ≤ ns.length ∧ Va (ns.drop i) n = G) (fun i => ⟨28, [(1, ai n), (2, .ptr 100 0), (4, .ptr 101 0), (6, ai i)], [(100, .box [.d (.sl 3 (ns.map X9)), .d (.sl 5 (es.map Xf)), ai nn, ai ne]), (101, .box [ai 0, ani, ani])]⟩) (fun i => ns.length - i) 0 ⟨Nat.zero_le _, by simpa using hG⟩
  (X6 rfl JM ⟨rfl, rfl, trivial⟩) ?_
 rintro i ⟨hi, hg⟩
 by_cases hil : i < ns.length
 case neg =>
  obtain rfl : i = ns.length := by omega
  have hn : ¬ ((ns.length : Nat) : Int) < (ns.map X9).length := by omega
  rw [List.drop_length, Va] at hg
  subst hg
  simp only [Yo, List.map_nil]
  refine Qgh ?_; refine QDa ?_; exact X1 ⟨_, YU 101 (cs' := [ai 0, .d (.sl 1 []), .d (.sl 6 [])]) rfl JM rfl, ⟨⟨101, 0, _, rfl, rfl, .inr ⟨3, _, rfl, rfl, rfl, rfl⟩⟩, rfl, trivial⟩, X3 _⟩
 have hn : (i : Int) < (ns.map X9).length := by omega
 obtain ⟨x, hx⟩ := Xs (l := ns) hil
 have hxc : (ns.map X9)[i]? = some (X9 x) := Xx hx
 rw [Xdb hx] at hg
 obtain ⟨id, labels, props⟩ := x
 simp only [X9] at hxc hg
 by_cases he : id = n
 ·rw [if_pos he] at hg
  subst hg
  simp only [Yo]
  refine QAh ?_; exact X1 ⟨_, St.le_refl _, ⟨⟨101, 0, _, rfl, rfl, .inr ⟨3, _, rfl, rfl, rfl, rfl⟩⟩, rfl, trivial⟩, X3 _⟩
 ·rw [if_neg he] at hg
  exact QBh
theorem Xdq (ns : List Nod) (es : List Edg) (nn ne : Int) (hok : ∀ n ∈ ns, X4o n) (hl : ns.length ≤ 9223372036854775807) (i : Nat) (x : Nod) (hx : ns[i]? = some x) : Con Tryz.prog 105 [] [.agg [.d (.sl 3 (ns.map X9)), .d (.sl 5 (es.map Xf)), ai nn, ai ne], ai i] [] (ai (Uq nn (Ya ns i) x)) := by
 refine Xc (xs := [ai (Uq nn (Ya ns i) x)]) Tryz.func105 rfl Tryz.ntmps105 rfl rfl rfl (fun E => ?_)
 have hil := (List.getElem?_eq_some_iff.1 hx).1
 have hxc : (ns.map X9)[i]? = some (X9 x) := Xx hx
 have hxh := hok x (List.mem_of_getElem? hx)
 have hpc := X9g x.labels x.props hxh.1 hxh.2.2.2
 clear hxh
 by_cases h0 : i = 0
 ·subst h0
  rw [XaR]
  obtain ⟨id, labels, props⟩ := x
  simp only [X9] at hxc hpc ⊢
  by_cases q2 : id < 1
  ·rw [if_pos (show id < 1 ∨ nn ≤ id from .inl q2)]
   refine Qfi ?_; exact QQf
  by_cases q3 : nn ≤ id
  ·rw [if_pos (show id < 1 ∨ nn ≤ id from .inr q3)]
   refine Qgi ?_; exact Qea
  rw [if_neg (show ¬ (id < 1 ∨ nn ≤ id) from fun h => h.elim q2 q3)]
  generalize YO labels props = e at *
  refine Qgi ?_; refine QSf ?_; exact QCb
 ·obtain ⟨j, rfl⟩ : ∃ j, i = j + 1 := ⟨i - 1, by omega⟩
  obtain ⟨p, hp⟩ := Xs (l := ns) (k := j) (by omega)
  have hpp : (ns.map X9)[j]? = some (X9 p) := Xx hp
  rw [XaZ hp]
  clear hp hx
  obtain ⟨id, labels, props⟩ := x
  obtain ⟨pid, plabels, pprops⟩ := p
  simp only [X9] at hxc hpc hpp ⊢
  by_cases q1 : id ≤ pid
  ·rw [if_pos q1]
   refine Qhi ?_
   (refine Z9 (op := .sub) (r' := .int .i64 ((j : Nat) : Int)) (u := .int .i64 ((j + 1 : Nat) : Int)) (v := .int .i64 1) ?_ (hr' := by exact congrArg (Value.int .i64) (show (((j + 1 : Nat) : Int) - 1) = (j : Int) by omega)) (hr := by exact XQ (by unfold Xv; omega)))
   exact QUf
  rw [if_neg q1]
  by_cases q2 : id < 1
  ·rw [if_pos (show id < 1 ∨ nn ≤ id from .inl q2)]
   refine Qhi ?_
   (refine Z9 (op := .sub) (r' := .int .i64 ((j : Nat) : Int)) (u := .int .i64 ((j + 1 : Nat) : Int)) (v := .int .i64 1) ?_ (hr' := by exact congrArg (Value.int .i64) (show (((j + 1 : Nat) : Int) - 1) = (j : Int) by omega)) (hr := by exact XQ (by unfold Xv; omega)))
   exact QVf
  by_cases q3 : nn ≤ id
  ·rw [if_pos (show id < 1 ∨ nn ≤ id from .inr q3)]
   refine Qhi ?_
   (refine Z9 (op := .sub) (r' := .int .i64 ((j : Nat) : Int)) (u := .int .i64 ((j + 1 : Nat) : Int)) (v := .int .i64 1) ?_ (hr' := by exact congrArg (Value.int .i64) (show (((j + 1 : Nat) : Int) - 1) = (j : Int) by omega)) (hr := by exact XQ (by unfold Xv; omega)))
   refine QWf ?_; exact Qea
  rw [if_neg (show ¬ (id < 1 ∨ nn ≤ id) from fun h => h.elim q2 q3)]
  generalize YO labels props = e at *
  refine Qhi ?_
  (refine Z9 (op := .sub) (r' := .int .i64 ((j : Nat) : Int)) (u := .int .i64 ((j + 1 : Nat) : Int)) (v := .int .i64 1) ?_ (hr' := by exact congrArg (Value.int .i64) (show (((j + 1 : Nat) : Int) - 1) = (j : Int) by omega)) (hr := by exact XQ (by unfold Xv; omega)))
  refine QWf ?_; refine QSf ?_; exact QCb
theorem Xeo (ns : List Nod) (es : List Edg) (nn ne : Int) (hok : ∀ e ∈ es, X50 e) (hnl : ns.length ≤ 9223372036854775807) (hl : es.length ≤ 9223372036854775807) (i : Nat) (x : Edg) (hx : es[i]? = some x) : Con Tryz.prog 106 [] [.agg [.d (.sl 3 (ns.map X9)), .d (.sl 5 (es.map Xf)), ai nn, ai ne], ai i] [] (ai (UR ns ne (Ya es i) x)) := by
 refine Xc (xs := [ai (UR ns ne (Ya es i) x)]) Tryz.func106 rfl Tryz.ntmps106 rfl rfl rfl (fun E => ?_)
 have hil := (List.getElem?_eq_some_iff.1 hx).1
 have hxc : (es.map Xf)[i]? = some (Xf x) := Xx hx
 have hxh := hok x (List.mem_of_getElem? hx)
 have hpc := X9g [] x.props (by simp) hxh.2.2
 have hs1 := X7U ns es nn ne x.src hnl
 have hs2 := X7U ns es nn ne x.dst hnl
 rw [Xa3] at hs1 hs2
 have hnm := X7z x.typ
 clear hxh
 by_cases h0 : i = 0
 ·subst h0
  rw [X8Z]
  obtain ⟨id, src, dst, typ, props⟩ := x
  simp only [Xf, Yo] at hxc hpc hs1 hs2 hnm ⊢
  simp only [List.map_nil] at hpc
  generalize Y3 ns src = b1 at *
  generalize Y3 ns dst = b2 at *
  generalize (Va ns src).1 = m1 at *
  generalize (Va ns dst).1 = m2 at *
  generalize Xt typ = b3 at *
  generalize YO [] props = e at *
  by_cases q2 : id < 1
  ·rw [if_pos (show id < 1 ∨ ne ≤ id from .inl q2)]
   refine Qfi ?_; exact QQf
  by_cases q3 : ne ≤ id
  ·rw [if_pos (show id < 1 ∨ ne ≤ id from .inr q3)]
   refine Qgi ?_; exact Qea
  rw [if_neg (show ¬ (id < 1 ∨ ne ≤ id) from fun h => h.elim q2 q3)]
  cases b1 with
  | false =>
   rw [if_pos (show false = false ∨ b2 = false from .inl rfl)]
   refine Qgi ?_; refine Qii ?_; refine Qwe ?_; exact QQc
  | true =>
   cases b2 with
   | false =>
    rw [if_pos (show true = false ∨ false = false from .inr rfl)]
    refine Qgi ?_; refine Qii ?_; refine Qwe ?_; refine Qq ?_; exact Qfa
   | true =>
    rw [if_neg (show ¬ (true = false ∨ true = false) by simp)]
    cases b3 with
    | false =>
     rw [if_pos (show false = false from rfl)]
     refine Qgi ?_; refine Qji ?_; exact QVc
    | true =>
     rw [if_neg (show ¬ true = false by simp)]
     refine Qgi ?_; refine Qji ?_; refine QUc ?_; refine QJb ?_; refine Zr (hcon := hpc) ?_; exact QCb
 ·obtain ⟨j, rfl⟩ : ∃ j, i = j + 1 := ⟨i - 1, by omega⟩
  obtain ⟨p, hp⟩ := Xs (l := es) (k := j) (by omega)
  have hpp : (es.map Xf)[j]? = some (Xf p) := Xx hp
  rw [X9J hp]
  clear hp hx
  obtain ⟨id, src, dst, typ, props⟩ := x
  obtain ⟨pid, psrc, pdst, ptyp, pprops⟩ := p
  simp only [Xf, Yo] at hxc hpc hpp hs1 hs2 hnm ⊢
  simp only [List.map_nil] at hpc
  generalize Y3 ns src = b1 at *
  generalize Y3 ns dst = b2 at *
  generalize (Va ns src).1 = m1 at *
  generalize (Va ns dst).1 = m2 at *
  generalize Xt typ = b3 at *
  generalize YO [] props = e at *
  by_cases q1 : id ≤ pid
  ·rw [if_pos q1]
   refine Qhi ?_
   (refine Z9 (op := .sub) (r' := .int .i64 ((j : Nat) : Int)) (u := .int .i64 ((j + 1 : Nat) : Int)) (v := .int .i64 1) ?_ (hr' := by exact congrArg (Value.int .i64) (show (((j + 1 : Nat) : Int) - 1) = (j : Int) by omega)) (hr := by exact XQ (by unfold Xv; omega)))
   exact QUf
  rw [if_neg q1]
  by_cases q2 : id < 1
  ·rw [if_pos (show id < 1 ∨ ne ≤ id from .inl q2)]
   refine Qhi ?_
   (refine Z9 (op := .sub) (r' := .int .i64 ((j : Nat) : Int)) (u := .int .i64 ((j + 1 : Nat) : Int)) (v := .int .i64 1) ?_ (hr' := by exact congrArg (Value.int .i64) (show (((j + 1 : Nat) : Int) - 1) = (j : Int) by omega)) (hr := by exact XQ (by unfold Xv; omega)))
   exact QVf
  by_cases q3 : ne ≤ id
  ·rw [if_pos (show id < 1 ∨ ne ≤ id from .inr q3)]
   refine Qhi ?_
   (refine Z9 (op := .sub) (r' := .int .i64 ((j : Nat) : Int)) (u := .int .i64 ((j + 1 : Nat) : Int)) (v := .int .i64 1) ?_ (hr' := by exact congrArg (Value.int .i64) (show (((j + 1 : Nat) : Int) - 1) = (j : Int) by omega)) (hr := by exact XQ (by unfold Xv; omega)))
   refine QWf ?_; exact Qea
  rw [if_neg (show ¬ (id < 1 ∨ ne ≤ id) from fun h => h.elim q2 q3)]
  cases b1 with
  | false =>
   rw [if_pos (show false = false ∨ b2 = false from .inl rfl)]
   refine Qhi ?_
   (refine Z9 (op := .sub) (r' := .int .i64 ((j : Nat) : Int)) (u := .int .i64 ((j + 1 : Nat) : Int)) (v := .int .i64 1) ?_ (hr' := by exact congrArg (Value.int .i64) (show (((j + 1 : Nat) : Int) - 1) = (j : Int) by omega)) (hr := by exact XQ (by unfold Xv; omega)))
   refine QWf ?_; refine Qii ?_; refine Qwe ?_; exact QQc
  | true =>
   cases b2 with
   | false =>
    rw [if_pos (show true = false ∨ false = false from .inr rfl)]
    refine Qhi ?_
    (refine Z9 (op := .sub) (r' := .int .i64 ((j : Nat) : Int)) (u := .int .i64 ((j + 1 : Nat) : Int)) (v := .int .i64 1) ?_ (hr' := by exact congrArg (Value.int .i64) (show (((j + 1 : Nat) : Int) - 1) = (j : Int) by omega)) (hr := by exact XQ (by unfold Xv; omega)))
    refine QWf ?_; refine Qii ?_; refine Qwe ?_; refine Qq ?_; exact Qfa
   | true =>
    rw [if_neg (show ¬ (true = false ∨ true = false) by simp)]
    cases b3 with
    | false =>
     rw [if_pos (show false = false from rfl)]
     refine Qhi ?_
     (refine Z9 (op := .sub) (r' := .int .i64 ((j : Nat) : Int)) (u := .int .i64 ((j + 1 : Nat) : Int)) (v := .int .i64 1) ?_ (hr' := by exact congrArg (Value.int .i64) (show (((j + 1 : Nat) : Int) - 1) = (j : Int) by omega)) (hr := by exact XQ (by unfold Xv; omega)))
     refine QWf ?_; refine Qji ?_; exact QVc
    | true =>
     rw [if_neg (show ¬ true = false by simp)]
     refine Qhi ?_
     (refine Z9 (op := .sub) (r' := .int .i64 ((j : Nat) : Int)) (u := .int .i64 ((j + 1 : Nat) : Int)) (v := .int .i64 1) ?_ (hr' := by exact congrArg (Value.int .i64) (show (((j + 1 : Nat) : Int) - 1) = (j : Int) by omega)) (hr := by exact XQ (by unfold Xv; omega)))
     refine QWf ?_; refine Qji ?_; refine QUc ?_; refine QJb ?_; refine Zr (hcon := hpc) ?_; exact QCb
theorem Xbm (g : Gra) (hok : GraHold g) : Con Tryz.prog 59 [] [Xj g] [] (ai (Yh g)) := by
 obtain ⟨ns, es, nn, ne⟩ := g
 obtain ⟨hnl, hel, hnh, heh⟩ := hok
 simp only at hnl hel hnh heh
 unfold Xj
 simp only
 refine Xc (xs := [ai (Yh ⟨ns, es, nn, ne⟩)]) Tryz.func59 rfl Tryz.ntmps59 rfl rfl rfl (fun E => ?_)
 have hlm : (ns.map X9).length = ns.length := by simp
 have hle : (es.map Xf).length = es.length := by simp
 by_cases h1 : 2000 < ns.length
 ·rw [X4R (.inl h1)]
  have h1' : (2000 : Int) < (ns.map X9).length := by omega
  refine Qnc ?_; refine QZb ?_; exact Qba
 have h1' : ¬ (2000 : Int) < (ns.map X9).length := by omega
 by_cases h2 : 4000 < es.length
 ·rw [X4R (.inr h2)]
  have h2' : (4000 : Int) < (es.map Xf).length := by omega
  refine QMf ?_; exact Qea
 have h2' : ¬ (4000 : Int) < (es.map Xf).length := by omega
 by_cases a1 : nn < 1
 ·rw [X1t h1 h2 (.inl a1)]
  refine QMf ?_; refine Qxc ?_; refine Zq ?_; refine QBe ?_; exact Qlb
 by_cases a2 : 1000001 < nn
 ·rw [X1t h1 h2 (.inr (.inl a2))]
  refine QNf ?_; refine QV ?_; exact Qlb
 by_cases a3 : ne < 1
 ·rw [X1t h1 h2 (.inr (.inr (.inl a3)))]
  refine QNf ?_; refine QPb ?_; refine Zq ?_; refine ZE ?_; exact Qlb
 by_cases a4 : 1000001 < ne
 ·rw [X1t h1 h2 (.inr (.inr (.inr a4)))]
  refine QOf ?_; exact Qea
 rw [X8h h1 h2 a1 a2 a3 a4]
 generalize hN : YW nn none ns = N
 generalize hM : UP ns ne none es = M
 refine QOf ?_; refine Qga ?_; refine QZa ?_
 refine Xz (fun i : Nat => i ≤ ns.length ∧ YW nn (Ya ns i) (ns.drop i) = N) (fun i => ⟨61, [(1, .ptr 100 0), (3, ai i)], [(100, .box [.d (.sl 3 (ns.map X9)), .d (.sl 5 (es.map Xf)), ai nn, ai ne])]⟩) (fun i => ns.length - i) 0 ⟨Nat.zero_le _, by simpa [Ya] using hN⟩
  (X6 rfl JM ⟨rfl, trivial⟩) ?_
 rintro i ⟨hi, hg⟩
 by_cases hil : i < ns.length
 case pos =>
  have hn : (i : Int) < (ns.map X9).length := by omega
  obtain ⟨x, hx⟩ := Xs (l := ns) hil
  have hc := Xdq ns es nn ne hnh hnl i x hx
  rw [X8B hx] at hg
  generalize Uq nn (Ya ns i) x = e at *
  by_cases he : e = 0
  ·subst he
   rw [if_neg (by simp)] at hg
   refine Qki ?_; refine Qie ?_; refine Qgb ?_; exact QVg
  ·rw [if_pos he] at hg
   subst hg
   rw [if_pos he]
   refine Qki ?_; exact Qhe
 obtain rfl : i = ns.length := by omega
 have hn : ¬ ((ns.length : Nat) : Int) < (ns.map X9).length := by omega
 rw [List.drop_length, YW] at hg
 subst hg
 rw [if_neg (by simp)]
 refine Qgh ?_; refine QZa ?_
 refine Xz (fun i : Nat => i ≤ es.length ∧ UP ns ne (Ya es i) (es.drop i) = M) (fun i => ⟨61, [(1, .ptr 100 0), (5, ai i)], [(100, .box [.d (.sl 3 (ns.map X9)), .d (.sl 5 (es.map Xf)), ai nn, ai ne])]⟩) (fun i => es.length - i) 0 ⟨Nat.zero_le _, by simpa [Ya] using hM⟩
  (X6 rfl JM ⟨rfl, trivial⟩) ?_
 clear hi hil hn
 rintro i ⟨hi, hg⟩
 by_cases hil : i < es.length
 case neg =>
  obtain rfl : i = es.length := by omega
  have hn : ¬ ((es.length : Nat) : Int) < (es.map Xf).length := by omega
  rw [List.drop_length, UP] at hg
  subst hg
  refine Qgh ?_; exact QY
 have hn : (i : Int) < (es.map Xf).length := by omega
 obtain ⟨x, hx⟩ := Xs (l := es) hil
 have hc := Xeo ns es nn ne heh hnl hel i x hx
 rw [Xb4 hx] at hg
 generalize UR ns ne (Ya es i) x = e at *
 by_cases he : e = 0
 ·subst he
  rw [if_neg (by simp)] at hg
  refine Qki ?_; refine Qie ?_; refine Qgb ?_; exact QVg
 ·rw [if_pos he] at hg
  subst hg
  refine Qki ?_; exact Qhe
end Go.Fw
