/- Strings that rise, names of a list; the program's and the reference's. -/
import Derived.Test.YtonekjkmnhfjmaaGreatDoorM19
set_option maxHeartbeats 16000000
namespace Go.Fw
open Go Go.Proofs
set_option maxRecDepth 100000
set_option linter.unusedVariables false
set_option linter.unusedSimpArgs false
theorem X9h {l : List (List UInt8)} {i : Nat} {a b : List UInt8} (ha : l[i]? = some a) (hb : l[i + 1]? = some b) : Yz (l.drop i) = (!(Op.bytesLess b a || decide (b = a)) && Yz (l.drop (i + 1))) := by
 obtain ⟨hi, rfl⟩ := List.getElem?_eq_some_iff.1 ha
 obtain ⟨hi', rfl⟩ := List.getElem?_eq_some_iff.1 hb
 rw [List.drop_eq_getElem_cons hi, List.drop_eq_getElem_cons hi', Yz]
theorem X90 {l : List (List UInt8)} {i : Nat} (h : l.length ≤ i + 1) : Yz (l.drop i) = true := by
 match hd : l.drop i with
 | [] => rfl
 | [a] => rfl
 | a :: b :: r =>
  have := congrArg List.length hd
  simp only [List.length_drop, List.length_cons] at this
  omega
theorem X7y (l : List (List UInt8)) (hl : l.length ≤ 9223372036854775807) : Con Tryz.prog 155 [] [.d (.sl 1 (l.map Xb))] [] (ab (Yz l)) := by
 refine Xc (xs := [ab (Yz l)]) Tryz.func155 rfl Tryz.ntmps155 rfl rfl rfl (fun E => ?_)
 have hlm : (l.map Xb).length = l.length := by simp
 generalize hG : Yz l = G
 refine Qac ?_
 refine Xz (fun i : Nat => 1 ≤ i ∧ i ≤ l.length + 1 ∧ Yz (l.drop (i - 1)) = G) (fun i => ⟨20, [(0, .d (.sl 1 (l.map Xb))), (3, ai i)], []⟩) (fun i => l.length - i) 1 ⟨by omega, by omega, by simpa using hG⟩
  (X7 rfl ⟨JL, JL, trivial⟩ trivial) ?_
 rintro i ⟨hi, hi2, hg⟩
 by_cases hil : i < l.length
 case neg =>
  have hn : ¬ (i : Int) < (l.map Xb).length := by omega
  have hT : G = true := by rw [← hg, X90 (by omega)]
  subst hT
  exact Qmc
 have hn : (i : Int) < (l.map Xb).length := by omega
 obtain ⟨j, rfl⟩ : ∃ j, i = j + 1 := ⟨i - 1, by omega⟩
 rw [Nat.add_sub_cancel] at hg
 obtain ⟨x, hx⟩ := Xu (l := l) hil
 obtain ⟨y, hy⟩ := Xu (l := l) (k := j) (by omega)
 have hxc : (l.map Xb)[j + 1]? = some (Xb x) := XD hx
 have hyc : (l.map Xb)[j]? = some (Xb y) := XD hy
 rw [X9h hy hx] at hg
 cases hq : (Op.bytesLess x y || decide (x = y)) with
 | false =>
  rw [hq] at hg
  simp only [Bool.not_false, Bool.true_and] at hg
  refine QGd ?_
  (refine Z4 (op := .sub) (r' := .int .i64 ((j : Nat) : Int)) (u := .int .i64 ((j + 1 : Nat) : Int)) (v := .int .i64 1) ?_ (hr' := by exact congrArg (Value.int .i64) (show (((j + 1 : Nat) : Int) - 1) = (j : Int) by omega)) (hr := by exact XU (by unfold Xw; omega)))
  refine Qnb ?_; refine Z03 ?_; refine QEa ?_; exact QHd
 | true =>
  rw [hq] at hg
  simp only [Bool.not_true, Bool.false_and] at hg
  subst hg
  refine QGd ?_
  (refine Z4 (op := .sub) (r' := .int .i64 ((j : Nat) : Int)) (u := .int .i64 ((j + 1 : Nat) : Int)) (v := .int .i64 1) ?_ (hr' := by exact congrArg (Value.int .i64) (show (((j + 1 : Nat) : Int) - 1) = (j : Int) by omega)) (hr := by exact XU (by unfold Xw; omega)))
  refine Qnb ?_; refine Z03 ?_; exact QA
theorem X7C (l : List (List UInt8)) (hl : l.length ≤ 9223372036854775807) : Con Tryz.prog 225 [] [.d (.sl 1 (l.map Xb))] [] (ab (Yz l)) := by
 refine Xc (xs := [ab (Yz l)]) Tryz.func225 rfl Tryz.ntmps225 rfl rfl rfl (fun E => ?_)
 have hlm : (l.map Xb).length = l.length := by simp
 generalize hG : Yz l = G
 refine Qac ?_
 refine Xz (fun i : Nat => 1 ≤ i ∧ i ≤ l.length + 1 ∧ Yz (l.drop (i - 1)) = G) (fun i => ⟨20, [(0, .d (.sl 1 (l.map Xb))), (3, ai i)], []⟩) (fun i => l.length - i) 1 ⟨by omega, by omega, by simpa using hG⟩
  (X7 rfl ⟨JL, JL, trivial⟩ trivial) ?_
 rintro i ⟨hi, hi2, hg⟩
 by_cases hil : i < l.length
 case neg =>
  have hn : ¬ (i : Int) < (l.map Xb).length := by omega
  have hT : G = true := by rw [← hg, X90 (by omega)]
  subst hT
  exact Qmc
 have hn : (i : Int) < (l.map Xb).length := by omega
 obtain ⟨j, rfl⟩ : ∃ j, i = j + 1 := ⟨i - 1, by omega⟩
 rw [Nat.add_sub_cancel] at hg
 obtain ⟨x, hx⟩ := Xu (l := l) hil
 obtain ⟨y, hy⟩ := Xu (l := l) (k := j) (by omega)
 have hxc : (l.map Xb)[j + 1]? = some (Xb x) := XD hx
 have hyc : (l.map Xb)[j]? = some (Xb y) := XD hy
 rw [X9h hy hx] at hg
 cases hq : (Op.bytesLess x y || decide (x = y)) with
 | false =>
  rw [hq] at hg
  simp only [Bool.not_false, Bool.true_and] at hg
  refine QGd ?_
  (refine Z4 (op := .sub) (r' := .int .i64 ((j : Nat) : Int)) (u := .int .i64 ((j + 1 : Nat) : Int)) (v := .int .i64 1) ?_ (hr' := by exact congrArg (Value.int .i64) (show (((j + 1 : Nat) : Int) - 1) = (j : Int) by omega)) (hr := by exact XU (by unfold Xw; omega)))
  refine Qnb ?_; refine Z03 ?_; refine QEa ?_; exact QHd
 | true =>
  rw [hq] at hg
  simp only [Bool.not_true, Bool.false_and] at hg
  subst hg
  refine QGd ?_
  (refine Z4 (op := .sub) (r' := .int .i64 ((j : Nat) : Int)) (u := .int .i64 ((j + 1 : Nat) : Int)) (v := .int .i64 1) ?_ (hr' := by exact congrArg (Value.int .i64) (show (((j + 1 : Nat) : Int) - 1) = (j : Int) by omega)) (hr := by exact XU (by unfold Xw; omega)))
  refine Qnb ?_; refine Z03 ?_; exact QA
theorem XdR (s : List UInt8) : Con Tryz.prog 154 [] [.d (.v (.string (X5 s)))] [] (ab (!XP s)) := by
 refine Xc (xs := [ab (!XP s)]) Tryz.func154 rfl Tryz.ntmps154 rfl rfl rfl (fun E => ?_)
 have hn := X7c s
 refine Qe ?_; refine Z9 (hcon := hn) ?_; refine Zu ?_; exact QNa
def Vq : List (List UInt8) → Nat → Int
 | [], _ => -1
 | s :: r, i => if XP s = false then (i : Int) else Vq r (i + 1)
theorem XfC {l : List (List UInt8)} {i : Nat} {x : List UInt8} (h : l[i]? = some x) : Vq (l.drop i) i = if XP x = false then (i : Int) else Vq (l.drop (i + 1)) (i + 1) := by
 obtain ⟨hi, rfl⟩ := List.getElem?_eq_some_iff.1 h
 rw [List.drop_eq_getElem_cons hi, Vq]
theorem X9I : ∀ (l : List (List UInt8)) (i : Nat), decide (Vq l i ≥ 0) = !l.all XP
 | [], i => by simp [Vq]
 | s :: r, i => by
  rw [Vq, List.all_cons]
  cases h : XP s with
  | false => simp
  | true => simp [X9I r (i + 1)]
theorem Xgb (l : List (List UInt8)) (hl : l.length ≤ 9223372036854775807) : Con Tryz.prog 220 [] [.d (.sl 1 (l.map Xb)), .fn 154 []] [] (ai (Vq l 0)) := by
 refine Xc (xs := [ai (Vq l 0)]) Tryz.func220 rfl Tryz.ntmps220 rfl rfl rfl (fun E => ?_)
 have hlm : (l.map Xb).length = l.length := by simp
 generalize hG : Vq l 0 = G
 refine Qu ?_; refine Qjb ?_
 refine Xz (fun i : Nat => i ≤ l.length ∧ Vq (l.drop i) i = G) (fun i => ⟨19, [(0, .d (.sl 1 (l.map Xb))), (1, .fn 154 []), (7, ai (l.map Xb).length), (8, ai i)], []⟩) (fun i => l.length - i) 0 ⟨by omega, by simpa using hG⟩
  (X7 rfl ⟨JL, JL, JL, JL, trivial⟩ trivial) ?_
 rintro i ⟨hi, hg⟩
 by_cases hil : i < l.length
 case neg =>
  have hn : ¬ (i : Int) < (l.map Xb).length := by omega
  rw [List.drop_of_length_le (by omega), Vq] at hg
  subst hg
  exact QN
 have hn : (i : Int) < (l.map Xb).length := by omega
 obtain ⟨x, hx⟩ := Xu (l := l) hil
 have hxc : (l.map Xb)[i]? = some (Xb x) := XD hx
 have hu := XdR x
 rw [XfC hx] at hg
 cases hq : XP x with
 | true =>
  rw [hq] at hg hu
  simp only [Bool.true_eq_false, if_false] at hg
  refine QP ?_; refine QQ ?_; refine Qf ?_; refine Qnb ?_; refine ZG (hcon := hu) ?_; refine QH ?_; refine QV ?_; exact ⟨i + 1, ⟨by omega, hg⟩, by omega, X7 rfl ⟨JL, JL, JL, JL, trivial⟩ trivial⟩
 | false =>
  rw [hq] at hg hu
  simp only [if_true] at hg
  subst hg
  refine QP ?_; refine QQ ?_; refine Qf ?_; refine Qnb ?_; refine ZG (hcon := hu) ?_; refine QIa ?_; exact QNa
theorem Xb1 (l : List (List UInt8)) (hl : l.length ≤ 9223372036854775807) : Con Tryz.prog 153 [] [.d (.sl 1 (l.map Xb)), .fn 154 []] [] (ab (!l.all XP)) := by
 refine Xc (xs := [ab (!l.all XP)]) Tryz.func153 rfl Tryz.ntmps153 rfl rfl rfl (fun E => ?_)
 have hi := Xgb l hl
 rw [← X9I l 0]
 generalize Vq l 0 = q at *
 refine QHa ?_; refine Z9 (hcon := hi) ?_; refine Z2 ?_; exact QNa
theorem Xg2 {α : Type} {p : α → Bool} {l : List α} {i : Nat} {x : α} (h : l[i]? = some x) : (l.drop i).all p = (p x && (l.drop (i + 1)).all p) := by
 obtain ⟨hi, rfl⟩ := List.getElem?_eq_some_iff.1 h
 rw [List.drop_eq_getElem_cons hi, List.all_cons]
theorem X7w (l : List (List UInt8)) (hl : l.length ≤ 9223372036854775807) : Con Tryz.prog 224 [] [.d (.sl 1 (l.map Xb))] [] (ab (l.all XP)) := by
 refine Xc (xs := [ab (l.all XP)]) Tryz.func224 rfl Tryz.ntmps224 rfl rfl rfl (fun E => ?_)
 have hlm : (l.map Xb).length = l.length := by simp
 generalize hG : l.all XP = G
 refine Qac ?_
 refine Xz (fun i : Nat => i ≤ l.length ∧ (l.drop i).all XP = G) (fun i => ⟨16, [(0, .d (.sl 1 (l.map Xb))), (3, ai i)], []⟩) (fun i => l.length - i) 0 ⟨by omega, by simpa using hG⟩
  (X7 rfl ⟨JL, JL, trivial⟩ trivial) ?_
 rintro i ⟨hi, hg⟩
 by_cases hil : i < l.length
 case neg =>
  have hn : ¬ (i : Int) < (l.map Xb).length := by omega
  rw [List.drop_of_length_le (by omega), List.all_nil] at hg
  subst hg
  exact Qmc
 have hn : (i : Int) < (l.map Xb).length := by omega
 obtain ⟨x, hx⟩ := Xu (l := l) hil
 have hxc : (l.map Xb)[i]? = some (Xb x) := XD hx
 have hu := X72 x
 rw [Xg2 hx] at hg
 cases hq : XP x with
 | true =>
  rw [hq] at hg hu
  rw [Bool.true_and] at hg
  refine Qnc ?_; refine QXc ?_; refine Z9 (hcon := hu) ?_; refine QYb ?_; refine QBa ?_; exact ⟨i + 1, ⟨by omega, hg⟩, by omega, X7 rfl ⟨JL, JL, trivial⟩ trivial⟩
 | false =>
  rw [hq] at hg hu
  rw [Bool.false_and] at hg
  subst hg
  refine Qnc ?_; refine QXc ?_; refine Z9 (hcon := hu) ?_; exact QZb
def X0E (p : Prp) : Prop := p.key.length ≤ 9223372036854775807 ∧ Y3 p.v
theorem X1K {α : Type} {l : List α} {i : Nat} {x : α} (h : l[i]? = some x) : l.take (i + 1) = l.take i ++ [x] := by
 obtain ⟨hi, rfl⟩ := List.getElem?_eq_some_iff.1 h
 rw [List.take_add_one, List.getElem?_eq_getElem hi]; rfl
theorem X8t {l : List Prp} {i : Nat} {x : Prp} (h : l[i]? = some x) : ((l.take (i + 1)).map Prp.key).map Xb = ((l.take i).map Prp.key).map Xb ++ [Xb x.key] := by
 rw [X1K h]; simp
theorem XgQ (ps : List Prp) (hl : ps.length ≤ 4294967296) : Con Tryz.prog 223 [] [.d (.sl 6 (ps.map X6))] [] (.d (.sl 1 ((ps.map Prp.key).map Xb))) := by
 refine Xc (xs := [.d (.sl 1 ((ps.map Prp.key).map Xb))]) Tryz.func223 rfl Tryz.ntmps223 rfl rfl rfl (fun E => ?_)
 have hlm : (ps.map X6).length = ps.length := by simp
 refine Qc ?_; refine Qac ?_; refine Xm (YX 3 130 1 rfl rfl rfl) ?_
 refine Xz (fun i : Nat => i ≤ ps.length) (fun i => ⟨20, [(0, .d (.sl 6 (ps.map X6))), (3, .own 130 (((ps.take i).map Prp.key).map Xb).length), (4, ai i)], [(130, .row 1 (((ps.take i).map Prp.key).map Xb))]⟩) (fun i => ps.length - i) 0 (Nat.zero_le _)
  (X7 rfl ⟨JL, JL, JL, trivial⟩ ⟨rfl, trivial⟩) ?_
 intro i hi
 by_cases hil : i < ps.length
 case neg =>
  obtain rfl : i = ps.length := by omega
  have hn : ¬ ((ps.length : Nat) : Int) < (ps.map X6).length := by omega
  rw [List.take_length]
  refine QJd ?_; exact Qy
 have hn : (i : Int) < (ps.map X6).length := by omega
 obtain ⟨x, hx⟩ := Xu (l := ps) hil
 have hxc : (ps.map X6)[i]? = some (X6 x) := XD hx
 have hroom : (((ps.take i).map Prp.key).map Xb).length ≤ 4294967296 := by simp only [List.length_map, List.length_take]; omega
 refine Qcc ?_; refine QKd ?_; refine Qgc ?_; refine QMd ?_
 refine ⟨i + 1, hil, by omega, ?_⟩
 rw [X8t hx]
 exact QNd
theorem Xaz {l : List Prp} {i : Nat} {x : Prp} (h : l[i]? = some x) : ((l.drop i).map Prp.v).all Yd = (Yd x.v && ((l.drop (i + 1)).map Prp.v).all Yd) := by
 obtain ⟨hi, rfl⟩ := List.getElem?_eq_some_iff.1 h
 rw [List.drop_eq_getElem_cons hi, List.map_cons, List.all_cons]
theorem X3N {ls : List (List UInt8)} {ps : List Prp} (h : 8 < ls.length ∨ 16 < ps.length) : U5 ls ps = 4 := if_pos h
theorem Xbf {ls : List (List UInt8)} {ps : List Prp} (h1 : ¬ 8 < ls.length) (h2 : ¬ 16 < ps.length) : U5 ls ps = if ls.all XP = false ∨ (ps.map Prp.key).all XP = false then 6
 else if Yz ls = false ∨ Yz (ps.map Prp.key) = false then 26 else if (ps.map Prp.v).all Yd = false then 8 else 0 := if_neg (by omega)
theorem Xab (ls : List (List UInt8)) (ps : List Prp) (hls : ls.length ≤ 9223372036854775807) (hok : ∀ p ∈ ps, X0E p) : Con Tryz.prog 102 [] [.d (.sl 1 (ls.map Xb)), .d (.sl 6 (ps.map X6))] [] (ai (U5 ls ps)) := by
 refine Xc (xs := [ai (U5 ls ps)]) Tryz.func102 rfl Tryz.ntmps102 rfl rfl rfl (fun E => ?_)
 have hlm : (ps.map X6).length = ps.length := by simp
 have hlm2 : (ls.map Xb).length = ls.length := by simp
 by_cases h1 : 8 < ls.length
 ·rw [X3N (.inl h1)]
  have h1' : (8 : Int) < (ls.map Xb).length := by omega
  refine Qu ?_; refine Qgb ?_; exact Qfb
 have h1' : ¬ (8 : Int) < (ls.map Xb).length := by omega
 by_cases h2 : 16 < ps.length
 ·rw [X3N (.inr h2)]
  have h2' : (16 : Int) < (ps.map X6).length := by omega
  refine QOd ?_; exact QF
 have h2' : ¬ (16 : Int) < (ps.map X6).length := by omega
 rw [Xbf h1 h2]
 have hc1 := Xb1 ls hls
 have hc2 := Xb1 (ps.map Prp.key) (by simp only [List.length_map]; omega)
 have hr1 := X7y ls hls
 have hr2 := X7y (ps.map Prp.key) (by simp only [List.length_map]; omega)
 generalize ls.all XP = n1 at *
 generalize Yz ls = r1 at *
 generalize (ps.map Prp.key).all XP = n2 at *
 generalize Yz (ps.map Prp.key) = r2 at *
 generalize hG : (ps.map Prp.v).all Yd = G
 refine QOd ?_; refine QI ?_; refine Qu ?_; refine Qjb ?_; refine Xm (YX 5 130 1 rfl rfl rfl) ?_
 refine Xz (fun i : Nat => i ≤ ps.length) (fun i => ⟨55, [(0, .d (.sl 1 (ls.map Xb))), (1, .d (.sl 6 (ps.map X6))), (18, .d (.sl 6 (ps.map X6))), (19, ai (ps.map X6).length), (5, .own 130 (((ps.take i).map Prp.key).map Xb).length), (20, ai i)], [(130, .row 1 (((ps.take i).map Prp.key).map Xb))]⟩) (fun i => ps.length - i) 0 (Nat.zero_le _)
  (X7 rfl JM ⟨rfl, trivial⟩) ?_
 intro i hi
 by_cases hil : i < ps.length
 case pos =>
  have hn : (i : Int) < (ps.map X6).length := by omega
  obtain ⟨x, hx⟩ := Xu (l := ps) hil
  have hxc : (ps.map X6)[i]? = some (X6 x) := XD hx
  have hroom : (((ps.take i).map Prp.key).map Xb).length ≤ 4294967296 := by simp only [List.length_map, List.length_take]; omega
  have hsn := X8t hx
  obtain ⟨key, ⟨vk, vn, vd, vs, vl⟩⟩ := x
  simp only [X6, Y1] at hxc hsn
  refine QPd ?_; refine JR ?_; refine QZa ?_; refine Z5 ?_; refine QLd ?_; refine QV ?_
  refine ⟨i + 1, hil, by omega, ?_⟩
  rw [hsn]
  exact X7 rfl ⟨JL, JL, JL, JL, AVal.le_of_eq (by refine Eq.trans (b := AVal.own 130 (_ + _)) rfl ?_; simp only [List.length_append, List.length_map, List.length_cons, List.length_nil]), JL, trivial⟩ ⟨rfl, trivial⟩
 obtain rfl : i = ps.length := by omega
 have hn : ¬ ((ps.length : Nat) : Int) < (ps.map X6).length := by omega
 rw [List.take_length]
 refine QM ?_; refine X0 ?_; refine X0 ?_; refine QId ?_; refine Xm (Yq 5 130 rfl rfl rfl) ?_
 by_cases b1 : n1 = false ∨ n2 = false
 ·rw [if_pos b1]
  cases n1 <;> cases n2 <;> first | (simp at b1; done) | skip
  ·refine QAa ?_; refine Z9 (hcon := hc1) ?_; exact QUb
  ·refine QAa ?_; refine Z9 (hcon := hc1) ?_; exact QUb
  ·refine QAa ?_; refine Z9 (hcon := hc1) ?_; refine Qf ?_; refine Z9 (hcon := hc2) ?_; exact QF
 rw [if_neg b1]
 obtain ⟨rfl, rfl⟩ : n1 = true ∧ n2 = true := by cases n1 <;> cases n2 <;> simp_all
 by_cases b2 : r1 = false ∨ r2 = false
 ·rw [if_pos b2]
  cases r1 <;> cases r2 <;> first | (simp at b2; done) | skip
  ·refine QQd ?_; exact Qfb
  ·refine QQd ?_; exact Qfb
  ·refine QQd ?_; refine Qf ?_; refine Z9 (hcon := hr2) ?_; exact QG
 rw [if_neg b2]
 obtain ⟨rfl, rfl⟩ : r1 = true ∧ r2 = true := by cases r1 <;> cases r2 <;> simp_all
 refine QQd ?_; refine Qf ?_; refine Z9 (hcon := hr2) ?_; refine QJ ?_; refine Qt ?_; refine Qjb ?_
 clear hi hil hn b1 b2 h1 h2
 refine Xz (fun i : Nat => i ≤ ps.length ∧ ((ps.drop i).map Prp.v).all Yd = G) (fun i => ⟨55, [(1, .d (.sl 6 (ps.map X6))), (44, .d (.sl 6 (ps.map X6))), (45, ai (ps.map X6).length), (46, ai i)], []⟩) (fun i => ps.length - i) 0 ⟨by omega, by simpa using hG⟩
  (X7 rfl JM trivial) ?_
 rintro i ⟨hi, hg⟩
 by_cases hil : i < ps.length
 case neg =>
  have hn' : ¬ (i : Int) < (ps.map X6).length := by omega
  rw [List.drop_of_length_le (by omega), List.map_nil, List.all_nil] at hg
  subst hg
  rw [if_neg (by simp)]
  exact QN
 have hn' : (i : Int) < (ps.map X6).length := by omega
 obtain ⟨x, hx⟩ := Xu (l := ps) hil
 have hxc : (ps.map X6)[i]? = some (X6 x) := XD hx
 have hxo := hok x (List.mem_of_getElem? hx)
 have hu := X8Z x.v
 rw [Xaz hx] at hg
 generalize Yd x.v = pv at *
 obtain ⟨key, ⟨vk, vn, vd, vs, vl⟩⟩ := x
 simp only [XG, X6, Y1] at hu hxc
 cases pv with
 | true =>
  rw [Bool.true_and] at hg
  refine QPd ?_; refine QSd ?_; refine Z9 (hcon := hu) ?_; refine QYb ?_; refine QV ?_; exact QTd
 | false =>
  rw [Bool.false_and] at hg
  subst hg
  rw [if_pos rfl]
  refine QPd ?_; refine QSd ?_; refine Z9 (hcon := hu) ?_; exact QZb
theorem XaA (ls : List (List UInt8)) (ps : List Prp) (hls : ls.length ≤ 9223372036854775807) (hok : ∀ p ∈ ps, X0E p) : Con Tryz.prog 161 [] [.d (.sl 1 (ls.map Xb)), .d (.sl 6 (ps.map X6))] [] (ai (U5 ls ps)) := by
 refine Xc (xs := [ai (U5 ls ps)]) Tryz.func161 rfl Tryz.ntmps161 rfl rfl rfl (fun E => ?_)
 have hlm : (ps.map X6).length = ps.length := by simp
 have hlm2 : (ls.map Xb).length = ls.length := by simp
 by_cases h1 : 8 < ls.length
 ·rw [X3N (.inl h1)]
  have h1' : (8 : Int) < (ls.map Xb).length := by omega
  refine Qu ?_; refine Qgb ?_; exact Qfb
 have h1' : ¬ (8 : Int) < (ls.map Xb).length := by omega
 by_cases h2 : 16 < ps.length
 ·rw [X3N (.inr h2)]
  have h2' : (16 : Int) < (ps.map X6).length := by omega
  refine QOd ?_; exact QF
 have h2' : ¬ (16 : Int) < (ps.map X6).length := by omega
 rw [Xbf h1 h2]
 have hk := XgQ ps (by omega)
 have hc1 := X7w ls hls
 have hc2 := X7w (ps.map Prp.key) (by simp only [List.length_map]; omega)
 have hr1 := X7C ls hls
 have hr2 := X7C (ps.map Prp.key) (by simp only [List.length_map]; omega)
 generalize ls.all XP = n1 at *
 generalize Yz ls = r1 at *
 generalize (ps.map Prp.key).all XP = n2 at *
 generalize Yz (ps.map Prp.key) = r2 at *
 generalize hG : (ps.map Prp.v).all Yd = G
 by_cases b1 : n1 = false ∨ n2 = false
 ·rw [if_pos b1]
  cases n1 <;> cases n2 <;> first | (simp at b1; done) | skip
  ·refine QUd ?_; exact Qfb
  ·refine QUd ?_; exact Qfb
  ·refine QUd ?_; refine Qf ?_; refine Z9 (hcon := hc2) ?_; exact QG
 rw [if_neg b1]
 obtain ⟨rfl, rfl⟩ : n1 = true ∧ n2 = true := by cases n1 <;> cases n2 <;> simp_all
 by_cases b2 : r1 = false ∨ r2 = false
 ·rw [if_pos b2]
  cases r1 <;> cases r2 <;> first | (simp at b2; done) | skip
  ·refine QVd ?_; exact Qfb
  ·refine QVd ?_; exact Qfb
  ·refine QVd ?_; refine Qf ?_; refine Z9 (hcon := hr2) ?_; exact QG
 rw [if_neg b2]
 obtain ⟨rfl, rfl⟩ : r1 = true ∧ r2 = true := by cases r1 <;> cases r2 <;> simp_all
 refine QVd ?_; refine Qf ?_; refine Z9 (hcon := hr2) ?_; refine QJ ?_; refine Qua ?_
 clear b1 b2 h1 h2
 refine Xz (fun i : Nat => i ≤ ps.length ∧ ((ps.drop i).map Prp.v).all Yd = G) (fun i => ⟨46, [(1, .d (.sl 6 (ps.map X6))), (6, ai i)], []⟩) (fun i => ps.length - i) 0 ⟨by omega, by simpa using hG⟩
  (X7 rfl JM trivial) ?_
 rintro i ⟨hi, hg⟩
 by_cases hil : i < ps.length
 case neg =>
  have hn' : ¬ (i : Int) < (ps.map X6).length := by omega
  rw [List.drop_of_length_le (by omega), List.map_nil, List.all_nil] at hg
  subst hg
  rw [if_neg (by simp)]
  exact Qmc
 have hn' : (i : Int) < (ps.map X6).length := by omega
 obtain ⟨x, hx⟩ := Xu (l := ps) hil
 have hxc : (ps.map X6)[i]? = some (X6 x) := XD hx
 have hxo := hok x (List.mem_of_getElem? hx)
 have hu := X9E x.v hxo.2
 rw [Xaz hx] at hg
 generalize Yd x.v = pv at *
 obtain ⟨key, ⟨vk, vn, vd, vs, vl⟩⟩ := x
 simp only [XG, X6, Y1] at hu hxc
 cases pv with
 | true =>
  rw [Bool.true_and] at hg
  refine Qnc ?_; refine Z1 ?_; refine Zj ?_; refine ZN ?_; refine ZK ?_; refine Z9 (hcon := hu) ?_; refine QYb ?_; refine QBa ?_; exact QTd
 | false =>
  rw [Bool.false_and] at hg
  subst hg
  rw [if_pos rfl]
  refine Qnc ?_; refine Z1 ?_; refine Zj ?_; refine ZN ?_; refine ZK ?_; refine Z9 (hcon := hu) ?_; exact QZb
end Go.Fw
