/- Strings that rise, names of a list; the program's and the reference's. -/
import Derived.Test.YtbhleedlnaakkaaGreatL14
set_option maxHeartbeats 16000000
namespace Go.Fw
open Go Go.Proofs
set_option maxRecDepth 100000
set_option linter.unusedVariables false
set_option linter.unusedSimpArgs false
theorem X5x {l : List (List UInt8)} {i : Nat} {a b : List UInt8} (ha : l[i]? = some a) (hb : l[i + 1]? = some b) : Ym (l.drop i) = (!(Op.bytesLess b a || decide (b = a)) && Ym (l.drop (i + 1))) := by
 obtain ⟨hi, rfl⟩ := List.getElem?_eq_some_iff.1 ha
 obtain ⟨hi', rfl⟩ := List.getElem?_eq_some_iff.1 hb
 rw [List.drop_eq_getElem_cons hi, List.drop_eq_getElem_cons hi', Ym]
theorem X52 {l : List (List UInt8)} {i : Nat} (h : l.length ≤ i + 1) : Ym (l.drop i) = true := by
 match hd : l.drop i with
 | [] => rfl
 | [a] => rfl
 | a :: b :: r =>
  have := congrArg List.length hd
  simp only [List.length_drop, List.length_cons] at this
  omega
theorem X4R (l : List (List UInt8)) (hl : l.length ≤ 9223372036854775807) : Con Tryz.prog 150 [] [.d (.sl 1 (l.map Xl))] [] (ab (Ym l)) := by
 refine X9 (xs := [ab (Ym l)]) Tryz.func150 rfl Tryz.ntmps150 rfl rfl rfl (fun E => ?_)
 have hlm : (l.map Xl).length = l.length := by simp
 generalize hG : Ym l = G
 refine X0 ?_; refine JR ?_; refine Z0 ?_; refine JD ?_; refine X0 ?_; refine X0 ?_; refine JR ?_; refine Z0 ?_; refine JD ?_; refine X4 ?_
 refine Xs (fun i : Nat => 1 ≤ i ∧ i ≤ l.length + 1 ∧ Ym (l.drop (i - 1)) = G) (fun i => ⟨20, [(0, .d (.sl 1 (l.map Xl))), (3, ai i)], []⟩) (fun i => l.length - i) 1 ⟨by omega, by omega, by simpa using hG⟩
  (X7 rfl ⟨JL, JL, trivial⟩ trivial) ?_
 rintro i ⟨hi, hi2, hg⟩
 by_cases hil : i < l.length
 case neg =>
  have hn : ¬ (i : Int) < (l.map Xl).length := by omega
  have hT : G = true := by rw [← hg, X52 (by omega)]
  subst hT
  refine X0 ?_; refine X0 ?_; refine JR ?_; refine Z1 ?_; refine Z1 ?_; refine Zd ?_; refine Z8 ?_; refine JD ?_; refine JF ?_; refine Xo ?_; refine X0 ?_; refine JR ?_; refine Z0 ?_; refine JD ?_
  exact X1 ⟨_, St.le_refl _, ⟨rfl, trivial⟩, X2 _⟩
 have hn : (i : Int) < (l.map Xl).length := by omega
 obtain ⟨j, rfl⟩ : ∃ j, i = j + 1 := ⟨i - 1, by omega⟩
 rw [Nat.add_sub_cancel] at hg
 obtain ⟨x, hx⟩ := Xm (l := l) hil
 obtain ⟨y, hy⟩ := Xm (l := l) (k := j) (by omega)
 have hxc : (l.map Xl)[j + 1]? = some (Xl x) := Xr hx
 have hyc : (l.map Xl)[j]? = some (Xl y) := Xr hy
 rw [X5x hy hx] at hg
 cases hq : (Op.bytesLess x y || decide (x = y)) with
 | false =>
  rw [hq] at hg
  simp only [Bool.not_false, Bool.true_and] at hg
  refine X0 ?_; refine X0 ?_; refine JR ?_; refine Z1 ?_; refine Z1 ?_; refine Zd ?_; refine Z8 ?_; refine JD ?_; refine JT ?_; refine X3 ?_; refine X0 ?_; refine X4 ?_; refine X0 ?_
  refine JR ?_; refine Z1 ?_; refine Z1 ?_; refine Zj ?_; refine Zk ?_; refine Z1 ?_; refine Z1 ?_
  refine Z4 (op := .sub) (r' := .int .i64 ((j : Nat) : Int)) (u := .int .i64 ((j + 1 : Nat) : Int)) (v := .int .i64 1) ?_ (hr' := by exact congrArg (Value.int .i64) (show (((j + 1 : Nat) : Int) - 1) = (j : Int) by omega)) (hr := by exact XH (by unfold Xy; omega))
  refine Zj ?_; refine Zk ?_; refine Z06 ?_; refine JD ?_; refine JF ?_; refine X3 ?_; refine JR ?_; refine Z1 ?_; refine Zb ?_; refine Z0 ?_; refine JD ?_
  exact ⟨j + 1 + 1, ⟨by omega, by omega, by rw [Nat.add_sub_cancel]; exact hg⟩, by omega, X7 rfl ⟨JL, JL, trivial⟩ trivial⟩
 | true =>
  rw [hq] at hg
  simp only [Bool.not_true, Bool.false_and] at hg
  subst hg
  refine X0 ?_; refine X0 ?_; refine JR ?_; refine Z1 ?_; refine Z1 ?_; refine Zd ?_; refine Z8 ?_; refine JD ?_; refine JT ?_; refine X3 ?_; refine X0 ?_; refine X4 ?_; refine X0 ?_
  refine JR ?_; refine Z1 ?_; refine Z1 ?_; refine Zj ?_; refine Zk ?_; refine Z1 ?_; refine Z1 ?_
  refine Z4 (op := .sub) (r' := .int .i64 ((j : Nat) : Int)) (u := .int .i64 ((j + 1 : Nat) : Int)) (v := .int .i64 1) ?_ (hr' := by exact congrArg (Value.int .i64) (show (((j + 1 : Nat) : Int) - 1) = (j : Int) by omega)) (hr := by exact XH (by unfold Xy; omega))
  refine Zj ?_; refine Zk ?_; refine Z06 ?_; refine JD ?_; refine JT ?_; refine X0 ?_; refine JR ?_; refine Z0 ?_; refine JD ?_
  exact X1 ⟨_, St.le_refl _, ⟨rfl, trivial⟩, X2 _⟩
theorem X5u (l : List (List UInt8)) (hl : l.length ≤ 9223372036854775807) : Con Tryz.prog 188 [] [.d (.sl 1 (l.map Xl))] [] (ab (Ym l)) := by
 refine X9 (xs := [ab (Ym l)]) Tryz.func188 rfl Tryz.ntmps188 rfl rfl rfl (fun E => ?_)
 have hlm : (l.map Xl).length = l.length := by simp
 generalize hG : Ym l = G
 refine X0 ?_; refine JR ?_; refine Z0 ?_; refine JD ?_; refine X0 ?_; refine X0 ?_; refine JR ?_; refine Z0 ?_; refine JD ?_; refine X4 ?_
 refine Xs (fun i : Nat => 1 ≤ i ∧ i ≤ l.length + 1 ∧ Ym (l.drop (i - 1)) = G) (fun i => ⟨20, [(0, .d (.sl 1 (l.map Xl))), (3, ai i)], []⟩) (fun i => l.length - i) 1 ⟨by omega, by omega, by simpa using hG⟩
  (X7 rfl ⟨JL, JL, trivial⟩ trivial) ?_
 rintro i ⟨hi, hi2, hg⟩
 by_cases hil : i < l.length
 case neg =>
  have hn : ¬ (i : Int) < (l.map Xl).length := by omega
  have hT : G = true := by rw [← hg, X52 (by omega)]
  subst hT
  refine X0 ?_; refine X0 ?_; refine JR ?_; refine Z1 ?_; refine Z1 ?_; refine Zd ?_; refine Z8 ?_; refine JD ?_; refine JF ?_; refine Xo ?_; refine X0 ?_; refine JR ?_; refine Z0 ?_; refine JD ?_
  exact X1 ⟨_, St.le_refl _, ⟨rfl, trivial⟩, X2 _⟩
 have hn : (i : Int) < (l.map Xl).length := by omega
 obtain ⟨j, rfl⟩ : ∃ j, i = j + 1 := ⟨i - 1, by omega⟩
 rw [Nat.add_sub_cancel] at hg
 obtain ⟨x, hx⟩ := Xm (l := l) hil
 obtain ⟨y, hy⟩ := Xm (l := l) (k := j) (by omega)
 have hxc : (l.map Xl)[j + 1]? = some (Xl x) := Xr hx
 have hyc : (l.map Xl)[j]? = some (Xl y) := Xr hy
 rw [X5x hy hx] at hg
 cases hq : (Op.bytesLess x y || decide (x = y)) with
 | false =>
  rw [hq] at hg
  simp only [Bool.not_false, Bool.true_and] at hg
  refine X0 ?_; refine X0 ?_; refine JR ?_; refine Z1 ?_; refine Z1 ?_; refine Zd ?_; refine Z8 ?_; refine JD ?_; refine JT ?_; refine X3 ?_; refine X0 ?_; refine X4 ?_; refine X0 ?_
  refine JR ?_; refine Z1 ?_; refine Z1 ?_; refine Zj ?_; refine Zk ?_; refine Z1 ?_; refine Z1 ?_
  refine Z4 (op := .sub) (r' := .int .i64 ((j : Nat) : Int)) (u := .int .i64 ((j + 1 : Nat) : Int)) (v := .int .i64 1) ?_ (hr' := by exact congrArg (Value.int .i64) (show (((j + 1 : Nat) : Int) - 1) = (j : Int) by omega)) (hr := by exact XH (by unfold Xy; omega))
  refine Zj ?_; refine Zk ?_; refine Z06 ?_; refine JD ?_; refine JF ?_; refine X3 ?_; refine JR ?_; refine Z1 ?_; refine Zb ?_; refine Z0 ?_; refine JD ?_
  exact ⟨j + 1 + 1, ⟨by omega, by omega, by rw [Nat.add_sub_cancel]; exact hg⟩, by omega, X7 rfl ⟨JL, JL, trivial⟩ trivial⟩
 | true =>
  rw [hq] at hg
  simp only [Bool.not_true, Bool.false_and] at hg
  subst hg
  refine X0 ?_; refine X0 ?_; refine JR ?_; refine Z1 ?_; refine Z1 ?_; refine Zd ?_; refine Z8 ?_; refine JD ?_; refine JT ?_; refine X3 ?_; refine X0 ?_; refine X4 ?_; refine X0 ?_
  refine JR ?_; refine Z1 ?_; refine Z1 ?_; refine Zj ?_; refine Zk ?_; refine Z1 ?_; refine Z1 ?_
  refine Z4 (op := .sub) (r' := .int .i64 ((j : Nat) : Int)) (u := .int .i64 ((j + 1 : Nat) : Int)) (v := .int .i64 1) ?_ (hr' := by exact congrArg (Value.int .i64) (show (((j + 1 : Nat) : Int) - 1) = (j : Int) by omega)) (hr := by exact XH (by unfold Xy; omega))
  refine Zj ?_; refine Zk ?_; refine Z06 ?_; refine JD ?_; refine JT ?_; refine X0 ?_; refine JR ?_; refine Z0 ?_; refine JD ?_
  exact X1 ⟨_, St.le_refl _, ⟨rfl, trivial⟩, X2 _⟩
theorem X9d (s : List UInt8) : Con Tryz.prog 149 [] [.d (.v (.string (X6 s)))] [] (ab (!Xj s)) := by
 refine X9 (xs := [ab (!Xj s)]) Tryz.func149 rfl Tryz.ntmps149 rfl rfl rfl (fun E => ?_)
 have hn := X09 s
 refine X0 ?_; refine JR ?_; refine Z0 ?_; refine JD ?_; refine X0 ?_; refine JR ?_; refine Z1 ?_; refine Z9 (hcon := hn) ?_; refine Zu ?_; refine Z0 ?_; refine JD ?_
 exact X1 ⟨_, St.le_refl _, ⟨rfl, trivial⟩, X2 _⟩
def Ug : List (List UInt8) → Nat → Int
 | [], _ => -1
 | s :: r, i => if Xj s = false then (i : Int) else Ug r (i + 1)
theorem X8D {l : List (List UInt8)} {i : Nat} {x : List UInt8} (h : l[i]? = some x) : Ug (l.drop i) i = if Xj x = false then (i : Int) else Ug (l.drop (i + 1)) (i + 1) := by
 obtain ⟨hi, rfl⟩ := List.getElem?_eq_some_iff.1 h
 rw [List.drop_eq_getElem_cons hi, Ug]
theorem X5C : ∀ (l : List (List UInt8)) (i : Nat), decide (Ug l i ≥ 0) = !l.all Xj
 | [], i => by simp [Ug]
 | s :: r, i => by
  rw [Ug, List.all_cons]
  cases h : Xj s with
  | false => simp
  | true => simp [X5C r (i + 1)]
theorem X72 (l : List (List UInt8)) (hl : l.length ≤ 9223372036854775807) : Con Tryz.prog 208 [] [.d (.sl 1 (l.map Xl)), .fn 149 []] [] (ai (Ug l 0)) := by
 refine X9 (xs := [ai (Ug l 0)]) Tryz.func208 rfl Tryz.ntmps208 rfl rfl rfl (fun E => ?_)
 have hlm : (l.map Xl).length = l.length := by simp
 generalize hG : Ug l 0 = G
 refine X0 ?_; refine JR ?_; refine Z0 ?_; refine JD ?_; refine X0 ?_; refine X0 ?_; refine JR ?_; refine Z1 ?_; refine Zd ?_; refine Z1 ?_; refine JD ?_; refine X4 ?_
 refine Xs (fun i : Nat => i ≤ l.length ∧ Ug (l.drop i) i = G) (fun i => ⟨19, [(0, .d (.sl 1 (l.map Xl))), (1, .fn 149 []), (7, ai (l.map Xl).length), (8, ai i)], []⟩) (fun i => l.length - i) 0 ⟨by omega, by simpa using hG⟩
  (X7 rfl ⟨JL, JL, JL, JL, trivial⟩ trivial) ?_
 rintro i ⟨hi, hg⟩
 by_cases hil : i < l.length
 case neg =>
  have hn : ¬ (i : Int) < (l.map Xl).length := by omega
  rw [List.drop_of_length_le (by omega), Ug] at hg
  subst hg
  refine X0 ?_; refine JR ?_; refine Z8 ?_; refine JD ?_; refine X0 ?_; refine JF ?_; refine Xo ?_; refine X0 ?_; refine JR ?_; refine Z0 ?_; refine JD ?_
  exact X1 ⟨_, St.le_refl _, ⟨rfl, trivial⟩, X2 _⟩
 have hn : (i : Int) < (l.map Xl).length := by omega
 obtain ⟨x, hx⟩ := Xm (l := l) hil
 have hxc : (l.map Xl)[i]? = some (Xl x) := Xr hx
 have hu := X9d x
 rw [X8D hx] at hg
 cases hq : Xj x with
 | true =>
  rw [hq] at hg hu
  simp only [Bool.true_eq_false, if_false] at hg
  refine X0 ?_; refine JR ?_; refine Z8 ?_; refine JD ?_; refine X0 ?_; refine JT ?_; refine X3 ?_; refine X0 ?_; refine X4 ?_; refine X0 ?_; refine JR ?_; refine Z1 ?_; refine Z0 ?_
  refine JD ?_; refine X0 ?_; refine JR ?_; refine Z1 ?_; refine Z1 ?_; refine Z1 ?_; refine Zj ?_; refine Zk ?_; refine ZG (hcon := hu) ?_; refine JD ?_; refine JF ?_; refine X3 ?_; refine JR ?_; refine Zb ?_
  refine Z1 ?_; refine JD ?_
  exact ⟨i + 1, ⟨by omega, hg⟩, by omega, X7 rfl ⟨JL, JL, JL, JL, trivial⟩ trivial⟩
 | false =>
  rw [hq] at hg hu
  simp only [if_true] at hg
  subst hg
  refine X0 ?_; refine JR ?_; refine Z8 ?_; refine JD ?_; refine X0 ?_; refine JT ?_; refine X3 ?_; refine X0 ?_; refine X4 ?_; refine X0 ?_; refine JR ?_; refine Z1 ?_; refine Z0 ?_
  refine JD ?_; refine X0 ?_; refine JR ?_; refine Z1 ?_; refine Z1 ?_; refine Z1 ?_; refine Zj ?_; refine Zk ?_; refine ZG (hcon := hu) ?_; refine JD ?_; refine JT ?_; refine X0 ?_; refine JR ?_; refine Z1 ?_
  refine Z0 ?_; refine JD ?_
  exact X1 ⟨_, St.le_refl _, ⟨rfl, trivial⟩, X2 _⟩
theorem X4B (l : List (List UInt8)) (hl : l.length ≤ 9223372036854775807) : Con Tryz.prog 148 [] [.d (.sl 1 (l.map Xl)), .fn 149 []] [] (ab (!l.all Xj)) := by
 refine X9 (xs := [ab (!l.all Xj)]) Tryz.func148 rfl Tryz.ntmps148 rfl rfl rfl (fun E => ?_)
 have hi := X72 l hl
 rw [← X5C l 0]
 generalize Ug l 0 = q at *
 refine X0 ?_; refine JR ?_; refine Z0 ?_; refine JD ?_; refine X0 ?_; refine JR ?_; refine Z1 ?_; refine Z1 ?_; refine Z9 (hcon := hi) ?_; refine Z2 ?_; refine Z0 ?_; refine JD ?_
 exact X1 ⟨_, St.le_refl _, ⟨rfl, trivial⟩, X2 _⟩
theorem X2y {α : Type} {p : α → Bool} {l : List α} {i : Nat} {x : α} (h : l[i]? = some x) : (l.drop i).all p = (p x && (l.drop (i + 1)).all p) := by
 obtain ⟨hi, rfl⟩ := List.getElem?_eq_some_iff.1 h
 rw [List.drop_eq_getElem_cons hi, List.all_cons]
theorem X6B (l : List (List UInt8)) (hl : l.length ≤ 9223372036854775807) : Con Tryz.prog 187 [] [.d (.sl 1 (l.map Xl))] [] (ab (l.all Xj)) := by
 refine X9 (xs := [ab (l.all Xj)]) Tryz.func187 rfl Tryz.ntmps187 rfl rfl rfl (fun E => ?_)
 have hlm : (l.map Xl).length = l.length := by simp
 generalize hG : l.all Xj = G
 refine X0 ?_; refine JR ?_; refine Z0 ?_; refine JD ?_; refine X0 ?_; refine X0 ?_; refine JR ?_; refine Z0 ?_; refine JD ?_; refine X4 ?_
 refine Xs (fun i : Nat => i ≤ l.length ∧ (l.drop i).all Xj = G) (fun i => ⟨16, [(0, .d (.sl 1 (l.map Xl))), (3, ai i)], []⟩) (fun i => l.length - i) 0 ⟨by omega, by simpa using hG⟩
  (X7 rfl ⟨JL, JL, trivial⟩ trivial) ?_
 rintro i ⟨hi, hg⟩
 by_cases hil : i < l.length
 case neg =>
  have hn : ¬ (i : Int) < (l.map Xl).length := by omega
  rw [List.drop_of_length_le (by omega), List.all_nil] at hg
  subst hg
  refine X0 ?_; refine X0 ?_; refine JR ?_; refine Z1 ?_; refine Z1 ?_; refine Zd ?_; refine Z8 ?_; refine JD ?_; refine JF ?_; refine Xo ?_; refine X0 ?_; refine JR ?_; refine Z0 ?_; refine JD ?_
  exact X1 ⟨_, St.le_refl _, ⟨rfl, trivial⟩, X2 _⟩
 have hn : (i : Int) < (l.map Xl).length := by omega
 obtain ⟨x, hx⟩ := Xm (l := l) hil
 have hxc : (l.map Xl)[i]? = some (Xl x) := Xr hx
 have hu := X2t x
 rw [X2y hx] at hg
 cases hq : Xj x with
 | true =>
  rw [hq] at hg hu
  rw [Bool.true_and] at hg
  refine X0 ?_; refine X0 ?_; refine JR ?_; refine Z1 ?_; refine Z1 ?_; refine Zd ?_; refine Z8 ?_; refine JD ?_; refine JT ?_; refine X3 ?_; refine X0 ?_; refine X4 ?_; refine X0 ?_
  refine JR ?_; refine Z1 ?_; refine Z1 ?_; refine Zj ?_; refine Zk ?_; refine Z9 (hcon := hu) ?_; refine Zu ?_; refine JD ?_; refine JF ?_; refine X3 ?_; refine JR ?_; refine Z1 ?_; refine Zb ?_; refine Z0 ?_
  refine JD ?_
  exact ⟨i + 1, ⟨by omega, hg⟩, by omega, X7 rfl ⟨JL, JL, trivial⟩ trivial⟩
 | false =>
  rw [hq] at hg hu
  rw [Bool.false_and] at hg
  subst hg
  refine X0 ?_; refine X0 ?_; refine JR ?_; refine Z1 ?_; refine Z1 ?_; refine Zd ?_; refine Z8 ?_; refine JD ?_; refine JT ?_; refine X3 ?_; refine X0 ?_; refine X4 ?_; refine X0 ?_
  refine JR ?_; refine Z1 ?_; refine Z1 ?_; refine Zj ?_; refine Zk ?_; refine Z9 (hcon := hu) ?_; refine Zu ?_; refine JD ?_; refine JT ?_; refine X0 ?_; refine JR ?_; refine Z0 ?_; refine JD ?_
  exact X1 ⟨_, St.le_refl _, ⟨rfl, trivial⟩, X2 _⟩
end Go.Fw
namespace Go.Fw
open Go Go.Proofs
set_option maxRecDepth 100000
set_option linter.unusedVariables false
set_option linter.unusedSimpArgs false
def X0h (p : Prp) : Prop := p.key.length ≤ 9223372036854775807 ∧ XY p.v
theorem X0G {α : Type} {l : List α} {i : Nat} {x : α} (h : l[i]? = some x) : l.take (i + 1) = l.take i ++ [x] := by
 obtain ⟨hi, rfl⟩ := List.getElem?_eq_some_iff.1 h
 rw [List.take_add_one, List.getElem?_eq_getElem hi]; rfl
theorem X4A {l : List Prp} {i : Nat} {x : Prp} (h : l[i]? = some x) : ((l.take (i + 1)).map Prp.key).map Xl = ((l.take i).map Prp.key).map Xl ++ [Xl x.key] := by
 rw [X0G h]; simp
theorem XaS (ps : List Prp) (hl : ps.length ≤ 4294967296) : Con Tryz.prog 186 [] [.d (.sl 6 (ps.map Xg))] [] (.d (.sl 1 ((ps.map Prp.key).map Xl))) := by
 refine X9 (xs := [.d (.sl 1 ((ps.map Prp.key).map Xl))]) Tryz.func186 rfl Tryz.ntmps186 rfl rfl rfl (fun E => ?_)
 have hlm : (ps.map Xg).length = ps.length := by simp
 refine X0 ?_; refine JR ?_; refine Z0 ?_; refine JD ?_; refine X0 ?_; refine JR ?_; refine Z0 ?_; refine JD ?_; refine X0 ?_; refine X0 ?_; refine JR ?_; refine Z0 ?_; refine JD ?_
 refine X4 ?_
 refine XV (V0 3 130 1 rfl rfl rfl) ?_
 refine Xs (fun i : Nat => i ≤ ps.length) (fun i => ⟨20, [(0, .d (.sl 6 (ps.map Xg))), (3, .own 130 (((ps.take i).map Prp.key).map Xl).length), (4, ai i)], [(130, .row 1 (((ps.take i).map Prp.key).map Xl))]⟩) (fun i => ps.length - i) 0 (Nat.zero_le _)
  (X7 rfl ⟨JL, JL, JL, trivial⟩ ⟨rfl, trivial⟩) ?_
 intro i hi
 by_cases hil : i < ps.length
 case neg =>
  obtain rfl : i = ps.length := by omega
  have hn : ¬ ((ps.length : Nat) : Int) < (ps.map Xg).length := by omega
  rw [List.take_length]
  refine X0 ?_; refine X0 ?_; refine JR ?_; refine Z1 ?_; refine Z1 ?_; refine Zd ?_; refine Z8 ?_; refine JD ?_; refine JF ?_; refine Xo ?_; refine X0 ?_; refine JR ?_; refine Z1 ?_; refine Z0 ?_
  refine JD ?_
  refine XV (Up 130 rfl) ?_
  refine XV (Uo 2 130 rfl rfl rfl) ?_
  exact X1 ⟨_, St.le_refl _, ⟨rfl, trivial⟩, X2 _⟩
 have hn : (i : Int) < (ps.map Xg).length := by omega
 obtain ⟨x, hx⟩ := Xm (l := ps) hil
 have hxc : (ps.map Xg)[i]? = some (Xg x) := Xr hx
 have hroom : (((ps.take i).map Prp.key).map Xl).length ≤ 4294967296 := by simp only [List.length_map, List.length_take]; omega
 refine X0 ?_; refine X0 ?_; refine JR ?_; refine Z1 ?_; refine Z1 ?_; refine Zd ?_; refine Z8 ?_; refine JD ?_; refine JT ?_; refine X3 ?_; refine X0 ?_; refine X4 ?_; refine JR ?_
 refine Z1 ?_; refine Z1 ?_; refine Z1 ?_; refine Zj ?_; refine ZN ?_; refine Zk ?_; refine Z5 ?_; refine Z6 ?_; refine Z0 ?_; refine JD ?_; refine JR ?_; refine Z1 ?_; refine Zb ?_; refine Z0 ?_; refine JD ?_
 refine ⟨i + 1, hil, by omega, ?_⟩
 rw [X4A hx]
 exact X7 rfl ⟨JL, AVal.le_of_eq (by refine Eq.trans (b := AVal.own 130 (_ + _)) rfl ?_; simp only [List.length_append, List.length_map, List.length_cons, List.length_nil]), JL, trivial⟩ ⟨rfl, trivial⟩
theorem X4C {l : List Prp} {i : Nat} {x : Prp} (h : l[i]? = some x) : ((l.drop i).map Prp.v).all XF = (XF x.v && ((l.drop (i + 1)).map Prp.v).all XF) := by
 obtain ⟨hi, rfl⟩ := List.getElem?_eq_some_iff.1 h
 rw [List.drop_eq_getElem_cons hi, List.map_cons, List.all_cons]
theorem X25 {ls : List (List UInt8)} {ps : List Prp} (h : 8 < ls.length ∨ 16 < ps.length) : Ya ls ps = 4 := if_pos h
theorem X6x {ls : List (List UInt8)} {ps : List Prp} (h1 : ¬ 8 < ls.length) (h2 : ¬ 16 < ps.length) : Ya ls ps = if ls.all Xj = false ∨ (ps.map Prp.key).all Xj = false then 6
 else if Ym ls = false ∨ Ym (ps.map Prp.key) = false then 26 else if (ps.map Prp.v).all XF = false then 8 else 0 := if_neg (by omega)
theorem X3P (ls : List (List UInt8)) (ps : List Prp) (hls : ls.length ≤ 9223372036854775807) (hok : ∀ p ∈ ps, X0h p) : Con Tryz.prog 96 [] [.d (.sl 1 (ls.map Xl)), .d (.sl 6 (ps.map Xg))] [] (ai (Ya ls ps)) := by
 refine X9 (xs := [ai (Ya ls ps)]) Tryz.func96 rfl Tryz.ntmps96 rfl rfl rfl (fun E => ?_)
 have hlm : (ps.map Xg).length = ps.length := by simp
 have hlm2 : (ls.map Xl).length = ls.length := by simp
 by_cases h1 : 8 < ls.length
 ·rw [X25 (.inl h1)]
  have h1' : (8 : Int) < (ls.map Xl).length := by omega
  refine X0 ?_; refine JR ?_; refine Z0 ?_; refine JD ?_; refine X0 ?_; refine X0 ?_; refine JR ?_; refine Z1 ?_; refine Zd ?_; refine Zs ?_; refine Z1 ?_; refine Zo ?_; refine Zo ?_; refine Zo ?_
  refine Zn ?_; refine JD ?_; refine JT ?_; refine X0 ?_; refine JR ?_; refine Z0 ?_; refine JD ?_
  exact X1 ⟨_, St.le_refl _, ⟨rfl, trivial⟩, X2 _⟩
 have h1' : ¬ (8 : Int) < (ls.map Xl).length := by omega
 by_cases h2 : 16 < ps.length
 ·rw [X25 (.inr h2)]
  have h2' : (16 : Int) < (ps.map Xg).length := by omega
  refine X0 ?_; refine JR ?_; refine Z0 ?_; refine JD ?_; refine X0 ?_; refine X0 ?_; refine JR ?_; refine Z1 ?_; refine Zd ?_; refine Zs ?_; refine Z1 ?_; refine Z1 ?_; refine Zd ?_; refine Zs ?_
  refine Zq ?_; refine JD ?_; refine JT ?_; refine X0 ?_; refine JR ?_; refine Z0 ?_; refine JD ?_
  exact X1 ⟨_, St.le_refl _, ⟨rfl, trivial⟩, X2 _⟩
 have h2' : ¬ (16 : Int) < (ps.map Xg).length := by omega
 rw [X6x h1 h2]
 have hc1 := X4B ls hls
 have hc2 := X4B (ps.map Prp.key) (by simp only [List.length_map]; omega)
 have hr1 := X4R ls hls
 have hr2 := X4R (ps.map Prp.key) (by simp only [List.length_map]; omega)
 generalize ls.all Xj = n1 at *
 generalize Ym ls = r1 at *
 generalize (ps.map Prp.key).all Xj = n2 at *
 generalize Ym (ps.map Prp.key) = r2 at *
 generalize hG : (ps.map Prp.v).all XF = G
 refine X0 ?_; refine JR ?_; refine Z0 ?_; refine JD ?_; refine X0 ?_; refine X0 ?_; refine JR ?_; refine Z1 ?_; refine Zd ?_; refine Zs ?_; refine Z1 ?_; refine Z1 ?_; refine Zd ?_; refine Zs ?_
 refine Zq ?_; refine JD ?_; refine JF ?_; refine X3 ?_; refine X0 ?_; refine JR ?_; refine Z0 ?_; refine JD ?_; refine X0 ?_; refine X0 ?_; refine JR ?_; refine Z1 ?_; refine Zd ?_; refine Z1 ?_
 refine JD ?_; refine X4 ?_
 refine XV (V0 5 130 1 rfl rfl rfl) ?_
 refine Xs (fun i : Nat => i ≤ ps.length) (fun i => ⟨55, [(0, .d (.sl 1 (ls.map Xl))), (1, .d (.sl 6 (ps.map Xg))), (18, .d (.sl 6 (ps.map Xg))), (19, ai (ps.map Xg).length), (5, .own 130 (((ps.take i).map Prp.key).map Xl).length), (20, ai i)], [(130, .row 1 (((ps.take i).map Prp.key).map Xl))]⟩) (fun i => ps.length - i) 0 (Nat.zero_le _)
  (X7 rfl JM ⟨rfl, trivial⟩) ?_
 intro i hi
 by_cases hil : i < ps.length
 case pos =>
  have hn : (i : Int) < (ps.map Xg).length := by omega
  obtain ⟨x, hx⟩ := Xm (l := ps) hil
  have hxc : (ps.map Xg)[i]? = some (Xg x) := Xr hx
  have hroom : (((ps.take i).map Prp.key).map Xl).length ≤ 4294967296 := by simp only [List.length_map, List.length_take]; omega
  have hsn := X4A hx
  obtain ⟨key, ⟨vk, vn, vd, vs, vl⟩⟩ := x
  simp only [Xg, Y8] at hxc hsn
  refine X0 ?_; refine JR ?_; refine Z8 ?_; refine JD ?_; refine X0 ?_; refine JT ?_; refine X3 ?_; refine X0 ?_; refine X4 ?_; refine X0 ?_; refine JR ?_; refine Zj ?_; refine ZK ?_
  refine Zw (γ := 100) ?_; refine Zy ?_; refine JD ?_; refine JR ?_; refine Z1 ?_; refine ZB ?_; refine ZC ?_; refine Z5 ?_; refine Z6 ?_; refine Z0 ?_; refine JD ?_; refine JR ?_; refine Zb ?_; refine Z1 ?_; refine JD ?_
  refine ⟨i + 1, hil, by omega, ?_⟩
  rw [hsn]
  exact X7 rfl ⟨JL, JL, JL, JL, AVal.le_of_eq (by refine Eq.trans (b := AVal.own 130 (_ + _)) rfl ?_; simp only [List.length_append, List.length_map, List.length_cons, List.length_nil]), JL, trivial⟩ ⟨rfl, trivial⟩
 obtain rfl : i = ps.length := by omega
 have hn : ¬ ((ps.length : Nat) : Int) < (ps.map Xg).length := by omega
 rw [List.take_length]
 refine X0 ?_; refine JR ?_; refine Z8 ?_; refine JD ?_; refine X0 ?_; refine JF ?_; refine Xo ?_; refine X0 ?_; refine X0 ?_
 refine XV (Up 130 rfl) ?_
 refine XV (Uo 5 130 rfl rfl rfl) ?_
 by_cases b1 : n1 = false ∨ n2 = false
 ·rw [if_pos b1]
  cases n1 <;> cases n2 <;> first | (simp at b1; done) | skip
  ·refine JR ?_; refine Z1 ?_; refine Z9 (hcon := hc1) ?_; refine Z1 ?_; refine Zo ?_; refine Zo ?_; refine Zn ?_; refine JD ?_; refine JT ?_; refine X0 ?_; refine JR ?_; refine Z0 ?_; refine JD ?_
   exact X1 ⟨_, St.le_refl _, ⟨rfl, trivial⟩, X2 _⟩
  ·refine JR ?_; refine Z1 ?_; refine Z9 (hcon := hc1) ?_; refine Z1 ?_; refine Zo ?_; refine Zo ?_; refine Zn ?_; refine JD ?_; refine JT ?_; refine X0 ?_; refine JR ?_; refine Z0 ?_; refine JD ?_
   exact X1 ⟨_, St.le_refl _, ⟨rfl, trivial⟩, X2 _⟩
  ·refine JR ?_; refine Z1 ?_; refine Z9 (hcon := hc1) ?_; refine Z1 ?_; refine Z1 ?_; refine Z9 (hcon := hc2) ?_; refine Zq ?_; refine JD ?_; refine JT ?_; refine X0 ?_; refine JR ?_; refine Z0 ?_; refine JD ?_
   exact X1 ⟨_, St.le_refl _, ⟨rfl, trivial⟩, X2 _⟩
 rw [if_neg b1]
 obtain ⟨rfl, rfl⟩ : n1 = true ∧ n2 = true := by cases n1 <;> cases n2 <;> simp_all
 by_cases b2 : r1 = false ∨ r2 = false
 ·rw [if_pos b2]
  cases r1 <;> cases r2 <;> first | (simp at b2; done) | skip
  ·refine JR ?_; refine Z1 ?_; refine Z9 (hcon := hc1) ?_; refine Z1 ?_; refine Z1 ?_; refine Z9 (hcon := hc2) ?_; refine Zq ?_; refine JD ?_; refine JF ?_; refine X3 ?_; refine X0 ?_; refine X0 ?_
   refine JR ?_; refine Z1 ?_; refine Z9 (hcon := hr1) ?_; refine Zu ?_; refine Z1 ?_; refine Zo ?_; refine Zo ?_; refine Zo ?_; refine Zn ?_; refine JD ?_; refine JT ?_; refine X0 ?_; refine JR ?_; refine Z0 ?_
   refine JD ?_
   exact X1 ⟨_, St.le_refl _, ⟨rfl, trivial⟩, X2 _⟩
  ·refine JR ?_; refine Z1 ?_; refine Z9 (hcon := hc1) ?_; refine Z1 ?_; refine Z1 ?_; refine Z9 (hcon := hc2) ?_; refine Zq ?_; refine JD ?_; refine JF ?_; refine X3 ?_; refine X0 ?_; refine X0 ?_
   refine JR ?_; refine Z1 ?_; refine Z9 (hcon := hr1) ?_; refine Zu ?_; refine Z1 ?_; refine Zo ?_; refine Zo ?_; refine Zo ?_; refine Zn ?_; refine JD ?_; refine JT ?_; refine X0 ?_; refine JR ?_; refine Z0 ?_
   refine JD ?_
   exact X1 ⟨_, St.le_refl _, ⟨rfl, trivial⟩, X2 _⟩
  ·refine JR ?_; refine Z1 ?_; refine Z9 (hcon := hc1) ?_; refine Z1 ?_; refine Z1 ?_; refine Z9 (hcon := hc2) ?_; refine Zq ?_; refine JD ?_; refine JF ?_; refine X3 ?_; refine X0 ?_; refine X0 ?_
   refine JR ?_; refine Z1 ?_; refine Z9 (hcon := hr1) ?_; refine Zu ?_; refine Z1 ?_; refine Z1 ?_; refine Z9 (hcon := hr2) ?_; refine Zu ?_; refine Zq ?_; refine JD ?_; refine JT ?_; refine X0 ?_; refine JR ?_
   refine Z0 ?_; refine JD ?_
   exact X1 ⟨_, St.le_refl _, ⟨rfl, trivial⟩, X2 _⟩
 rw [if_neg b2]
 obtain ⟨rfl, rfl⟩ : r1 = true ∧ r2 = true := by cases r1 <;> cases r2 <;> simp_all
 refine JR ?_; refine Z1 ?_; refine Z9 (hcon := hc1) ?_; refine Z1 ?_; refine Z1 ?_; refine Z9 (hcon := hc2) ?_; refine Zq ?_; refine JD ?_; refine JF ?_; refine X3 ?_; refine X0 ?_; refine X0 ?_
 refine JR ?_; refine Z1 ?_; refine Z9 (hcon := hr1) ?_; refine Zu ?_; refine Z1 ?_; refine Z1 ?_; refine Z9 (hcon := hr2) ?_; refine Zu ?_; refine Zq ?_; refine JD ?_; refine JF ?_; refine X3 ?_; refine X0 ?_
 refine X0 ?_; refine JR ?_; refine Z1 ?_; refine Zd ?_; refine Z1 ?_; refine JD ?_; refine X4 ?_
 clear hi hil hn b1 b2 h1 h2
 refine Xs (fun i : Nat => i ≤ ps.length ∧ ((ps.drop i).map Prp.v).all XF = G) (fun i => ⟨55, [(1, .d (.sl 6 (ps.map Xg))), (44, .d (.sl 6 (ps.map Xg))), (45, ai (ps.map Xg).length), (46, ai i)], []⟩) (fun i => ps.length - i) 0 ⟨by omega, by simpa using hG⟩
  (X7 rfl JM trivial) ?_
 rintro i ⟨hi, hg⟩
 by_cases hil : i < ps.length
 case neg =>
  have hn' : ¬ (i : Int) < (ps.map Xg).length := by omega
  rw [List.drop_of_length_le (by omega), List.map_nil, List.all_nil] at hg
  subst hg
  rw [if_neg (by simp)]
  refine X0 ?_; refine JR ?_; refine Z8 ?_; refine JD ?_; refine X0 ?_; refine JF ?_; refine Xo ?_; refine X0 ?_; refine JR ?_; refine Z0 ?_; refine JD ?_
  exact X1 ⟨_, St.le_refl _, ⟨rfl, trivial⟩, X2 _⟩
 have hn' : (i : Int) < (ps.map Xg).length := by omega
 obtain ⟨x, hx⟩ := Xm (l := ps) hil
 have hxc : (ps.map Xg)[i]? = some (Xg x) := Xr hx
 have hxo := hok x (List.mem_of_getElem? hx)
 have hu := X9X x.v
 rw [X4C hx] at hg
 generalize XF x.v = pv at *
 obtain ⟨key, ⟨vk, vn, vd, vs, vl⟩⟩ := x
 simp only [Xn, Xg, Y8] at hu hxc
 cases pv with
 | true =>
  rw [Bool.true_and] at hg
  refine X0 ?_; refine JR ?_; refine Z8 ?_; refine JD ?_; refine X0 ?_; refine JT ?_; refine X3 ?_; refine X0 ?_; refine X4 ?_; refine X0 ?_; refine JR ?_; refine Zj ?_; refine ZK ?_
  refine Zw (γ := 100) ?_; refine Zy ?_; refine JD ?_; refine X0 ?_; refine JR ?_; refine ZB ?_; refine ZL ?_; refine Z9 (hcon := hu) ?_; refine Zu ?_; refine JD ?_; refine JF ?_; refine X3 ?_; refine JR ?_
  refine Zb ?_; refine Z1 ?_; refine JD ?_
  exact ⟨i + 1, ⟨by omega, hg⟩, by omega, X7 rfl JM trivial⟩
 | false =>
  rw [Bool.false_and] at hg
  subst hg
  rw [if_pos rfl]
  refine X0 ?_; refine JR ?_; refine Z8 ?_; refine JD ?_; refine X0 ?_; refine JT ?_; refine X3 ?_; refine X0 ?_; refine X4 ?_; refine X0 ?_; refine JR ?_; refine Zj ?_; refine ZK ?_
  refine Zw (γ := 100) ?_; refine Zy ?_; refine JD ?_; refine X0 ?_; refine JR ?_; refine ZB ?_; refine ZL ?_; refine Z9 (hcon := hu) ?_; refine Zu ?_; refine JD ?_; refine JT ?_; refine X0 ?_; refine JR ?_
  refine Z0 ?_; refine JD ?_
  exact X1 ⟨_, St.le_refl _, ⟨rfl, trivial⟩, X2 _⟩
theorem X4h (ls : List (List UInt8)) (ps : List Prp) (hls : ls.length ≤ 9223372036854775807) (hok : ∀ p ∈ ps, X0h p) : Con Tryz.prog 132 [] [.d (.sl 1 (ls.map Xl)), .d (.sl 6 (ps.map Xg))] [] (ai (Ya ls ps)) := by
 refine X9 (xs := [ai (Ya ls ps)]) Tryz.func132 rfl Tryz.ntmps132 rfl rfl rfl (fun E => ?_)
 have hlm : (ps.map Xg).length = ps.length := by simp
 have hlm2 : (ls.map Xl).length = ls.length := by simp
 by_cases h1 : 8 < ls.length
 ·rw [X25 (.inl h1)]
  have h1' : (8 : Int) < (ls.map Xl).length := by omega
  refine X0 ?_; refine JR ?_; refine Z0 ?_; refine JD ?_; refine X0 ?_; refine X0 ?_; refine JR ?_; refine Z1 ?_; refine Zd ?_; refine Zs ?_; refine Z1 ?_; refine Zo ?_; refine Zo ?_; refine Zo ?_
  refine Zn ?_; refine JD ?_; refine JT ?_; refine X0 ?_; refine JR ?_; refine Z0 ?_; refine JD ?_
  exact X1 ⟨_, St.le_refl _, ⟨rfl, trivial⟩, X2 _⟩
 have h1' : ¬ (8 : Int) < (ls.map Xl).length := by omega
 by_cases h2 : 16 < ps.length
 ·rw [X25 (.inr h2)]
  have h2' : (16 : Int) < (ps.map Xg).length := by omega
  refine X0 ?_; refine JR ?_; refine Z0 ?_; refine JD ?_; refine X0 ?_; refine X0 ?_; refine JR ?_; refine Z1 ?_; refine Zd ?_; refine Zs ?_; refine Z1 ?_; refine Z1 ?_; refine Zd ?_; refine Zs ?_
  refine Zq ?_; refine JD ?_; refine JT ?_; refine X0 ?_; refine JR ?_; refine Z0 ?_; refine JD ?_
  exact X1 ⟨_, St.le_refl _, ⟨rfl, trivial⟩, X2 _⟩
 have h2' : ¬ (16 : Int) < (ps.map Xg).length := by omega
 rw [X6x h1 h2]
 have hk := XaS ps (by omega)
 have hc1 := X6B ls hls
 have hc2 := X6B (ps.map Prp.key) (by simp only [List.length_map]; omega)
 have hr1 := X5u ls hls
 have hr2 := X5u (ps.map Prp.key) (by simp only [List.length_map]; omega)
 generalize ls.all Xj = n1 at *
 generalize Ym ls = r1 at *
 generalize (ps.map Prp.key).all Xj = n2 at *
 generalize Ym (ps.map Prp.key) = r2 at *
 generalize hG : (ps.map Prp.v).all XF = G
 by_cases b1 : n1 = false ∨ n2 = false
 ·rw [if_pos b1]
  cases n1 <;> cases n2 <;> first | (simp at b1; done) | skip
  ·refine X0 ?_; refine JR ?_; refine Z0 ?_; refine JD ?_; refine X0 ?_; refine X0 ?_; refine JR ?_; refine Z1 ?_; refine Zd ?_; refine Zs ?_; refine Z1 ?_; refine Z1 ?_; refine Zd ?_; refine Zs ?_
   refine Zq ?_; refine JD ?_; refine JF ?_; refine X3 ?_; refine X0 ?_; refine JR ?_; refine Z1 ?_; refine Z9 (hcon := hk) ?_; refine Z0 ?_; refine JD ?_; refine X0 ?_; refine X0 ?_; refine JR ?_
   refine Z1 ?_; refine Z9 (hcon := hc1) ?_; refine Zu ?_; refine Z1 ?_; refine Zo ?_; refine Zo ?_; refine Zo ?_; refine Zn ?_; refine JD ?_; refine JT ?_; refine X0 ?_; refine JR ?_; refine Z0 ?_; refine JD ?_
   exact X1 ⟨_, St.le_refl _, ⟨rfl, trivial⟩, X2 _⟩
  ·refine X0 ?_; refine JR ?_; refine Z0 ?_; refine JD ?_; refine X0 ?_; refine X0 ?_; refine JR ?_; refine Z1 ?_; refine Zd ?_; refine Zs ?_; refine Z1 ?_; refine Z1 ?_; refine Zd ?_; refine Zs ?_
   refine Zq ?_; refine JD ?_; refine JF ?_; refine X3 ?_; refine X0 ?_; refine JR ?_; refine Z1 ?_; refine Z9 (hcon := hk) ?_; refine Z0 ?_; refine JD ?_; refine X0 ?_; refine X0 ?_; refine JR ?_
   refine Z1 ?_; refine Z9 (hcon := hc1) ?_; refine Zu ?_; refine Z1 ?_; refine Zo ?_; refine Zo ?_; refine Zo ?_; refine Zn ?_; refine JD ?_; refine JT ?_; refine X0 ?_; refine JR ?_; refine Z0 ?_; refine JD ?_
   exact X1 ⟨_, St.le_refl _, ⟨rfl, trivial⟩, X2 _⟩
  ·refine X0 ?_; refine JR ?_; refine Z0 ?_; refine JD ?_; refine X0 ?_; refine X0 ?_; refine JR ?_; refine Z1 ?_; refine Zd ?_; refine Zs ?_; refine Z1 ?_; refine Z1 ?_; refine Zd ?_; refine Zs ?_
   refine Zq ?_; refine JD ?_; refine JF ?_; refine X3 ?_; refine X0 ?_; refine JR ?_; refine Z1 ?_; refine Z9 (hcon := hk) ?_; refine Z0 ?_; refine JD ?_; refine X0 ?_; refine X0 ?_; refine JR ?_
   refine Z1 ?_; refine Z9 (hcon := hc1) ?_; refine Zu ?_; refine Z1 ?_; refine Z1 ?_; refine Z9 (hcon := hc2) ?_; refine Zu ?_; refine Zq ?_; refine JD ?_; refine JT ?_; refine X0 ?_; refine JR ?_; refine Z0 ?_
   refine JD ?_
   exact X1 ⟨_, St.le_refl _, ⟨rfl, trivial⟩, X2 _⟩
 rw [if_neg b1]
 obtain ⟨rfl, rfl⟩ : n1 = true ∧ n2 = true := by cases n1 <;> cases n2 <;> simp_all
 by_cases b2 : r1 = false ∨ r2 = false
 ·rw [if_pos b2]
  cases r1 <;> cases r2 <;> first | (simp at b2; done) | skip
  ·refine X0 ?_; refine JR ?_; refine Z0 ?_; refine JD ?_; refine X0 ?_; refine X0 ?_; refine JR ?_; refine Z1 ?_; refine Zd ?_; refine Zs ?_; refine Z1 ?_; refine Z1 ?_; refine Zd ?_; refine Zs ?_
   refine Zq ?_; refine JD ?_; refine JF ?_; refine X3 ?_; refine X0 ?_; refine JR ?_; refine Z1 ?_; refine Z9 (hcon := hk) ?_; refine Z0 ?_; refine JD ?_; refine X0 ?_; refine X0 ?_; refine JR ?_
   refine Z1 ?_; refine Z9 (hcon := hc1) ?_; refine Zu ?_; refine Z1 ?_; refine Z1 ?_; refine Z9 (hcon := hc2) ?_; refine Zu ?_; refine Zq ?_; refine JD ?_; refine JF ?_; refine X3 ?_; refine X0 ?_
   refine X0 ?_; refine JR ?_; refine Z1 ?_; refine Z9 (hcon := hr1) ?_; refine Zu ?_; refine Z1 ?_; refine Zo ?_; refine Zo ?_; refine Zo ?_; refine Zn ?_; refine JD ?_; refine JT ?_; refine X0 ?_; refine JR ?_
   refine Z0 ?_; refine JD ?_
   exact X1 ⟨_, St.le_refl _, ⟨rfl, trivial⟩, X2 _⟩
  ·refine X0 ?_; refine JR ?_; refine Z0 ?_; refine JD ?_; refine X0 ?_; refine X0 ?_; refine JR ?_; refine Z1 ?_; refine Zd ?_; refine Zs ?_; refine Z1 ?_; refine Z1 ?_; refine Zd ?_; refine Zs ?_
   refine Zq ?_; refine JD ?_; refine JF ?_; refine X3 ?_; refine X0 ?_; refine JR ?_; refine Z1 ?_; refine Z9 (hcon := hk) ?_; refine Z0 ?_; refine JD ?_; refine X0 ?_; refine X0 ?_; refine JR ?_
   refine Z1 ?_; refine Z9 (hcon := hc1) ?_; refine Zu ?_; refine Z1 ?_; refine Z1 ?_; refine Z9 (hcon := hc2) ?_; refine Zu ?_; refine Zq ?_; refine JD ?_; refine JF ?_; refine X3 ?_; refine X0 ?_
   refine X0 ?_; refine JR ?_; refine Z1 ?_; refine Z9 (hcon := hr1) ?_; refine Zu ?_; refine Z1 ?_; refine Zo ?_; refine Zo ?_; refine Zo ?_; refine Zn ?_; refine JD ?_; refine JT ?_; refine X0 ?_; refine JR ?_
   refine Z0 ?_; refine JD ?_
   exact X1 ⟨_, St.le_refl _, ⟨rfl, trivial⟩, X2 _⟩
  ·refine X0 ?_; refine JR ?_; refine Z0 ?_; refine JD ?_; refine X0 ?_; refine X0 ?_; refine JR ?_; refine Z1 ?_; refine Zd ?_; refine Zs ?_; refine Z1 ?_; refine Z1 ?_; refine Zd ?_; refine Zs ?_
   refine Zq ?_; refine JD ?_; refine JF ?_; refine X3 ?_; refine X0 ?_; refine JR ?_; refine Z1 ?_; refine Z9 (hcon := hk) ?_; refine Z0 ?_; refine JD ?_; refine X0 ?_; refine X0 ?_; refine JR ?_
   refine Z1 ?_; refine Z9 (hcon := hc1) ?_; refine Zu ?_; refine Z1 ?_; refine Z1 ?_; refine Z9 (hcon := hc2) ?_; refine Zu ?_; refine Zq ?_; refine JD ?_; refine JF ?_; refine X3 ?_; refine X0 ?_
   refine X0 ?_; refine JR ?_; refine Z1 ?_; refine Z9 (hcon := hr1) ?_; refine Zu ?_; refine Z1 ?_; refine Z1 ?_; refine Z9 (hcon := hr2) ?_; refine Zu ?_; refine Zq ?_; refine JD ?_; refine JT ?_; refine X0 ?_
   refine JR ?_; refine Z0 ?_; refine JD ?_
   exact X1 ⟨_, St.le_refl _, ⟨rfl, trivial⟩, X2 _⟩
 rw [if_neg b2]
 obtain ⟨rfl, rfl⟩ : r1 = true ∧ r2 = true := by cases r1 <;> cases r2 <;> simp_all
 refine X0 ?_; refine JR ?_; refine Z0 ?_; refine JD ?_; refine X0 ?_; refine X0 ?_; refine JR ?_; refine Z1 ?_; refine Zd ?_; refine Zs ?_; refine Z1 ?_; refine Z1 ?_; refine Zd ?_; refine Zs ?_
 refine Zq ?_; refine JD ?_; refine JF ?_; refine X3 ?_; refine X0 ?_; refine JR ?_; refine Z1 ?_; refine Z9 (hcon := hk) ?_; refine Z0 ?_; refine JD ?_; refine X0 ?_; refine X0 ?_; refine JR ?_
 refine Z1 ?_; refine Z9 (hcon := hc1) ?_; refine Zu ?_; refine Z1 ?_; refine Z1 ?_; refine Z9 (hcon := hc2) ?_; refine Zu ?_; refine Zq ?_; refine JD ?_; refine JF ?_; refine X3 ?_; refine X0 ?_
 refine X0 ?_; refine JR ?_; refine Z1 ?_; refine Z9 (hcon := hr1) ?_; refine Zu ?_; refine Z1 ?_; refine Z1 ?_; refine Z9 (hcon := hr2) ?_; refine Zu ?_; refine Zq ?_; refine JD ?_; refine JF ?_; refine X3 ?_
 refine X0 ?_; refine X0 ?_; refine JR ?_; refine Z0 ?_; refine JD ?_; refine X4 ?_
 clear b1 b2 h1 h2
 refine Xs (fun i : Nat => i ≤ ps.length ∧ ((ps.drop i).map Prp.v).all XF = G) (fun i => ⟨46, [(1, .d (.sl 6 (ps.map Xg))), (6, ai i)], []⟩) (fun i => ps.length - i) 0 ⟨by omega, by simpa using hG⟩
  (X7 rfl JM trivial) ?_
 rintro i ⟨hi, hg⟩
 by_cases hil : i < ps.length
 case neg =>
  have hn' : ¬ (i : Int) < (ps.map Xg).length := by omega
  rw [List.drop_of_length_le (by omega), List.map_nil, List.all_nil] at hg
  subst hg
  rw [if_neg (by simp)]
  refine X0 ?_; refine X0 ?_; refine JR ?_; refine Z1 ?_; refine Z1 ?_; refine Zd ?_; refine Z8 ?_; refine JD ?_; refine JF ?_; refine Xo ?_; refine X0 ?_; refine JR ?_; refine Z0 ?_; refine JD ?_
  exact X1 ⟨_, St.le_refl _, ⟨rfl, trivial⟩, X2 _⟩
 have hn' : (i : Int) < (ps.map Xg).length := by omega
 obtain ⟨x, hx⟩ := Xm (l := ps) hil
 have hxc : (ps.map Xg)[i]? = some (Xg x) := Xr hx
 have hxo := hok x (List.mem_of_getElem? hx)
 have hu := X5d x.v hxo.2
 rw [X4C hx] at hg
 generalize XF x.v = pv at *
 obtain ⟨key, ⟨vk, vn, vd, vs, vl⟩⟩ := x
 simp only [Xn, Xg, Y8] at hu hxc
 cases pv with
 | true =>
  rw [Bool.true_and] at hg
  refine X0 ?_; refine X0 ?_; refine JR ?_; refine Z1 ?_; refine Z1 ?_; refine Zd ?_; refine Z8 ?_; refine JD ?_; refine JT ?_; refine X3 ?_; refine X0 ?_; refine X4 ?_; refine X0 ?_
  refine JR ?_; refine Z1 ?_; refine Z1 ?_; refine Zj ?_; refine ZN ?_; refine ZK ?_; refine Z9 (hcon := hu) ?_; refine Zu ?_; refine JD ?_; refine JF ?_; refine X3 ?_; refine JR ?_; refine Z1 ?_; refine Zb ?_
  refine Z0 ?_; refine JD ?_
  exact ⟨i + 1, ⟨by omega, hg⟩, by omega, X7 rfl JM trivial⟩
 | false =>
  rw [Bool.false_and] at hg
  subst hg
  rw [if_pos rfl]
  refine X0 ?_; refine X0 ?_; refine JR ?_; refine Z1 ?_; refine Z1 ?_; refine Zd ?_; refine Z8 ?_; refine JD ?_; refine JT ?_; refine X3 ?_; refine X0 ?_; refine X4 ?_; refine X0 ?_
  refine JR ?_; refine Z1 ?_; refine Z1 ?_; refine Zj ?_; refine ZN ?_; refine ZK ?_; refine Z9 (hcon := hu) ?_; refine Zu ?_; refine JD ?_; refine JT ?_; refine X0 ?_; refine JR ?_; refine Z0 ?_; refine JD ?_
  exact X1 ⟨_, St.le_refl _, ⟨rfl, trivial⟩, X2 _⟩
end Go.Fw
namespace Go.Fw
open Go
set_option linter.unusedVariables false
set_option linter.unusedSimpArgs false
def XU : List Prp → List UInt8 → Option Val
 | [], _ => none
 | p :: r, key => if p.key = key then some p.v else XU r key
def XM (ls : List (List UInt8)) (s : List UInt8) : Bool := ls.any fun x => decide (s = x)
def eqV (a b : Val) : Bool := decide (a.kind = b.kind ∧ a.n = b.n ∧ a.s = b.s)
def Xf (p : Int × Int) : List D := [.v (.int .i64 p.1), .v (.int .i64 p.2)]
def UV (r : Rul) (l : List Prp) : Bool :=
 if r.kind = 2 ∨ r.kind = 4 then (XU l r.key).isNone else match XU l r.key with
  | some v => decide (v.kind ≠ r.n)
  | none => false
def Yy (r : Rul) (n : Nod) : Option Val := match XU n.props r.key with
 | some v => if XM n.labels r.name then some v else none
 | none => none
def XE (r : Rul) (l : List Nod) : List (Int × Val) := l.filterMap fun n => (Yy r n).map fun v => (n.id, v)
def XQ : List (Int × Val) → List (Int × Int)
 | [] => []
 | a :: r => (r.filter fun b => eqV a.2 b.2).map (fun b => (a.1, b.1)) ++ XQ r
def YF (r : Rul) (l : List Nod) : List (Int × Int) := (l.filter fun n => XM n.labels r.name && UV r n.props).map fun n => (n.id, 0)
def XR (l : List Nod) (id : Int) : Option Nod := l.find? fun n => decide (n.id = id)
abbrev Ua : Nod := ⟨0, [], []⟩
def Vy (l : List Nod) (id : Int) (label : List UInt8) : Bool := decide (label ≠ []) && !XM ((XR l id).getD Ua).labels label
def X0p (n : Nod) : Prop := n.labels.length ≤ 1000 ∧ n.props.length ≤ 1000 ∧ ∀ p ∈ n.props, XF p.v = true
def X0o (r : Rul) (ns : List Nod) (e : Edg) : Bool := if r.kind = 6 then Vy ns e.src r.src || Vy ns e.dst r.dst else UV r e.props
def Y3 (r : Rul) (ns : List Nod) (l : List Edg) : List (Int × Int) := (l.filter fun e => decide (e.typ = r.name) && X0o r ns e).map fun e => (e.id, 0)
def Ut (r : Rul) (l : List Edg) (id : Int) : Nat := l.countP fun e => decide (e.typ = r.name) && decide (e.src = id)
def YU (r : Rul) (es : List Edg) (l : List Nod) : List (Int × Int) := (l.filter fun n => decide (r.n < (Ut r es n.id : Nat))).map fun n => (n.id, 0)
def VY (r : Rul) (g : Gra) : List (Int × Int) := YU r g.edges g.nodes
def ofV (r : Rul) (g : Gra) : List (Int × Int) :=
 if r.kind = 1 then XQ (XE r g.nodes) else if r.kind = 2 ∨ r.kind = 3 then YF r g.nodes else if r.kind = 7 then VY r g else Y3 r g.nodes g.edges
def ofS (r : Rul) (g : Gra) : List (Int × Int) := if Yq r ≠ 0 ∨ XC g ≠ 0 then [] else ofV r g
structure Vio where
 rule : Int
 a : Int
 b : Int
def Yb (v : Vio) : List D := [.v (.int .i64 v.rule), .v (.int .i64 v.a), .v (.int .i64 v.b)]
def X1K (g : Gra) : Nat → List Rul → List Vio
 | _, [] => []
 | i, r :: s => (ofV r g).map (fun p => ⟨(i : Nat), p.1, p.2⟩) ++ X1K g (i + 1) s
def Yl (s : List Rul) (g : Gra) : List Vio := if Uj s = false ∨ XC g ≠ 0 then [] else X1K g 0 s
def X00 (k : Int) : Int := if k = 1 then 13 else if k = 2 ∨ k = 4 then 14 else if k = 3 ∨ k = 5 then 15 else if k = 6 then 16 else if k = 7 then 17 else 0
def VM (s : List Rul) (g : Gra) : Int := match Yl s g with
 | [] => 0
 | v :: _ => match s[v.rule.toNat]? with | some r => X00 r.kind | none => 0
theorem X4V {l : List Prp} {i : Nat} {p : Prp} {key : List UInt8} (h : l[i]? = some p) : XU (l.drop i) key = if p.key = key then some p.v else XU (l.drop (i + 1)) key := by
 obtain ⟨hi, h⟩ := List.getElem?_eq_some_iff.1 h
 rw [List.drop_eq_getElem_cons hi, h, XU]
theorem XbH {α β : Type} {f : α → Option β} {l : List α} {i : Nat} {x : α} (h : l[i]? = some x) : (l.take (i + 1)).filterMap f = (l.take i).filterMap f ++ (f x).toList := by
 rw [X0G h, List.filterMap_append]
 cases hf : f x <;> simp [hf]
theorem X2r {α β : Type} {p : α → Bool} {f : α → β} {l : List α} {i : Nat} {x : α} (h : l[i]? = some x) : ((l.take (i + 1)).filter p).map f = ((l.take i).filter p).map f ++ if p x then [f x] else [] := by
 rw [X0G h, List.filter_append, List.map_append]
 cases hp : p x <;> simp [hp]
theorem XaU {α : Type} {p : α → Bool} {l : List α} {i : Nat} {x : α} (h : l[i]? = some x) : (l.take (i + 1)).countP p = (l.take i).countP p + if p x then 1 else 0 := by
 rw [X0G h, List.countP_append]
 cases hp : p x <;> simp [hp]
theorem X65 {l : List Nod} {i : Nat} {n : Nod} {id : Int} (h : l[i]? = some n) : XR (l.drop i) id = if n.id = id then some n else XR (l.drop (i + 1)) id := by
 obtain ⟨hi, h⟩ := List.getElem?_eq_some_iff.1 h
 unfold XR
 rw [List.drop_eq_getElem_cons hi, h, List.find?_cons]
 by_cases q : n.id = id <;> simp [q]
theorem X4g : ∀ l : List (Int × Val), (XQ l).length ≤ l.length * l.length
 | [] => Nat.le_refl _
 | a :: r => by
  rw [XQ, List.length_append, List.length_map, List.length_cons]
  have h1 := X4g r
  have h2 := List.length_filter_le (fun b => eqV a.2 b.2) r
  have : (r.length + 1) * (r.length + 1) = r.length * r.length + r.length + r.length + 1 := by rw [Nat.add_mul, Nat.mul_add]; omega
  omega
theorem X2H (r : Rul) (l : List Nod) : (XE r l).length ≤ l.length := List.length_filterMap_le _ _
theorem Ve {k n d : Int} {s : List UInt8} {l : List Val} (h : XF (.mk k n d s l) = true) : X5 8 (.mk k n d s l) = true ∧ (k = 1 ∨ k = 2 ∨ k = 4) ∧ d = 0 ∧ l = [] ∧ (k ≠ 4 → s = []) ∧ (k = 4 → n = 0) ∧ s.length ≤ 100 ∧ (k = 2 → -1000000000000000 ≤ n ∧ n ≤ 1000000000000000) := by
 obtain ⟨h1, h2⟩ := X3f h
 have h2 : k = 1 ∨ k = 2 ∨ k = 4 := h2
 refine ⟨h1, h2, ?_⟩
 rw [X5] at h1
 rcases h2 with rfl | rfl | rfl
 ·simp at h1
  exact ⟨h1.1.1.1, h1.1.2, fun _ => h1.1.1.2, by simp, by rw [h1.1.1.2]; simp, by simp⟩
 ·simp at h1
  exact ⟨h1.1.1.1, h1.1.2, fun _ => h1.1.1.2, by simp, by rw [h1.1.1.2]; simp, fun _ => h1.2⟩
 ·simp at h1
  exact ⟨h1.1.1, h1.1.2, by simp, fun _ => h1.2.1.1, h1.2.1.2, by simp⟩
end Go.Fw
