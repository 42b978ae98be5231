/- Strings that rise, names of a list; the program's and the reference's. -/
import Derived.Test.YtbhleedlnaakkaaGreatG16
set_option maxHeartbeats 16000000
namespace Go.Fw
open Go Go.Proofs
set_option maxRecDepth 100000
set_option linter.unusedVariables false
set_option linter.unusedSimpArgs false
theorem Xb3 {l : List (List UInt8)} {i : Nat} {a b : List UInt8} (ha : l[i]? = some a) (hb : l[i + 1]? = some b) : Uh (l.drop i) = (!(Op.bytesLess b a || decide (b = a)) && Uh (l.drop (i + 1))) := by
 obtain ⟨hi, rfl⟩ := List.getElem?_eq_some_iff.1 ha
 obtain ⟨hi', rfl⟩ := List.getElem?_eq_some_iff.1 hb
 rw [List.drop_eq_getElem_cons hi, List.drop_eq_getElem_cons hi', Uh]
theorem Xaq {l : List (List UInt8)} {i : Nat} (h : l.length ≤ i + 1) : Uh (l.drop i) = true := by
 match hd : l.drop i with
 | [] => rfl
 | [a] => rfl
 | a :: b :: r =>
  have := congrArg List.length hd
  simp only [List.length_drop, List.length_cons] at this
  omega
theorem X9Y (l : List (List UInt8)) (hl : l.length ≤ 9223372036854775807) : Con Tryz.prog 150 [] [.d (.sl 1 (l.map Xn))] [] (ab (Uh l)) := by
 refine X9 (xs := [ab (Uh l)]) Tryz.func150 rfl Tryz.ntmps150 rfl rfl rfl (fun E => ?_)
 have hlm : (l.map Xn).length = l.length := by simp
 generalize hG : Uh l = G
 refine X0 ?_; refine JR ?_; refine Z0 ?_; refine JD ?_; refine X0 ?_; refine X0 ?_; refine JR ?_; refine Z0 ?_; refine JD ?_; refine X4 ?_
 refine Xy (fun i : Nat => 1 ≤ i ∧ i ≤ l.length + 1 ∧ Uh (l.drop (i - 1)) = G) (fun i => ⟨20, [(0, .d (.sl 1 (l.map Xn))), (3, ai i)], []⟩) (fun i => l.length - i) 1 ⟨by omega, by omega, by simpa using hG⟩
  (X8 rfl ⟨JL, JL, trivial⟩ trivial) ?_
 rintro i ⟨hi, hi2, hg⟩
 by_cases hil : i < l.length
 case neg =>
  have hn : ¬ (i : Int) < (l.map Xn).length := by omega
  have hT : G = true := by rw [← hg, Xaq (by omega)]
  subst hT
  refine X0 ?_; refine X0 ?_; refine JR ?_; refine Z1 ?_; refine Z1 ?_; refine Zd ?_; refine Z8 ?_; refine JD ?_; refine JF ?_; refine Xj ?_; refine X0 ?_; refine JR ?_; refine Z0 ?_; refine JD ?_
  exact X1 ⟨_, St.le_refl _, ⟨rfl, trivial⟩, X3 _⟩
 have hn : (i : Int) < (l.map Xn).length := by omega
 obtain ⟨j, rfl⟩ : ∃ j, i = j + 1 := ⟨i - 1, by omega⟩
 rw [Nat.add_sub_cancel] at hg
 obtain ⟨x, hx⟩ := Xu (l := l) hil
 obtain ⟨y, hy⟩ := Xu (l := l) (k := j) (by omega)
 have hxc : (l.map Xn)[j + 1]? = some (Xn x) := XS hx
 have hyc : (l.map Xn)[j]? = some (Xn y) := XS hy
 rw [Xb3 hy hx] at hg
 cases hq : (Op.bytesLess x y || decide (x = y)) with
 | false =>
  rw [hq] at hg
  simp only [Bool.not_false, Bool.true_and] at hg
  refine X0 ?_; refine X0 ?_; refine JR ?_; refine Z1 ?_; refine Z1 ?_; refine Zd ?_; refine Z8 ?_; refine JD ?_; refine JT ?_; refine X2 ?_; refine X0 ?_; refine X4 ?_; refine X0 ?_
  refine JR ?_; refine Z1 ?_; refine Z1 ?_; refine Zj ?_; refine Zk ?_; refine Z1 ?_; refine Z1 ?_
  refine Z4 (op := .sub) (r' := .int .i64 ((j : Nat) : Int)) (u := .int .i64 ((j + 1 : Nat) : Int)) (v := .int .i64 1) ?_ (hr' := by exact congrArg (Value.int .i64) (show (((j + 1 : Nat) : Int) - 1) = (j : Int) by omega)) (hr := by exact Ya (by unfold Y7; omega))
  refine Zj ?_; refine Zk ?_; refine Z06 ?_; refine JD ?_; refine JF ?_; refine X2 ?_; refine JR ?_; refine Z1 ?_; refine Zb ?_; refine Z0 ?_; refine JD ?_
  exact ⟨j + 1 + 1, ⟨by omega, by omega, by rw [Nat.add_sub_cancel]; exact hg⟩, by omega, X8 rfl ⟨JL, JL, trivial⟩ trivial⟩
 | true =>
  rw [hq] at hg
  simp only [Bool.not_true, Bool.false_and] at hg
  subst hg
  refine X0 ?_; refine X0 ?_; refine JR ?_; refine Z1 ?_; refine Z1 ?_; refine Zd ?_; refine Z8 ?_; refine JD ?_; refine JT ?_; refine X2 ?_; refine X0 ?_; refine X4 ?_; refine X0 ?_
  refine JR ?_; refine Z1 ?_; refine Z1 ?_; refine Zj ?_; refine Zk ?_; refine Z1 ?_; refine Z1 ?_
  refine Z4 (op := .sub) (r' := .int .i64 ((j : Nat) : Int)) (u := .int .i64 ((j + 1 : Nat) : Int)) (v := .int .i64 1) ?_ (hr' := by exact congrArg (Value.int .i64) (show (((j + 1 : Nat) : Int) - 1) = (j : Int) by omega)) (hr := by exact Ya (by unfold Y7; omega))
  refine Zj ?_; refine Zk ?_; refine Z06 ?_; refine JD ?_; refine JT ?_; refine X0 ?_; refine JR ?_; refine Z0 ?_; refine JD ?_
  exact X1 ⟨_, St.le_refl _, ⟨rfl, trivial⟩, X3 _⟩
theorem Xdm (s : List UInt8) : Con Tryz.prog 149 [] [.d (.v (.string (X5 s)))] [] (ab (!XG s)) := by
 refine X9 (xs := [ab (!XG s)]) Tryz.func149 rfl Tryz.ntmps149 rfl rfl rfl (fun E => ?_)
 have hn := X2E s
 refine X0 ?_; refine JR ?_; refine Z0 ?_; refine JD ?_; refine X0 ?_; refine JR ?_; refine Z1 ?_; refine Z9 (hcon := hn) ?_; refine Zu ?_; refine Z0 ?_; refine JD ?_
 exact X1 ⟨_, St.le_refl _, ⟨rfl, trivial⟩, X3 _⟩
def VF : List (List UInt8) → Nat → Int
 | [], _ => -1
 | s :: r, i => if XG s = false then (i : Int) else VF r (i + 1)
theorem XcO {l : List (List UInt8)} {i : Nat} {x : List UInt8} (h : l[i]? = some x) : VF (l.drop i) i = if XG x = false then (i : Int) else VF (l.drop (i + 1)) (i + 1) := by
 obtain ⟨hi, rfl⟩ := List.getElem?_eq_some_iff.1 h
 rw [List.drop_eq_getElem_cons hi, VF]
theorem X8J : ∀ (l : List (List UInt8)) (i : Nat), decide (VF l i ≥ 0) = !l.all XG
 | [], i => by simp [VF]
 | s :: r, i => by
  rw [VF, List.all_cons]
  cases h : XG s with
  | false => simp
  | true => simp [X8J r (i + 1)]
theorem Xhh (l : List (List UInt8)) (hl : l.length ≤ 9223372036854775807) : Con Tryz.prog 208 [] [.d (.sl 1 (l.map Xn)), .fn 149 []] [] (ai (VF l 0)) := by
 refine X9 (xs := [ai (VF l 0)]) Tryz.func208 rfl Tryz.ntmps208 rfl rfl rfl (fun E => ?_)
 have hlm : (l.map Xn).length = l.length := by simp
 generalize hG : VF l 0 = G
 refine X0 ?_; refine JR ?_; refine Z0 ?_; refine JD ?_; refine X0 ?_; refine X0 ?_; refine JR ?_; refine Z1 ?_; refine Zd ?_; refine Z1 ?_; refine JD ?_; refine X4 ?_
 refine Xy (fun i : Nat => i ≤ l.length ∧ VF (l.drop i) i = G) (fun i => ⟨19, [(0, .d (.sl 1 (l.map Xn))), (1, .fn 149 []), (7, ai (l.map Xn).length), (8, ai i)], []⟩) (fun i => l.length - i) 0 ⟨by omega, by simpa using hG⟩
  (X8 rfl ⟨JL, JL, JL, JL, trivial⟩ trivial) ?_
 rintro i ⟨hi, hg⟩
 by_cases hil : i < l.length
 case neg =>
  have hn : ¬ (i : Int) < (l.map Xn).length := by omega
  rw [List.drop_of_length_le (by omega), VF] at hg
  subst hg
  refine X0 ?_; refine JR ?_; refine Z8 ?_; refine JD ?_; refine X0 ?_; refine JF ?_; refine Xj ?_; refine X0 ?_; refine JR ?_; refine Z0 ?_; refine JD ?_
  exact X1 ⟨_, St.le_refl _, ⟨rfl, trivial⟩, X3 _⟩
 have hn : (i : Int) < (l.map Xn).length := by omega
 obtain ⟨x, hx⟩ := Xu (l := l) hil
 have hxc : (l.map Xn)[i]? = some (Xn x) := XS hx
 have hu := Xdm x
 rw [XcO hx] at hg
 cases hq : XG x with
 | true =>
  rw [hq] at hg hu
  simp only [Bool.true_eq_false, if_false] at hg
  refine X0 ?_; refine JR ?_; refine Z8 ?_; refine JD ?_; refine X0 ?_; refine JT ?_; refine X2 ?_; refine X0 ?_; refine X4 ?_; refine X0 ?_; refine JR ?_; refine Z1 ?_; refine Z0 ?_
  refine JD ?_; refine X0 ?_; refine JR ?_; refine Z1 ?_; refine Z1 ?_; refine Z1 ?_; refine Zj ?_; refine Zk ?_; refine ZG (hcon := hu) ?_; refine JD ?_; refine JF ?_; refine X2 ?_; refine JR ?_; refine Zb ?_
  refine Z1 ?_; refine JD ?_
  exact ⟨i + 1, ⟨by omega, hg⟩, by omega, X8 rfl ⟨JL, JL, JL, JL, trivial⟩ trivial⟩
 | false =>
  rw [hq] at hg hu
  simp only [if_true] at hg
  subst hg
  refine X0 ?_; refine JR ?_; refine Z8 ?_; refine JD ?_; refine X0 ?_; refine JT ?_; refine X2 ?_; refine X0 ?_; refine X4 ?_; refine X0 ?_; refine JR ?_; refine Z1 ?_; refine Z0 ?_
  refine JD ?_; refine X0 ?_; refine JR ?_; refine Z1 ?_; refine Z1 ?_; refine Z1 ?_; refine Zj ?_; refine Zk ?_; refine ZG (hcon := hu) ?_; refine JD ?_; refine JT ?_; refine X0 ?_; refine JR ?_; refine Z1 ?_
  refine Z0 ?_; refine JD ?_
  exact X1 ⟨_, St.le_refl _, ⟨rfl, trivial⟩, X3 _⟩
theorem X8K (l : List (List UInt8)) (hl : l.length ≤ 9223372036854775807) : Con Tryz.prog 148 [] [.d (.sl 1 (l.map Xn)), .fn 149 []] [] (ab (!l.all XG)) := by
 refine X9 (xs := [ab (!l.all XG)]) Tryz.func148 rfl Tryz.ntmps148 rfl rfl rfl (fun E => ?_)
 have hi := Xhh l hl
 rw [← X8J l 0]
 generalize VF l 0 = q at *
 refine X0 ?_; refine JR ?_; refine Z0 ?_; refine JD ?_; refine X0 ?_; refine JR ?_; refine Z1 ?_; refine Z1 ?_; refine Z9 (hcon := hi) ?_; refine Z2 ?_; refine Z0 ?_; refine JD ?_
 exact X1 ⟨_, St.le_refl _, ⟨rfl, trivial⟩, X3 _⟩
end Go.Fw
namespace Go.Fw
open Go Go.Proofs
set_option maxRecDepth 100000
set_option linter.unusedVariables false
set_option linter.unusedSimpArgs false
def X07 (p : Prp) : Prop := p.key.length ≤ 9223372036854775807 ∧ XY p.v
theorem X2c {α : Type} {l : List α} {i : Nat} {x : α} (h : l[i]? = some x) : l.take (i + 1) = l.take i ++ [x] := by
 obtain ⟨hi, rfl⟩ := List.getElem?_eq_some_iff.1 h
 rw [List.take_add_one, List.getElem?_eq_getElem hi]; rfl
theorem Xba {l : List Prp} {i : Nat} {x : Prp} (h : l[i]? = some x) : ((l.take (i + 1)).map Prp.key).map Xn = ((l.take i).map Prp.key).map Xn ++ [Xn x.key] := by
 rw [X2c h]; simp
theorem X8c {l : List Prp} {i : Nat} {x : Prp} (h : l[i]? = some x) : ((l.drop i).map Prp.v).all YN = (YN x.v && ((l.drop (i + 1)).map Prp.v).all YN) := by
 obtain ⟨hi, rfl⟩ := List.getElem?_eq_some_iff.1 h
 rw [List.drop_eq_getElem_cons hi, List.map_cons, List.all_cons]
theorem X3L {ls : List (List UInt8)} {ps : List Prp} (h : 8 < ls.length ∨ 16 < ps.length) : U1 ls ps = 4 := if_pos h
theorem X8E {ls : List (List UInt8)} {ps : List Prp} (h1 : ¬ 8 < ls.length) (h2 : ¬ 16 < ps.length) : U1 ls ps = if ls.all XG = false ∨ (ps.map Prp.key).all XG = false then 6
 else if Uh ls = false ∨ Uh (ps.map Prp.key) = false then 26 else if (ps.map Prp.v).all YN = false then 8 else 0 := if_neg (by omega)
theorem X9l (ls : List (List UInt8)) (ps : List Prp) (hls : ls.length ≤ 9223372036854775807) (hok : ∀ p ∈ ps, X07 p) : Con Tryz.prog 96 [] [.d (.sl 1 (ls.map Xn)), .d (.sl 6 (ps.map Xk))] [] (ai (U1 ls ps)) := by
 refine X9 (xs := [ai (U1 ls ps)]) Tryz.func96 rfl Tryz.ntmps96 rfl rfl rfl (fun E => ?_)
 have hlm : (ps.map Xk).length = ps.length := by simp
 have hlm2 : (ls.map Xn).length = ls.length := by simp
 by_cases h1 : 8 < ls.length
 ·rw [X3L (.inl h1)]
  have h1' : (8 : Int) < (ls.map Xn).length := by omega
  refine X0 ?_; refine JR ?_; refine Z0 ?_; refine JD ?_; refine X0 ?_; refine X0 ?_; refine JR ?_; refine Z1 ?_; refine Zd ?_; refine Zs ?_; refine Z1 ?_; refine Zo ?_; refine Zo ?_; refine Zo ?_
  refine Zn ?_; refine JD ?_; refine JT ?_; refine X0 ?_; refine JR ?_; refine Z0 ?_; refine JD ?_
  exact X1 ⟨_, St.le_refl _, ⟨rfl, trivial⟩, X3 _⟩
 have h1' : ¬ (8 : Int) < (ls.map Xn).length := by omega
 by_cases h2 : 16 < ps.length
 ·rw [X3L (.inr h2)]
  have h2' : (16 : Int) < (ps.map Xk).length := by omega
  refine X0 ?_; refine JR ?_; refine Z0 ?_; refine JD ?_; refine X0 ?_; refine X0 ?_; refine JR ?_; refine Z1 ?_; refine Zd ?_; refine Zs ?_; refine Z1 ?_; refine Z1 ?_; refine Zd ?_; refine Zs ?_
  refine Zq ?_; refine JD ?_; refine JT ?_; refine X0 ?_; refine JR ?_; refine Z0 ?_; refine JD ?_
  exact X1 ⟨_, St.le_refl _, ⟨rfl, trivial⟩, X3 _⟩
 have h2' : ¬ (16 : Int) < (ps.map Xk).length := by omega
 rw [X8E h1 h2]
 have hc1 := X8K ls hls
 have hc2 := X8K (ps.map Prp.key) (by simp only [List.length_map]; omega)
 have hr1 := X9Y ls hls
 have hr2 := X9Y (ps.map Prp.key) (by simp only [List.length_map]; omega)
 generalize ls.all XG = n1 at *
 generalize Uh ls = r1 at *
 generalize (ps.map Prp.key).all XG = n2 at *
 generalize Uh (ps.map Prp.key) = r2 at *
 generalize hG : (ps.map Prp.v).all YN = G
 refine X0 ?_; refine JR ?_; refine Z0 ?_; refine JD ?_; refine X0 ?_; refine X0 ?_; refine JR ?_; refine Z1 ?_; refine Zd ?_; refine Zs ?_; refine Z1 ?_; refine Z1 ?_; refine Zd ?_; refine Zs ?_
 refine Zq ?_; refine JD ?_; refine JF ?_; refine X2 ?_; refine X0 ?_; refine JR ?_; refine Z0 ?_; refine JD ?_; refine X0 ?_; refine X0 ?_; refine JR ?_; refine Z1 ?_; refine Zd ?_; refine Z1 ?_
 refine JD ?_; refine X4 ?_
 refine Xm (VR 5 130 1 rfl rfl rfl) ?_
 refine Xy (fun i : Nat => i ≤ ps.length) (fun i => ⟨55, [(0, .d (.sl 1 (ls.map Xn))), (1, .d (.sl 6 (ps.map Xk))), (18, .d (.sl 6 (ps.map Xk))), (19, ai (ps.map Xk).length), (5, .own 130 (((ps.take i).map Prp.key).map Xn).length), (20, ai i)], [(130, .row 1 (((ps.take i).map Prp.key).map Xn))]⟩) (fun i => ps.length - i) 0 (Nat.zero_le _)
  (X8 rfl JM ⟨rfl, trivial⟩) ?_
 intro i hi
 by_cases hil : i < ps.length
 case pos =>
  have hn : (i : Int) < (ps.map Xk).length := by omega
  obtain ⟨x, hx⟩ := Xu (l := ps) hil
  have hxc : (ps.map Xk)[i]? = some (Xk x) := XS hx
  have hroom : (((ps.take i).map Prp.key).map Xn).length ≤ 4294967296 := by simp only [List.length_map, List.length_take]; omega
  have hsn := Xba hx
  obtain ⟨key, ⟨vk, vn, vd, vs, vl⟩⟩ := x
  simp only [Xk, YO] at hxc hsn
  refine X0 ?_; refine JR ?_; refine Z8 ?_; refine JD ?_; refine X0 ?_; refine JT ?_; refine X2 ?_; refine X0 ?_; refine X4 ?_; refine X0 ?_; refine JR ?_; refine Zj ?_; refine ZK ?_
  refine Zw (γ := 100) ?_; refine Zy ?_; refine JD ?_; refine JR ?_; refine Z1 ?_; refine ZB ?_; refine ZC ?_; refine Z5 ?_; refine Z6 ?_; refine Z0 ?_; refine JD ?_; refine JR ?_; refine Zb ?_; refine Z1 ?_; refine JD ?_
  refine ⟨i + 1, hil, by omega, ?_⟩
  rw [hsn]
  exact X8 rfl ⟨JL, JL, JL, JL, AVal.le_of_eq (by refine Eq.trans (b := AVal.own 130 (_ + _)) rfl ?_; simp only [List.length_append, List.length_map, List.length_cons, List.length_nil]), JL, trivial⟩ ⟨rfl, trivial⟩
 obtain rfl : i = ps.length := by omega
 have hn : ¬ ((ps.length : Nat) : Int) < (ps.map Xk).length := by omega
 rw [List.take_length]
 refine X0 ?_; refine JR ?_; refine Z8 ?_; refine JD ?_; refine X0 ?_; refine JF ?_; refine Xj ?_; refine X0 ?_; refine X0 ?_
 refine Xm (Y0 130 rfl) ?_
 refine Xm (YC 5 130 rfl rfl rfl) ?_
 by_cases b1 : n1 = false ∨ n2 = false
 ·rw [if_pos b1]
  cases n1 <;> cases n2 <;> first | (simp at b1; done) | skip
  ·refine JR ?_; refine Z1 ?_; refine Z9 (hcon := hc1) ?_; refine Z1 ?_; refine Zo ?_; refine Zo ?_; refine Zn ?_; refine JD ?_; refine JT ?_; refine X0 ?_; refine JR ?_; refine Z0 ?_; refine JD ?_
   exact X1 ⟨_, St.le_refl _, ⟨rfl, trivial⟩, X3 _⟩
  ·refine JR ?_; refine Z1 ?_; refine Z9 (hcon := hc1) ?_; refine Z1 ?_; refine Zo ?_; refine Zo ?_; refine Zn ?_; refine JD ?_; refine JT ?_; refine X0 ?_; refine JR ?_; refine Z0 ?_; refine JD ?_
   exact X1 ⟨_, St.le_refl _, ⟨rfl, trivial⟩, X3 _⟩
  ·refine JR ?_; refine Z1 ?_; refine Z9 (hcon := hc1) ?_; refine Z1 ?_; refine Z1 ?_; refine Z9 (hcon := hc2) ?_; refine Zq ?_; refine JD ?_; refine JT ?_; refine X0 ?_; refine JR ?_; refine Z0 ?_; refine JD ?_
   exact X1 ⟨_, St.le_refl _, ⟨rfl, trivial⟩, X3 _⟩
 rw [if_neg b1]
 obtain ⟨rfl, rfl⟩ : n1 = true ∧ n2 = true := by cases n1 <;> cases n2 <;> simp_all
 by_cases b2 : r1 = false ∨ r2 = false
 ·rw [if_pos b2]
  cases r1 <;> cases r2 <;> first | (simp at b2; done) | skip
  ·refine JR ?_; refine Z1 ?_; refine Z9 (hcon := hc1) ?_; refine Z1 ?_; refine Z1 ?_; refine Z9 (hcon := hc2) ?_; refine Zq ?_; refine JD ?_; refine JF ?_; refine X2 ?_; refine X0 ?_; refine X0 ?_
   refine JR ?_; refine Z1 ?_; refine Z9 (hcon := hr1) ?_; refine Zu ?_; refine Z1 ?_; refine Zo ?_; refine Zo ?_; refine Zo ?_; refine Zn ?_; refine JD ?_; refine JT ?_; refine X0 ?_; refine JR ?_; refine Z0 ?_
   refine JD ?_
   exact X1 ⟨_, St.le_refl _, ⟨rfl, trivial⟩, X3 _⟩
  ·refine JR ?_; refine Z1 ?_; refine Z9 (hcon := hc1) ?_; refine Z1 ?_; refine Z1 ?_; refine Z9 (hcon := hc2) ?_; refine Zq ?_; refine JD ?_; refine JF ?_; refine X2 ?_; refine X0 ?_; refine X0 ?_
   refine JR ?_; refine Z1 ?_; refine Z9 (hcon := hr1) ?_; refine Zu ?_; refine Z1 ?_; refine Zo ?_; refine Zo ?_; refine Zo ?_; refine Zn ?_; refine JD ?_; refine JT ?_; refine X0 ?_; refine JR ?_; refine Z0 ?_
   refine JD ?_
   exact X1 ⟨_, St.le_refl _, ⟨rfl, trivial⟩, X3 _⟩
  ·refine JR ?_; refine Z1 ?_; refine Z9 (hcon := hc1) ?_; refine Z1 ?_; refine Z1 ?_; refine Z9 (hcon := hc2) ?_; refine Zq ?_; refine JD ?_; refine JF ?_; refine X2 ?_; refine X0 ?_; refine X0 ?_
   refine JR ?_; refine Z1 ?_; refine Z9 (hcon := hr1) ?_; refine Zu ?_; refine Z1 ?_; refine Z1 ?_; refine Z9 (hcon := hr2) ?_; refine Zu ?_; refine Zq ?_; refine JD ?_; refine JT ?_; refine X0 ?_; refine JR ?_
   refine Z0 ?_; refine JD ?_
   exact X1 ⟨_, St.le_refl _, ⟨rfl, trivial⟩, X3 _⟩
 rw [if_neg b2]
 obtain ⟨rfl, rfl⟩ : r1 = true ∧ r2 = true := by cases r1 <;> cases r2 <;> simp_all
 refine JR ?_; refine Z1 ?_; refine Z9 (hcon := hc1) ?_; refine Z1 ?_; refine Z1 ?_; refine Z9 (hcon := hc2) ?_; refine Zq ?_; refine JD ?_; refine JF ?_; refine X2 ?_; refine X0 ?_; refine X0 ?_
 refine JR ?_; refine Z1 ?_; refine Z9 (hcon := hr1) ?_; refine Zu ?_; refine Z1 ?_; refine Z1 ?_; refine Z9 (hcon := hr2) ?_; refine Zu ?_; refine Zq ?_; refine JD ?_; refine JF ?_; refine X2 ?_; refine X0 ?_
 refine X0 ?_; refine JR ?_; refine Z1 ?_; refine Zd ?_; refine Z1 ?_; refine JD ?_; refine X4 ?_
 clear hi hil hn b1 b2 h1 h2
 refine Xy (fun i : Nat => i ≤ ps.length ∧ ((ps.drop i).map Prp.v).all YN = G) (fun i => ⟨55, [(1, .d (.sl 6 (ps.map Xk))), (44, .d (.sl 6 (ps.map Xk))), (45, ai (ps.map Xk).length), (46, ai i)], []⟩) (fun i => ps.length - i) 0 ⟨by omega, by simpa using hG⟩
  (X8 rfl JM trivial) ?_
 rintro i ⟨hi, hg⟩
 by_cases hil : i < ps.length
 case neg =>
  have hn' : ¬ (i : Int) < (ps.map Xk).length := by omega
  rw [List.drop_of_length_le (by omega), List.map_nil, List.all_nil] at hg
  subst hg
  rw [if_neg (by simp)]
  refine X0 ?_; refine JR ?_; refine Z8 ?_; refine JD ?_; refine X0 ?_; refine JF ?_; refine Xj ?_; refine X0 ?_; refine JR ?_; refine Z0 ?_; refine JD ?_
  exact X1 ⟨_, St.le_refl _, ⟨rfl, trivial⟩, X3 _⟩
 have hn' : (i : Int) < (ps.map Xk).length := by omega
 obtain ⟨x, hx⟩ := Xu (l := ps) hil
 have hxc : (ps.map Xk)[i]? = some (Xk x) := XS hx
 have hxo := hok x (List.mem_of_getElem? hx)
 have hu := XeM x.v
 rw [X8c hx] at hg
 generalize YN x.v = pv at *
 obtain ⟨key, ⟨vk, vn, vd, vs, vl⟩⟩ := x
 simp only [Xv, Xk, YO] at hu hxc
 cases pv with
 | true =>
  rw [Bool.true_and] at hg
  refine X0 ?_; refine JR ?_; refine Z8 ?_; refine JD ?_; refine X0 ?_; refine JT ?_; refine X2 ?_; refine X0 ?_; refine X4 ?_; refine X0 ?_; refine JR ?_; refine Zj ?_; refine ZK ?_
  refine Zw (γ := 100) ?_; refine Zy ?_; refine JD ?_; refine X0 ?_; refine JR ?_; refine ZB ?_; refine ZL ?_; refine Z9 (hcon := hu) ?_; refine Zu ?_; refine JD ?_; refine JF ?_; refine X2 ?_; refine JR ?_
  refine Zb ?_; refine Z1 ?_; refine JD ?_
  exact ⟨i + 1, ⟨by omega, hg⟩, by omega, X8 rfl JM trivial⟩
 | false =>
  rw [Bool.false_and] at hg
  subst hg
  rw [if_pos rfl]
  refine X0 ?_; refine JR ?_; refine Z8 ?_; refine JD ?_; refine X0 ?_; refine JT ?_; refine X2 ?_; refine X0 ?_; refine X4 ?_; refine X0 ?_; refine JR ?_; refine Zj ?_; refine ZK ?_
  refine Zw (γ := 100) ?_; refine Zy ?_; refine JD ?_; refine X0 ?_; refine JR ?_; refine ZB ?_; refine ZL ?_; refine Z9 (hcon := hu) ?_; refine Zu ?_; refine JD ?_; refine JT ?_; refine X0 ?_; refine JR ?_
  refine Z0 ?_; refine JD ?_
  exact X1 ⟨_, St.le_refl _, ⟨rfl, trivial⟩, X3 _⟩
end Go.Fw
