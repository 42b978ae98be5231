/- Strings that rise, names of a list; the program's and the reference's. -/
import Derived.Test.YtonekjkmnhfjmaaGreatDoorK21
set_option maxHeartbeats 16000000
namespace Go.Fw
open Go Go.Proofs
set_option maxRecDepth 100000
set_option linter.unusedVariables false
set_option linter.unusedSimpArgs false
theorem Xam {l : List (List UInt8)} {i : Nat} {a b : List UInt8} (ha : l[i]? = some a) (hb : l[i + 1]? = some b) : Yz (l.drop i) = (!(Op.bytesLess b a || decide (b = a)) && Yz (l.drop (i + 1))) := by
 obtain ⟨hi, rfl⟩ := List.getElem?_eq_some_iff.1 ha
 obtain ⟨hi', rfl⟩ := List.getElem?_eq_some_iff.1 hb
 rw [List.drop_eq_getElem_cons hi, List.drop_eq_getElem_cons hi', Yz]
theorem X9F {l : List (List UInt8)} {i : Nat} (h : l.length ≤ i + 1) : Yz (l.drop i) = true := by
 match hd : l.drop i with
 | [] => rfl
 | [a] => rfl
 | a :: b :: r =>
  have := congrArg List.length hd
  simp only [List.length_drop, List.length_cons] at this
  omega
theorem Xac (l : List (List UInt8)) (hl : l.length ≤ 9223372036854775807) : Con Tryz.prog 155 [] [.d (.sl 1 (l.map Xa))] [] (ab (Yz l)) := by
 refine Xc (xs := [ab (Yz l)]) Tryz.func155 rfl Tryz.ntmps155 rfl rfl rfl (fun E => ?_)
 have hlm : (l.map Xa).length = l.length := by simp
 generalize hG : Yz l = G
 refine QXc ?_
 refine Xz (fun i : Nat => 1 ≤ i ∧ i ≤ l.length + 1 ∧ Yz (l.drop (i - 1)) = G) (fun i => ⟨20, [(0, .d (.sl 1 (l.map Xa))), (3, ai i)], []⟩) (fun i => l.length - i) 1 ⟨by omega, by omega, by simpa using hG⟩
  (X6 rfl ⟨JL, JL, trivial⟩ trivial) ?_
 rintro i ⟨hi, hi2, hg⟩
 by_cases hil : i < l.length
 case neg =>
  have hn : ¬ (i : Int) < (l.map Xa).length := by omega
  have hT : G = true := by rw [← hg, X9F (by omega)]
  subst hT
  exact Qhd
 have hn : (i : Int) < (l.map Xa).length := by omega
 obtain ⟨j, rfl⟩ : ∃ j, i = j + 1 := ⟨i - 1, by omega⟩
 rw [Nat.add_sub_cancel] at hg
 obtain ⟨x, hx⟩ := Xs (l := l) hil
 obtain ⟨y, hy⟩ := Xs (l := l) (k := j) (by omega)
 have hxc : (l.map Xa)[j + 1]? = some (Xa x) := Xx hx
 have hyc : (l.map Xa)[j]? = some (Xa y) := Xx hy
 rw [Xam hy hx] at hg
 cases hq : (Op.bytesLess x y || decide (x = y)) with
 | false =>
  rw [hq] at hg
  simp only [Bool.not_false, Bool.true_and] at hg
  refine Qid ?_; refine Qhc ?_; refine Qq ?_
  (refine Z9 (op := .sub) (r' := .int .i64 ((j : Nat) : Int)) (u := .int .i64 ((j + 1 : Nat) : Int)) (v := .int .i64 1) ?_ (hr' := by exact congrArg (Value.int .i64) (show (((j + 1 : Nat) : Int) - 1) = (j : Int) by omega)) (hr := by exact XQ (by unfold Xv; omega)))
  refine Qhc ?_; refine Z0f ?_; refine Qkb ?_; exact Qsf
 | true =>
  rw [hq] at hg
  simp only [Bool.not_true, Bool.false_and] at hg
  subst hg
  refine Qid ?_; refine Qhc ?_; refine Qq ?_
  (refine Z9 (op := .sub) (r' := .int .i64 ((j : Nat) : Int)) (u := .int .i64 ((j + 1 : Nat) : Int)) (v := .int .i64 1) ?_ (hr' := by exact congrArg (Value.int .i64) (show (((j + 1 : Nat) : Int) - 1) = (j : Int) by omega)) (hr := by exact XQ (by unfold Xv; omega)))
  refine Qhc ?_; refine Z0f ?_; exact QZ
theorem X89 (l : List (List UInt8)) (hl : l.length ≤ 9223372036854775807) : Con Tryz.prog 225 [] [.d (.sl 1 (l.map Xa))] [] (ab (Yz l)) := by
 refine Xc (xs := [ab (Yz l)]) Tryz.func225 rfl Tryz.ntmps225 rfl rfl rfl (fun E => ?_)
 have hlm : (l.map Xa).length = l.length := by simp
 generalize hG : Yz l = G
 refine QXc ?_
 refine Xz (fun i : Nat => 1 ≤ i ∧ i ≤ l.length + 1 ∧ Yz (l.drop (i - 1)) = G) (fun i => ⟨20, [(0, .d (.sl 1 (l.map Xa))), (3, ai i)], []⟩) (fun i => l.length - i) 1 ⟨by omega, by omega, by simpa using hG⟩
  (X6 rfl ⟨JL, JL, trivial⟩ trivial) ?_
 rintro i ⟨hi, hi2, hg⟩
 by_cases hil : i < l.length
 case neg =>
  have hn : ¬ (i : Int) < (l.map Xa).length := by omega
  have hT : G = true := by rw [← hg, X9F (by omega)]
  subst hT
  exact Qhd
 have hn : (i : Int) < (l.map Xa).length := by omega
 obtain ⟨j, rfl⟩ : ∃ j, i = j + 1 := ⟨i - 1, by omega⟩
 rw [Nat.add_sub_cancel] at hg
 obtain ⟨x, hx⟩ := Xs (l := l) hil
 obtain ⟨y, hy⟩ := Xs (l := l) (k := j) (by omega)
 have hxc : (l.map Xa)[j + 1]? = some (Xa x) := Xx hx
 have hyc : (l.map Xa)[j]? = some (Xa y) := Xx hy
 rw [Xam hy hx] at hg
 cases hq : (Op.bytesLess x y || decide (x = y)) with
 | false =>
  rw [hq] at hg
  simp only [Bool.not_false, Bool.true_and] at hg
  refine Qid ?_; refine Qhc ?_; refine Qq ?_
  (refine Z9 (op := .sub) (r' := .int .i64 ((j : Nat) : Int)) (u := .int .i64 ((j + 1 : Nat) : Int)) (v := .int .i64 1) ?_ (hr' := by exact congrArg (Value.int .i64) (show (((j + 1 : Nat) : Int) - 1) = (j : Int) by omega)) (hr := by exact XQ (by unfold Xv; omega)))
  refine Qhc ?_; refine Z0f ?_; refine Qkb ?_; exact Qsf
 | true =>
  rw [hq] at hg
  simp only [Bool.not_true, Bool.false_and] at hg
  subst hg
  refine Qid ?_; refine Qhc ?_; refine Qq ?_
  (refine Z9 (op := .sub) (r' := .int .i64 ((j : Nat) : Int)) (u := .int .i64 ((j + 1 : Nat) : Int)) (v := .int .i64 1) ?_ (hr' := by exact congrArg (Value.int .i64) (show (((j + 1 : Nat) : Int) - 1) = (j : Int) by omega)) (hr := by exact XQ (by unfold Xv; omega)))
  refine Qhc ?_; refine Z0f ?_; exact QZ
theorem Xhw (s : List UInt8) : Con Tryz.prog 154 [] [.d (.v (.string (X5 s)))] [] (ab (!Xt s)) := by
 refine Xc (xs := [ab (!Xt s)]) Tryz.func154 rfl Tryz.ntmps154 rfl rfl rfl (fun E => ?_)
 have hn := X1M s
 refine QB ?_; refine Zr (hcon := hn) ?_; refine Zd ?_; exact QCb
def VK : List (List UInt8) → Nat → Int
 | [], _ => -1
 | s :: r, i => if Xt s = false then (i : Int) else VK r (i + 1)
theorem Xgd {l : List (List UInt8)} {i : Nat} {x : List UInt8} (h : l[i]? = some x) : VK (l.drop i) i = if Xt x = false then (i : Int) else VK (l.drop (i + 1)) (i + 1) := by
 obtain ⟨hi, rfl⟩ := List.getElem?_eq_some_iff.1 h
 rw [List.drop_eq_getElem_cons hi, VK]
theorem Xbb : ∀ (l : List (List UInt8)) (i : Nat), decide (VK l i ≥ 0) = !l.all Xt
 | [], i => by simp [VK]
 | s :: r, i => by
  rw [VK, List.all_cons]
  cases h : Xt s with
  | false => simp
  | true => simp [Xbb r (i + 1)]
theorem XgH (l : List (List UInt8)) (hl : l.length ≤ 9223372036854775807) : Con Tryz.prog 220 [] [.d (.sl 1 (l.map Xa)), .fn 154 []] [] (ai (VK l 0)) := by
 refine Xc (xs := [ai (VK l 0)]) Tryz.func220 rfl Tryz.ntmps220 rfl rfl rfl (fun E => ?_)
 have hlm : (l.map Xa).length = l.length := by simp
 generalize hG : VK l 0 = G
 refine QU ?_; refine Qcc ?_
 refine Xz (fun i : Nat => i ≤ l.length ∧ VK (l.drop i) i = G) (fun i => ⟨19, [(0, .d (.sl 1 (l.map Xa))), (1, .fn 154 []), (7, ai (l.map Xa).length), (8, ai i)], []⟩) (fun i => l.length - i) 0 ⟨by omega, by simpa using hG⟩
  (X6 rfl ⟨JL, JL, JL, JL, trivial⟩ trivial) ?_
 rintro i ⟨hi, hg⟩
 by_cases hil : i < l.length
 case neg =>
  have hn : ¬ (i : Int) < (l.map Xa).length := by omega
  rw [List.drop_of_length_le (by omega), VK] at hg
  subst hg
  exact Qla
 have hn : (i : Int) < (l.map Xa).length := by omega
 obtain ⟨x, hx⟩ := Xs (l := l) hil
 have hxc : (l.map Xa)[i]? = some (Xa x) := Xx hx
 have hu := Xhw x
 rw [Xgd hx] at hg
 cases hq : Xt x with
 | true =>
  rw [hq] at hg hu
  simp only [Bool.true_eq_false, if_false] at hg
  refine Qna ?_; refine QPd ?_; refine Qhc ?_; refine ZS (hcon := hu) ?_; refine Qwa ?_; exact ⟨i + 1, ⟨by omega, hg⟩, by omega, X6 rfl ⟨JL, JL, JL, JL, trivial⟩ trivial⟩
 | false =>
  rw [hq] at hg hu
  simp only [if_true] at hg
  subst hg
  refine Qna ?_; refine QPd ?_; refine Qhc ?_; refine ZS (hcon := hu) ?_; exact QXb
theorem X9E (l : List (List UInt8)) (hl : l.length ≤ 9223372036854775807) : Con Tryz.prog 153 [] [.d (.sl 1 (l.map Xa)), .fn 154 []] [] (ab (!l.all Xt)) := by
 refine Xc (xs := [ab (!l.all Xt)]) Tryz.func153 rfl Tryz.ntmps153 rfl rfl rfl (fun E => ?_)
 have hi := XgH l hl
 rw [← Xbb l 0]
 generalize VK l 0 = q at *
 refine Qf ?_; refine Zr (hcon := hi) ?_; refine Zm ?_; exact QCb
theorem X7D {α : Type} {p : α → Bool} {l : List α} {i : Nat} {x : α} (h : l[i]? = some x) : (l.drop i).all p = (p x && (l.drop (i + 1)).all p) := by
 obtain ⟨hi, rfl⟩ := List.getElem?_eq_some_iff.1 h
 rw [List.drop_eq_getElem_cons hi, List.all_cons]
theorem Xaz (l : List (List UInt8)) (hl : l.length ≤ 9223372036854775807) : Con Tryz.prog 224 [] [.d (.sl 1 (l.map Xa))] [] (ab (l.all Xt)) := by
 refine Xc (xs := [ab (l.all Xt)]) Tryz.func224 rfl Tryz.ntmps224 rfl rfl rfl (fun E => ?_)
 have hlm : (l.map Xa).length = l.length := by simp
 generalize hG : l.all Xt = G
 refine QXc ?_
 refine Xz (fun i : Nat => i ≤ l.length ∧ (l.drop i).all Xt = G) (fun i => ⟨16, [(0, .d (.sl 1 (l.map Xa))), (3, ai i)], []⟩) (fun i => l.length - i) 0 ⟨by omega, by simpa using hG⟩
  (X6 rfl ⟨JL, JL, trivial⟩ trivial) ?_
 rintro i ⟨hi, hg⟩
 by_cases hil : i < l.length
 case neg =>
  have hn : ¬ (i : Int) < (l.map Xa).length := by omega
  rw [List.drop_of_length_le (by omega), List.all_nil] at hg
  subst hg
  exact Qhd
 have hn : (i : Int) < (l.map Xa).length := by omega
 obtain ⟨x, hx⟩ := Xs (l := l) hil
 have hxc : (l.map Xa)[i]? = some (Xa x) := Xx hx
 have hu := X7z x
 rw [X7D hx] at hg
 cases hq : Xt x with
 | true =>
  rw [hq] at hg hu
  rw [Bool.true_and] at hg
  refine Qid ?_; refine Qhc ?_; refine Zr (hcon := hu) ?_; refine Zd ?_; refine Qkb ?_; exact ⟨i + 1, ⟨by omega, hg⟩, by omega, X6 rfl ⟨JL, JL, trivial⟩ trivial⟩
 | false =>
  rw [hq] at hg hu
  rw [Bool.false_and] at hg
  subst hg
  refine Qid ?_; refine Qhc ?_; refine Zr (hcon := hu) ?_; exact QVc
def X1y (p : Prp) : Prop := p.key.length ≤ 9223372036854775807 ∧ Ym p.v
theorem X4w {α : Type} {l : List α} {i : Nat} {x : α} (h : l[i]? = some x) : l.take (i + 1) = l.take i ++ [x] := by
 obtain ⟨hi, rfl⟩ := List.getElem?_eq_some_iff.1 h
 rw [List.take_add_one, List.getElem?_eq_getElem hi]; rfl
theorem Xby {l : List Prp} {i : Nat} {x : Prp} (h : l[i]? = some x) : ((l.take (i + 1)).map Prp.key).map Xa = ((l.take i).map Prp.key).map Xa ++ [Xa x.key] := by
 rw [X4w h]; simp
theorem Xhc (ps : List Prp) (hl : ps.length ≤ 4294967296) : Con Tryz.prog 223 [] [.d (.sl 6 (ps.map X7))] [] (.d (.sl 1 ((ps.map Prp.key).map Xa))) := by
 refine Xc (xs := [.d (.sl 1 ((ps.map Prp.key).map Xa))]) Tryz.func223 rfl Tryz.ntmps223 rfl rfl rfl (fun E => ?_)
 have hlm : (ps.map X7).length = ps.length := by simp
 refine Qc ?_; refine QXc ?_; refine Xk (U1 3 130 1 rfl rfl rfl) ?_
 refine Xz (fun i : Nat => i ≤ ps.length) (fun i => ⟨20, [(0, .d (.sl 6 (ps.map X7))), (3, .own 130 (((ps.take i).map Prp.key).map Xa).length), (4, ai i)], [(130, .row 1 (((ps.take i).map Prp.key).map Xa))]⟩) (fun i => ps.length - i) 0 (Nat.zero_le _)
  (X6 rfl ⟨JL, JL, JL, trivial⟩ ⟨rfl, trivial⟩) ?_
 intro i hi
 by_cases hil : i < ps.length
 case neg =>
  obtain rfl : i = ps.length := by omega
  have hn : ¬ ((ps.length : Nat) : Int) < (ps.map X7).length := by omega
  rw [List.take_length]
  refine Qgd ?_; refine Qtf ?_; refine Xk (Ys 2 130 rfl rfl rfl) ?_; exact QX
 have hn : (i : Int) < (ps.map X7).length := by omega
 obtain ⟨x, hx⟩ := Xs (l := ps) hil
 have hxc : (ps.map X7)[i]? = some (X7 x) := Xx hx
 have hroom : (((ps.take i).map Prp.key).map Xa).length ≤ 4294967296 := by simp only [List.length_map, List.length_take]; omega
 refine QZc ?_; refine JR ?_; refine Qt ?_; refine Qbd ?_; refine Quf ?_
 refine ⟨i + 1, hil, by omega, ?_⟩
 rw [Xby hx]
 exact X6 rfl ⟨JL, AVal.le_of_eq (by refine Eq.trans (b := AVal.own 130 (_ + _)) rfl ?_; simp only [List.length_append, List.length_map, List.length_cons, List.length_nil]), JL, trivial⟩ ⟨rfl, trivial⟩
theorem X86 {l : List Prp} {i : Nat} {x : Prp} (h : l[i]? = some x) : ((l.drop i).map Prp.v).all XV = (XV x.v && ((l.drop (i + 1)).map Prp.v).all XV) := by
 obtain ⟨hi, rfl⟩ := List.getElem?_eq_some_iff.1 h
 rw [List.drop_eq_getElem_cons hi, List.map_cons, List.all_cons]
theorem X4k {ls : List (List UInt8)} {ps : List Prp} (h : 8 < ls.length ∨ 16 < ps.length) : YO ls ps = 4 := if_pos h
theorem X8l {ls : List (List UInt8)} {ps : List Prp} (h1 : ¬ 8 < ls.length) (h2 : ¬ 16 < ps.length) : YO ls ps = if ls.all Xt = false ∨ (ps.map Prp.key).all Xt = false then 6
 else if Yz ls = false ∨ Yz (ps.map Prp.key) = false then 26 else if (ps.map Prp.v).all XV = false then 8 else 0 := if_neg (by omega)
theorem X8C (ls : List (List UInt8)) (ps : List Prp) (hls : ls.length ≤ 9223372036854775807) (hok : ∀ p ∈ ps, X1y p) : Con Tryz.prog 102 [] [.d (.sl 1 (ls.map Xa)), .d (.sl 6 (ps.map X7))] [] (ai (YO ls ps)) := by
 refine Xc (xs := [ai (YO ls ps)]) Tryz.func102 rfl Tryz.ntmps102 rfl rfl rfl (fun E => ?_)
 have hlm : (ps.map X7).length = ps.length := by simp
 have hlm2 : (ls.map Xa).length = ls.length := by simp
 by_cases h1 : 8 < ls.length
 ·rw [X4k (.inl h1)]
  have h1' : (8 : Int) < (ls.map Xa).length := by omega
  refine Qrf ?_; exact Qlb
 have h1' : ¬ (8 : Int) < (ls.map Xa).length := by omega
 by_cases h2 : 16 < ps.length
 ·rw [X4k (.inr h2)]
  have h2' : (16 : Int) < (ps.map X7).length := by omega
  refine Qrf ?_; exact Qac
 have h2' : ¬ (16 : Int) < (ps.map X7).length := by omega
 rw [X8l h1 h2]
 have hc1 := X9E ls hls
 have hc2 := X9E (ps.map Prp.key) (by simp only [List.length_map]; omega)
 have hr1 := Xac ls hls
 have hr2 := Xac (ps.map Prp.key) (by simp only [List.length_map]; omega)
 generalize ls.all Xt = n1 at *
 generalize Yz ls = r1 at *
 generalize (ps.map Prp.key).all Xt = n2 at *
 generalize Yz (ps.map Prp.key) = r2 at *
 generalize hG : (ps.map Prp.v).all XV = G
 refine Qrf ?_; refine Qbc ?_; refine QU ?_; refine Qcc ?_; refine Xk (U1 5 130 1 rfl rfl rfl) ?_
 refine Xz (fun i : Nat => i ≤ ps.length) (fun i => ⟨55, [(0, .d (.sl 1 (ls.map Xa))), (1, .d (.sl 6 (ps.map X7))), (18, .d (.sl 6 (ps.map X7))), (19, ai (ps.map X7).length), (5, .own 130 (((ps.take i).map Prp.key).map Xa).length), (20, ai i)], [(130, .row 1 (((ps.take i).map Prp.key).map Xa))]⟩) (fun i => ps.length - i) 0 (Nat.zero_le _)
  (X6 rfl JM ⟨rfl, trivial⟩) ?_
 intro i hi
 by_cases hil : i < ps.length
 case pos =>
  have hn : (i : Int) < (ps.map X7).length := by omega
  obtain ⟨x, hx⟩ := Xs (l := ps) hil
  have hxc : (ps.map X7)[i]? = some (X7 x) := Xx hx
  have hroom : (((ps.take i).map Prp.key).map Xa).length ≤ 4294967296 := by simp only [List.length_map, List.length_take]; omega
  have hsn := Xby hx
  obtain ⟨key, ⟨vk, vn, vd, vs, vl⟩⟩ := x
  simp only [X7, Y5] at hxc hsn
  refine QSc ?_; refine JR ?_; refine QPb ?_; refine Qvf ?_
  refine ⟨i + 1, hil, by omega, ?_⟩
  rw [hsn]
  exact X6 rfl ⟨JL, JL, JL, JL, AVal.le_of_eq (by refine Eq.trans (b := AVal.own 130 (_ + _)) rfl ?_; simp only [List.length_append, List.length_map, List.length_cons, List.length_nil]), JL, trivial⟩ ⟨rfl, trivial⟩
 obtain rfl : i = ps.length := by omega
 have hn : ¬ ((ps.length : Nat) : Int) < (ps.map X7).length := by omega
 rw [List.take_length]
 refine Qka ?_; refine X0 ?_; refine X0 ?_; refine Xk (Yt 130 rfl) ?_; refine Xk (Ys 5 130 rfl rfl rfl) ?_
 by_cases b1 : n1 = false ∨ n2 = false
 ·rw [if_pos b1]
  cases n1 <;> cases n2 <;> first | (simp at b1; done) | skip
  ·refine Qfb ?_; refine Zr (hcon := hc1) ?_; exact QQc
  ·refine Qfb ?_; refine Zr (hcon := hc1) ?_; exact QQc
  ·refine Qfb ?_; refine Zr (hcon := hc1) ?_; refine Qq ?_; refine Zr (hcon := hc2) ?_; exact Qea
 rw [if_neg b1]
 obtain ⟨rfl, rfl⟩ : n1 = true ∧ n2 = true := by cases n1 <;> cases n2 <;> simp_all
 by_cases b2 : r1 = false ∨ r2 = false
 ·rw [if_pos b2]
  cases r1 <;> cases r2 <;> first | (simp at b2; done) | skip
  ·refine Qwf ?_; exact Qlb
  ·refine Qwf ?_; exact Qlb
  ·refine Qwf ?_; refine Qq ?_; refine Zr (hcon := hr2) ?_; exact Qfa
 rw [if_neg b2]
 obtain ⟨rfl, rfl⟩ : r1 = true ∧ r2 = true := by cases r1 <;> cases r2 <;> simp_all
 refine Qwf ?_; refine Qq ?_; refine Zr (hcon := hr2) ?_; refine Qha ?_; refine Qh ?_; refine Qcc ?_
 clear hi hil hn b1 b2 h1 h2
 refine Xz (fun i : Nat => i ≤ ps.length ∧ ((ps.drop i).map Prp.v).all XV = G) (fun i => ⟨55, [(1, .d (.sl 6 (ps.map X7))), (44, .d (.sl 6 (ps.map X7))), (45, ai (ps.map X7).length), (46, ai i)], []⟩) (fun i => ps.length - i) 0 ⟨by omega, by simpa using hG⟩
  (X6 rfl JM trivial) ?_
 rintro i ⟨hi, hg⟩
 by_cases hil : i < ps.length
 case neg =>
  have hn' : ¬ (i : Int) < (ps.map X7).length := by omega
  rw [List.drop_of_length_le (by omega), List.map_nil, List.all_nil] at hg
  subst hg
  rw [if_neg (by simp)]
  exact Qla
 have hn' : (i : Int) < (ps.map X7).length := by omega
 obtain ⟨x, hx⟩ := Xs (l := ps) hil
 have hxc : (ps.map X7)[i]? = some (X7 x) := Xx hx
 have hxo := hok x (List.mem_of_getElem? hx)
 have hu := X9N x.v
 rw [X86 hx] at hg
 generalize XV x.v = pv at *
 obtain ⟨key, ⟨vk, vn, vd, vs, vl⟩⟩ := x
 simp only [Xm, X7, Y5] at hu hxc
 cases pv with
 | true =>
  rw [Bool.true_and] at hg
  refine QSc ?_; refine Qa ?_; refine Qxf ?_; refine Zr (hcon := hu) ?_; refine QUc ?_; refine Qsa ?_; exact Qyf
 | false =>
  rw [Bool.false_and] at hg
  subst hg
  rw [if_pos rfl]
  refine QSc ?_; refine Qa ?_; refine Qxf ?_; refine Zr (hcon := hu) ?_; exact QVc
theorem X9g (ls : List (List UInt8)) (ps : List Prp) (hls : ls.length ≤ 9223372036854775807) (hok : ∀ p ∈ ps, X1y p) : Con Tryz.prog 161 [] [.d (.sl 1 (ls.map Xa)), .d (.sl 6 (ps.map X7))] [] (ai (YO ls ps)) := by
 refine Xc (xs := [ai (YO ls ps)]) Tryz.func161 rfl Tryz.ntmps161 rfl rfl rfl (fun E => ?_)
 have hlm : (ps.map X7).length = ps.length := by simp
 have hlm2 : (ls.map Xa).length = ls.length := by simp
 by_cases h1 : 8 < ls.length
 ·rw [X4k (.inl h1)]
  have h1' : (8 : Int) < (ls.map Xa).length := by omega
  refine Qrf ?_; exact Qlb
 have h1' : ¬ (8 : Int) < (ls.map Xa).length := by omega
 by_cases h2 : 16 < ps.length
 ·rw [X4k (.inr h2)]
  have h2' : (16 : Int) < (ps.map X7).length := by omega
  refine Qrf ?_; exact Qac
 have h2' : ¬ (16 : Int) < (ps.map X7).length := by omega
 rw [X8l h1 h2]
 have hk := Xhc ps (by omega)
 have hc1 := Xaz ls hls
 have hc2 := Xaz (ps.map Prp.key) (by simp only [List.length_map]; omega)
 have hr1 := X89 ls hls
 have hr2 := X89 (ps.map Prp.key) (by simp only [List.length_map]; omega)
 generalize ls.all Xt = n1 at *
 generalize Yz ls = r1 at *
 generalize (ps.map Prp.key).all Xt = n2 at *
 generalize Yz (ps.map Prp.key) = r2 at *
 generalize hG : (ps.map Prp.v).all XV = G
 by_cases b1 : n1 = false ∨ n2 = false
 ·rw [if_pos b1]
  cases n1 <;> cases n2 <;> first | (simp at b1; done) | skip
  ·refine Qzf ?_; exact Qlb
  ·refine Qzf ?_; exact Qlb
  ·refine Qzf ?_; refine Qq ?_; refine Zr (hcon := hc2) ?_; exact Qfa
 rw [if_neg b1]
 obtain ⟨rfl, rfl⟩ : n1 = true ∧ n2 = true := by cases n1 <;> cases n2 <;> simp_all
 by_cases b2 : r1 = false ∨ r2 = false
 ·rw [if_pos b2]
  cases r1 <;> cases r2 <;> first | (simp at b2; done) | skip
  ·refine QAf ?_; exact Qlb
  ·refine QAf ?_; exact Qlb
  ·refine QAf ?_; refine Qq ?_; refine Zr (hcon := hr2) ?_; exact Qfa
 rw [if_neg b2]
 obtain ⟨rfl, rfl⟩ : r1 = true ∧ r2 = true := by cases r1 <;> cases r2 <;> simp_all
 refine QAf ?_; refine Qq ?_; refine Zr (hcon := hr2) ?_; refine Qha ?_; refine QZa ?_
 clear b1 b2 h1 h2
 refine Xz (fun i : Nat => i ≤ ps.length ∧ ((ps.drop i).map Prp.v).all XV = G) (fun i => ⟨46, [(1, .d (.sl 6 (ps.map X7))), (6, ai i)], []⟩) (fun i => ps.length - i) 0 ⟨by omega, by simpa using hG⟩
  (X6 rfl JM trivial) ?_
 rintro i ⟨hi, hg⟩
 by_cases hil : i < ps.length
 case neg =>
  have hn' : ¬ (i : Int) < (ps.map X7).length := by omega
  rw [List.drop_of_length_le (by omega), List.map_nil, List.all_nil] at hg
  subst hg
  rw [if_neg (by simp)]
  exact Qhd
 have hn' : (i : Int) < (ps.map X7).length := by omega
 obtain ⟨x, hx⟩ := Xs (l := ps) hil
 have hxc : (ps.map X7)[i]? = some (X7 x) := Xx hx
 have hxo := hok x (List.mem_of_getElem? hx)
 have hu := X9X x.v hxo.2
 rw [X86 hx] at hg
 generalize XV x.v = pv at *
 obtain ⟨key, ⟨vk, vn, vd, vs, vl⟩⟩ := x
 simp only [Xm, X7, Y5] at hu hxc
 cases pv with
 | true =>
  rw [Bool.true_and] at hg
  refine Qid ?_; refine Zy ?_; refine ZZ ?_; refine ZW ?_; refine Zr (hcon := hu) ?_; refine Zd ?_; refine Qkb ?_; exact Qyf
 | false =>
  rw [Bool.false_and] at hg
  subst hg
  rw [if_pos rfl]
  refine Qid ?_; refine Zy ?_; refine ZZ ?_; refine ZW ?_; refine Zr (hcon := hu) ?_; exact QVc
end Go.Fw
