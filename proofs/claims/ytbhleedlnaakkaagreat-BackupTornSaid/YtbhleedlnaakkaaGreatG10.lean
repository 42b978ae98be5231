/- PutStr, Sum. -/
import Derived.Test.YtbhleedlnaakkaaGreatChecked
import Derived.Laws.RangeAny
import Derived.Test.YtbhleedlnaakkaaGreatG09
set_option maxHeartbeats 8000000
namespace Go.Fw
open Go Go.Proofs
set_option maxRecDepth 100000
set_option linter.unusedVariables false
set_option linter.unusedSimpArgs false
abbrev XD (l : List UInt8) : AVal := .d (.v (.string (X5 l)))
abbrev X3G (n : Nat) : AVal := .d (.v (n32 n))
def Un (b : List UInt8) (i : Nat) : Nat := (b.take i).foldl X3r 4294967295
theorem Xa9 (b : List UInt8) (i : Nat) : Un b i < 4294967296 := XaA _ (by decide)
theorem X9N {b : List UInt8} {i : Nat} {x : UInt8} (h : b[i]? = some x) : Un b (i + 1) = X3r (Un b i) x := by
 unfold Un
 rw [List.take_add_one, h, Option.toList_some, List.foldl_append]; rfl
theorem X9p (b : List UInt8) : Un b b.length = X0K b := by unfold Un X0K; rw [List.take_length]
theorem Xfn (s : List UInt8) (hs : s.length ≤ 65536) : Con Tryz.prog 45 [] [XD s] [(131, .row 1 ((Xz s).map X6))] (.own 131 (Xz s).length) := by
 refine X9 (xs := [.own 131 (Xz s).length]) Tryz.func45 rfl Tryz.ntmps45 rfl rfl rfl (fun E => ?_)
 have hl : (Xc (s.length : Int)).length ≤ 10 := by rw [X1o (by omega)]; exact X0I (by omega)
 have hsz : (X5 s).size = s.length := rfl
 have hlm : (List.map X6 (Xc (s.length : Int))).length = (Xc (s.length : Int)).length := by simp
 generalize hhd : Xc (s.length : Int) = hd at *
 have hput : Xz s = hd ++ s := by unfold Xz; rw [hhd]
 have hpc := X2V s.length (by omega)
 rw [hhd] at hpc
 have hm1 : hd.length = min (hd.map X6).length (List.replicate ((hd.map X6).length + (X5 s).size) (zD (Value.int IntKind.u8 0).cells.toList)).length := by simp
 have hk : hd.length ≤ ((hd.map X6).take hd.length ++ (List.replicate ((hd.map X6).length + (X5 s).size) (zD (Value.int IntKind.u8 0).cells.toList)).drop hd.length).length := by simp
 have hm2 : s.length = min (s.map X6).length (((hd.map X6).take hd.length ++ (List.replicate ((hd.map X6).length + (X5 s).size) (zD (Value.int IntKind.u8 0).cells.toList)).drop hd.length).length - hd.length) := by simp [hsz]
 refine X0 ?_; refine JR ?_; refine Z0 ?_; refine JD ?_; refine X0 ?_; refine JR ?_; refine Z1 ?_; refine Zc ?_; refine Z9 (hcon := hpc) ?_; refine Z0 ?_; refine JD ?_; refine X0 ?_; refine JR ?_
 refine Z1 ?_; refine Zd ?_; refine Z1 ?_; refine Zc ?_; refine Zb ?_; refine Ze (γ := 131) ?_; refine Z0 ?_; refine JD ?_; refine X0 ?_; refine JR ?_; refine Z1 ?_; refine Z1 ?_; refine Z1 ?_
 refine Zf (m := hd.length) ?_ (hm := by exact hm1); refine Zg (k := hd.length) ?_ (hk := by exact hk); refine Z1 ?_; refine Zh (m := s.length) ?_ (hk := by exact hk) (hm := by exact hm2); refine JD ?_; refine X0 ?_
 refine JR ?_; refine Z1 ?_; refine Z0 ?_; refine JD ?_
 refine X1 ⟨_, Xh 2 (y := .own 131 (Xz s).length) (AVal.le_of_eq ?_), ⟨rfl, trivial⟩, Xd ⟨?_, trivial⟩⟩
 ·refine Eq.trans (b := AVal.own 131 (_ + _)) rfl ?_
  simp [hput, hsz]
 ·refine Eq.trans (b := AObj.row 1 (List.take _ _ ++ _ ++ List.drop _ _)) rfl ?_
  rw [hput]
  congr 1
  rw [List.take_of_length_le (l := hd.map X6) (by simp), List.take_left' (by simp), List.take_of_length_le (by simp), List.drop_of_length_le (by simp [hsz]), List.append_nil, List.map_append]
theorem X6p (b : List UInt8) : Con Tryz.prog 95 [] [.d (Xa b)] [] (ai (XT b)) := by
 refine X9 (xs := [ai (XT b)]) Tryz.func95 rfl Tryz.ntmps95 rfl rfl rfl (fun E => ?_)
 refine X0 ?_; refine JR ?_; refine Z0 ?_; refine JD ?_; refine X0 ?_; refine JR ?_; refine Z0 ?_; refine JD ?_; refine X0 ?_; refine X0 ?_; refine JR ?_; refine Z1 ?_; refine Zd ?_; refine Z1 ?_
 refine JD ?_; refine X4 ?_
 refine Xy (fun i : Nat => i ≤ b.length) (fun i => ⟨31, [(3, X3G (Un b i)), (6, .d (Xa b)), (7, ai b.length), (8, ai i)], []⟩) (fun i => b.length - i) 0 (by omega)
  (X8 rfl ⟨JL, JL, JL, JL, trivial⟩ trivial) ?_
 intro i hi
 refine X9L 6 (sz := 1) (xs := b.map X6) rfl fun hbl => ?_
 rw [List.length_map] at hbl
 have hc := Xa9 b i
 by_cases hlt : i < b.length
 ·obtain ⟨x, hx⟩ := Xu hlt
  have hx8 := x.toNat_lt
  refine X0 ?_; refine JR ?_; refine Z8 ?_; refine JD ?_; refine X0 ?_; refine JT ?_; refine X2 ?_; refine X0 ?_; refine X4 ?_; refine X0 ?_; refine JR ?_; refine Zj ?_; refine Zk ?_
  refine Z0 ?_; refine JD ?_; refine X0 ?_; refine JR ?_; refine Z1 ?_; refine Z1 ?_; refine Z3 (u := n8 x.toNat) (r := n32 x.toNat) ?_ (hr := by exact Yu rfl rfl (by rw [UT]; omega))
  refine Z7 (op := .xor) (r' := n32 (Un b i ^^^ x.toNat)) (u := n32 (Un b i)) (v := n32 x.toNat) ?_ (hr := by exact X2U (by rw [UT]; omega) (by rw [UT]; omega)); refine Z0 ?_; refine JD ?_
  refine X0 ?_; refine JR ?_; refine Z1 ?_; refine JD ?_; refine X4 ?_
  refine Xy (fun k : Nat => k ≤ 8) (fun k => ⟨31, [(6, .d (Xa b)), (7, ai b.length), (8, ai i), (3, X3G (X05 k (Un b i ^^^ x.toNat))), (16, ai k)], []⟩) (fun k => 8 - k) 0 (by omega)
   (X8 rfl ⟨JL, JL, JL, JL, JL, trivial⟩ trivial) ?_
  intro k hk
  have hv := X3W (X6t hc x) k
  have hv1 : X05 (k + 1) (Un b i ^^^ x.toNat) = VD (X05 k (Un b i ^^^ x.toNat)) := rfl
  generalize hgv : X05 k (Un b i ^^^ x.toNat) = v at *
  by_cases hk8 : k < 8
  ·by_cases hodd : v % 2 = 1
   ·have hb : VD v = (v / 2) ^^^ 3988292384 := by unfold VD; rw [if_pos hodd]
    refine X0 ?_; refine JR ?_; refine Z8 ?_; refine JD ?_; refine X0 ?_; refine JT ?_; refine X2 ?_; refine X0 ?_; refine X4 ?_; refine X0 ?_; refine JR ?_; refine Z1 ?_
    refine Z4 (op := .and) (r' := n32 (v % 2)) (u := n32 v) (v := n32 1) ?_ (hr' := by exact congrArg n32 (Nat.and_one_is_mod v)) (hr := by exact UV (by rw [UT]; omega) (by rw [UT]; omega)); refine Zl ?_
    refine JD ?_; refine JT ?_; refine JR ?_; refine Z1 ?_; refine Z7 (op := .shr) (r' := n32 (v / 2)) (u := n32 v) (v := n64 1) ?_ (hr := by exact X1a (by decide))
    refine Z7 (op := .xor) (r' := n32 (v / 2 ^^^ 3988292384)) (u := n32 (v / 2)) (v := n32 3988292384) ?_ (hr := by exact X2U (by rw [UT]; omega) (by rw [UT]; omega)); refine Z0 ?_; refine JD ?_; refine JR ?_
    refine Zb ?_; refine Z1 ?_; refine JD ?_
    exact ⟨k + 1, by omega, by omega, X8 rfl ⟨JL, JL, JL, (by rw [hv1, hb]; exact AVal.le_refl _), JL, trivial⟩ trivial⟩
   ·have hb : VD v = v / 2 := by unfold VD; rw [if_neg hodd]
    refine X0 ?_; refine JR ?_; refine Z8 ?_; refine JD ?_; refine X0 ?_; refine JT ?_; refine X2 ?_; refine X0 ?_; refine X4 ?_; refine X0 ?_; refine JR ?_; refine Z1 ?_
    refine Z4 (op := .and) (r' := n32 (v % 2)) (u := n32 v) (v := n32 1) ?_ (hr' := by exact congrArg n32 (Nat.and_one_is_mod v)) (hr := by exact UV (by rw [UT]; omega) (by rw [UT]; omega)); refine Zl ?_
    refine JD ?_; refine JF ?_; refine JR ?_; refine Z1 ?_; refine Z7 (op := .shr) (r' := n32 (v / 2)) (u := n32 v) (v := n64 1) ?_ (hr := by exact X1a (by decide)); refine Z0 ?_; refine JD ?_; refine JR ?_; refine Zb ?_
    refine Z1 ?_; refine JD ?_
    exact ⟨k + 1, by omega, by omega, X8 rfl ⟨JL, JL, JL, (by rw [hv1, hb]; exact AVal.le_refl _), JL, trivial⟩ trivial⟩
  obtain rfl : k = 8 := by omega
  have hstep : Un b (i + 1) = v := by rw [X9N hx]; exact hgv
  refine X0 ?_; refine JR ?_; refine Z8 ?_; refine JD ?_; refine X0 ?_; refine JF ?_; refine Xj ?_; refine JR ?_; refine Zb ?_; refine Z1 ?_; refine JD ?_
  exact ⟨i + 1, by omega, by omega, X8 rfl ⟨(by rw [hstep]; exact AVal.le_refl _), JL, JL, JL, trivial⟩ trivial⟩
 obtain rfl : i = b.length := by omega
 have hall := X9p b
 rw [hall] at hc
 rw [hall]
 have hcompl : ∀ w, (Op.unary .xor (n32 (X0K b))).run Tryz.prog w = .ok (n32 (XT b)) w := fun w => XaT (P := Tryz.prog) (k := .u32) (a := X0K b) rfl hc w
 refine X0 ?_; refine JR ?_; refine Z8 ?_; refine JD ?_; refine X0 ?_; refine JF ?_; refine Xj ?_; refine X0 ?_; refine JR ?_; refine Z1 ?_
 refine Za (u := n32 (X0K b)) (r := n32 (XT b)) ?_ (hr := by exact hcompl); refine Z3 (u := n32 (XT b)) (r := ni (XT b)) ?_ (hr := by exact Yu rfl rfl (by rw [Xx]; have := X1T b; omega)); refine Z0 ?_
 refine JD ?_
 exact X1 ⟨_, St.le_refl _, ⟨rfl, trivial⟩, X3 _⟩
theorem X2T (s : List UInt8) (hs : s.length ≤ 65536) : Con Tryz.prog 45 [] [XD s] [] (.d (Xa (Xz s))) := (Xfn s hs).data (by simp)
end Go.Fw
namespace Go.Fw
open Go Go.Proofs
set_option maxRecDepth 100000
set_option linter.unusedVariables false
set_option linter.unusedSimpArgs false
theorem X13 {c : UInt8} (h : (97 ≤ c.toNat ∧ c.toNat ≤ 122) ∨ (65 ≤ c.toNat ∧ c.toNat ≤ 90)) : U6 c = true := decide_eq_true h
theorem VM {c : UInt8} (h : ¬ ((97 ≤ c.toNat ∧ c.toNat ≤ 122) ∨ (65 ≤ c.toNat ∧ c.toNat ≤ 90))) : U6 c = false := decide_eq_false h
theorem X95 (c : UInt8) : Con Tryz.prog 155 [] [au8 c.toNat] [] (ab (U6 c)) := by
 refine X9 (xs := [ab (U6 c)]) Tryz.func155 rfl Tryz.ntmps155 rfl rfl rfl (fun E => ?_)
 by_cases h1 : 97 ≤ c.toNat
 ·by_cases h2 : c.toNat ≤ 122
  ·rw [X13 (by omega)]
   refine X0 ?_; refine JR ?_; refine Z0 ?_; refine JD ?_; refine X0 ?_; refine JR ?_; refine Z1 ?_; refine Z2 ?_; refine Z1 ?_; refine Z1 ?_; refine Zm ?_; refine Zn ?_; refine Z1 ?_; refine Zo ?_; refine Zo ?_
   refine Zo ?_; refine Zp ?_; refine Zp ?_; refine Zo ?_; refine Zn ?_; refine Z0 ?_; refine JD ?_
   first | exact X1 ⟨_, St.le_refl _, ⟨rfl, trivial⟩, X3 _⟩ | exact X1 ⟨_, Xh 2 (y := ab true) (AVal.le_of_eq (by refine Eq.trans (b := ab (decide _)) rfl ?_; exact congrArg ab (by simp; omega))), ⟨rfl, trivial⟩, X3 _⟩ | fail
  ·rw [VM (by omega)]
   refine X0 ?_; refine JR ?_; refine Z0 ?_; refine JD ?_; refine X0 ?_; refine JR ?_; refine Z1 ?_; refine Z2 ?_; refine Z1 ?_; refine Z1 ?_; refine Zm ?_; refine Zn ?_; refine Z1 ?_; refine Z1 ?_; refine Z2 ?_
   refine Z1 ?_; refine Z1 ?_; refine Zm ?_; refine Zn ?_; refine Zq ?_; refine Z0 ?_; refine JD ?_
   first | exact X1 ⟨_, St.le_refl _, ⟨rfl, trivial⟩, X3 _⟩ | exact X1 ⟨_, Xh 2 (y := ab false) (AVal.le_of_eq (by refine Eq.trans (b := ab (decide _)) rfl ?_; exact congrArg ab (by simp; omega))), ⟨rfl, trivial⟩, X3 _⟩ | fail
 by_cases h3 : 65 ≤ c.toNat
 ·by_cases h4 : c.toNat ≤ 90
  ·rw [X13 (by omega)]
   refine X0 ?_; refine JR ?_; refine Z0 ?_; refine JD ?_; refine X0 ?_; refine JR ?_; refine Z1 ?_; refine Z2 ?_; refine Z1 ?_; refine Zo ?_; refine Zo ?_; refine Zq ?_; refine Z1 ?_; refine Z1 ?_; refine Z2 ?_
   refine Z1 ?_; refine Z1 ?_; refine Zm ?_; refine Zn ?_; refine Zq ?_; refine Z0 ?_; refine JD ?_
   first | exact X1 ⟨_, St.le_refl _, ⟨rfl, trivial⟩, X3 _⟩ | exact X1 ⟨_, Xh 2 (y := ab true) (AVal.le_of_eq (by refine Eq.trans (b := ab (decide _)) rfl ?_; exact congrArg ab (by simp; omega))), ⟨rfl, trivial⟩, X3 _⟩ | fail
  ·rw [VM (by omega)]
   refine X0 ?_; refine JR ?_; refine Z0 ?_; refine JD ?_; refine X0 ?_; refine JR ?_; refine Z1 ?_; refine Z2 ?_; refine Z1 ?_; refine Zo ?_; refine Zo ?_; refine Zq ?_; refine Z1 ?_; refine Z1 ?_; refine Z2 ?_
   refine Z1 ?_; refine Z1 ?_; refine Zm ?_; refine Zn ?_; refine Zq ?_; refine Z0 ?_; refine JD ?_
   first | exact X1 ⟨_, St.le_refl _, ⟨rfl, trivial⟩, X3 _⟩ | exact X1 ⟨_, Xh 2 (y := ab false) (AVal.le_of_eq (by refine Eq.trans (b := ab (decide _)) rfl ?_; exact congrArg ab (by simp; omega))), ⟨rfl, trivial⟩, X3 _⟩ | fail
 rw [VM (by omega)]
 repeat first | refine X0 ?_ | (refine JR ?_; (repeat first | refine Z1 ?_ | refine Z0 ?_ | refine Z2 ?_ | refine Zq ?_ | refine Zo ?_); refine JD ?_)
 first | exact X1 ⟨_, St.le_refl _, ⟨rfl, trivial⟩, X3 _⟩ | exact X1 ⟨_, Xh 2 (y := ab false) (AVal.le_of_eq (by refine Eq.trans (b := ab (decide _)) rfl ?_; exact congrArg ab (by simp; omega))), ⟨rfl, trivial⟩, X3 _⟩ | fail
theorem X5S {s : List UInt8} (h : s = []) : XG s = false := by subst h; rfl
theorem X6N {s : List UInt8} (h : 20 < s.length) : XG s = false := by unfold XG; rw [decide_eq_false (by omega)]; rfl
theorem X3h {s : List UInt8} {c : UInt8} (hc : s[0]? = some c) (h : U6 c = false) : XG s = false := by unfold XG; rw [hc, Option.getD_some, h]; simp
theorem X1f {s : List UInt8} {c : UInt8} {i : Nat} (hc : s[i]? = some c) (h : XZ c = false) : XG s = false := by
 unfold XG
 rw [show s.all XZ = false by rw [List.all_eq_false]; exact ⟨c, List.mem_of_getElem? hc, by simp [h]⟩]
 simp
theorem X5x {s : List UInt8} {c : UInt8} (hc : s[0]? = some c) (h : U6 c = true) (h20 : ¬ 20 < s.length) (hall : ∀ j, j < s.length → ∃ b, s[j]? = some b ∧ XZ b = true) : XG s = true := by
 have hl := (List.getElem?_eq_some_iff.1 hc).1
 unfold XG
 rw [hc, Option.getD_some, h, decide_eq_true (by omega)]
 simp only [Bool.true_and, List.all_eq_true]
 intro b hb
 obtain ⟨j, hj⟩ := List.getElem?_of_mem hb
 obtain ⟨b', h1, h2⟩ := hall j (List.getElem?_eq_some_iff.1 hj).1
 rw [hj] at h1
 obtain rfl := Option.some.inj h1
 exact h2
theorem VX {s : List UInt8} {i : Nat} {c : UInt8} (hc : s[i]? = some c) (h : XZ c = true) (hall : ∀ j, j < i → ∃ b, s[j]? = some b ∧ XZ b = true) : ∀ j, j < i + 1 → ∃ b, s[j]? = some b ∧ XZ b = true := fun j hj => by
 by_cases e : j = i
 ·subst e; exact ⟨c, hc, h⟩
 ·exact hall j (by omega)
theorem X2E (s : List UInt8) : Con Tryz.prog 98 [] [.d (.v (.string (X5 s)))] [] (ab (XG s)) := by
 refine X9 (xs := [ab (XG s)]) Tryz.func98 rfl Tryz.ntmps98 rfl rfl rfl (fun E => ?_)
 have hsz : (X5 s).size = s.length := rfl
 by_cases h0 : s = []
 ·rw [X5S h0]
  subst h0
  repeat first | refine X0 ?_ | (refine JR ?_; (repeat first | refine Z1 ?_ | refine Z0 ?_ | refine Zr ?_ | refine Zn ?_ | refine Zo ?_); refine JD ?_) | refine JT ?_
  exact X1 ⟨_, St.le_refl _, ⟨rfl, trivial⟩, X3 _⟩
 by_cases h20 : 20 < s.length
 ·rw [X6N h20]
  have h20' : (20 : Int) < (X5 s).size := by omega
  refine X0 ?_; refine JR ?_; refine Z0 ?_; refine JD ?_; refine X0 ?_; refine X0 ?_; refine JR ?_; refine Z1 ?_; refine Zr ?_; refine Z1 ?_; refine Z1 ?_; refine Zc ?_; refine Zs ?_; refine Zq ?_
  refine Z1 ?_; refine Zo ?_; refine Zo ?_; refine Zo ?_; refine Zo ?_; refine Zn ?_; refine JD ?_; refine JT ?_; refine X0 ?_; refine JR ?_; refine Z0 ?_; refine JD ?_
  exact X1 ⟨_, St.le_refl _, ⟨rfl, trivial⟩, X3 _⟩
 have h20' : ¬ (20 : Int) < (X5 s).size := by omega
 obtain ⟨c, hc⟩ := Xu (l := s) (k := 0) (by cases s with | nil => exact absurd rfl h0 | cons => simp)
 have hl := X95 c
 cases hlc : U6 c with
 | false =>
  rw [X3h hc hlc]
  rw [hlc] at hl
  refine X0 ?_; refine JR ?_; refine Z0 ?_; refine JD ?_; refine X0 ?_; refine X0 ?_; refine JR ?_; refine Z1 ?_; refine Zr ?_; refine Z1 ?_; refine Z1 ?_; refine Zc ?_; refine Zs ?_; refine Zq ?_
  refine Z1 ?_; refine Z1 ?_; refine Zt ?_; refine Z9 (hcon := hl) ?_; refine Zu ?_; refine Zq ?_; refine JD ?_; refine JT ?_; refine X0 ?_; refine JR ?_; refine Z0 ?_; refine JD ?_
  exact X1 ⟨_, St.le_refl _, ⟨rfl, trivial⟩, X3 _⟩
 | true =>
  rw [hlc] at hl
  refine X0 ?_; refine JR ?_; refine Z0 ?_; refine JD ?_; refine X0 ?_; refine X0 ?_; refine JR ?_; refine Z1 ?_; refine Zr ?_; refine Z1 ?_; refine Z1 ?_; refine Zc ?_; refine Zs ?_; refine Zq ?_
  refine Z1 ?_; refine Z1 ?_; refine Zt ?_; refine Z9 (hcon := hl) ?_; refine Zu ?_; refine Zq ?_; refine JD ?_; refine JF ?_; refine X2 ?_; refine X0 ?_; refine X0 ?_; refine JR ?_; refine Z1 ?_
  refine Zc ?_; refine Z1 ?_; refine JD ?_; refine X4 ?_
  refine Xy (fun i : Nat => i ≤ s.length ∧ ∀ j, j < i → ∃ b, s[j]? = some b ∧ XZ b = true) (fun i => ⟨46, [(0, .d (.v (.string (X5 s)))), (18, ai (X5 s).size), (19, ai i)], []⟩) (fun i => s.length - i) 0 ⟨by omega, fun j hj => by omega⟩
   (X8 rfl ⟨JL, JL, JL, trivial⟩ trivial) ?_
  rintro i ⟨hi, hall⟩
  by_cases hil : i < s.length
  case neg =>
   obtain rfl : i = s.length := by omega
   rw [X5x hc hlc h20 hall]
   have hn : ¬ ((s.length : Nat) : Int) < (X5 s).size := by omega
   refine X0 ?_; refine JR ?_; refine Z8 ?_; refine JD ?_; refine X0 ?_; refine JF ?_; refine Xj ?_; refine X0 ?_; refine JR ?_; refine Z0 ?_; refine JD ?_
   exact X1 ⟨_, St.le_refl _, ⟨rfl, trivial⟩, X3 _⟩
  have hn : (i : Int) < (X5 s).size := by omega
  clear hl hlc hc
  obtain ⟨c, hc⟩ := Xu (l := s) hil
  have hl := X95 c
  cases hlc : U6 c with
  | true =>
   rw [hlc] at hl
   have hnx := VX hc (show XZ c = true by unfold XZ; rw [hlc]; rfl) hall
   repeat first | refine X0 ?_ | (refine JR ?_; (repeat first | refine Z1 ?_ | refine Z0 ?_ | refine Z8 ?_ | refine Zb ?_ | refine Zu ?_ | refine Zq ?_ | refine Zt ?_ | refine Zo ?_ | refine Zp ?_ | refine Z9 (hcon := hl) ?_); refine JD ?_) | refine JT ?_ | refine JF ?_ | refine X4 ?_ | refine X2 ?_
   exact ⟨i + 1, ⟨by omega, hnx⟩, by omega, X8 rfl ⟨JL, JL, JL, trivial⟩ trivial⟩
  | false =>
   rw [hlc] at hl
   by_cases g1 : 48 ≤ c.toNat
   ·by_cases g2 : c.toNat ≤ 57
    ·have hnx := VX hc (show XZ c = true by unfold XZ; rw [decide_eq_true (by omega)]; simp) hall
     repeat first | refine X0 ?_ | (refine JR ?_; (repeat first | refine Z1 ?_ | refine Z0 ?_ | refine Z8 ?_ | refine Zs ?_ | refine Zb ?_ | refine Zu ?_ | refine Zn ?_ | refine Zq ?_ | refine Zt ?_ | refine Zo ?_ | refine Z9 (hcon := hl) ?_); refine JD ?_) | refine JT ?_ | refine JF ?_ | refine X4 ?_ | refine X2 ?_
     exact ⟨i + 1, ⟨by omega, hnx⟩, by omega, X8 rfl ⟨JL, JL, JL, trivial⟩ trivial⟩
    by_cases g3 : c.toNat = 95
    ·have hnx := VX hc (show XZ c = true by unfold XZ; rw [decide_eq_true (by omega)]; simp) hall
     repeat first | refine X0 ?_ | (refine JR ?_; (repeat first | refine Z1 ?_ | refine Z0 ?_ | refine Z8 ?_ | refine Zs ?_ | refine Zv ?_ | refine Zb ?_ | refine Zu ?_ | refine Zn ?_ | refine Zq ?_ | refine Zt ?_ | refine Z9 (hcon := hl) ?_); refine JD ?_) | refine JT ?_ | refine JF ?_ | refine X4 ?_ | refine X2 ?_
     exact ⟨i + 1, ⟨by omega, hnx⟩, by omega, X8 rfl ⟨JL, JL, JL, trivial⟩ trivial⟩
    ·rw [X1f hc (show XZ c = false by unfold XZ; rw [hlc, decide_eq_false (by omega)]; rfl)]
     repeat first | refine X0 ?_ | (refine JR ?_; (repeat first | refine Z1 ?_ | refine Z0 ?_ | refine Z8 ?_ | refine Zs ?_ | refine Zv ?_ | refine Zu ?_ | refine Zn ?_ | refine Zq ?_ | refine Zt ?_ | refine Z9 (hcon := hl) ?_); refine JD ?_) | refine JT ?_ | refine X4 ?_ | refine X2 ?_
     exact X1 ⟨_, St.le_refl _, ⟨rfl, trivial⟩, X3 _⟩
   ·have g3 : ¬ c.toNat = 95 := by omega
    rw [X1f hc (show XZ c = false by unfold XZ; rw [hlc, decide_eq_false (by omega)]; rfl)]
    repeat first | refine X0 ?_ | (refine JR ?_; (repeat first | refine Z1 ?_ | refine Z0 ?_ | refine Z8 ?_ | refine Zv ?_ | refine Zu ?_ | refine Zn ?_ | refine Zt ?_ | refine Zo ?_ | refine Z9 (hcon := hl) ?_); refine JD ?_) | refine JT ?_ | refine X4 ?_ | refine X2 ?_
    exact X1 ⟨_, St.le_refl _, ⟨rfl, trivial⟩, X3 _⟩
end Go.Fw
namespace Go.Fw
open Go Go.Proofs
set_option maxRecDepth 100000
set_option linter.unusedVariables false
set_option linter.unusedSimpArgs false
def UI (k : Int) : Bool × Bool × Bool × Bool := (V2 k, decide (k = 3 ∨ k = 5 ∨ k = 7), decide (k = 6), decide (1 ≤ k ∧ k ≤ 7))
theorem Xcs (op : Int) : Con Tryz.prog 123 [] [ai op] [] (.tup [.agg [ab (UI op).1, ab (UI op).2.1, ab (UI op).2.2.1], ab (UI op).2.2.2]) := by
 refine X9 (xs := [.agg [ab (UI op).1, ab (UI op).2.1, ab (UI op).2.2.1], ab (UI op).2.2.2]) Tryz.func123 rfl Tryz.ntmps123 rfl rfl rfl (fun E => ?_)
 by_cases k1 : op = 1
 ·subst k1
  refine X0 ?_; refine JR ?_; refine Zw (γ := 100) ?_; refine Z0 ?_; refine JD ?_; refine X0 ?_; refine X0 ?_; refine JR ?_; refine Z1 ?_; refine JD ?_; refine X4 ?_; refine X0 ?_
  refine X0 ?_; refine JR ?_; refine Zl ?_; refine Z0 ?_; refine JD ?_; refine JT ?_; refine X2 ?_; refine JT ?_; refine X0 ?_; refine JR ?_; refine Zx ?_; refine Zy ?_; refine Z0 ?_; refine JD ?_
  exact X1 ⟨_, St.le_refl _, ⟨⟨100, 0, _, rfl, rfl, .inr ⟨3, _, rfl, rfl, rfl, rfl⟩⟩, rfl, trivial⟩, X3 _⟩
 by_cases k2 : op = 2
 ·subst k2
  refine X0 ?_; refine JR ?_; refine Zw (γ := 100) ?_; refine Z0 ?_; refine JD ?_; refine X0 ?_; refine X0 ?_; refine JR ?_; refine Z1 ?_; refine JD ?_; refine X4 ?_; refine X0 ?_
  refine X0 ?_; refine JR ?_; refine Zl ?_; refine Z0 ?_; refine JD ?_; refine JF ?_; refine X0 ?_; refine JR ?_; refine Zl ?_; refine Z0 ?_; refine JD ?_; refine JT ?_; refine X2 ?_; refine JT ?_
  refine X0 ?_; refine JR ?_; refine Zx ?_; refine Zy ?_; refine Z0 ?_; refine JD ?_
  exact X1 ⟨_, St.le_refl _, ⟨⟨100, 0, _, rfl, rfl, .inr ⟨3, _, rfl, rfl, rfl, rfl⟩⟩, rfl, trivial⟩, X3 _⟩
 by_cases k4 : op = 4
 ·subst k4
  repeat first | refine X0 ?_ | (refine JR ?_; (repeat first | refine Z1 ?_ | refine Z0 ?_ | refine Zl ?_ | refine Zw (γ := 100) ?_ | refine Zy ?_ | refine Zx ?_); refine JD ?_) | refine JT ?_ | refine JF ?_ | refine X4 ?_
  exact X1 ⟨_, St.le_refl _, ⟨⟨100, 0, _, rfl, rfl, .inr ⟨3, _, rfl, rfl, rfl, rfl⟩⟩, rfl, trivial⟩, X3 _⟩
 by_cases k3 : op = 3
 ·subst k3
  repeat first | refine X0 ?_ | (refine JR ?_; (repeat first | refine Z1 ?_ | refine Z0 ?_ | refine Zl ?_ | refine Zw (γ := 100) ?_ | refine Zy ?_ | refine Zx ?_); refine JD ?_) | refine JT ?_ | refine JF ?_ | refine X4 ?_ | refine X2 ?_
  exact X1 ⟨_, St.le_refl _, ⟨⟨100, 0, _, rfl, rfl, .inr ⟨3, _, rfl, rfl, rfl, rfl⟩⟩, rfl, trivial⟩, X3 _⟩
 by_cases k5 : op = 5
 ·subst k5
  repeat first | refine X0 ?_ | (refine JR ?_; (repeat first | refine Z1 ?_ | refine Z0 ?_ | refine Zl ?_ | refine Zw (γ := 100) ?_ | refine Zy ?_ | refine Zx ?_); refine JD ?_) | refine JT ?_ | refine JF ?_ | refine X4 ?_
  exact X1 ⟨_, St.le_refl _, ⟨⟨100, 0, _, rfl, rfl, .inr ⟨3, _, rfl, rfl, rfl, rfl⟩⟩, rfl, trivial⟩, X3 _⟩
 by_cases k6 : op = 6
 ·subst k6
  repeat first | refine X0 ?_ | (refine JR ?_; (repeat first | refine Z1 ?_ | refine Z0 ?_ | refine Zl ?_ | refine Zw (γ := 100) ?_ | refine Zy ?_ | refine Zx ?_); refine JD ?_) | refine JT ?_ | refine JF ?_ | refine X4 ?_
  exact X1 ⟨_, St.le_refl _, ⟨⟨100, 0, _, rfl, rfl, .inr ⟨3, _, rfl, rfl, rfl, rfl⟩⟩, rfl, trivial⟩, X3 _⟩
 by_cases k7 : op = 7
 ·subst k7
  repeat first | refine X0 ?_ | (refine JR ?_; (repeat first | refine Z1 ?_ | refine Z0 ?_ | refine Zl ?_ | refine Zw (γ := 100) ?_ | refine Zy ?_ | refine Zx ?_); refine JD ?_) | refine JT ?_ | refine JF ?_ | refine X4 ?_
  exact X1 ⟨_, St.le_refl _, ⟨⟨100, 0, _, rfl, rfl, .inr ⟨3, _, rfl, rfl, rfl, rfl⟩⟩, rfl, trivial⟩, X3 _⟩
 rw [show UI op = (false, false, false, false) by unfold UI V2; rw [decide_eq_false (by omega), decide_eq_false (by omega), decide_eq_false (by omega), decide_eq_false (by omega)]]
 repeat first | refine X0 ?_ | (refine JR ?_; (repeat first | refine Z1 ?_ | refine Z0 ?_ | refine Zl ?_ | refine Zw (γ := 100) ?_ | refine Zy ?_ | refine Zx ?_); refine JD ?_) | refine JF ?_ | refine X4 ?_ | refine X2 ?_
 exact X1 ⟨_, St.le_refl _, ⟨⟨100, 0, _, rfl, rfl, .inr ⟨3, _, rfl, rfl, rfl, rfl⟩⟩, rfl, trivial⟩, X3 _⟩
end Go.Fw
namespace Go.Fw
open Go Go.Proofs
set_option maxRecDepth 100000
set_option linter.unusedVariables false
set_option linter.unusedSimpArgs false
abbrev nj (n : Nat) : Value := .int .i64 n
def inV (n : Int) : Bool := decide (-1000000000000000 ≤ n ∧ n ≤ 1000000000000000)
theorem X3a (n : Int) : Con Tryz.prog 225 [] [ai n] [] (ab (inV n)) := by
 refine X9 (xs := [ab (inV n)]) Tryz.func225 rfl Tryz.ntmps225 rfl rfl rfl (fun E => ?_)
 by_cases h1 : -1000000000000000 ≤ n
 ·by_cases h2 : n ≤ 1000000000000000
  ·rw [show inV n = true by simp [inV, h1, h2]]
   refine X0 ?_; refine JR ?_; refine Z0 ?_; refine JD ?_; refine X0 ?_; refine JR ?_; refine Z1 ?_; refine Z2 ?_; refine Z1 ?_; refine Z1 ?_; refine Zm ?_; refine Zn ?_; refine Z0 ?_; refine JD ?_
   exact X1 ⟨_, Xh 2 (y := ab true) (AVal.le_of_eq (by refine Eq.trans (b := ab (decide (n ≤ 1000000000000000))) rfl ?_; rw [decide_eq_true h2])), ⟨rfl, trivial⟩, X3 _⟩
  ·rw [show inV n = false by simp [inV, h2]]
   refine X0 ?_; refine JR ?_; refine Z0 ?_; refine JD ?_; refine X0 ?_; refine JR ?_; refine Z1 ?_; refine Z2 ?_; refine Z1 ?_; refine Z1 ?_; refine Zm ?_; refine Zn ?_; refine Z0 ?_; refine JD ?_
   exact X1 ⟨_, Xh 2 (y := ab false) (AVal.le_of_eq (by refine Eq.trans (b := ab (decide (n ≤ 1000000000000000))) rfl ?_; rw [decide_eq_false h2])), ⟨rfl, trivial⟩, X3 _⟩
 ·rw [show inV n = false by simp [inV, h1]]
  refine X0 ?_; refine JR ?_; refine Z0 ?_; refine JD ?_; refine X0 ?_; refine JR ?_; refine Z1 ?_; refine Z2 ?_; refine Z1 ?_; refine Zo ?_; refine Zo ?_; refine Zq ?_; refine Z0 ?_; refine JD ?_
  exact X1 ⟨_, Xh 2 (y := ab false) (AVal.le_refl _), ⟨rfl, trivial⟩, X3 _⟩
theorem Xf9 (n : Int) : Con Tryz.prog 200 [] [ai n] [] (ab (inV n)) := by
 refine X9 (xs := [ab (inV n)]) Tryz.func200 rfl Tryz.ntmps200 rfl rfl rfl (fun E => ?_)
 by_cases h1 : -1000000000000000 ≤ n
 ·by_cases h2 : n ≤ 1000000000000000
  ·rw [show inV n = true by simp [inV, h1, h2]]
   refine X0 ?_; refine JR ?_; refine Z0 ?_; refine JD ?_; refine X0 ?_; refine JR ?_; refine Z1 ?_; refine Z2 ?_; refine Z1 ?_; refine Z1 ?_; refine Zm ?_; refine Zn ?_; refine Z0 ?_; refine JD ?_
   exact X1 ⟨_, Xh 2 (y := ab true) (AVal.le_of_eq (by refine Eq.trans (b := ab (decide (n ≤ 1000000000000000))) rfl ?_; rw [decide_eq_true h2])), ⟨rfl, trivial⟩, X3 _⟩
  ·rw [show inV n = false by simp [inV, h2]]
   refine X0 ?_; refine JR ?_; refine Z0 ?_; refine JD ?_; refine X0 ?_; refine JR ?_; refine Z1 ?_; refine Z2 ?_; refine Z1 ?_; refine Z1 ?_; refine Zm ?_; refine Zn ?_; refine Z0 ?_; refine JD ?_
   exact X1 ⟨_, Xh 2 (y := ab false) (AVal.le_of_eq (by refine Eq.trans (b := ab (decide (n ≤ 1000000000000000))) rfl ?_; rw [decide_eq_false h2])), ⟨rfl, trivial⟩, X3 _⟩
 ·rw [show inV n = false by simp [inV, h1]]
  refine X0 ?_; refine JR ?_; refine Z0 ?_; refine JD ?_; refine X0 ?_; refine JR ?_; refine Z1 ?_; refine Z2 ?_; refine Z1 ?_; refine Zo ?_; refine Zo ?_; refine Zq ?_; refine Z0 ?_; refine JD ?_
  exact X1 ⟨_, Xh 2 (y := ab false) (AVal.le_refl _), ⟨rfl, trivial⟩, X3 _⟩
theorem X8r (n : Int) (h : -1000000000000000 ≤ n ∧ n ≤ 1000000000000000) : Con Tryz.prog 251 [] [ai n] [] (ai (n.natAbs : Nat)) := by
 refine X9 (xs := [ai (n.natAbs : Nat)]) Tryz.func251 rfl Tryz.ntmps251 rfl rfl rfl (fun E => ?_)
 refine X0 ?_; refine JR ?_; refine Z0 ?_; refine JD ?_; refine X0 ?_; refine JR ?_; refine Z1 ?_; refine Z1 ?_; refine Zu ?_; refine Zz ?_; refine Z0 ?_; refine JD ?_
 exact X1 ⟨_, Xh 2 (y := ai (n.natAbs : Nat)) (AVal.le_of_eq (by refine Eq.trans (b := ai (max n (-n))) rfl ?_; congr 3; omega)), ⟨rfl, trivial⟩, X3 _⟩
theorem X6Y (n : Int) (h : -1000000000000000 ≤ n ∧ n ≤ 1000000000000000) : Con Tryz.prog 145 [] [ai n] [] (ai (n.natAbs : Nat)) := by
 refine X9 (xs := [ai (n.natAbs : Nat)]) Tryz.func145 rfl Tryz.ntmps145 rfl rfl rfl (fun E => ?_)
 by_cases h0 : n < 0
 ·refine X0 ?_; refine JR ?_; refine Z0 ?_; refine JD ?_; refine X0 ?_; refine X0 ?_; refine JR ?_; refine Z1 ?_; refine Z8 ?_; refine JD ?_; refine JT ?_; refine X0 ?_; refine JR ?_; refine Z1 ?_
  refine Zu ?_; refine Z0 ?_; refine JD ?_
  exact X1 ⟨_, Xh 2 (y := ai (n.natAbs : Nat)) (AVal.le_of_eq (by refine Eq.trans (b := ai (-n)) rfl ?_; congr 3; omega)), ⟨rfl, trivial⟩, X3 _⟩
 ·refine X0 ?_; refine JR ?_; refine Z0 ?_; refine JD ?_; refine X0 ?_; refine X0 ?_; refine JR ?_; refine Z1 ?_; refine Z8 ?_; refine JD ?_; refine JF ?_; refine X2 ?_; refine X0 ?_; refine JR ?_
  refine Z1 ?_; refine Z0 ?_; refine JD ?_
  exact X1 ⟨_, Xh 2 (y := ai (n.natAbs : Nat)) (AVal.le_of_eq (by refine Eq.trans (b := ai n) rfl ?_; congr 3; omega)), ⟨rfl, trivial⟩, X3 _⟩
theorem Xdn (a b : Int) (ha : -1000000000000000 ≤ a ∧ a ≤ 1000000000000000) (hb : -1000000000000000 ≤ b ∧ b ≤ 1000000000000000) : Con Tryz.prog 244 [] [ai a, ai b] [] (ai (Nat.gcd a.natAbs b.natAbs : Nat)) := by
 refine X9 (xs := [ai (Nat.gcd a.natAbs b.natAbs : Nat)]) Tryz.func244 rfl Tryz.ntmps244 rfl rfl rfl (fun E => ?_)
 have h1 : Con Tryz.prog 225 [] [ai a] [] (ab true) := by
  have h := X3a a
  rwa [show inV a = true by simpa [inV] using ha] at h
 have h2 : Con Tryz.prog 225 [] [ai b] [] (ab true) := by
  have h := X3a b
  rwa [show inV b = true by simpa [inV] using hb] at h
 refine X0 ?_; refine JR ?_; refine Z0 ?_; refine JD ?_; refine X0 ?_; refine X0 ?_; refine JR ?_; refine Z1 ?_; refine Z9 (hcon := h1) ?_; refine Zu ?_; refine Z1 ?_; refine Z1 ?_
 refine Z9 (hcon := h2) ?_; refine Zu ?_; refine Zq ?_; refine JD ?_; refine JF ?_; refine X2 ?_; refine X0 ?_; refine JR ?_; refine Z1 ?_; refine Z9 (hcon := X8r a ha) ?_; refine Z1 ?_
 refine Z9 (hcon := X8r b hb) ?_; refine Z0 ?_; refine Z0 ?_; refine JD ?_; refine X0 ?_; refine X4 ?_
 refine Xy (ι := Nat × Nat) (fun i => Nat.gcd i.1 i.2 = Nat.gcd a.natAbs b.natAbs) (fun i => ⟨24, [(0, ai i.1), (1, ai i.2)], []⟩) (fun i => i.2) (a.natAbs, b.natAbs) rfl
  (X8 rfl ⟨JL, JL, trivial⟩ trivial) ?_
 rintro ⟨x, y⟩ hg
 simp only at hg
 by_cases hy : y = 0
 ·subst hy
  rw [← hg, Nat.gcd_zero_right]
  refine X0 ?_; refine X0 ?_; refine JR ?_; refine Z1 ?_; refine Zv ?_; refine JD ?_; refine JF ?_; refine Xj ?_; refine X0 ?_; refine JR ?_; refine Z1 ?_; refine Z0 ?_; refine JD ?_
  exact X1 ⟨_, St.le_refl _, ⟨rfl, trivial⟩, X3 _⟩
 ·have hy' : ¬ ((y : Int) = 0) := by omega
  refine X0 ?_; refine X0 ?_; refine JR ?_; refine Z1 ?_; refine Zv ?_; refine JD ?_; refine JT ?_; refine X2 ?_; refine X4 ?_; refine JR ?_; refine Z1 ?_; refine Z1 ?_; refine Z1 ?_
  refine Z7 (op := .rem) (r' := nj (x % y)) (u := nj x) (v := nj y) ?_ (hr := by exact YG hy); refine Z0 ?_; refine Z0 ?_; refine JD ?_
  exact ⟨(y, x % y), by simp only; rw [← hg, Nat.gcd_comm x y, Nat.gcd_rec y x, Nat.gcd_comm], Nat.mod_lt _ (by omega), X8 rfl ⟨JL, JL, trivial⟩ trivial⟩
theorem Xf5 (x y : Nat) (hx : x ≤ 1000000000000000) (hy : y ≤ 1000000000000000) : Con Tryz.prog 204 [] [ai x, ai y] [] (ai (Nat.gcd x y : Nat)) := by
 refine X9 (xs := [ai (Nat.gcd x y : Nat)]) Tryz.func204 rfl Tryz.ntmps204 rfl rfl rfl (fun E => ?_)
 refine X0 ?_; refine JR ?_; refine Z0 ?_; refine JD ?_; refine X0 ?_; refine X4 ?_
 generalize hG : Nat.gcd x y = G
 refine Xy (ι := Nat × Nat) (fun i => Nat.gcd i.1 i.2 = G) (fun i => ⟨12, [(0, ai i.1), (1, ai i.2)], []⟩) (fun i => i.2) (x, y) hG
  (X8 rfl ⟨JL, JL, trivial⟩ trivial) ?_
 rintro ⟨x, y⟩ hg
 simp only at hg
 by_cases hy : y = 0
 ·subst hy
  rw [← hg, Nat.gcd_zero_right]
  refine X0 ?_; refine X0 ?_; refine JR ?_; refine Z1 ?_; refine Zs ?_; refine JD ?_; refine JF ?_; refine Xj ?_; refine X0 ?_; refine JR ?_; refine Z1 ?_; refine Z0 ?_; refine JD ?_
  exact X1 ⟨_, St.le_refl _, ⟨rfl, trivial⟩, X3 _⟩
 ·have hy' : (0 : Int) < y := by omega
  refine X0 ?_; refine X0 ?_; refine JR ?_; refine Z1 ?_; refine Zs ?_; refine JD ?_; refine JT ?_; refine X2 ?_; refine X4 ?_; refine JR ?_; refine Z1 ?_; refine Z1 ?_; refine Z1 ?_
  refine Z7 (op := .rem) (r' := nj (x % y)) (u := nj x) (v := nj y) ?_ (hr := by exact YG hy); refine Z0 ?_; refine Z0 ?_; refine JD ?_
  exact ⟨(y, x % y), by simp only; rw [← hg, Nat.gcd_comm x y, Nat.gcd_rec y x, Nat.gcd_comm], Nat.mod_lt _ (by omega), X8 rfl ⟨JL, JL, trivial⟩ trivial⟩
abbrev X2f (n d : Int) : AVal := .agg [ai n, ai d]
theorem X1Y {n d : Int} (h : ¬ (1 ≤ d ∧ d ≤ 1000000000000000 ∧ -1000000000000000 ≤ n ∧ n ≤ 1000000000000000)) : V6 n d = false := by simp only [V6, decide_eq_false h, Bool.false_and]
theorem XaQ {n d : Int} (h : 1 ≤ d ∧ d ≤ 1000000000000000 ∧ -1000000000000000 ≤ n ∧ n ≤ 1000000000000000) : V6 n d = decide (Nat.gcd n.natAbs d.natAbs = 1) := by simp only [V6, decide_eq_true h, Bool.true_and]
theorem Xgp (n d : Int) : Con Tryz.prog 226 [] [X2f n d] [] (ab (V6 n d)) := by
 refine X9 (xs := [ab (V6 n d)]) Tryz.func226 rfl Tryz.ntmps226 rfl rfl rfl (fun E => ?_)
 by_cases h1 : 1 ≤ d
 case neg =>
  rw [X1Y (by omega)]
  repeat first | refine X0 ?_ | (refine JR ?_; (repeat first | refine Z1 ?_ | refine Z0 ?_ | refine ZB ?_ | refine ZC ?_ | refine Z2 ?_ | refine ZA (γ := 100) ?_ | refine Zq ?_ | refine Zo ?_); refine JD ?_)
  exact X1 ⟨_, St.le_refl _, ⟨rfl, trivial⟩, X3 _⟩
 by_cases h2 : d ≤ 1000000000000000
 case neg =>
  rw [X1Y (by omega)]
  refine X0 ?_; refine JR ?_; refine ZA (γ := 100) ?_; refine Z0 ?_; refine JD ?_; refine X0 ?_; refine JR ?_; refine ZB ?_; refine ZC ?_; refine Z2 ?_; refine Z1 ?_; refine ZB ?_; refine ZC ?_; refine Zm ?_
  refine Zn ?_; refine Z1 ?_; refine Zo ?_; refine Zo ?_; refine Zo ?_; refine Zq ?_; refine Z1 ?_; refine Zo ?_; refine Zo ?_; refine Zo ?_; refine Zo ?_; refine Zo ?_; refine Zo ?_; refine Zq ?_; refine Z0 ?_
  refine JD ?_
  exact X1 ⟨_, St.le_refl _, ⟨rfl, trivial⟩, X3 _⟩
 by_cases h3 : -1000000000000000 ≤ n ∧ n ≤ 1000000000000000
 case neg =>
  rw [X1Y (by omega)]
  have hin : Con Tryz.prog 225 [] [ai n] [] (ab false) := by
   have h := X3a n
   rwa [show inV n = false by simpa [inV] using h3] at h
  refine X0 ?_; refine JR ?_; refine ZA (γ := 100) ?_; refine Z0 ?_; refine JD ?_; refine X0 ?_; refine JR ?_; refine ZB ?_; refine ZC ?_; refine Z2 ?_; refine Z1 ?_; refine ZB ?_; refine ZC ?_; refine Zm ?_
  refine Zn ?_; refine Z1 ?_; refine ZB ?_; refine ZC ?_; refine Z9 (hcon := hin) ?_; refine Zn ?_; refine Z1 ?_; refine Zo ?_; refine Zo ?_; refine Zo ?_; refine Zo ?_; refine Zo ?_; refine Zo ?_; refine Zq ?_
  refine Z0 ?_; refine JD ?_
  exact X1 ⟨_, St.le_refl _, ⟨rfl, trivial⟩, X3 _⟩
 rw [XaQ (by omega)]
 have hin : Con Tryz.prog 225 [] [ai n] [] (ab true) := by
  have h := X3a n
  rwa [show inV n = true by simpa [inV] using h3] at h
 refine X0 ?_; refine JR ?_; refine ZA (γ := 100) ?_; refine Z0 ?_; refine JD ?_; refine X0 ?_; refine JR ?_; refine ZB ?_; refine ZC ?_; refine Z2 ?_; refine Z1 ?_; refine ZB ?_; refine ZC ?_; refine Zm ?_
 refine Zn ?_; refine Z1 ?_; refine ZB ?_; refine ZC ?_; refine Z9 (hcon := hin) ?_; refine Zn ?_; refine Z1 ?_; refine ZB ?_; refine ZC ?_; refine ZB ?_; refine ZC ?_; refine Z9 (hcon := Xdn n d h3 (by omega)) ?_
 refine Zl ?_; refine Zn ?_; refine Z0 ?_; refine JD ?_
 exact X1 ⟨_, Xh 2 (y := ab (decide (Nat.gcd n.natAbs d.natAbs = 1))) (AVal.le_of_eq (by refine Eq.trans (b := ab (decide (((Nat.gcd n.natAbs d.natAbs : Nat) : Int) = 1))) rfl ?_; exact congrArg ab (decide_eq_decide.2 (by omega)))), ⟨rfl, trivial⟩, X3 _⟩
theorem X9x (n d : Int) : Con Tryz.prog 141 [] [X2f n d] [] (ab (V6 n d)) := by
 refine X9 (xs := [ab (V6 n d)]) Tryz.func141 rfl Tryz.ntmps141 rfl rfl rfl (fun E => ?_)
 by_cases h1 : 1 ≤ d
 case neg =>
  rw [X1Y (by omega)]
  repeat first | refine X0 ?_ | (refine JR ?_; (repeat first | refine Z1 ?_ | refine Z0 ?_ | refine ZB ?_ | refine ZC ?_ | refine Z2 ?_ | refine ZA (γ := 100) ?_ | refine Zq ?_ | refine Zo ?_); refine JD ?_)
  exact X1 ⟨_, St.le_refl _, ⟨rfl, trivial⟩, X3 _⟩
 by_cases h2 : d ≤ 1000000000000000
 case neg =>
  rw [X1Y (by omega)]
  repeat first | refine X0 ?_ | (refine JR ?_; (repeat first | refine Z1 ?_ | refine Z0 ?_ | refine ZB ?_ | refine ZC ?_ | refine Zm ?_ | refine Z2 ?_ | refine ZA (γ := 100) ?_ | refine Zn ?_ | refine Zq ?_ | refine Zo ?_); refine JD ?_)
  exact X1 ⟨_, St.le_refl _, ⟨rfl, trivial⟩, X3 _⟩
 by_cases h3 : -1000000000000000 ≤ n
 case neg =>
  rw [X1Y (by omega)]
  repeat first | refine X0 ?_ | (refine JR ?_; (repeat first | refine Z1 ?_ | refine Z0 ?_ | refine ZB ?_ | refine ZC ?_ | refine Zm ?_ | refine Z2 ?_ | refine ZA (γ := 100) ?_ | refine Zn ?_ | refine Zq ?_ | refine Zo ?_); refine JD ?_)
  exact X1 ⟨_, St.le_refl _, ⟨rfl, trivial⟩, X3 _⟩
 by_cases h4 : n ≤ 1000000000000000
 case neg =>
  rw [X1Y (by omega)]
  repeat first | refine X0 ?_ | (refine JR ?_; (repeat first | refine Z1 ?_ | refine Z0 ?_ | refine ZB ?_ | refine ZC ?_ | refine Zm ?_ | refine Z2 ?_ | refine ZA (γ := 100) ?_ | refine Zn ?_ | refine Zq ?_ | refine Zo ?_); refine JD ?_)
  exact X1 ⟨_, St.le_refl _, ⟨rfl, trivial⟩, X3 _⟩
 rw [XaQ (by omega)]
 obtain ⟨e, rfl⟩ : ∃ e : Nat, d = e := ⟨d.toNat, by omega⟩
 refine X0 ?_; refine JR ?_; refine ZA (γ := 100) ?_; refine Z0 ?_; refine JD ?_; refine X0 ?_; refine JR ?_; refine ZB ?_; refine ZC ?_; refine Z2 ?_; refine Z1 ?_; refine ZB ?_; refine ZC ?_; refine Zm ?_
 refine Zn ?_; refine Z1 ?_; refine ZB ?_; refine ZC ?_; refine Z2 ?_; refine Zn ?_; refine Z1 ?_; refine ZB ?_; refine ZC ?_; refine Zm ?_; refine Zn ?_; refine Z1 ?_; refine ZB ?_; refine ZC ?_
 refine Z9 (hcon := X6Y n ⟨h3, h4⟩) ?_; refine ZB ?_; refine ZC ?_; refine Z9 (hcon := Xf5 n.natAbs e (by omega) (by omega)) ?_; refine Zl ?_; refine Zn ?_; refine Z0 ?_; refine JD ?_
 exact X1 ⟨_, Xh 2 (y := ab (decide (Nat.gcd n.natAbs (e : Int).natAbs = 1))) (AVal.le_of_eq (by refine Eq.trans (b := ab (decide (((Nat.gcd n.natAbs e : Nat) : Int) = 1))) rfl ?_; exact congrArg ab (decide_eq_decide.2 (by rw [Int.natAbs_natCast]; omega)))), ⟨rfl, trivial⟩, X3 _⟩
end Go.Fw
namespace Go.Fw
open Go Go.Proofs
set_option maxRecDepth 100000
set_option linter.unusedVariables false
set_option linter.unusedSimpArgs false
abbrev X20 (l : List UInt8) : AVal := .d (.v (.string (X5 l)))
def okB (b : UInt8) : Bool := decide (32 ≤ b.toNat ∧ b.toNat ≤ 126)
def X04 (s : List UInt8) : Int := if US s then -1 else (s.takeWhile okB).length
theorem XaD {s : List UInt8} : (X04 s < 0) ↔ US s = true := by
 unfold X04
 cases US s <;> simp
theorem X90 {s : List UInt8} {p : Nat} (h : ∀ j, j < p → ∃ b, s[j]? = some b ∧ okB b = true) (hp : p = s.length) : US s = true := by
 unfold US
 rw [List.all_eq_true]
 intro x hx
 obtain ⟨i, hi⟩ := List.getElem?_of_mem hx
 obtain ⟨b, h1, h2⟩ := h i (by rw [hp]; exact (List.getElem?_eq_some_iff.1 hi).1)
 rw [hi] at h1; cases h1; exact h2
theorem XeK {s : List UInt8} {p : Nat} {c : UInt8} (h : ∀ j, j < p → ∃ b, s[j]? = some b ∧ okB b = true) (hc : s[p]? = some c) (hb : okB c = false) : X04 s = p := by
 have h1 : US s = false := by
  cases hs : US s with
  | false => rfl
  | true =>
   unfold US at hs
   rw [List.all_eq_true] at hs
   have := hs c (List.mem_of_getElem? hc)
   unfold okB at hb
   rw [hb] at this; simp at this
 unfold X04
 rw [h1, X49 s p h (fun b hb' => by rw [hc] at hb'; cases hb'; exact hb)]
 simp
theorem X7N (l : List UInt8) {p : Nat} {c : UInt8} (h : l[p]? = some c) (hp : p < (X5 l).size) : (X5 l)[p] = c := by
 have h1 := (List.getElem?_eq_some_iff.1 h).2
 exact h1
theorem Xex (c : Nat) (hc : c ≤ 2147483647) : Con Tryz.prog 228 [] [.d (.v (.int .i32 c))] [] (ab (!decide (32 ≤ c ∧ c ≤ 126))) := by
 refine X9 (xs := [ab (!decide (32 ≤ c ∧ c ≤ 126))]) Tryz.func228 rfl Tryz.ntmps228 rfl rfl rfl (fun E => ?_)
 by_cases h1 : c < 32
 ·rw [show (!decide (32 ≤ c ∧ c ≤ 126)) = true by simp; omega]
  refine X0 ?_; refine JR ?_; refine Z0 ?_; refine JD ?_; refine X0 ?_; refine JR ?_; refine Z1 ?_; refine Z8 ?_; refine Z1 ?_; refine Zo ?_; refine Zo ?_; refine Zn ?_; refine Z0 ?_; refine JD ?_
  exact X1 ⟨_, St.le_refl _, ⟨rfl, trivial⟩, X3 _⟩
 ·by_cases h2 : 126 < c
  ·rw [show (!decide (32 ≤ c ∧ c ≤ 126)) = true by simp; omega]
   refine X0 ?_; refine JR ?_; refine Z0 ?_; refine JD ?_; refine X0 ?_; refine JR ?_; refine Z1 ?_; refine Z8 ?_; refine Z1 ?_; refine Z1 ?_; refine Zs ?_; refine Zq ?_; refine Z0 ?_; refine JD ?_
   exact X1 ⟨_, Xh 2 (y := ab true) (AVal.le_of_eq (by refine Eq.trans (b := ab (decide (126 < (c : Int)))) rfl ?_; exact congrArg ab (decide_eq_true (by omega)))), ⟨rfl, trivial⟩, X3 _⟩
  ·rw [show (!decide (32 ≤ c ∧ c ≤ 126)) = false by simp; omega]
   refine X0 ?_; refine JR ?_; refine Z0 ?_; refine JD ?_; refine X0 ?_; refine JR ?_; refine Z1 ?_; refine Z8 ?_; refine Z1 ?_; refine Z1 ?_; refine Zs ?_; refine Zq ?_; refine Z0 ?_; refine JD ?_
   exact X1 ⟨_, Xh 2 (y := ab false) (AVal.le_of_eq (by refine Eq.trans (b := ab (decide (126 < (c : Int)))) rfl ?_; exact congrArg ab (decide_eq_false (by omega)))), ⟨rfl, trivial⟩, X3 _⟩
theorem Xg7 (s : List UInt8) (hs : s.length ≤ 9223372036854775807) : Con Tryz.prog 245 [] [X20 s, .fn 228 [], ab true] [] (ai (X04 s)) := by
 refine X9 (xs := [ai (X04 s)]) Tryz.func245 rfl Tryz.ntmps245 rfl rfl rfl (fun E => ?_)
 have hsz : (X5 s).size = s.length := rfl
 refine X0 ?_; refine JR ?_; refine Z0 ?_; refine JD ?_; refine X0 ?_; refine X0 ?_; refine JR ?_; refine Z1 ?_; refine ZD (γ := 100) ?_; refine JD ?_; refine X4 ?_
 refine Xy (fun p : Nat => p ≤ s.length ∧ ∀ j, j < p → ∃ b, s[j]? = some b ∧ okB b = true) (fun p => ⟨21, [(1, .fn 228 []), (2, ab true), (10, .ptr 100 0)], [(100, .iter (X5 s) p)]⟩) (fun p => s.length - p) 0 ⟨by omega, fun j hj => by omega⟩
  (X8 rfl ⟨JL, JL, JL, trivial⟩ ⟨rfl, trivial⟩) ?_
 rintro p ⟨hp, hall⟩
 by_cases hlt : p < s.length
 ·obtain ⟨c, hc⟩ := Xu (l := s) hlt
  have hlt' : p < (X5 s).size := hlt
  have hget := X7N s hc hlt'
  have hr := Xex (Utf8.decode (X5 s) p).1 (decode_le _ _)
  have go : okB c = true → Utf8.decode (X5 s) p = (c.toNat, 1) := fun hok => decode_ascii _ _ hlt' (by unfold okB at hok; rw [decide_eq_true_eq] at hok; rw [hget]; omega) |>.trans (by rw [hget])
  cases hok : okB c with
  | true =>
   have hd := go hok
   rw [show (!decide (32 ≤ (Utf8.decode (X5 s) p).1 ∧ (Utf8.decode (X5 s) p).1 ≤ 126)) = false by rw [hd]; unfold okB at hok; simp only; rw [hok]; rfl] at hr
   refine X0 ?_; refine JR ?_; refine ZE ?_; refine ZF ?_; refine JD ?_; refine X0 ?_; refine JT ?_; refine X2 ?_; refine X4 ?_; refine X0 ?_; refine JR ?_; refine ZF ?_; refine ZF ?_
   refine Z0 ?_; refine Z0 ?_; refine JD ?_; refine X0 ?_; refine JR ?_; refine Z1 ?_; refine Z1 ?_; refine ZG (hcon := hr) ?_; refine Z1 ?_; refine ZH ?_; refine JD ?_; refine JF ?_; refine X2 ?_
   refine ⟨p + 1, ⟨by omega, fun j hj => ?_⟩, by omega, X8 rfl ⟨JL, JL, JL, trivial⟩ ⟨?_, trivial⟩⟩
   ·by_cases e : j = p
    ·subst e; exact ⟨c, hc, hok⟩
    ·exact hall j (by omega)
   ·refine Eq.trans (b := AObj.iter (X5 s) (p + (Utf8.decode (X5 s) p).2)) rfl ?_
    rw [hd]
  | false =>
   rw [XeK hall hc hok]
   have hbad : (!decide (32 ≤ (Utf8.decode (X5 s) p).1 ∧ (Utf8.decode (X5 s) p).1 ≤ 126)) = true := by
    by_cases ha : c.toNat < 128
    ·rw [decode_ascii _ _ hlt' (by rw [hget]; exact ha), hget]
     unfold okB at hok
     simp only; rw [hok]; rfl
    ·have := (decode_high (X5 s) p hlt' (by rw [hget]; omega)).1
     simp; omega
   rw [hbad] at hr
   refine X0 ?_; refine JR ?_; refine ZE ?_; refine ZF ?_; refine JD ?_; refine X0 ?_; refine JT ?_; refine X2 ?_; refine X4 ?_; refine X0 ?_; refine JR ?_; refine ZF ?_; refine ZF ?_
   refine Z0 ?_; refine Z0 ?_; refine JD ?_; refine X0 ?_; refine JR ?_; refine Z1 ?_; refine Z1 ?_; refine ZG (hcon := hr) ?_; refine Z1 ?_; refine ZH ?_; refine JD ?_; refine JT ?_; refine X0 ?_; refine JR ?_
   refine Z1 ?_; refine Z0 ?_; refine JD ?_
   exact X1 ⟨_, St.le_refl _, ⟨rfl, trivial⟩, X3 _⟩
 ·obtain rfl : p = s.length := by omega
  rw [show X04 s = -1 by unfold X04; rw [X90 hall rfl]; rfl]
  have hge : (X5 s).size ≤ s.length := Nat.le_refl _
  refine X0 ?_; refine JR ?_; refine ZI ?_; refine ZF ?_; refine JD ?_; refine X0 ?_; refine JF ?_; refine Xj ?_; refine X0 ?_; refine JR ?_; refine Z0 ?_; refine JD ?_
  exact X1 ⟨_, St.le_refl _, ⟨rfl, trivial⟩, X3 _⟩
theorem Xg9 (s : List UInt8) (hs : s.length ≤ 9223372036854775807) : Con Tryz.prog 227 [] [X20 s, .fn 228 []] [] (ai (X04 s)) := by
 refine X9 (xs := [ai (X04 s)]) Tryz.func227 rfl Tryz.ntmps227 rfl rfl rfl (fun E => ?_)
 refine X0 ?_; refine JR ?_; refine Z0 ?_; refine JD ?_; refine X0 ?_; refine JR ?_; refine Z1 ?_; refine Z1 ?_; refine Z9 (hcon := Xg7 s hs) ?_; refine Z0 ?_; refine JD ?_
 exact X1 ⟨_, St.le_refl _, ⟨rfl, trivial⟩, X3 _⟩
end Go.Fw
