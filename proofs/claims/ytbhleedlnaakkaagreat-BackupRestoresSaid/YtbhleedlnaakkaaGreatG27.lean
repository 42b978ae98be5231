/- PutStr, Sum. -/
import Derived.Test.YtbhleedlnaakkaaGreatG16
set_option maxHeartbeats 8000000
namespace Go.Fw
open Go Go.Proofs
set_option maxRecDepth 100000
set_option linter.unusedVariables false
set_option linter.unusedSimpArgs false
theorem X6h (b : List UInt8) : Con Tryz.prog 162 [] [.d (Xa b)] [] (ai (XT b)) := by
 refine X9 (xs := [ai (XT b)]) Tryz.func162 rfl Tryz.ntmps162 rfl rfl rfl (fun E => ?_)
 refine X0 ?_; refine JR ?_; refine Z0 ?_; refine JD ?_; refine X0 ?_; refine JR ?_; refine Z0 ?_; refine JD ?_; refine X0 ?_; refine X0 ?_; refine JR ?_; refine Z0 ?_; refine JD ?_
 refine X4 ?_
 refine Xy (fun i : Nat => i ≤ b.length) (fun i => ⟨34, [(0, .d (Xa b)), (3, X3G (Un b i)), (4, ai i)], []⟩) (fun i => b.length - i) 0 (by omega)
  (X8 rfl ⟨JL, JL, JL, trivial⟩ trivial) ?_
 intro i hi
 refine X9L 0 (sz := 1) (xs := b.map X6) rfl fun hbl => ?_
 rw [List.length_map] at hbl
 have hc := Xa9 b i
 by_cases hlt : i < b.length
 ·obtain ⟨x, hx⟩ := Xu hlt
  have hx8 := x.toNat_lt
  refine X0 ?_; refine X0 ?_; refine JR ?_; refine Z1 ?_; refine Z1 ?_; refine Zd ?_; refine Z8 ?_; refine JD ?_; refine JT ?_; refine X2 ?_; refine X0 ?_; refine X4 ?_; refine X0 ?_
  refine JR ?_; refine Z1 ?_; refine Z1 ?_; refine Z1 ?_; refine Zj ?_; refine Zk ?_; refine Z3 (u := n8 x.toNat) (r := n32 x.toNat) ?_ (hr := by exact Yu rfl rfl (by rw [UT]; omega))
  refine Z7 (op := .xor) (r' := n32 (Un b i ^^^ x.toNat)) (u := n32 (Un b i)) (v := n32 x.toNat) ?_ (hr := by exact X2U (by rw [UT]; omega) (by rw [UT]; omega)); refine Z0 ?_; refine JD ?_
  refine X0 ?_; refine JR ?_; refine Z0 ?_; refine JD ?_; refine X4 ?_
  refine Xy (fun k : Nat => k ≤ 8) (fun k => ⟨34, [(0, .d (Xa b)), (4, ai i), (3, X3G (X05 k (Un b i ^^^ x.toNat))), (5, ai k)], []⟩) (fun k => 8 - k) 0 (by omega)
   (X8 rfl ⟨JL, JL, JL, JL, trivial⟩ trivial) ?_
  intro k hk
  have hv := X3W (X6t hc x) k
  have hv1 : X05 (k + 1) (Un b i ^^^ x.toNat) = VD (X05 k (Un b i ^^^ x.toNat)) := rfl
  generalize hgv : X05 k (Un b i ^^^ x.toNat) = v at *
  by_cases hk8 : k < 8
  ·by_cases hodd : v % 2 = 1
   ·have hb : VD v = (v / 2) ^^^ 3988292384 := by unfold VD; rw [if_pos hodd]
    refine X0 ?_; refine X0 ?_; refine JR ?_; refine Z1 ?_; refine Z8 ?_; refine JD ?_; refine JT ?_; refine X2 ?_; refine X0 ?_; refine X4 ?_; refine X0 ?_; refine JR ?_; refine Z1 ?_
    refine Z7 (op := .rem) (r' := n32 (v % 2)) (u := n32 v) (v := n32 2) ?_ (hr := by exact YG (by omega)); refine Zl ?_; refine JD ?_; refine JT ?_; refine JR ?_; refine Z1 ?_
    refine Z7 (op := .quo) (r' := n32 (v / 2)) (u := n32 v) (v := n32 2) ?_ (hr := by exact UN (by omega) (by rw [UT]; omega))
    refine Z7 (op := .xor) (r' := n32 (v / 2 ^^^ 3988292384)) (u := n32 (v / 2)) (v := n32 3988292384) ?_ (hr := by exact X2U (by rw [UT]; omega) (by rw [UT]; omega)); refine Z0 ?_; refine JD ?_; refine JR ?_
    refine Z1 ?_; refine Zb ?_; refine Z0 ?_; refine JD ?_
    exact ⟨k + 1, by omega, by omega, X8 rfl ⟨JL, JL, (by rw [hv1, hb]; exact AVal.le_refl _), JL, trivial⟩ trivial⟩
   ·have hb : VD v = v / 2 := by unfold VD; rw [if_neg hodd]
    refine X0 ?_; refine X0 ?_; refine JR ?_; refine Z1 ?_; refine Z8 ?_; refine JD ?_; refine JT ?_; refine X2 ?_; refine X0 ?_; refine X4 ?_; refine X0 ?_; refine JR ?_; refine Z1 ?_
    refine Z7 (op := .rem) (r' := n32 (v % 2)) (u := n32 v) (v := n32 2) ?_ (hr := by exact YG (by omega)); refine Zl ?_; refine JD ?_; refine JF ?_; refine JR ?_; refine Z1 ?_
    refine Z7 (op := .quo) (r' := n32 (v / 2)) (u := n32 v) (v := n32 2) ?_ (hr := by exact UN (by omega) (by rw [UT]; omega)); refine Z0 ?_; refine JD ?_; refine JR ?_; refine Z1 ?_; refine Zb ?_; refine Z0 ?_
    refine JD ?_
    exact ⟨k + 1, by omega, by omega, X8 rfl ⟨JL, JL, (by rw [hv1, hb]; exact AVal.le_refl _), JL, trivial⟩ trivial⟩
  obtain rfl : k = 8 := by omega
  have hstep : Un b (i + 1) = v := by rw [X9N hx]; exact hgv
  refine X0 ?_; refine X0 ?_; refine JR ?_; refine Z1 ?_; refine Z8 ?_; refine JD ?_; refine JF ?_; refine Xj ?_; refine JR ?_; refine Z1 ?_; refine Zb ?_; refine Z0 ?_; refine JD ?_
  exact ⟨i + 1, by omega, by omega, X8 rfl ⟨JL, (by rw [hstep]; exact AVal.le_refl _), JL, trivial⟩ trivial⟩
 obtain rfl : i = b.length := by omega
 have hall := X9p b
 rw [hall] at hc
 rw [hall]
 have exor : X0K b ^^^ 4294967295 = XT b := by
  have h := BitVec.toNat_not (x := BitVec.ofNat 32 (X0K b))
  rw [← BitVec.allOnes_xor, BitVec.toNat_xor, BitVec.toNat_allOnes, BitVec.toNat_ofNat, Nat.mod_eq_of_lt hc] at h
  rw [Nat.xor_comm]; exact h
 refine X0 ?_; refine X0 ?_; refine JR ?_; refine Z1 ?_; refine Z1 ?_; refine Zd ?_; refine Z8 ?_; refine JD ?_; refine JF ?_; refine Xj ?_; refine X0 ?_; refine JR ?_; refine Z1 ?_
 refine Z4 (op := .xor) (r' := n32 (XT b)) (u := n32 (X0K b)) (v := n32 4294967295) ?_ (hr' := by exact congrArg n32 exor) (hr := by exact X2U (by rw [UT]; omega) (by rw [UT]; omega))
 refine Z3 (u := n32 (XT b)) (r := ni (XT b)) ?_ (hr := by exact Yu rfl rfl (by rw [Xx]; have := X1T b; omega)); refine Z0 ?_; refine JD ?_
 exact X1 ⟨_, St.le_refl _, ⟨rfl, trivial⟩, X3 _⟩
end Go.Fw
namespace Go.Fw
open Go Go.Proofs
set_option maxRecDepth 100000
set_option linter.unusedVariables false
set_option linter.unusedSimpArgs false
theorem Xbz (c : UInt8) : Con Tryz.prog 190 [] [au8 c.toNat] [] (ab (U6 c)) := by
 refine X9 (xs := [ab (U6 c)]) Tryz.func190 rfl Tryz.ntmps190 rfl rfl rfl (fun E => ?_)
 by_cases h1 : 97 ≤ c.toNat
 ·by_cases h2 : c.toNat ≤ 122
  ·rw [X13 (by omega)]
   refine X0 ?_; refine JR ?_; refine Z0 ?_; refine JD ?_; refine X0 ?_; refine JR ?_; refine Z1 ?_; refine Z2 ?_; refine Z1 ?_; refine Z1 ?_; refine Zm ?_; refine Zn ?_; refine Z1 ?_; refine Zo ?_; refine Zo ?_
   refine Zo ?_; refine Zp ?_; refine Zp ?_; refine Zo ?_; refine Zn ?_; refine Z0 ?_; refine JD ?_
   first | exact X1 ⟨_, St.le_refl _, ⟨rfl, trivial⟩, X3 _⟩ | exact X1 ⟨_, Xh 2 (y := ab true) (AVal.le_of_eq (by refine Eq.trans (b := ab (decide _)) rfl ?_; exact congrArg ab (by simp; omega))), ⟨rfl, trivial⟩, X3 _⟩ | fail
  ·rw [VM (by omega)]
   refine X0 ?_; refine JR ?_; refine Z0 ?_; refine JD ?_; refine X0 ?_; refine JR ?_; refine Z1 ?_; refine Z2 ?_; refine Z1 ?_; refine Z1 ?_; refine Zm ?_; refine Zn ?_; refine Z1 ?_; refine Z1 ?_; refine Z2 ?_
   refine Z1 ?_; refine Z1 ?_; refine Zm ?_; refine Zn ?_; refine Zq ?_; refine Z0 ?_; refine JD ?_
   first | exact X1 ⟨_, St.le_refl _, ⟨rfl, trivial⟩, X3 _⟩ | exact X1 ⟨_, Xh 2 (y := ab false) (AVal.le_of_eq (by refine Eq.trans (b := ab (decide _)) rfl ?_; exact congrArg ab (by simp; omega))), ⟨rfl, trivial⟩, X3 _⟩ | fail
 by_cases h3 : 65 ≤ c.toNat
 ·by_cases h4 : c.toNat ≤ 90
  ·rw [X13 (by omega)]
   refine X0 ?_; refine JR ?_; refine Z0 ?_; refine JD ?_; refine X0 ?_; refine JR ?_; refine Z1 ?_; refine Z2 ?_; refine Z1 ?_; refine Zo ?_; refine Zo ?_; refine Zq ?_; refine Z1 ?_; refine Z1 ?_; refine Z2 ?_
   refine Z1 ?_; refine Z1 ?_; refine Zm ?_; refine Zn ?_; refine Zq ?_; refine Z0 ?_; refine JD ?_
   first | exact X1 ⟨_, St.le_refl _, ⟨rfl, trivial⟩, X3 _⟩ | exact X1 ⟨_, Xh 2 (y := ab true) (AVal.le_of_eq (by refine Eq.trans (b := ab (decide _)) rfl ?_; exact congrArg ab (by simp; omega))), ⟨rfl, trivial⟩, X3 _⟩ | fail
  ·rw [VM (by omega)]
   refine X0 ?_; refine JR ?_; refine Z0 ?_; refine JD ?_; refine X0 ?_; refine JR ?_; refine Z1 ?_; refine Z2 ?_; refine Z1 ?_; refine Zo ?_; refine Zo ?_; refine Zq ?_; refine Z1 ?_; refine Z1 ?_; refine Z2 ?_
   refine Z1 ?_; refine Z1 ?_; refine Zm ?_; refine Zn ?_; refine Zq ?_; refine Z0 ?_; refine JD ?_
   first | exact X1 ⟨_, St.le_refl _, ⟨rfl, trivial⟩, X3 _⟩ | exact X1 ⟨_, Xh 2 (y := ab false) (AVal.le_of_eq (by refine Eq.trans (b := ab (decide _)) rfl ?_; exact congrArg ab (by simp; omega))), ⟨rfl, trivial⟩, X3 _⟩ | fail
 rw [VM (by omega)]
 repeat first | refine X0 ?_ | (refine JR ?_; (repeat first | refine Z1 ?_ | refine Z0 ?_ | refine Z2 ?_ | refine Zq ?_ | refine Zo ?_); refine JD ?_)
 first | exact X1 ⟨_, St.le_refl _, ⟨rfl, trivial⟩, X3 _⟩ | exact X1 ⟨_, Xh 2 (y := ab false) (AVal.le_of_eq (by refine Eq.trans (b := ab (decide _)) rfl ?_; exact congrArg ab (by simp; omega))), ⟨rfl, trivial⟩, X3 _⟩ | fail
end Go.Fw
namespace Go.Fw
open Go Go.Proofs
set_option maxRecDepth 100000
set_option linter.unusedVariables false
set_option linter.unusedSimpArgs false
theorem XaL (s : List UInt8) : Con Tryz.prog 133 [] [.d (.v (.string (X5 s)))] [] (ab (XG s)) := by
 refine X9 (xs := [ab (XG s)]) Tryz.func133 rfl Tryz.ntmps133 rfl rfl rfl (fun E => ?_)
 have hsz : (X5 s).size = s.length := rfl
 by_cases h0 : s.length < 1
 ·rw [X5S (List.eq_nil_of_length_eq_zero (by omega))]
  have h0' : ((X5 s).size : Int) < 1 := by omega
  repeat first | refine X0 ?_ | (refine JR ?_; (repeat first | refine Z1 ?_ | refine Z0 ?_ | refine Zc ?_ | refine Z8 ?_ | refine Zn ?_ | refine Zo ?_); refine JD ?_) | refine JT ?_
  exact X1 ⟨_, St.le_refl _, ⟨rfl, trivial⟩, X3 _⟩
 have h0' : ¬ ((X5 s).size : Int) < 1 := by omega
 by_cases h20 : 20 < s.length
 ·rw [X6N h20]
  have h20' : (20 : Int) < (X5 s).size := by omega
  refine X0 ?_; refine JR ?_; refine Z0 ?_; refine JD ?_; refine X0 ?_; refine X0 ?_; refine JR ?_; refine Z1 ?_; refine Zc ?_; refine Z8 ?_; refine Z1 ?_; refine Z1 ?_; refine Zc ?_; refine Zs ?_
  refine Zq ?_; refine Z1 ?_; refine Zo ?_; refine Zo ?_; refine Zo ?_; refine Zo ?_; refine Zn ?_; refine JD ?_; refine JT ?_; refine X0 ?_; refine JR ?_; refine Z0 ?_; refine JD ?_
  exact X1 ⟨_, St.le_refl _, ⟨rfl, trivial⟩, X3 _⟩
 have h20' : ¬ (20 : Int) < (X5 s).size := by omega
 obtain ⟨c, hc⟩ := Xu (l := s) (k := 0) (by omega)
 have hl := Xbz c
 cases hlc : U6 c with
 | false =>
  rw [X3h hc hlc]
  rw [hlc] at hl
  refine X0 ?_; refine JR ?_; refine Z0 ?_; refine JD ?_; refine X0 ?_; refine X0 ?_; refine JR ?_; refine Z1 ?_; refine Zc ?_; refine Z8 ?_; refine Z1 ?_; refine Z1 ?_; refine Zc ?_; refine Zs ?_
  refine Zq ?_; refine Z1 ?_; refine Z1 ?_; refine Zt ?_; refine Z9 (hcon := hl) ?_; refine Zu ?_; refine Zq ?_; refine JD ?_; refine JT ?_; refine X0 ?_; refine JR ?_; refine Z0 ?_; refine JD ?_
  exact X1 ⟨_, St.le_refl _, ⟨rfl, trivial⟩, X3 _⟩
 | true =>
  rw [hlc] at hl
  refine X0 ?_; refine JR ?_; refine Z0 ?_; refine JD ?_; refine X0 ?_; refine X0 ?_; refine JR ?_; refine Z1 ?_; refine Zc ?_; refine Z8 ?_; refine Z1 ?_; refine Z1 ?_; refine Zc ?_; refine Zs ?_
  refine Zq ?_; refine Z1 ?_; refine Z1 ?_; refine Zt ?_; refine Z9 (hcon := hl) ?_; refine Zu ?_; refine Zq ?_; refine JD ?_; refine JF ?_; refine X2 ?_; refine X0 ?_; refine X0 ?_; refine JR ?_
  refine Z0 ?_; refine JD ?_; refine X4 ?_
  refine Xy (fun i : Nat => 1 ≤ i ∧ i ≤ s.length ∧ ∀ j, j < i → ∃ b, s[j]? = some b ∧ XZ b = true) (fun i => ⟨47, [(0, .d (.v (.string (X5 s)))), (3, ai i)], []⟩) (fun i => s.length - i) 1
   ⟨by omega, by omega, fun j hj => ⟨c, by rw [show j = 0 by omega]; exact hc, by unfold XZ; rw [hlc]; rfl⟩⟩
   (X8 rfl ⟨JL, JL, trivial⟩ trivial) ?_
  rintro i ⟨hi1, hi, hall⟩
  by_cases hil : i < s.length
  case neg =>
   obtain rfl : i = s.length := by omega
   rw [X5x hc hlc h20 hall]
   have hn : ¬ ((s.length : Nat) : Int) < (X5 s).size := by omega
   refine X0 ?_; refine X0 ?_; refine JR ?_; refine Z1 ?_; refine Z1 ?_; refine Zc ?_; refine Z8 ?_; refine JD ?_; refine JF ?_; refine Xj ?_; refine X0 ?_; refine JR ?_; refine Z0 ?_; refine JD ?_
   exact X1 ⟨_, St.le_refl _, ⟨rfl, trivial⟩, X3 _⟩
  have hn : (i : Int) < (X5 s).size := by omega
  clear hl hlc hc
  obtain ⟨c, hc⟩ := Xu (l := s) hil
  have hl := Xbz c
  cases hlc : U6 c with
  | true =>
   rw [hlc] at hl
   have hnx := VX hc (show XZ c = true by unfold XZ; rw [hlc]; rfl) hall
   repeat first | refine X0 ?_ | (refine JR ?_; (repeat first | refine Z1 ?_ | refine Z0 ?_ | refine Zc ?_ | refine Z8 ?_ | refine Zb ?_ | refine Zu ?_ | refine Zq ?_ | refine Zt ?_ | refine Zo ?_ | refine Zp ?_ | refine Z9 (hcon := hl) ?_); refine JD ?_) | refine JT ?_ | refine JF ?_ | refine X4 ?_ | refine X2 ?_
   exact ⟨i + 1, ⟨by omega, by omega, hnx⟩, by omega, X8 rfl ⟨JL, JL, trivial⟩ trivial⟩
  | false =>
   rw [hlc] at hl
   by_cases g3 : c.toNat = 95
   ·have hnx := VX hc (show XZ c = true by unfold XZ; rw [decide_eq_true (by omega)]; simp) hall
    refine X0 ?_; refine X0 ?_; refine JR ?_; refine Z1 ?_; refine Z1 ?_; refine Zc ?_; refine Z8 ?_; refine JD ?_; refine JT ?_; refine X2 ?_; refine X0 ?_; refine X4 ?_; refine X0 ?_
    refine JR ?_; refine Z1 ?_; refine Z1 ?_; refine Zt ?_; refine Z9 (hcon := hl) ?_; refine Zu ?_; refine Z1 ?_; refine Z1 ?_; refine Z1 ?_; refine Zt ?_; refine Zv ?_; refine Zn ?_; refine Z1 ?_; refine Zo ?_
    refine Zo ?_; refine Zo ?_; refine Zo ?_; refine Zo ?_; refine Zp ?_; refine Zp ?_; refine Zp ?_; refine Zp ?_; refine Zo ?_; refine Zq ?_; refine JD ?_; refine JF ?_; refine X2 ?_; refine JR ?_; refine Z1 ?_
    refine Zb ?_; refine Z0 ?_; refine JD ?_
    exact ⟨i + 1, ⟨by omega, by omega, hnx⟩, by omega, X8 rfl ⟨JL, JL, trivial⟩ trivial⟩
   by_cases g1 : 48 ≤ c.toNat
   ·by_cases g2 : c.toNat ≤ 57
    ·have hnx := VX hc (show XZ c = true by unfold XZ; rw [decide_eq_true (by omega)]; simp) hall
     refine X0 ?_; refine X0 ?_; refine JR ?_; refine Z1 ?_; refine Z1 ?_; refine Zc ?_; refine Z8 ?_; refine JD ?_; refine JT ?_; refine X2 ?_; refine X0 ?_; refine X4 ?_; refine X0 ?_
     refine JR ?_; refine Z1 ?_; refine Z1 ?_; refine Zt ?_; refine Z9 (hcon := hl) ?_; refine Zu ?_; refine Z1 ?_; refine Z1 ?_; refine Z1 ?_; refine Zt ?_; refine Zv ?_; refine Zn ?_; refine Z1 ?_; refine Z1 ?_
     refine Z1 ?_; refine Zt ?_; refine Z8 ?_; refine Z1 ?_; refine Z1 ?_; refine Z1 ?_; refine Zt ?_; refine Zs ?_; refine Zq ?_; refine Zn ?_; refine JD ?_; refine JF ?_; refine X2 ?_; refine JR ?_; refine Z1 ?_
     refine Zb ?_; refine Z0 ?_; refine JD ?_
     exact ⟨i + 1, ⟨by omega, by omega, hnx⟩, by omega, X8 rfl ⟨JL, JL, trivial⟩ trivial⟩
    ·rw [X1f hc (show XZ c = false by unfold XZ; rw [hlc, decide_eq_false (by omega)]; rfl)]
     repeat first | refine X0 ?_ | (refine JR ?_; (repeat first | refine Z1 ?_ | refine Z0 ?_ | refine Zc ?_ | refine Z8 ?_ | refine Zs ?_ | refine Zv ?_ | refine Zu ?_ | refine Zn ?_ | refine Zq ?_ | refine Zt ?_ | refine Z9 (hcon := hl) ?_); refine JD ?_) | refine JT ?_ | refine X4 ?_ | refine X2 ?_
     exact X1 ⟨_, St.le_refl _, ⟨rfl, trivial⟩, X3 _⟩
   ·rw [X1f hc (show XZ c = false by unfold XZ; rw [hlc, decide_eq_false (by omega)]; rfl)]
    repeat first | refine X0 ?_ | (refine JR ?_; (repeat first | refine Z1 ?_ | refine Z0 ?_ | refine Zc ?_ | refine Z8 ?_ | refine Zv ?_ | refine Zu ?_ | refine Zn ?_ | refine Zt ?_ | refine Zo ?_ | refine Z9 (hcon := hl) ?_); refine JD ?_) | refine JT ?_ | refine X4 ?_ | refine X2 ?_
    exact X1 ⟨_, St.le_refl _, ⟨rfl, trivial⟩, X3 _⟩
theorem X3P (s : List UInt8) : Con Tryz.prog 86 [] [.d (.v (.string (X5 s)))] [] (ab (XG s)) := by
 refine X9 (xs := [ab (XG s)]) Tryz.func86 rfl Tryz.ntmps86 rfl rfl rfl (fun E => ?_)
 have hsz : (X5 s).size = s.length := rfl
 by_cases h0 : s.length < 1
 ·rw [X5S (List.eq_nil_of_length_eq_zero (by omega))]
  have h0' : ((X5 s).size : Int) < 1 := by omega
  refine X0 ?_; refine JR ?_; refine Z0 ?_; refine JD ?_; refine X0 ?_; refine X0 ?_; refine JR ?_; refine Z1 ?_; refine Zc ?_; refine Z8 ?_; refine Z1 ?_; refine Zo ?_; refine Zo ?_; refine Zo ?_
  refine Zn ?_; refine JD ?_; refine JT ?_; refine X0 ?_; refine JR ?_; refine Z0 ?_; refine JD ?_
  exact X1 ⟨_, St.le_refl _, ⟨rfl, trivial⟩, X3 _⟩
 have h0' : ¬ ((X5 s).size : Int) < 1 := by omega
 by_cases h20 : 20 < s.length
 ·rw [X6N h20]
  have h20' : (20 : Int) < (X5 s).size := by omega
  refine X0 ?_; refine JR ?_; refine Z0 ?_; refine JD ?_; refine X0 ?_; refine X0 ?_; refine JR ?_; refine Z1 ?_; refine Zc ?_; refine Z8 ?_; refine Z1 ?_; refine Z1 ?_; refine Zc ?_; refine Zs ?_
  refine Zq ?_; refine JD ?_; refine JT ?_; refine X0 ?_; refine JR ?_; refine Z0 ?_; refine JD ?_
  exact X1 ⟨_, St.le_refl _, ⟨rfl, trivial⟩, X3 _⟩
 have h20' : ¬ (20 : Int) < (X5 s).size := by omega
 obtain ⟨c, hc⟩ := Xu (l := s) (k := 0) (by omega)
 refine X0 ?_; refine JR ?_; refine Z0 ?_; refine JD ?_; refine X0 ?_; refine X0 ?_; refine JR ?_; refine Z1 ?_; refine Zc ?_; refine Z8 ?_; refine Z1 ?_; refine Z1 ?_; refine Zc ?_; refine Zs ?_
 refine Zq ?_; refine JD ?_; refine JF ?_; refine X2 ?_; refine X0 ?_; refine X0 ?_; refine JR ?_; refine Z0 ?_; refine JD ?_; refine X4 ?_
 refine Xy (fun i : Nat => i ≤ s.length ∧ (0 < i → U6 c = true) ∧ ∀ j, j < i → ∃ b, s[j]? = some b ∧ XZ b = true) (fun i => ⟨65, [(0, .d (.v (.string (X5 s)))), (3, ai i)], []⟩) (fun i => s.length - i) 0
  ⟨by omega, fun h => absurd h (by omega), fun j hj => absurd hj (by omega)⟩
  (X8 rfl ⟨JL, JL, trivial⟩ trivial) ?_
 rintro i ⟨hi, hh, hall⟩
 by_cases hil : i < s.length
 case neg =>
  obtain rfl : i = s.length := by omega
  rw [X5x hc (hh (by omega)) h20 hall]
  have hn : ¬ ((s.length : Nat) : Int) < (X5 s).size := by omega
  refine X0 ?_; refine X0 ?_; refine JR ?_; refine Z1 ?_; refine Z1 ?_; refine Zc ?_; refine Z8 ?_; refine JD ?_; refine JF ?_; refine Xj ?_; refine X0 ?_; refine JR ?_; refine Z0 ?_; refine JD ?_
  exact X1 ⟨_, St.le_refl _, ⟨rfl, trivial⟩, X3 _⟩
 have hn : (i : Int) < (X5 s).size := by omega
 obtain ⟨x, hx⟩ := Xu (l := s) hil
 by_cases hi0 : i = 0
 ·subst hi0
  have hcx : c = x := by rw [hc] at hx; exact Option.some.inj hx
  clear hc hh
  by_cases a1 : 97 ≤ x.toNat
  ·by_cases a2 : x.toNat ≤ 122
   ·have hlx : U6 x = true := X13 (by omega)
    have hh := hlx
    have hnx : ∀ j, j < 0 + 1 → ∃ b, s[j]? = some b ∧ XZ b = true := VX hx (show XZ x = true by unfold XZ; rw [hlx]; rfl) hall
    repeat first | refine X0 ?_ | (refine JR ?_; (repeat first | refine Z1 ?_ | refine Z0 ?_ | refine Zc ?_ | refine Z8 ?_ | refine Zm ?_ | refine Z2 ?_ | refine Zb ?_ | refine Zu ?_ | refine Zn ?_ | refine Zq ?_ | refine Zt ?_ | refine Zo ?_ | refine Zp ?_); refine JD ?_) | refine JT ?_ | refine JF ?_ | refine X4 ?_ | refine X2 ?_
    exact ⟨0 + 1, ⟨by omega, fun _ => by rw [hcx]; exact hh, hnx⟩, by omega, X8 rfl ⟨JL, JL, trivial⟩ trivial⟩
   ·have hlx : U6 x = false := VM (by omega)
    have a3 : 65 ≤ x.toNat := by omega
    have a4 : ¬ x.toNat ≤ 90 := by omega
    rw [X3h hx hlx]
    repeat first | refine X0 ?_ | (refine JR ?_; (repeat first | refine Z1 ?_ | refine Z0 ?_ | refine Zc ?_ | refine Z8 ?_ | refine Zm ?_ | refine Z2 ?_ | refine Zl ?_ | refine Zu ?_ | refine Zn ?_ | refine Zq ?_ | refine Zt ?_ | refine Zo ?_ | refine Zp ?_); refine JD ?_) | refine JT ?_ | refine X4 ?_ | refine X2 ?_
    exact X1 ⟨_, St.le_refl _, ⟨rfl, trivial⟩, X3 _⟩
  by_cases a3 : 65 ≤ x.toNat
  ·by_cases a4 : x.toNat ≤ 90
   ·have hlx : U6 x = true := X13 (by omega)
    have hh := hlx
    have hnx : ∀ j, j < 0 + 1 → ∃ b, s[j]? = some b ∧ XZ b = true := VX hx (show XZ x = true by unfold XZ; rw [hlx]; rfl) hall
    repeat first | refine X0 ?_ | (refine JR ?_; (repeat first | refine Z1 ?_ | refine Z0 ?_ | refine Zc ?_ | refine Z8 ?_ | refine Zm ?_ | refine Z2 ?_ | refine Zb ?_ | refine Zu ?_ | refine Zn ?_ | refine Zq ?_ | refine Zt ?_ | refine Zo ?_ | refine Zp ?_); refine JD ?_) | refine JT ?_ | refine JF ?_ | refine X4 ?_ | refine X2 ?_
    exact ⟨0 + 1, ⟨by omega, fun _ => by rw [hcx]; exact hh, hnx⟩, by omega, X8 rfl ⟨JL, JL, trivial⟩ trivial⟩
   ·have hlx : U6 x = false := VM (by omega)
    rw [X3h hx hlx]
    repeat first | refine X0 ?_ | (refine JR ?_; (repeat first | refine Z1 ?_ | refine Z0 ?_ | refine Zc ?_ | refine Z8 ?_ | refine Zm ?_ | refine Z2 ?_ | refine Zl ?_ | refine Zu ?_ | refine Zn ?_ | refine Zq ?_ | refine Zt ?_ | refine Zo ?_ | refine Zp ?_); refine JD ?_) | refine JT ?_ | refine X4 ?_ | refine X2 ?_
    exact X1 ⟨_, St.le_refl _, ⟨rfl, trivial⟩, X3 _⟩
  have hlx : U6 x = false := VM (by omega)
  rw [X3h hx hlx]
  repeat first | refine X0 ?_ | (refine JR ?_; (repeat first | refine Z1 ?_ | refine Z0 ?_ | refine Zc ?_ | refine Z8 ?_ | refine Z2 ?_ | refine Zl ?_ | refine Zu ?_ | refine Zn ?_ | refine Zq ?_ | refine Zt ?_ | refine Zo ?_ | refine Zp ?_); refine JD ?_) | refine JT ?_ | refine X4 ?_ | refine X2 ?_
  exact X1 ⟨_, St.le_refl _, ⟨rfl, trivial⟩, X3 _⟩
 replace hh := hh (by omega)
 have hi0' : ¬ (i : Int) = 0 := by omega
 clear hc
 by_cases a1 : 97 ≤ x.toNat
 ·by_cases a2 : x.toNat ≤ 122
  ·have hlx : U6 x = true := X13 (by omega)
   have hnx := VX hx (show XZ x = true by unfold XZ; rw [hlx]; rfl) hall
   repeat first | refine X0 ?_ | (refine JR ?_; (repeat first | refine Z1 ?_ | refine Z0 ?_ | refine Zc ?_ | refine Z8 ?_ | refine Zm ?_ | refine Z2 ?_ | refine Zb ?_ | refine Zu ?_ | refine Zn ?_ | refine Zq ?_ | refine Zt ?_ | refine Zo ?_ | refine Zp ?_); refine JD ?_) | refine JT ?_ | refine JF ?_ | refine X4 ?_ | refine X2 ?_
   exact ⟨i + 1, ⟨by omega, fun _ => hh, hnx⟩, by omega, X8 rfl ⟨JL, JL, trivial⟩ trivial⟩
  ·have hlx : U6 x = false := VM (by omega)
   have a3 : 65 ≤ x.toNat := by omega
   have a4 : ¬ x.toNat ≤ 90 := by omega
   ·rw [X1f hx (show XZ x = false by unfold XZ; rw [hlx, decide_eq_false (by omega)]; rfl)]
    repeat first | refine X0 ?_ | (refine JR ?_; (repeat first | refine Z1 ?_ | refine Z0 ?_ | refine Zc ?_ | refine Z8 ?_ | refine Zm ?_ | refine Zs ?_ | refine Z2 ?_ | refine Zl ?_ | refine Zv ?_ | refine Zu ?_ | refine Zn ?_ | refine Zq ?_ | refine Zt ?_); refine JD ?_) | refine JT ?_ | refine X4 ?_ | refine X2 ?_
    exact X1 ⟨_, St.le_refl _, ⟨rfl, trivial⟩, X3 _⟩
 by_cases a3 : 65 ≤ x.toNat
 ·by_cases a4 : x.toNat ≤ 90
  ·have hlx : U6 x = true := X13 (by omega)
   have hnx := VX hx (show XZ x = true by unfold XZ; rw [hlx]; rfl) hall
   repeat first | refine X0 ?_ | (refine JR ?_; (repeat first | refine Z1 ?_ | refine Z0 ?_ | refine Zc ?_ | refine Z8 ?_ | refine Zm ?_ | refine Z2 ?_ | refine Zb ?_ | refine Zu ?_ | refine Zn ?_ | refine Zq ?_ | refine Zt ?_ | refine Zo ?_ | refine Zp ?_); refine JD ?_) | refine JT ?_ | refine JF ?_ | refine X4 ?_ | refine X2 ?_
   exact ⟨i + 1, ⟨by omega, fun _ => hh, hnx⟩, by omega, X8 rfl ⟨JL, JL, trivial⟩ trivial⟩
  ·have hlx : U6 x = false := VM (by omega)
   by_cases g3 : x.toNat = 95
   ·have hnx := VX hx (show XZ x = true by unfold XZ; rw [decide_eq_true (by omega)]; simp) hall
    repeat first | refine X0 ?_ | (refine JR ?_; (repeat first | refine Z1 ?_ | refine Z0 ?_ | refine Zc ?_ | refine Z8 ?_ | refine Zm ?_ | refine Z2 ?_ | refine Zl ?_ | refine Zv ?_ | refine Zb ?_ | refine Zu ?_ | refine Zn ?_ | refine Zq ?_ | refine Zt ?_ | refine Zo ?_ | refine Zp ?_); refine JD ?_) | refine JT ?_ | refine JF ?_ | refine X4 ?_ | refine X2 ?_
    exact ⟨i + 1, ⟨by omega, fun _ => hh, hnx⟩, by omega, X8 rfl ⟨JL, JL, trivial⟩ trivial⟩
   ·rw [X1f hx (show XZ x = false by unfold XZ; rw [hlx, decide_eq_false (by omega)]; rfl)]
    repeat first | refine X0 ?_ | (refine JR ?_; (repeat first | refine Z1 ?_ | refine Z0 ?_ | refine Zc ?_ | refine Z8 ?_ | refine Zm ?_ | refine Zs ?_ | refine Z2 ?_ | refine Zl ?_ | refine Zv ?_ | refine Zu ?_ | refine Zn ?_ | refine Zq ?_ | refine Zt ?_ | refine Zo ?_); refine JD ?_) | refine JT ?_ | refine X4 ?_ | refine X2 ?_
    exact X1 ⟨_, St.le_refl _, ⟨rfl, trivial⟩, X3 _⟩
 have hlx : U6 x = false := VM (by omega)
 by_cases g1 : 48 ≤ x.toNat
 ·by_cases g2 : x.toNat ≤ 57
  ·have hnx := VX hx (show XZ x = true by unfold XZ; rw [decide_eq_true (by omega)]; simp) hall
   repeat first | refine X0 ?_ | (refine JR ?_; (repeat first | refine Z1 ?_ | refine Z0 ?_ | refine Zc ?_ | refine Z8 ?_ | refine Zs ?_ | refine Z2 ?_ | refine Zl ?_ | refine Zv ?_ | refine Zb ?_ | refine Zu ?_ | refine Zn ?_ | refine Zq ?_ | refine Zt ?_ | refine Zo ?_); refine JD ?_) | refine JT ?_ | refine JF ?_ | refine X4 ?_ | refine X2 ?_
   exact ⟨i + 1, ⟨by omega, fun _ => hh, hnx⟩, by omega, X8 rfl ⟨JL, JL, trivial⟩ trivial⟩
  ·rw [X1f hx (show XZ x = false by unfold XZ; rw [hlx, decide_eq_false (by omega)]; rfl)]
   repeat first | refine X0 ?_ | (refine JR ?_; (repeat first | refine Z1 ?_ | refine Z0 ?_ | refine Zc ?_ | refine Z8 ?_ | refine Zs ?_ | refine Z2 ?_ | refine Zl ?_ | refine Zv ?_ | refine Zu ?_ | refine Zn ?_ | refine Zq ?_ | refine Zt ?_ | refine Zo ?_); refine JD ?_) | refine JT ?_ | refine X4 ?_ | refine X2 ?_
   exact X1 ⟨_, St.le_refl _, ⟨rfl, trivial⟩, X3 _⟩
 ·rw [X1f hx (show XZ x = false by unfold XZ; rw [hlx, decide_eq_false (by omega)]; rfl)]
  repeat first | refine X0 ?_ | (refine JR ?_; (repeat first | refine Z1 ?_ | refine Z0 ?_ | refine Zc ?_ | refine Z8 ?_ | refine Z2 ?_ | refine Zl ?_ | refine Zv ?_ | refine Zu ?_ | refine Zn ?_ | refine Zq ?_ | refine Zt ?_ | refine Zo ?_); refine JD ?_) | refine JT ?_ | refine X4 ?_ | refine X2 ?_
  exact X1 ⟨_, St.le_refl _, ⟨rfl, trivial⟩, X3 _⟩
end Go.Fw
namespace Go.Fw
open Go Go.Proofs
set_option maxRecDepth 100000
set_option linter.unusedVariables false
set_option linter.unusedSimpArgs false
theorem XbH (v : Val) (hok : XY v) : Con Tryz.prog 189 [] [Xv v] [] (ab (YN v)) := by
 refine X9 (xs := [ab (YN v)]) Tryz.func189 rfl Tryz.ntmps189 rfl rfl rfl (fun E => ?_)
 have hv := X3t v hok
 unfold YN
 generalize X7 8 v = b at *
 obtain ⟨k, n, d, s, l⟩ := v
 simp only [Xv, Val.kind] at hv ⊢
 unfold X4M
 by_cases h1 : k = 1
 ·rw [decide_eq_true (by omega), Bool.true_and]
  cases b with
  | true =>
   refine X0 ?_; refine JR ?_; refine ZA (γ := 100) ?_; refine Z0 ?_; refine JD ?_; refine X0 ?_; refine JR ?_; refine ZL ?_; refine Z9 (hcon := hv) ?_; refine Z1 ?_; refine ZB ?_; refine ZC ?_; refine Zl ?_
   refine Z1 ?_; refine Zo ?_; refine Zo ?_; refine Zo ?_; refine Zn ?_; refine Z1 ?_; refine Zo ?_; refine Zo ?_; refine Zo ?_; refine Zn ?_; refine Zn ?_; refine Z0 ?_; refine JD ?_
   first | exact X1 ⟨_, St.le_refl _, ⟨rfl, trivial⟩, X3 _⟩ | exact X1 ⟨_, Xh 2 (y := ab true) (AVal.le_of_eq (by refine Eq.trans (b := ab (decide _)) rfl ?_; exact congrArg ab (by simp; omega))), ⟨rfl, trivial⟩, X3 _⟩ | fail
  | false =>
   refine X0 ?_; refine JR ?_; refine ZA (γ := 100) ?_; refine Z0 ?_; refine JD ?_; refine X0 ?_; refine JR ?_; refine ZL ?_; refine Z9 (hcon := hv) ?_; refine Z1 ?_; refine Zo ?_; refine Zo ?_; refine Zo ?_
   refine Zo ?_; refine Zp ?_; refine Zp ?_; refine Zp ?_; refine Zo ?_; refine Zo ?_; refine Zp ?_; refine Zp ?_; refine Zp ?_; refine Zo ?_; refine Zq ?_; refine Z0 ?_; refine JD ?_
   first | exact X1 ⟨_, St.le_refl _, ⟨rfl, trivial⟩, X3 _⟩ | exact X1 ⟨_, Xh 2 (y := ab false) (AVal.le_of_eq (by refine Eq.trans (b := ab (decide _)) rfl ?_; exact congrArg ab (by simp; omega))), ⟨rfl, trivial⟩, X3 _⟩ | fail
 by_cases h2 : k = 2
 ·rw [decide_eq_true (by omega), Bool.true_and]
  cases b with
  | true =>
   refine X0 ?_; refine JR ?_; refine ZA (γ := 100) ?_; refine Z0 ?_; refine JD ?_; refine X0 ?_; refine JR ?_; refine ZL ?_; refine Z9 (hcon := hv) ?_; refine Z1 ?_; refine ZB ?_; refine ZC ?_; refine Zl ?_
   refine Z1 ?_; refine ZB ?_; refine ZC ?_; refine Zl ?_; refine Zq ?_; refine Z1 ?_; refine Zo ?_; refine Zo ?_; refine Zo ?_; refine Zn ?_; refine Zn ?_; refine Z0 ?_; refine JD ?_
   first | exact X1 ⟨_, St.le_refl _, ⟨rfl, trivial⟩, X3 _⟩ | exact X1 ⟨_, Xh 2 (y := ab true) (AVal.le_of_eq (by refine Eq.trans (b := ab (decide _)) rfl ?_; exact congrArg ab (by simp; omega))), ⟨rfl, trivial⟩, X3 _⟩ | fail
  | false =>
   refine X0 ?_; refine JR ?_; refine ZA (γ := 100) ?_; refine Z0 ?_; refine JD ?_; refine X0 ?_; refine JR ?_; refine ZL ?_; refine Z9 (hcon := hv) ?_; refine Z1 ?_; refine Zo ?_; refine Zo ?_; refine Zo ?_
   refine Zo ?_; refine Zp ?_; refine Zp ?_; refine Zp ?_; refine Zo ?_; refine Zo ?_; refine Zp ?_; refine Zp ?_; refine Zp ?_; refine Zo ?_; refine Zq ?_; refine Z0 ?_; refine JD ?_
   first | exact X1 ⟨_, St.le_refl _, ⟨rfl, trivial⟩, X3 _⟩ | exact X1 ⟨_, Xh 2 (y := ab false) (AVal.le_of_eq (by refine Eq.trans (b := ab (decide _)) rfl ?_; exact congrArg ab (by simp; omega))), ⟨rfl, trivial⟩, X3 _⟩ | fail
 by_cases h4 : k = 4
 ·rw [decide_eq_true (by omega), Bool.true_and]
  cases b with
  | true =>
   refine X0 ?_; refine JR ?_; refine ZA (γ := 100) ?_; refine Z0 ?_; refine JD ?_; refine X0 ?_; refine JR ?_; refine ZL ?_; refine Z9 (hcon := hv) ?_; refine Z1 ?_; refine ZB ?_; refine ZC ?_; refine Zl ?_
   refine Z1 ?_; refine ZB ?_; refine ZC ?_; refine Zl ?_; refine Zq ?_; refine Z1 ?_; refine ZB ?_; refine ZC ?_; refine Zl ?_; refine Zq ?_; refine Zn ?_; refine Z0 ?_; refine JD ?_
   first | exact X1 ⟨_, St.le_refl _, ⟨rfl, trivial⟩, X3 _⟩ | exact X1 ⟨_, Xh 2 (y := ab true) (AVal.le_of_eq (by refine Eq.trans (b := ab (decide _)) rfl ?_; exact congrArg ab (by simp; omega))), ⟨rfl, trivial⟩, X3 _⟩ | fail
  | false =>
   refine X0 ?_; refine JR ?_; refine ZA (γ := 100) ?_; refine Z0 ?_; refine JD ?_; refine X0 ?_; refine JR ?_; refine ZL ?_; refine Z9 (hcon := hv) ?_; refine Z1 ?_; refine Zo ?_; refine Zo ?_; refine Zo ?_
   refine Zo ?_; refine Zp ?_; refine Zp ?_; refine Zp ?_; refine Zo ?_; refine Zo ?_; refine Zp ?_; refine Zp ?_; refine Zp ?_; refine Zo ?_; refine Zq ?_; refine Z0 ?_; refine JD ?_
   first | exact X1 ⟨_, St.le_refl _, ⟨rfl, trivial⟩, X3 _⟩ | exact X1 ⟨_, Xh 2 (y := ab false) (AVal.le_of_eq (by refine Eq.trans (b := ab (decide _)) rfl ?_; exact congrArg ab (by simp; omega))), ⟨rfl, trivial⟩, X3 _⟩ | fail
 rw [decide_eq_false (by omega), Bool.false_and]
 cases b with
 | true =>
  refine X0 ?_; refine JR ?_; refine ZA (γ := 100) ?_; refine Z0 ?_; refine JD ?_; refine X0 ?_; refine JR ?_; refine ZL ?_; refine Z9 (hcon := hv) ?_; refine Z1 ?_; refine ZB ?_; refine ZC ?_; refine Zl ?_
  refine Z1 ?_; refine ZB ?_; refine ZC ?_; refine Zl ?_; refine Zq ?_; refine Z1 ?_; refine ZB ?_; refine ZC ?_; refine Zl ?_; refine Zq ?_; refine Zn ?_; refine Z0 ?_; refine JD ?_
  first | exact X1 ⟨_, St.le_refl _, ⟨rfl, trivial⟩, X3 _⟩ | exact X1 ⟨_, Xh 2 (y := ab false) (AVal.le_of_eq (by refine Eq.trans (b := ab (decide _)) rfl ?_; exact congrArg ab (by simp; omega))), ⟨rfl, trivial⟩, X3 _⟩ | fail
 | false =>
  refine X0 ?_; refine JR ?_; refine ZA (γ := 100) ?_; refine Z0 ?_; refine JD ?_; refine X0 ?_; refine JR ?_; refine ZL ?_; refine Z9 (hcon := hv) ?_; refine Z1 ?_; refine Zo ?_; refine Zo ?_; refine Zo ?_
  refine Zo ?_; refine Zp ?_; refine Zp ?_; refine Zp ?_; refine Zo ?_; refine Zo ?_; refine Zp ?_; refine Zp ?_; refine Zp ?_; refine Zo ?_; refine Zq ?_; refine Z0 ?_; refine JD ?_
  first | exact X1 ⟨_, St.le_refl _, ⟨rfl, trivial⟩, X3 _⟩ | exact X1 ⟨_, Xh 2 (y := ab false) (AVal.le_of_eq (by refine Eq.trans (b := ab (decide _)) rfl ?_; exact congrArg ab (by simp; omega))), ⟨rfl, trivial⟩, X3 _⟩ | fail
end Go.Fw
