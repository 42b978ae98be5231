/- Whole numbers compared by the reference; plain values compared. -/
import Derived.Test.YtbhleedlnaakkaaGreatL22
import Derived.Test.YtbhleedlnaakkaaGreatL25
set_option maxHeartbeats 32000000
namespace Go.Fw
open Go Go.Proofs
set_option maxRecDepth 100000
set_option linter.unusedVariables false
set_option linter.unusedSimpArgs false
theorem X82 (x y : List Nat) (hl : y.length = x.length) (hx : x.length ≤ 1000) : Con Tryz.prog 206 [] [.d (XP x), .d (XP y)] [] (ai (Yn x y x.length)) := by
 refine X9 (xs := [ai (Yn x y x.length)]) Tryz.func206 rfl Tryz.ntmps206 rfl rfl rfl (fun E => ?_)
 have hlx : (x.map Xx).length = x.length := by simp
 generalize hG : Yn x y x.length = G
 refine X0 ?_; refine JR ?_; refine Z0 ?_; refine JD ?_; refine X0 ?_; refine X0 ?_; refine JR ?_; refine Z1 ?_; refine Zd ?_; refine ZR ?_; refine Z0 ?_; refine JD ?_; refine X4 ?_
 refine Xs (fun i : Nat => i ≤ x.length ∧ Yn x y i = G) (fun i => ⟨31, [(0, .d (XP x)), (1, .d (XP y)), (5, ai ((i : Int) - 1))], []⟩) (fun i => i) x.length ⟨Nat.le_refl _, hG⟩
  (X7 rfl ⟨JL, JL, JL, trivial⟩ trivial) ?_
 rintro i ⟨hi, hg⟩
 cases i with
 | zero =>
  rw [Yn] at hg
  subst hg
  refine X0 ?_; refine X0 ?_; refine JR ?_; refine Z1 ?_; refine Z2 ?_; refine JD ?_; refine JF ?_; refine Xo ?_; refine X0 ?_; refine JR ?_; refine Z0 ?_; refine JD ?_
  exact X1 ⟨_, St.le_refl _, ⟨rfl, trivial⟩, X2 _⟩
 | succ j =>
  have e : (((j + 1 : Nat) : Int) - 1) = (j : Int) := by omega
  rw [e]
  obtain ⟨a, ha⟩ := Xm (l := x) (k := j) (by omega)
  obtain ⟨b, hb⟩ := Xm (l := y) (k := j) (by omega)
  have hxm : (x.map Xx)[j]? = some (Xx a) := Xr ha
  have hym : (y.map Xx)[j]? = some (Xx b) := Xr hb
  rw [Yn, ha, hb] at hg
  simp only [Option.getD_some] at hg
  clear ha hb
  by_cases h1 : a < b
  ·have h1' : (a : Int) < (b : Nat) := by omega
   rw [if_pos h1] at hg
   subst hg
   refine X0 ?_; refine X0 ?_; refine JR ?_; refine Z1 ?_; refine Z2 ?_; refine JD ?_; refine JT ?_; refine X3 ?_; refine X0 ?_; refine X4 ?_; refine X0 ?_; refine X0 ?_; refine JR ?_
   refine Z1 ?_; refine Z1 ?_; refine Zj ?_; refine Zk ?_; refine Z1 ?_; refine Z1 ?_; refine Zj ?_; refine Zk ?_; refine Z8 ?_; refine JD ?_; refine JT ?_; refine X0 ?_; refine JR ?_; refine Z0 ?_; refine JD ?_
   exact X1 ⟨_, St.le_refl _, ⟨rfl, trivial⟩, X2 _⟩
  have h1' : ¬ (a : Int) < (b : Nat) := by omega
  rw [if_neg h1] at hg
  by_cases h2 : b < a
  ·have h2' : (b : Int) < (a : Nat) := by omega
   rw [if_pos h2] at hg
   subst hg
   refine X0 ?_; refine X0 ?_; refine JR ?_; refine Z1 ?_; refine Z2 ?_; refine JD ?_; refine JT ?_; refine X3 ?_; refine X0 ?_; refine X4 ?_; refine X0 ?_; refine X0 ?_; refine JR ?_
   refine Z1 ?_; refine Z1 ?_; refine Zj ?_; refine Zk ?_; refine Z1 ?_; refine Z1 ?_; refine Zj ?_; refine Zk ?_; refine Z8 ?_; refine JD ?_; refine JF ?_; refine X3 ?_; refine X0 ?_; refine JR ?_; refine Z1 ?_
   refine Z1 ?_; refine Zj ?_; refine Zk ?_; refine Z1 ?_; refine Z1 ?_; refine Zj ?_; refine Zk ?_; refine Zs ?_; refine JD ?_; refine JT ?_; refine X0 ?_; refine JR ?_; refine Z0 ?_; refine JD ?_
   exact X1 ⟨_, St.le_refl _, ⟨rfl, trivial⟩, X2 _⟩
  have h2' : ¬ (b : Int) < (a : Nat) := by omega
  rw [if_neg h2] at hg
  refine X0 ?_; refine X0 ?_; refine JR ?_; refine Z1 ?_; refine Z2 ?_; refine JD ?_; refine JT ?_; refine X3 ?_; refine X0 ?_; refine X4 ?_; refine X0 ?_; refine X0 ?_; refine JR ?_
  refine Z1 ?_; refine Z1 ?_; refine Zj ?_; refine Zk ?_; refine Z1 ?_; refine Z1 ?_; refine Zj ?_; refine Zk ?_; refine Z8 ?_; refine JD ?_; refine JF ?_; refine X3 ?_; refine X0 ?_; refine JR ?_; refine Z1 ?_
  refine Z1 ?_; refine Zj ?_; refine Zk ?_; refine Z1 ?_; refine Z1 ?_; refine Zj ?_; refine Zk ?_; refine Zs ?_; refine JD ?_; refine JF ?_; refine X3 ?_; refine JR ?_; refine Z1 ?_; refine ZR ?_; refine Z0 ?_
  refine JD ?_
  exact ⟨j, ⟨by omega, hg⟩, by omega, X7 rfl ⟨JL, JL, JL, trivial⟩ trivial⟩
theorem X6f (x y : List Nat) (hx : YT x) (hy : YT y) (hl : y.length = x.length) (hn : x.length ≤ 1000) : Con Tryz.prog 207 [] [.d (XP x), .d (XP y)] [] (.d (XP (Ud x y))) := by
 have hlx : (x.map Xx).length = x.length := by simp
 have own : Con Tryz.prog 207 [] [.d (XP x), .d (XP y)] [(130, .row 1 ((Ud x y).map Xx))] (.own 130 ((Ud x y).map Xx).length) := by
  refine X9 (xs := [.own 130 ((Ud x y).map Xx).length]) Tryz.func207 rfl Tryz.ntmps207 rfl rfl rfl (fun E => ?_)
  refine X0 ?_; refine JR ?_; refine Z0 ?_; refine JD ?_; refine X0 ?_; refine JR ?_; refine Z1 ?_; refine Zd ?_; refine Ze (γ := 130) ?_; refine Z0 ?_; refine JD ?_; refine X0 ?_; refine JR ?_; refine Z0 ?_
  refine JD ?_; refine X0 ?_; refine X0 ?_; refine JR ?_; refine Z0 ?_; refine JD ?_; refine X4 ?_
  refine Xs (fun k : Nat => k ≤ x.length) (fun k => ⟨40, [(0, .d (XP x)), (1, .d (XP y)), (5, .own 130 (x.map Xx).length), (6, ai (-((YL x y k).2 : Nat) : Int)), (7, ai k)], [(130, .row 1 ((YL x y k).1.map Xx))]⟩) (fun k => x.length - k) 0 (by omega)
   (X7 rfl ⟨JL, JL, JL, JL, JL, trivial⟩ ⟨?_, trivial⟩) ?_
  ·refine congrArg (AObj.row 1) ?_
   refine Eq.trans (b := List.replicate (x.map Xx).length (Xx 0)) rfl ?_
   rw [hlx]; exact X6y x.length
  intro k hk
  have hpl := X4K x y k
  have hpm : ((YL x y k).1.map Xx).length = x.length := by rw [List.length_map, hpl]
  by_cases hkx : k < x.length
  case neg =>
   obtain rfl : k = x.length := by omega
   refine X0 ?_; refine X0 ?_; refine JR ?_; refine Z1 ?_; refine Z1 ?_; refine Zd ?_; refine Z8 ?_; refine JD ?_; refine JF ?_; refine Xo ?_; refine X0 ?_; refine JR ?_; refine Z1 ?_; refine Z0 ?_
   refine JD ?_
   exact X1 ⟨_, Xe 4 (y := .own 130 ((Ud x y).map Xx).length) (AVal.le_of_eq (by refine Eq.trans (b := .own 130 (x.map Xx).length) rfl ?_; congr 1; rw [hlx]; exact hpm.symm)), ⟨rfl, trivial⟩, V8 ⟨rfl, trivial⟩⟩
  obtain ⟨a, ha⟩ := Xm (l := x) hkx
  obtain ⟨b, hb⟩ := Xm (l := y) (k := k) (by omega)
  have hxm : (x.map Xx)[k]? = some (Xx a) := Xr ha
  have hym : (y.map Xx)[k]? = some (Xx b) := Xr hb
  have hc := X9y x y k
  have ha1 := Vz hx ha
  have hb1 := Vz hy hb
  have hsucc : YL x y (k + 1) = ((YL x y k).1.set k (if a < b + (YL x y k).2 then a + 1000 - (b + (YL x y k).2) else a - (b + (YL x y k).2)), if a < b + (YL x y k).2 then 1 else 0) := by
   simp only [YL, ha, hb, Option.getD_some]
  clear ha hb
  generalize YL x y k = p at *
  obtain ⟨l, c⟩ := p
  simp only at hpl hpm hc hsucc
  have n1 : Xy (-(c : Nat) + (a : Nat)) := by unfold Xy; omega
  have n2 : Xy (-(c : Nat) + (a : Nat) - (b : Nat)) := by unfold Xy; omega
  by_cases hlt : a < b + c
  ·have h1' : (-(c : Nat) + (a : Nat) - (b : Nat) : Int) < 0 := by omega
   have e1 : (-(c : Nat) + (a : Nat) - (b : Nat) : Int) + 1000 = ((a + 1000 - (b + c) : Nat) : Int) := by omega
   rw [if_pos hlt, if_pos hlt] at hsucc
   generalize a + 1000 - (b + c) = z at *
   have n3 : Xy ((-(c : Nat) + (a : Nat) - (b : Nat) : Int) + 1000) := by unfold Xy; omega
   refine X0 ?_; refine X0 ?_; refine JR ?_; refine Z1 ?_; refine Z1 ?_; refine Zd ?_; refine Z8 ?_; refine JD ?_; refine JT ?_; refine X3 ?_; refine X0 ?_; refine X4 ?_; refine X0 ?_
   refine JR ?_; refine Z1 ?_; refine Z1 ?_; refine Z1 ?_; refine Zj ?_; refine Zk ?_
   refine Z7 (op := .add) (r' := .int .i64 (-(c : Nat) + (a : Nat) : Int)) (u := .int .i64 (-(c : Nat) : Int)) (v := .int .i64 (a : Nat)) ?_ (hr := by exact X2c n1); refine Z1 ?_; refine Z1 ?_; refine Zj ?_
   refine Zk ?_; refine Z7 (op := .sub) (r' := .int .i64 (-(c : Nat) + (a : Nat) - (b : Nat) : Int)) (u := .int .i64 (-(c : Nat) + (a : Nat) : Int)) (v := .int .i64 (b : Nat)) ?_ (hr := by exact XH n2); refine Z0 ?_
   refine JD ?_; refine X0 ?_; refine JR ?_; refine Z1 ?_; refine Z8 ?_; refine JD ?_; refine JT ?_; refine X0 ?_; refine JR ?_; refine Z1 ?_; refine Z1 ?_; refine Z1 ?_
   refine Z4 (op := .add) (r' := .int .i64 (z : Nat)) (u := .int .i64 (-(c : Nat) + (a : Nat) - (b : Nat) : Int)) (v := .int .i64 1000) ?_ (hr' := by exact congrArg (Value.int .i64) e1) (hr := by exact X2c n3)
   refine ZO ?_; refine ZP ?_; refine JD ?_; refine JR ?_; refine Z0 ?_; refine JD ?_; refine JR ?_; refine Z1 ?_; refine Zb ?_; refine Z0 ?_; refine JD ?_
   refine ⟨k + 1, by omega, by omega, ?_⟩
   dsimp only
   rw [hsucc]
   refine X7 rfl ⟨JL, JL, JL, JL, JL, trivial⟩ ⟨?_, trivial⟩
   exact congrArg (AObj.row 1) (X1x (by omega))
  ·have h1' : ¬ (-(c : Nat) + (a : Nat) - (b : Nat) : Int) < 0 := by omega
   have e1 : (-(c : Nat) + (a : Nat) - (b : Nat) : Int) = ((a - (b + c) : Nat) : Int) := by omega
   rw [if_neg hlt, if_neg hlt] at hsucc
   generalize a - (b + c) = z at *
   rw [e1] at h1'
   refine X0 ?_; refine X0 ?_; refine JR ?_; refine Z1 ?_; refine Z1 ?_; refine Zd ?_; refine Z8 ?_; refine JD ?_; refine JT ?_; refine X3 ?_; refine X0 ?_; refine X4 ?_; refine X0 ?_
   refine JR ?_; refine Z1 ?_; refine Z1 ?_; refine Z1 ?_; refine Zj ?_; refine Zk ?_
   refine Z7 (op := .add) (r' := .int .i64 (-(c : Nat) + (a : Nat) : Int)) (u := .int .i64 (-(c : Nat) : Int)) (v := .int .i64 (a : Nat)) ?_ (hr := by exact X2c n1); refine Z1 ?_; refine Z1 ?_; refine Zj ?_
   refine Zk ?_; refine Z4 (op := .sub) (r' := .int .i64 (z : Nat)) (u := .int .i64 (-(c : Nat) + (a : Nat) : Int)) (v := .int .i64 (b : Nat)) ?_ (hr' := by exact congrArg (Value.int .i64) e1) (hr := by exact XH n2)
   refine Z0 ?_; refine JD ?_; refine X0 ?_; refine JR ?_; refine Z1 ?_; refine Z8 ?_; refine JD ?_; refine JF ?_; refine X0 ?_; refine JR ?_; refine Z1 ?_; refine Z1 ?_; refine Z1 ?_; refine ZO ?_; refine ZP ?_
   refine JD ?_; refine JR ?_; refine Z0 ?_; refine JD ?_; refine JR ?_; refine Z1 ?_; refine Zb ?_; refine Z0 ?_; refine JD ?_
   refine ⟨k + 1, by omega, by omega, ?_⟩
   dsimp only
   rw [hsucc]
   refine X7 rfl ⟨JL, JL, JL, JL, JL, trivial⟩ ⟨?_, trivial⟩
   exact congrArg (AObj.row 1) (X1x (by omega))
 exact own.data (by simp)
theorem Xbz (s b : Int) (x y : List Nat) (hx : YT x) (hy : YT y) (hl : x.length = 14) (hm : y.length = 14) : Con Tryz.prog 142 [] [ai s, .d (XP x), ai b, .d (XP y)] [] (.tup [ai (if s = b ∨ b = 0 then s else if s = 0 then b else if Yn x y x.length = 0 then 0 else if 0 < Yn x y x.length then s else b), .d (XP (if s = b ∨ b = 0 then YK x y else if s = 0 then y else if Yn x y x.length = 0 then YK YO YO else if 0 < Yn x y x.length then Ud x y else Ud y x))]) := by
 refine X9 (xs := [ai (if s = b ∨ b = 0 then s else if s = 0 then b else if Yn x y x.length = 0 then 0 else if 0 < Yn x y x.length then s else b), .d (XP (if s = b ∨ b = 0 then YK x y else if s = 0 then y else if Yn x y x.length = 0 then YK YO YO else if 0 < Yn x y x.length then Ud x y else Ud y x))]) Tryz.func142 rfl Tryz.ntmps142 rfl rfl rfl (fun E => ?_)
 have hp := X1s x y hx hy (by omega) (by omega)
 have hz := X1s YO YO (X0V 14) (X0V 14) rfl (by decide)
 have ho := X82 x y (by omega) (by omega)
 have h1 := X6f x y hx hy (by omega) (by omega)
 have h2 := X6f y x hy hx (by omega) (by omega)
 generalize Yn x y x.length = c at *
 generalize YK x y = p at *
 generalize YK YO YO = z at *
 generalize Ud x y = m1 at *
 generalize Ud y x = m2 at *
 by_cases c1 : s = b
 ·rw [if_pos (.inl c1), if_pos (.inl c1)]
  refine X0 ?_; refine JR ?_; refine Z0 ?_; refine Z0 ?_; refine JD ?_; refine X0 ?_; refine X0 ?_; refine JR ?_; refine Z1 ?_; refine Z1 ?_; refine Zl ?_; refine Z1 ?_; refine Zo ?_; refine Zo ?_
  refine Zn ?_; refine JD ?_; refine JT ?_; refine X0 ?_; refine JR ?_; refine Z1 ?_; refine Z1 ?_; refine Z1 ?_; refine Z9 (hcon := hp) ?_; refine Z0 ?_; refine Z0 ?_; refine JD ?_
  exact X1 ⟨_, St.le_refl _, ⟨rfl, rfl, trivial⟩, X2 _⟩
 by_cases c2 : b = 0
 ·rw [if_pos (.inr c2), if_pos (.inr c2)]
  refine X0 ?_; refine JR ?_; refine Z0 ?_; refine Z0 ?_; refine JD ?_; refine X0 ?_; refine X0 ?_; refine JR ?_; refine Z1 ?_; refine Z1 ?_; refine Zl ?_; refine Z1 ?_; refine Z1 ?_; refine Zl ?_
  refine Zq ?_; refine JD ?_; refine JT ?_; refine X0 ?_; refine JR ?_; refine Z1 ?_; refine Z1 ?_; refine Z1 ?_; refine Z9 (hcon := hp) ?_; refine Z0 ?_; refine Z0 ?_; refine JD ?_
  exact X1 ⟨_, St.le_refl _, ⟨rfl, rfl, trivial⟩, X2 _⟩
 have hc : ¬ (s = b ∨ b = 0) := fun h => h.elim c1 c2
 rw [if_neg hc, if_neg hc]
 by_cases c3 : s = 0
 ·rw [if_pos c3, if_pos c3]
  refine X0 ?_; refine JR ?_; refine Z0 ?_; refine Z0 ?_; refine JD ?_; refine X0 ?_; refine X0 ?_; refine JR ?_; refine Z1 ?_; refine Z1 ?_; refine Zl ?_; refine Z1 ?_; refine Z1 ?_; refine Zl ?_
  refine Zq ?_; refine JD ?_; refine JF ?_; refine X3 ?_; refine X0 ?_; refine X0 ?_; refine JR ?_; refine Z1 ?_; refine Zl ?_; refine JD ?_; refine JT ?_; refine X0 ?_; refine JR ?_; refine Z1 ?_
  refine Z1 ?_; refine Z0 ?_; refine Z0 ?_; refine JD ?_
  exact X1 ⟨_, St.le_refl _, ⟨rfl, rfl, trivial⟩, X2 _⟩
 rw [if_neg c3, if_neg c3]
 by_cases c4 : c = 0
 ·rw [if_pos c4, if_pos c4]
  refine X0 ?_; refine JR ?_; refine Z0 ?_; refine Z0 ?_; refine JD ?_; refine X0 ?_; refine X0 ?_; refine JR ?_; refine Z1 ?_; refine Z1 ?_; refine Zl ?_; refine Z1 ?_; refine Z1 ?_; refine Zl ?_
  refine Zq ?_; refine JD ?_; refine JF ?_; refine X3 ?_; refine X0 ?_; refine X0 ?_; refine JR ?_; refine Z1 ?_; refine Zl ?_; refine JD ?_; refine JF ?_; refine X3 ?_; refine X0 ?_
  refine JR ?_; refine Z1 ?_; refine Z1 ?_; refine Z9 (hcon := ho) ?_; refine Z0 ?_; refine JD ?_; refine X0 ?_; refine X0 ?_; refine JR ?_; refine Z1 ?_; refine Zl ?_; refine JD ?_; refine JT ?_
  refine X0 ?_; refine JR ?_; refine ZS ?_; refine ZS ?_; refine Z9 (hcon := hz) ?_; refine Z0 ?_; refine Z0 ?_; refine JD ?_
  exact X1 ⟨_, St.le_refl _, ⟨rfl, rfl, trivial⟩, X2 _⟩
 rw [if_neg c4, if_neg c4]
 by_cases c5 : 0 < c
 ·rw [if_pos c5, if_pos c5]
  refine X0 ?_; refine JR ?_; refine Z0 ?_; refine Z0 ?_; refine JD ?_; refine X0 ?_; refine X0 ?_; refine JR ?_; refine Z1 ?_; refine Z1 ?_; refine Zl ?_; refine Z1 ?_; refine Z1 ?_; refine Zl ?_
  refine Zq ?_; refine JD ?_; refine JF ?_; refine X3 ?_; refine X0 ?_; refine X0 ?_; refine JR ?_; refine Z1 ?_; refine Zl ?_; refine JD ?_; refine JF ?_; refine X3 ?_; refine X0 ?_
  refine JR ?_; refine Z1 ?_; refine Z1 ?_; refine Z9 (hcon := ho) ?_; refine Z0 ?_; refine JD ?_; refine X0 ?_; refine X0 ?_; refine JR ?_; refine Z1 ?_; refine Zl ?_; refine JD ?_; refine JF ?_
  refine X3 ?_; refine X0 ?_; refine X0 ?_; refine JR ?_; refine Z1 ?_; refine Zs ?_; refine JD ?_; refine JT ?_; refine X0 ?_; refine JR ?_; refine Z1 ?_; refine Z1 ?_; refine Z1 ?_
  refine Z9 (hcon := h1) ?_; refine Z0 ?_; refine Z0 ?_; refine JD ?_
  exact X1 ⟨_, St.le_refl _, ⟨rfl, rfl, trivial⟩, X2 _⟩
 rw [if_neg c5, if_neg c5]
 refine X0 ?_; refine JR ?_; refine Z0 ?_; refine Z0 ?_; refine JD ?_; refine X0 ?_; refine X0 ?_; refine JR ?_; refine Z1 ?_; refine Z1 ?_; refine Zl ?_; refine Z1 ?_; refine Z1 ?_; refine Zl ?_
 refine Zq ?_; refine JD ?_; refine JF ?_; refine X3 ?_; refine X0 ?_; refine X0 ?_; refine JR ?_; refine Z1 ?_; refine Zl ?_; refine JD ?_; refine JF ?_; refine X3 ?_; refine X0 ?_
 refine JR ?_; refine Z1 ?_; refine Z1 ?_; refine Z9 (hcon := ho) ?_; refine Z0 ?_; refine JD ?_; refine X0 ?_; refine X0 ?_; refine JR ?_; refine Z1 ?_; refine Zl ?_; refine JD ?_; refine JF ?_
 refine X3 ?_; refine X0 ?_; refine X0 ?_; refine JR ?_; refine Z1 ?_; refine Zs ?_; refine JD ?_; refine JF ?_; refine X3 ?_; refine X0 ?_; refine JR ?_; refine Z1 ?_; refine Z1 ?_
 refine Z1 ?_; refine Z9 (hcon := h2) ?_; refine Z0 ?_; refine Z0 ?_; refine JD ?_
 exact X1 ⟨_, St.le_refl _, ⟨rfl, rfl, trivial⟩, X2 _⟩
theorem X7w (n m : Int) (hn : n.natAbs ≤ 1000000000000000) (hm : m.natAbs ≤ 1000000000000000) : Con Tryz.prog 91 [] [Yz n 1, Yz m 1] [] (ai (VS n m)) := by
 refine X9 (xs := [ai (VS n m)]) Tryz.func91 rfl Tryz.ntmps91 rfl rfl rfl (fun E => ?_)
 have hv := X1P n 1
 have hw := X1P m 1
 rw [show YN n 1 = true by unfold YN; simp; omega] at hv
 rw [show YN m 1 = true by unfold YN; simp; omega] at hw
 have s1 := X1E n
 have s2 := X1E m
 have z1 := X0J n (by omega)
 have z2 := X0J m (by omega)
 have t1 := X24 n.natAbs 1 (by omega) (by omega)
 have t2 := X24 m.natAbs 1 (by omega) (by omega)
 have hs := Xbz (XO n) (-XO m) (XX 14 (n.natAbs * 1)) (XX 14 (m.natAbs * 1)) (X0A _ _) (X0A _ _) (Vg _ _) (Vg _ _)
 rw [Vg] at hs
 have hr1 := X2m n
 have hr2 := X2m m
 unfold VS
 simp only
 generalize hd1 : XX 14 (n.natAbs * 1) = x at *
 generalize hd2 : XX 14 (m.natAbs * 1) = y at *
 generalize Yn x y 14 = c at *
 generalize (if XO n = -XO m ∨ -XO m = 0 then XO n else if XO n = 0 then -XO m else if c = 0 then 0 else if 0 < c then XO n else -XO m) = res at *
 generalize (if XO n = -XO m ∨ -XO m = 0 then YK x y else if XO n = 0 then y else if c = 0 then YK YO YO else if 0 < c then Ud x y else Ud y x) = mag at *
 generalize XO n = sa at *
 generalize XO m = sb at *
 generalize n.natAbs = N at *
 generalize m.natAbs = M at *
 have q1 : -1 ≤ sb ∧ sb ≤ 1 := by omega
 clear hr1 hr2 hd1 hd2
 refine X0 ?_; refine JR ?_; refine ZA (γ := 100) ?_; refine ZA (γ := 101) ?_; refine Z0 ?_; refine JD ?_; refine X0 ?_; refine X0 ?_; refine JR ?_; refine ZL ?_; refine Z9 (hcon := hv) ?_; refine Zu ?_
 refine JD ?_; refine JF ?_; refine X3 ?_; refine X0 ?_; refine X0 ?_; refine JR ?_; refine ZL ?_; refine Z9 (hcon := hw) ?_; refine Zu ?_; refine JD ?_; refine JF ?_; refine X3 ?_; refine X0 ?_
 refine JR ?_; refine ZB ?_; refine ZC ?_; refine Z9 (hcon := s1) ?_; refine ZB ?_; refine ZC ?_; refine Z9 (hcon := z1) ?_; refine ZB ?_; refine ZC ?_; refine Z9 (hcon := t1) ?_; refine ZB ?_; refine ZC ?_
 refine Z9 (hcon := s2) ?_; refine Zu ?_; refine ZB ?_; refine ZC ?_; refine Z9 (hcon := z2) ?_; refine ZB ?_; refine ZC ?_; refine Z9 (hcon := t2) ?_; refine Z9 (hcon := hs) ?_; refine Z1 ?_; refine ZF ?_; refine ZF ?_
 refine Z0 ?_; refine Z0 ?_; refine JD ?_; refine X0 ?_; refine JR ?_; refine Z1 ?_; refine Z0 ?_; refine JD ?_
 exact X1 ⟨_, St.le_refl _, ⟨rfl, trivial⟩, X2 _⟩
end Go.Fw
namespace Go.Fw
open Go Go.Proofs
set_option maxRecDepth 100000
set_option linter.unusedVariables false
set_option linter.unusedSimpArgs false
theorem XaF (a b : Val) (ha : XF a = true) (hb : XF b = true) (oa : XY a) (ob : XY b) : Con Tryz.prog 35 [] [Xn a, Xn b] [] (ai (if eqV a b then 2 else 0)) := by
 refine X9 (xs := [ai (if eqV a b then 2 else 0)]) Tryz.func35 rfl Tryz.ntmps35 rfl rfl rfl (fun E => ?_)
 have va := VB a oa
 have vb := VB b ob
 have na := X2O a oa
 have nb := X2O b ob
 unfold UG X34 at na nb
 obtain ⟨e, he⟩ : ∃ e, e = eqV a b := ⟨_, rfl⟩
 rw [← he]
 obtain ⟨k, n, d, s, l⟩ := a
 obtain ⟨k', n', d', s', l'⟩ := b
 obtain ⟨p1, p2, p3, p4, p5, p6, p7, p8⟩ := Ve ha
 obtain ⟨q1, q2, q3, q4, q5, q6, q7, q8⟩ := Ve hb
 rw [p1] at va na
 rw [q1] at vb nb
 rw [if_neg (by simp)] at na nb
 unfold eqV at he
 simp only [Xn, Val.kind, Val.n, Val.d, Val.s] at *
 clear ha hb p1 q1 oa ob
 have hk0 : k ≠ 0 := by omega
 have hk0' : k' ≠ 0 := by omega
 have hk8 : k ≠ 8 := by omega
 have hk7 : k ≠ 7 := by omega
 by_cases ck : k = k'
 case neg =>
  obtain rfl : e = false := he.trans (decide_eq_false (fun h => ck h.1))
  clear he
  by_cases c2 : k = 2
  ·have c2' : ¬ k' = 2 := fun e => ck (by omega)
   have c3' : ¬ k' = 3 := by omega
   subst c2
   simp only [if_true, eq_self_iff_true, Yz] at na
   simp only [c2', c3', if_false, Yz] at nb
   refine X0 ?_; refine JR ?_; refine ZA (γ := 100) ?_; refine ZA (γ := 101) ?_; refine Z0 ?_; refine JD ?_; refine X0 ?_; refine X0 ?_; refine JR ?_; refine ZB ?_; refine ZC ?_; refine Zl ?_; refine Z1 ?_
   refine ZB ?_; refine ZC ?_; refine Zl ?_; refine Zq ?_; refine Z1 ?_; refine ZL ?_; refine Z9 (hcon := va) ?_; refine Zu ?_; refine Zq ?_; refine Z1 ?_; refine ZL ?_; refine Z9 (hcon := vb) ?_; refine Zu ?_; refine Zq ?_
   refine JD ?_; refine JF ?_; refine X3 ?_; refine X0 ?_; refine JR ?_; refine ZL ?_; refine Z9 (hcon := na) ?_; refine Z1 ?_; refine ZF ?_; refine ZF ?_; refine Zw (γ := 102) ?_; refine Zy ?_; refine Z0 ?_
   refine JD ?_; refine X0 ?_; refine JR ?_; refine ZL ?_; refine Z9 (hcon := nb) ?_; refine Z1 ?_; refine ZF ?_; refine ZF ?_; refine Zw (γ := 103) ?_; refine Zy ?_; refine Z0 ?_; refine JD ?_; refine X0 ?_
   refine X0 ?_; refine JR ?_; refine Z1 ?_; refine Z1 ?_; refine Z1 ?_; refine Zn ?_; refine JD ?_; refine JF ?_; refine X3 ?_; refine X0 ?_; refine X0 ?_; refine JR ?_; refine ZB ?_; refine ZC ?_
   refine ZB ?_; refine ZC ?_; refine Zv ?_; refine JD ?_; refine JT ?_; refine X0 ?_; refine JR ?_; refine Z0 ?_; refine JD ?_
   (show AWP Tryz.prog E _ _ _; refine X1 ?_; exact (show Xk _ _ _ _ _ from ⟨_, St.le_refl _, ⟨rfl, trivial⟩, X2 _⟩))
  have c3 : ¬ k = 3 := by omega
  simp only [c2, c3, if_false, Yz] at na
  generalize (if k' = 2 then (n', (1 : Int), true) else if k' = 3 then (n', d', true) else (0, 0, false)) = z at *
  obtain ⟨z1, z2, z3⟩ := z
  simp only [Yz] at na nb
  refine X0 ?_; refine JR ?_; refine ZA (γ := 100) ?_; refine ZA (γ := 101) ?_; refine Z0 ?_; refine JD ?_; refine X0 ?_; refine X0 ?_; refine JR ?_; refine ZB ?_; refine ZC ?_; refine Zl ?_; refine Z1 ?_
  refine ZB ?_; refine ZC ?_; refine Zl ?_; refine Zq ?_; refine Z1 ?_; refine ZL ?_; refine Z9 (hcon := va) ?_; refine Zu ?_; refine Zq ?_; refine Z1 ?_; refine ZL ?_; refine Z9 (hcon := vb) ?_; refine Zu ?_; refine Zq ?_
  refine JD ?_; refine JF ?_; refine X3 ?_; refine X0 ?_; refine JR ?_; refine ZL ?_; refine Z9 (hcon := na) ?_; refine Z1 ?_; refine ZF ?_; refine ZF ?_; refine Zw (γ := 102) ?_; refine Zy ?_; refine Z0 ?_
  refine JD ?_; refine X0 ?_; refine JR ?_; refine ZL ?_; refine Z9 (hcon := nb) ?_; refine Z1 ?_; refine ZF ?_; refine ZF ?_; refine Zw (γ := 103) ?_; refine Zy ?_; refine Z0 ?_; refine JD ?_; refine X0 ?_
  refine X0 ?_; refine JR ?_; refine Z1 ?_; refine Z1 ?_; refine Zo ?_; refine Zq ?_; refine JD ?_; refine JF ?_; refine X3 ?_; refine X0 ?_; refine X0 ?_; refine JR ?_; refine ZB ?_; refine ZC ?_
  refine ZB ?_; refine ZC ?_; refine Zv ?_; refine JD ?_; refine JT ?_; refine X0 ?_; refine JR ?_; refine Z0 ?_; refine JD ?_
  (show AWP Tryz.prog E _ _ _; refine X1 ?_; exact (show Xk _ _ _ _ _ from ⟨_, St.le_refl _, ⟨rfl, trivial⟩, X2 _⟩))
 subst ck
 by_cases c2 : k = 2
 ·subst c2
  simp only [if_true, eq_self_iff_true, Yz] at na nb
  obtain rfl : s = [] := p5 (by omega)
  obtain rfl : s' = [] := q5 (by omega)
  have r1 := p8 rfl
  have r2 := q8 rfl
  have hc := X7w n n' (by omega) (by omega)
  have hz := X9M (n := n) (m := n') (by omega) (by omega)
  obtain rfl : e = decide (n = n') := he.trans (by simp)
  clear he
  rw [← hz]
  clear hz
  have hy := X2a (decide (VS n n' = 0))
  generalize VS n n' = q at *
  refine X0 ?_; refine JR ?_; refine ZA (γ := 100) ?_; refine ZA (γ := 101) ?_; refine Z0 ?_; refine JD ?_; refine X0 ?_; refine X0 ?_; refine JR ?_; refine ZB ?_; refine ZC ?_; refine Zl ?_; refine Z1 ?_
  refine ZB ?_; refine ZC ?_; refine Zl ?_; refine Zq ?_; refine Z1 ?_; refine ZL ?_; refine Z9 (hcon := va) ?_; refine Zu ?_; refine Zq ?_; refine Z1 ?_; refine ZL ?_; refine Z9 (hcon := vb) ?_; refine Zu ?_; refine Zq ?_
  refine JD ?_; refine JF ?_; refine X3 ?_; refine X0 ?_; refine JR ?_; refine ZL ?_; refine Z9 (hcon := na) ?_; refine Z1 ?_; refine ZF ?_; refine ZF ?_; refine Zw (γ := 102) ?_; refine Zy ?_; refine Z0 ?_
  refine JD ?_; refine X0 ?_; refine JR ?_; refine ZL ?_; refine Z9 (hcon := nb) ?_; refine Z1 ?_; refine ZF ?_; refine ZF ?_; refine Zw (γ := 103) ?_; refine Zy ?_; refine Z0 ?_; refine JD ?_; refine X0 ?_
  refine X0 ?_; refine JR ?_; refine Z1 ?_; refine Z1 ?_; refine Z1 ?_; refine Zn ?_; refine JD ?_; refine JT ?_; refine X0 ?_; refine JR ?_; refine ZL ?_; refine ZL ?_; refine Z9 (hcon := hc) ?_; refine Zl ?_
  refine Z9 (hcon := hy) ?_; refine Z0 ?_; refine JD ?_
  (show AWP Tryz.prog E _ _ _; refine X1 ?_; exact (show Xk _ _ _ _ _ from ⟨_, St.le_refl _, ⟨rfl, trivial⟩, X2 _⟩))
 have c3 : ¬ k = 3 := by omega
 simp only [c2, c3, if_false, Yz] at na nb
 by_cases c4 : k = 4
 ·obtain rfl : n = 0 := p6 c4
  obtain rfl : n' = 0 := q6 c4
  have hy := X2a (decide (s = s'))
  obtain rfl : e = decide (s = s') := he.trans (by simp)
  clear he
  refine X0 ?_; refine JR ?_; refine ZA (γ := 100) ?_; refine ZA (γ := 101) ?_; refine Z0 ?_; refine JD ?_; refine X0 ?_; refine X0 ?_; refine JR ?_; refine ZB ?_; refine ZC ?_; refine Zl ?_; refine Z1 ?_
  refine ZB ?_; refine ZC ?_; refine Zl ?_; refine Zq ?_; refine Z1 ?_; refine ZL ?_; refine Z9 (hcon := va) ?_; refine Zu ?_; refine Zq ?_; refine Z1 ?_; refine ZL ?_; refine Z9 (hcon := vb) ?_; refine Zu ?_; refine Zq ?_
  refine JD ?_; refine JF ?_; refine X3 ?_; refine X0 ?_; refine JR ?_; refine ZL ?_; refine Z9 (hcon := na) ?_; refine Z1 ?_; refine ZF ?_; refine ZF ?_; refine Zw (γ := 102) ?_; refine Zy ?_; refine Z0 ?_
  refine JD ?_; refine X0 ?_; refine JR ?_; refine ZL ?_; refine Z9 (hcon := nb) ?_; refine Z1 ?_; refine ZF ?_; refine ZF ?_; refine Zw (γ := 103) ?_; refine Zy ?_; refine Z0 ?_; refine JD ?_; refine X0 ?_
  refine X0 ?_; refine JR ?_; refine Z1 ?_; refine Z1 ?_; refine Zo ?_; refine Zq ?_; refine JD ?_; refine JF ?_; refine X3 ?_; refine X0 ?_; refine X0 ?_; refine JR ?_; refine ZB ?_; refine ZC ?_
  refine ZB ?_; refine ZC ?_; refine Zv ?_; refine JD ?_; refine JF ?_; refine X3 ?_; refine X0 ?_; refine X0 ?_; refine JR ?_; refine ZB ?_; refine ZC ?_; refine Zl ?_; refine JD ?_; refine JT ?_
  refine X0 ?_; refine JR ?_; refine ZB ?_; refine ZC ?_; refine ZB ?_; refine ZC ?_; refine Zr ?_; refine Z9 (hcon := hy) ?_; refine Z0 ?_; refine JD ?_
  (show AWP Tryz.prog E _ _ _; refine X1 ?_; exact (show Xk _ _ _ _ _ from ⟨_, St.le_refl _, ⟨rfl, trivial⟩, X2 _⟩))
 obtain rfl : s = [] := p5 c4
 obtain rfl : s' = [] := q5 c4
 have hy := X2a (decide (n = n'))
 obtain rfl : e = decide (n = n') := he.trans (by simp)
 clear he
 refine X0 ?_; refine JR ?_; refine ZA (γ := 100) ?_; refine ZA (γ := 101) ?_; refine Z0 ?_; refine JD ?_; refine X0 ?_; refine X0 ?_; refine JR ?_; refine ZB ?_; refine ZC ?_; refine Zl ?_; refine Z1 ?_
 refine ZB ?_; refine ZC ?_; refine Zl ?_; refine Zq ?_; refine Z1 ?_; refine ZL ?_; refine Z9 (hcon := va) ?_; refine Zu ?_; refine Zq ?_; refine Z1 ?_; refine ZL ?_; refine Z9 (hcon := vb) ?_; refine Zu ?_; refine Zq ?_
 refine JD ?_; refine JF ?_; refine X3 ?_; refine X0 ?_; refine JR ?_; refine ZL ?_; refine Z9 (hcon := na) ?_; refine Z1 ?_; refine ZF ?_; refine ZF ?_; refine Zw (γ := 102) ?_; refine Zy ?_; refine Z0 ?_
 refine JD ?_; refine X0 ?_; refine JR ?_; refine ZL ?_; refine Z9 (hcon := nb) ?_; refine Z1 ?_; refine ZF ?_; refine ZF ?_; refine Zw (γ := 103) ?_; refine Zy ?_; refine Z0 ?_; refine JD ?_; refine X0 ?_
 refine X0 ?_; refine JR ?_; refine Z1 ?_; refine Z1 ?_; refine Zo ?_; refine Zq ?_; refine JD ?_; refine JF ?_; refine X3 ?_; refine X0 ?_; refine X0 ?_; refine JR ?_; refine ZB ?_; refine ZC ?_
 refine ZB ?_; refine ZC ?_; refine Zv ?_; refine JD ?_; refine JF ?_; refine X3 ?_; refine X0 ?_; refine X0 ?_; refine JR ?_; refine ZB ?_; refine ZC ?_; refine Zl ?_; refine JD ?_; refine JF ?_
 refine X3 ?_; refine X0 ?_; refine X0 ?_; refine JR ?_; refine ZB ?_; refine ZC ?_; refine Zv ?_; refine Z1 ?_; refine ZB ?_; refine ZC ?_; refine Zv ?_; refine Zn ?_; refine JD ?_; refine JT ?_
 refine X0 ?_; refine JR ?_; refine ZB ?_; refine ZC ?_; refine ZB ?_; refine ZC ?_; refine Zl ?_; refine Z9 (hcon := hy) ?_; refine Z0 ?_; refine JD ?_
 (show AWP Tryz.prog E _ _ _; refine X1 ?_; exact (show Xk _ _ _ _ _ from ⟨_, St.le_refl _, ⟨rfl, trivial⟩, X2 _⟩))
end Go.Fw
namespace Go.Fw
open Go Go.Proofs
set_option maxRecDepth 100000
set_option linter.unusedVariables false
set_option linter.unusedSimpArgs false
theorem X8o {l : List (List UInt8)} {s : List UInt8} {i : Nat} {x : List UInt8} (h : l[i]? = some x) : XM (l.drop i) s = (decide (s = x) || XM (l.drop (i + 1)) s) := by
 obtain ⟨hi, rfl⟩ := List.getElem?_eq_some_iff.1 h
 unfold XM
 rw [List.drop_eq_getElem_cons hi, List.any_cons]
theorem X9Q (l : List (List UInt8)) (s : List UInt8) (hl : l.length ≤ 9223372036854775807) : Con Tryz.prog 87 [] [.d (.sl 1 (l.map Xl)), Xt s] [] (ab (XM l s)) := by
 refine X9 (xs := [ab (XM l s)]) Tryz.func87 rfl Tryz.ntmps87 rfl rfl rfl (fun E => ?_)
 generalize hG : XM l s = G
 refine X0 ?_; refine JR ?_; refine Z0 ?_; refine JD ?_; refine X0 ?_; refine X0 ?_; refine JR ?_; refine Z0 ?_; refine JD ?_; refine X4 ?_
 refine Xs (fun i : Nat => i ≤ l.length ∧ XM (l.drop i) s = G) (fun i => ⟨18, [(0, .d (.sl 1 (l.map Xl))), (1, Xt s), (5, ai i)], []⟩) (fun i => l.length - i) 0 ⟨Nat.zero_le _, by simpa using hG⟩
  (X7 rfl JM trivial) ?_
 rintro i ⟨hi, hg⟩
 by_cases hil : i < l.length
 case neg =>
  have hn : ¬ (i : Int) < (l.map Xl).length := by rw [List.length_map]; omega
  rw [List.drop_of_length_le (by omega)] at hg
  have hg : false = G := hg
  subst hg
  refine X0 ?_; refine X0 ?_; refine JR ?_; refine Z1 ?_; refine Z1 ?_; refine Zd ?_; refine Z8 ?_; refine JD ?_; refine JF ?_; refine Xo ?_; refine X0 ?_; refine JR ?_; refine Z0 ?_; refine JD ?_
  exact X1 ⟨_, St.le_refl _, ⟨rfl, trivial⟩, X2 _⟩
 have hn : (i : Int) < (l.map Xl).length := by rw [List.length_map]; omega
 obtain ⟨x, hx⟩ := Xm (l := l) hil
 have hxc : (l.map Xl)[i]? = some (Xl x) := Xr hx
 rw [X8o hx] at hg
 by_cases hq : s = x
 ·rw [decide_eq_true hq, Bool.true_or] at hg
  subst hg
  have hq' : x = s := hq.symm
  refine X0 ?_; refine X0 ?_; refine JR ?_; refine Z1 ?_; refine Z1 ?_; refine Zd ?_; refine Z8 ?_; refine JD ?_; refine JT ?_; refine X3 ?_; refine X0 ?_; refine X4 ?_; refine X0 ?_
  refine JR ?_; refine Z1 ?_; refine Z1 ?_; refine Zj ?_; refine Zk ?_; refine Z1 ?_; refine Zr ?_; refine JD ?_; refine JT ?_; refine X0 ?_; refine JR ?_; refine Z0 ?_; refine JD ?_
  exact X1 ⟨_, St.le_refl _, ⟨rfl, trivial⟩, X2 _⟩
 rw [decide_eq_false hq, Bool.false_or] at hg
 have hq' : ¬ x = s := fun e => hq e.symm
 refine X0 ?_; refine X0 ?_; refine JR ?_; refine Z1 ?_; refine Z1 ?_; refine Zd ?_; refine Z8 ?_; refine JD ?_; refine JT ?_; refine X3 ?_; refine X0 ?_; refine X4 ?_; refine X0 ?_
 refine JR ?_; refine Z1 ?_; refine Z1 ?_; refine Zj ?_; refine Zk ?_; refine Z1 ?_; refine Zr ?_; refine JD ?_; refine JF ?_; refine X3 ?_; refine JR ?_; refine Z1 ?_; refine Zb ?_; refine Z0 ?_; refine JD ?_
 exact ⟨i + 1, ⟨by omega, hg⟩, by omega, X7 rfl JM trivial⟩
theorem X6m (n : Nod) (s : List UInt8) (hl : n.labels.length ≤ 9223372036854775807) : Con Tryz.prog 34 [] [.agg [ai n.id, .d (.sl 1 (n.labels.map Xl)), .d (.sl 6 (n.props.map Xg))], Xt s] [] (ab (XM n.labels s)) := by
 refine X9 (xs := [ab (XM n.labels s)]) Tryz.func34 rfl Tryz.ntmps34 rfl rfl rfl (fun E => ?_)
 have hc := X9Q n.labels s hl
 generalize XM n.labels s = q at *
 refine X0 ?_; refine JR ?_; refine ZA (γ := 100) ?_; refine Z0 ?_; refine JD ?_; refine X0 ?_; refine JR ?_; refine ZB ?_; refine ZC ?_; refine Z1 ?_; refine Z9 (hcon := hc) ?_; refine Z0 ?_; refine JD ?_
 exact X1 ⟨_, St.le_refl _, ⟨rfl, trivial⟩, X2 _⟩
end Go.Fw
namespace Go.Fw
open Go
set_option linter.unusedVariables false
set_option linter.unusedSimpArgs false
theorem X5z {v : Val} (h : XF v = true) : XY v := by
 obtain ⟨k, n, d, s, l⟩ := v
 obtain ⟨_, _, _, rfl, _, _, p7, _⟩ := Ve h
 rw [XY]
 exact ⟨by omega, by simp, by simp [Ub]⟩
def X2R (o : Option Val) (b : Bool) : Option Val := match o with
 | some v => if b then some v else none
 | none => none
theorem X91 (r : Rul) (n : Nod) : Yy r n = X2R (XU n.props r.key) (XM n.labels r.name) := by
 unfold Yy X2R
 cases XU n.props r.key <;> rfl
end Go.Fw
namespace Go.Fw
open Go
set_option linter.unusedVariables false
set_option linter.unusedSimpArgs false
def X0K (H : List (Int × Val)) : Prop := H.Pairwise fun a b => a.1 < b.1
theorem X62 {x : Int × Val} {r : List (Int × Val)} {p : Int × Int} : p ∈ Uw x r ↔ ∃ b ∈ r, eqV x.2 b.2 = true ∧ p = (x.1, b.1) := by
 unfold Uw
 simp only [List.mem_map, List.mem_filter]
 constructor
 ·rintro ⟨b, ⟨h1, h2⟩, rfl⟩; exact ⟨b, h1, h2, rfl⟩
 ·rintro ⟨b, h1, h2, rfl⟩; exact ⟨b, ⟨h1, h2⟩, rfl⟩
theorem X0d : ∀ {H : List (Int × Val)} {p : Int × Int}, X0K H → (p ∈ XQ H ↔ ∃ a ∈ H, ∃ b ∈ H, a.1 < b.1 ∧ eqV a.2 b.2 = true ∧ p = (a.1, b.1))
 | [], p, _ => by simp [XQ]
 | x :: r, p, h => by
  obtain ⟨h1, h2⟩ := List.pairwise_cons.1 h
  have ih := X0d (H := r) (p := p) h2
  have e : XQ (x :: r) = Uw x r ++ XQ r := rfl
  rw [e, List.mem_append, X62, ih]
  constructor
  ·rintro (⟨b, hb, he, rfl⟩ | ⟨a, ha, b, hb, hl, he, rfl⟩)
   ·exact ⟨x, by simp, b, by simp [hb], h1 b hb, he, rfl⟩
   ·exact ⟨a, by simp [ha], b, by simp [hb], hl, he, rfl⟩
  ·rintro ⟨a, ha, b, hb, hl, he, rfl⟩
   rcases List.mem_cons.1 ha with rfl | ha2
   ·rcases List.mem_cons.1 hb with rfl | hb2
    ·exact absurd hl (Int.lt_irrefl _)
    ·exact .inl ⟨b, hb2, he, rfl⟩
   ·rcases List.mem_cons.1 hb with rfl | hb2
    ·exact absurd (Int.lt_trans hl (h1 a ha2)) (Int.lt_irrefl _)
    ·exact .inr ⟨a, ha2, b, hb2, hl, he, rfl⟩
def X2h (p q : Int × Int) : Prop := p.1 < q.1 ∨ (p.1 = q.1 ∧ p.2 < q.2)
theorem X3D : ∀ {H : List (Int × Val)}, X0K H → (XQ H).Pairwise X2h
 | [], _ => List.Pairwise.nil
 | x :: r, h => by
  obtain ⟨h1, h2⟩ := List.pairwise_cons.1 h
  have e : XQ (x :: r) = Uw x r ++ XQ r := rfl
  rw [e, List.pairwise_append]
  refine ⟨?_, X3D h2, fun p hp q hq => ?_⟩
  ·unfold Uw
   rw [List.pairwise_map]
   exact (List.Pairwise.filter _ h2).imp fun hab => .inr ⟨rfl, hab⟩
  ·obtain ⟨b, hb, _, rfl⟩ := X62.1 hp
   obtain ⟨a, ha, c, _, _, _, rfl⟩ := (X0d h2).1 hq
   exact .inl (h1 a ha)
theorem X71 {a b c : Val} (h1 : eqV a b = true) (h2 : eqV a c = true) : eqV b c = true := by
 unfold eqV at *
 simp only [decide_eq_true_eq] at *
 obtain ⟨a1, a2, a3⟩ := h1
 obtain ⟨b1, b2, b3⟩ := h2
 exact ⟨by omega, by omega, by rw [← a3, b3]⟩
theorem X7P {H : List (Int × Val)} (h : X0K H) {a b : Int × Val} (ha : a ∈ H) (hb : b ∈ H) (e : a.1 = b.1) : a = b := by
 induction H with
 | nil => simp at ha
 | cons x r ih =>
  obtain ⟨h1, h2⟩ := List.pairwise_cons.1 h
  rcases List.mem_cons.1 ha with rfl | ha2 <;> rcases List.mem_cons.1 hb with rfl | hb2
  ·rfl
  ·have := h1 b hb2; omega
  ·have := h1 a ha2; omega
  ·exact ih h2 ha2 hb2
theorem X85 {H : List (Int × Val)} (h : X0K H) {a b c : Int} (h1 : (a, b) ∈ XQ H) (h2 : (a, c) ∈ XQ H) (hl : b < c) : (b, c) ∈ XQ H := by
 obtain ⟨x, hx, y, hy, _, e1, p1⟩ := (X0d h).1 h1
 obtain ⟨x', hx', z, hz, _, e2, p2⟩ := (X0d h).1 h2
 simp only [Prod.mk.injEq] at p1 p2
 have := X7P h hx hx' (by rw [← p1.1, ← p2.1])
 subst this
 exact (X0d h).2 ⟨y, hy, z, hz, by rw [← p1.2, ← p2.2]; exact hl, X71 e1 e2, by rw [p1.2, p2.2]⟩
theorem X1Y {r : Rul} : ∀ {l : List Nod}, l.Pairwise (fun a b => a.id < b.id) → X0K (XE r l)
 | [], _ => List.Pairwise.nil
 | n :: l, h => by
  obtain ⟨h1, h2⟩ := List.pairwise_cons.1 h
  have ih := X1Y (r := r) h2
  unfold XE at *
  rw [List.filterMap_cons]
  cases ho : Yy r n with
  | none => simpa [ho] using ih
  | some v =>
   simp only [ho, Option.map_some]
   refine List.pairwise_cons.2 ⟨fun b hb => ?_, ih⟩
   rw [List.mem_filterMap] at hb
   obtain ⟨m, hm, e⟩ := hb
   cases hm2 : Yy r m with
   | none => rw [hm2] at e; simp at e
   | some w =>
    rw [hm2] at e
    simp at e
    rw [← e]
    exact h1 m hm
theorem X6R {r : Rul} {l : List Nod} {h : Int × Val} (hh : h ∈ XE r l) : ∃ n ∈ l, n.id = h.1 ∧ Yy r n = some h.2 := by
 unfold XE at hh
 rw [List.mem_filterMap] at hh
 obtain ⟨n, hn, e⟩ := hh
 cases ho : Yy r n with
 | none => rw [ho] at e; simp at e
 | some v => rw [ho] at e; simp at e; subst e; exact ⟨n, hn, rfl, ho⟩
theorem X5c {l : List Nod} (h : l.Pairwise (fun a b => a.id < b.id)) {n : Nod} (hn : n ∈ l) : XR l n.id = some n := by
 induction l with
 | nil => simp at hn
 | cons x r ih =>
  obtain ⟨h1, h2⟩ := List.pairwise_cons.1 h
  unfold XR at *
  rw [List.find?_cons]
  rcases List.mem_cons.1 hn with rfl | hn
  ·simp
  ·have := h1 n hn
   have hne : ¬ x.id = n.id := by omega
   simp only [hne, decide_false]
   exact ih h2 hn
theorem Xb8 {l : List Nod} (h : X0E l) : l.Pairwise (fun a b => a.id < b.id) := by
 rw [List.pairwise_iff_getElem]
 intro i j hi hj hij
 exact h i j l[i] l[j] (List.getElem?_eq_getElem hi) (List.getElem?_eq_getElem hj) hij
theorem X2k {g : Gra} (h : XC g = 0) : g.nodes.Pairwise (fun a b => a.id < b.id) := by
 unfold XC at h
 by_cases c1 : 2000 < g.nodes.length ∨ 4000 < g.edges.length
 ·rw [if_pos c1] at h; simp at h
 rw [if_neg c1] at h
 by_cases c2 : g.nn < 1 ∨ 1000001 < g.nn ∨ g.ne < 1 ∨ 1000001 < g.ne
 ·rw [if_pos c2] at h; simp at h
 rw [if_neg c2] at h
 by_cases c3 : XZ g.nn none g.nodes ≠ 0
 ·rw [if_pos c3] at h; exact absurd h c3
 have c3 : XZ g.nn none g.nodes = 0 := by simpa using c3
 exact Xb8 (X35 _ _ c3).2
theorem X26 {r : Rul} {n : Nod} {v : Val} (h : Yy r n = some v) : XU n.props r.key = some v ∧ XM n.labels r.name = true := by
 rw [X91] at h
 unfold X2R at h
 cases hp : XU n.props r.key with
 | none => rw [hp] at h; simp at h
 | some w =>
  rw [hp] at h
  simp only at h
  by_cases hl : XM n.labels r.name = true
  ·rw [if_pos hl] at h; exact ⟨h, hl⟩
  ·rw [if_neg hl] at h; simp at h
theorem X8u {r : Rul} {g : Gra} (h : XC g = 0) {p : Int × Int} (hp : p ∈ XQ (XE r g.nodes)) : ∃ na nb va vb, XR g.nodes p.1 = some na ∧ XR g.nodes p.2 = some nb ∧ p.1 < p.2 ∧ XM na.labels r.name = true ∧ XM nb.labels r.name = true ∧
  XU na.props r.key = some va ∧ XU nb.props r.key = some vb ∧ eqV va vb = true ∧ XF va = true ∧ XF vb = true := by
 have hr := X2k h
 have hf := (X0q h).nodes
 obtain ⟨a, ha, b, hb, hl, he, rfl⟩ := (X0d (X1Y hr)).1 hp
 obtain ⟨na, ma, ea, oa⟩ := X6R ha
 obtain ⟨nb, mb, eb, ob⟩ := X6R hb
 have na1 := X5c hr ma
 have nb1 := X5c hr mb
 rw [ea] at na1
 rw [eb] at nb1
 exact ⟨na, nb, a.2, b.2, na1, nb1, hl, (X26 oa).2, (X26 ob).2, (X26 oa).1, (X26 ob).1, he, X2Y (hf na ma) oa, X2Y (hf nb mb) ob⟩
theorem Xbx {r : Rul} {g : Gra} (h : XC g = 0) {i j : Nat} {p q : Int × Int} (hp : (XQ (XE r g.nodes))[i]? = some p) (hq : (XQ (XE r g.nodes))[j]? = some q) (hij : i < j) : X2h p q := by
 have := X3D (X1Y (r := r) (X2k h))
 rw [List.pairwise_iff_getElem] at this
 obtain ⟨hi, rfl⟩ := List.getElem?_eq_some_iff.1 hp
 obtain ⟨hj, rfl⟩ := List.getElem?_eq_some_iff.1 hq
 exact this i j hi hj hij
theorem X6W {r : Rul} {g : Gra} (h : XC g = 0) {a b c : Int} (h1 : (a, b) ∈ XQ (XE r g.nodes)) (h2 : (a, c) ∈ XQ (XE r g.nodes)) (hl : b < c) : (b, c) ∈ XQ (XE r g.nodes) :=
 X85 (X1Y (X2k h)) h1 h2 hl
def Vf (l : List (Int × Int)) (a b : Int) : Bool := l.any fun q => decide (q.1 = a ∧ q.2 = b)
theorem X3c {l : List (Int × Int)} {a b : Int} (h : (a, b) ∈ l) : Vf l a b = true := by
 unfold Vf
 rw [List.any_eq_true]
 exact ⟨(a, b), h, by simp⟩
theorem X6Y {l : List (Int × Int)} {i : Nat} {q : Int × Int} {a b : Int} (h : l[i]? = some q) : Vf (l.drop i) a b = (decide (q.1 = a ∧ q.2 = b) || Vf (l.drop (i + 1)) a b) := by
 obtain ⟨hi, rfl⟩ := List.getElem?_eq_some_iff.1 h
 unfold Vf
 rw [List.drop_eq_getElem_cons hi, List.any_cons]
theorem X8A {r : Rul} {g : Gra} (h : ofS r g ≠ []) : Yq r = 0 ∧ XC g = 0 ∧ ofS r g = ofV r g := by
 unfold ofS at *
 by_cases c : Yq r ≠ 0 ∨ XC g ≠ 0
 ·rw [if_pos c] at h; exact absurd rfl h
 ·rw [if_neg c]
  exact ⟨by
   by_cases q : Yq r = 0
   ·exact q
   ·exact absurd (.inl q) c, by
   by_cases q : XC g = 0
   ·exact q
   ·exact absurd (.inr q) c, rfl⟩
end Go.Fw
namespace Go.Fw
open Go Go.Proofs
set_option maxRecDepth 100000
set_option linter.unusedVariables false
set_option linter.unusedSimpArgs false
theorem X30 (l : List (Int × Int)) (a b : Int) (hl : l.length ≤ 9223372036854775807) : Con Tryz.prog 37 [] [.d (.sl 2 (l.map Xf)), .agg [ai a, ai b]] [] (ab (Vf l a b)) := by
 refine X9 (xs := [ab (Vf l a b)]) Tryz.func37 rfl Tryz.ntmps37 rfl rfl rfl (fun E => ?_)
 generalize hG : Vf l a b = G
 refine X0 ?_; refine JR ?_; refine ZA (γ := 100) ?_; refine Z0 ?_; refine JD ?_; refine X0 ?_; refine X0 ?_; refine JR ?_; refine Z0 ?_; refine JD ?_; refine X4 ?_
 refine Xs (fun i : Nat => i ≤ l.length ∧ Vf (l.drop i) a b = G) (fun i => ⟨18, [(0, .d (.sl 2 (l.map Xf))), (3, .ptr 100 0), (5, ai i)], [(100, .box [ai a, ai b])]⟩) (fun i => l.length - i) 0 ⟨Nat.zero_le _, by simpa using hG⟩
  (X7 rfl JM ⟨rfl, trivial⟩) ?_
 rintro i ⟨hi, hg⟩
 by_cases hil : i < l.length
 case neg =>
  have hn : ¬ (i : Int) < (l.map Xf).length := by rw [List.length_map]; omega
  rw [List.drop_of_length_le (by omega)] at hg
  have hg : false = G := hg
  subst hg
  refine X0 ?_; refine X0 ?_; refine JR ?_; refine Z1 ?_; refine Z1 ?_; refine Zd ?_; refine Z8 ?_; refine JD ?_; refine JF ?_; refine Xo ?_; refine X0 ?_; refine JR ?_; refine Z0 ?_; refine JD ?_
  (show AWP Tryz.prog E _ _ _; refine X1 ?_; exact (show Xk _ _ _ _ _ from ⟨_, St.le_refl _, ⟨rfl, trivial⟩, X2 _⟩))
 have hn : (i : Int) < (l.map Xf).length := by rw [List.length_map]; omega
 obtain ⟨x, hx⟩ := Xm (l := l) hil
 have hxc : (l.map Xf)[i]? = some (Xf x) := Xr hx
 rw [X6Y hx] at hg
 obtain ⟨xa, xb⟩ := x
 simp only [Xf] at hxc hg
 clear hx hG
 by_cases hq : xa = a ∧ xb = b
 ·rw [decide_eq_true hq, Bool.true_or] at hg
  subst hg
  have hz : Yv [.int .i64 xa, .int .i64 xb] [.int .i64 a, .int .i64 b] = true := by simp [Yv, Uu, hq.1, hq.2]
  refine X0 ?_; refine X0 ?_; refine JR ?_; refine Z1 ?_; refine Z1 ?_; refine Zd ?_; refine Z8 ?_; refine JD ?_; refine JT ?_; refine X3 ?_; refine X0 ?_; refine X4 ?_; refine X0 ?_
  refine JR ?_; refine Z1 ?_; refine Z1 ?_; refine Zj ?_; refine ZK ?_; refine ZL ?_
  refine Z07 (us := [.int .i64 xa, .int .i64 xb]) (vs := [.int .i64 a, .int .i64 b]) (r := true) ?_ (hk := by exact X0X) (hr := by exact hz); refine JD ?_; refine JT ?_; refine X0 ?_; refine JR ?_; refine Z0 ?_
  refine JD ?_
  (show AWP Tryz.prog E _ _ _; refine X1 ?_; exact (show Xk _ _ _ _ _ from ⟨_, St.le_refl _, ⟨rfl, trivial⟩, X2 _⟩))
 rw [decide_eq_false hq, Bool.false_or] at hg
 have hz : Yv [.int .i64 xa, .int .i64 xb] [.int .i64 a, .int .i64 b] = false := by
  rw [Bool.eq_false_iff]
  intro h
  apply hq
  simpa [Yv, Uu] using h
 refine X0 ?_; refine X0 ?_; refine JR ?_; refine Z1 ?_; refine Z1 ?_; refine Zd ?_; refine Z8 ?_; refine JD ?_; refine JT ?_; refine X3 ?_; refine X0 ?_; refine X4 ?_; refine X0 ?_
 refine JR ?_; refine Z1 ?_; refine Z1 ?_; refine Zj ?_; refine ZK ?_; refine ZL ?_
 refine Z07 (us := [.int .i64 xa, .int .i64 xb]) (vs := [.int .i64 a, .int .i64 b]) (r := false) ?_ (hk := by exact X0X) (hr := by exact hz); refine JD ?_; refine JF ?_; refine X3 ?_; refine JR ?_; refine Z1 ?_
 refine Zb ?_; refine Z0 ?_; refine JD ?_
 exact ⟨i + 1, ⟨by omega, hg⟩, by omega, X7 rfl JM ⟨rfl, trivial⟩⟩
theorem X6b (l : List Prp) (key : List UInt8) (hl : l.length ≤ 9223372036854775807) : Con Tryz.prog 36 [] [.d (.sl 6 (l.map Xg)), Xt key] [] (Xn ((XU l key).getD zV)) := by
 refine X9 (xs := [Xn ((XU l key).getD zV)]) Tryz.func36 rfl Tryz.ntmps36 rfl rfl rfl (fun E => ?_)
 generalize hG : XU l key = G
 refine X0 ?_; refine JR ?_; refine Zw (γ := 100) ?_; refine JD ?_; refine X0 ?_; refine X0 ?_; refine JR ?_; refine Z0 ?_; refine JD ?_; refine X4 ?_
 refine Xs (fun i : Nat => i ≤ l.length ∧ XU (l.drop i) key = G) (fun i => ⟨25, [(0, .d (.sl 6 (l.map Xg))), (1, Xt key), (4, .ptr 100 0), (5, ai i)], [(100, .box [ai 0, ai 0, ai 0, Xt [], ani])]⟩) (fun i => l.length - i) 0 ⟨Nat.zero_le _, by simpa using hG⟩
  (X7 rfl JM ⟨rfl, trivial⟩) ?_
 rintro i ⟨hi, hg⟩
 by_cases hil : i < l.length
 case neg =>
  have hn : ¬ (i : Int) < (l.map Xg).length := by rw [List.length_map]; omega
  rw [List.drop_of_length_le (by omega), XU] at hg
  subst hg
  simp only [Option.getD_none, zV, Xn]
  refine X0 ?_; refine X0 ?_; refine JR ?_; refine Z1 ?_; refine Z1 ?_; refine Zd ?_; refine Z8 ?_; refine JD ?_; refine JF ?_; refine Xo ?_; refine X0 ?_; refine JR ?_; refine Zx ?_; refine Zy ?_
  refine JD ?_
  (show AWP Tryz.prog E _ _ _; refine X1 ?_; exact (show Xk _ _ _ _ _ from ⟨_, VJ 100 (cs' := [ai 0, ai 0, ai 0, Xt [], .d (.sl 5 [])]) rfl JM rfl, ⟨⟨100, 0, _, rfl, rfl, .inr ⟨5, _, rfl, rfl, rfl, rfl⟩⟩, trivial⟩, X2 _⟩))
 have hn : (i : Int) < (l.map Xg).length := by rw [List.length_map]; omega
 obtain ⟨x, hx⟩ := Xm (l := l) hil
 have hxc : (l.map Xg)[i]? = some (Xg x) := Xr hx
 rw [X4V hx] at hg
 obtain ⟨xkey, ⟨vk, vn, vd, vs, vl⟩⟩ := x
 simp only [Xg, Y8] at hxc hg
 clear hx
 by_cases hq : xkey = key
 ·rw [if_pos hq] at hg
  subst hg
  simp only [Option.getD_some, Xn]
  refine X0 ?_; refine X0 ?_; refine JR ?_; refine Z1 ?_; refine Z1 ?_; refine Zd ?_; refine Z8 ?_; refine JD ?_; refine JT ?_; refine X3 ?_; refine X0 ?_; refine X4 ?_; refine X0 ?_
  refine JR ?_; refine Z1 ?_; refine Z1 ?_; refine Zj ?_; refine ZN ?_; refine Zk ?_; refine Z1 ?_; refine Zr ?_; refine JD ?_; refine JT ?_; refine X0 ?_; refine JR ?_; refine Z1 ?_; refine Z1 ?_; refine Zj ?_
  refine ZN ?_; refine ZK ?_; refine Zy ?_; refine JD ?_
  (show AWP Tryz.prog E _ _ _; refine X1 ?_; exact (show Xk _ _ _ _ _ from ⟨_, St.le_refl _, ⟨⟨100, 0, _, rfl, rfl, .inr ⟨5, _, rfl, rfl, rfl, rfl⟩⟩, trivial⟩, X2 _⟩))
 rw [if_neg hq] at hg
 refine X0 ?_; refine X0 ?_; refine JR ?_; refine Z1 ?_; refine Z1 ?_; refine Zd ?_; refine Z8 ?_; refine JD ?_; refine JT ?_; refine X3 ?_; refine X0 ?_; refine X4 ?_; refine X0 ?_
 refine JR ?_; refine Z1 ?_; refine Z1 ?_; refine Zj ?_; refine ZN ?_; refine Zk ?_; refine Z1 ?_; refine Zr ?_; refine JD ?_; refine JF ?_; refine X3 ?_; refine JR ?_; refine Z1 ?_; refine Zb ?_; refine Z0 ?_
 refine JD ?_
 exact ⟨i + 1, ⟨by omega, hg⟩, by omega, X7 rfl JM ⟨rfl, trivial⟩⟩
end Go.Fw
