/- The reference's Uint and Int; Str. -/
import Derived.Test.YtbhleedlnaakkaaGreatG14
set_option maxHeartbeats 8000000
namespace Go.Fw
open Go Go.Proofs
set_option maxRecDepth 100000
set_option linter.unusedVariables false
set_option linter.unusedSimpArgs false
theorem X8Q {b : List UInt8} {a most : Int} : Y9 b a most = if (Xe b a).2.2 ≠ 0 then ([], 0, (Xe b a).2.2) else if most < (Xe b a).1 then ([], 0, 4) else if (b.length : Int) - (Xe b a).2.1 < (Xe b a).1 then ([], 0, 3) else
  ((b.drop (Xe b a).2.1.toNat).take (Xe b a).1.toNat, (Xe b a).2.1 + (Xe b a).1, 0) := rfl
theorem X3q {b : List UInt8} {a : Int} : (Xe b a).2.2 = 0 → ∃ n f : Nat, (Xe b a).1 = n ∧ (Xe b a).2.1 = f ∧ f ≤ b.length ∧ (n : Int) ≤ 9223372036854775807 := by
 intro h
 obtain ⟨⟨k1, k2, k3, k4⟩, k5, k6, k7⟩ := X1v (b := b) (a := a) (n := (Xe b a).1) (e := (Xe b a).2.1) (by rw [← h])
 exact ⟨(Xe b a).1.toNat, (Xe b a).2.1.toNat, by omega, by omega, by omega, by omega⟩
theorem X5P (b : List UInt8) (a most : Int) (hb : b.length ≤ 281474976710656) : Con Tryz.prog 172 [] [.d (Xa b), ai a, ai most] [] (X2a (XD (Y9 b a most).1) (Y9 b a most).2.1 (Y9 b a most).2.2) := by
 refine X9 (xs := [XD (Y9 b a most).1, ai (Y9 b a most).2.1, ai (Y9 b a most).2.2]) Tryz.func172 rfl Tryz.ntmps172 rfl rfl rfl (fun E => ?_)
 have hr := X3e b a hb
 have hf := X3q (b := b) (a := a)
 rw [X8Q]
 generalize Xe b a = r at *
 obtain ⟨n, f, err⟩ := r
 simp only at hf ⊢
 by_cases h2 : err = 0
 ·obtain ⟨n, f, rfl, rfl, hf1, hf2⟩ := hf h2
  rw [if_neg (by simpa using h2)]
  by_cases h3 : most < (n : Int)
  ·rw [if_pos h3]
   repeat first | refine X0 ?_ | (refine JR ?_; (repeat first | refine Z1 ?_ | refine Z0 ?_ | refine Zs ?_ | refine Zv ?_ | refine ZF ?_ | refine Z9 (hcon := hr) ?_); refine JD ?_) | refine JT ?_ | refine JF ?_ | refine X4 ?_
   exact X1 ⟨_, St.le_refl _, ⟨rfl, rfl, rfl, trivial⟩, X3 _⟩
  rw [if_neg h3]
  by_cases h4 : (b.length : Int) - f < n
  ·rw [if_pos h4]
   repeat first | refine X0 ?_ | (refine JR ?_; (repeat first | refine Z1 ?_ | refine Z0 ?_ | refine Zd ?_ | refine Zs ?_ | refine Zv ?_ | refine ZR ?_ | refine ZF ?_ | refine Z9 (hcon := hr) ?_); refine JD ?_) | refine JT ?_ | refine JF ?_ | refine X4 ?_
   exact X1 ⟨_, St.le_refl _, ⟨rfl, rfl, rfl, trivial⟩, X3 _⟩
  rw [if_neg h4]
  have hsl : ((b.map X6).take (f + n)).drop f = ((b.drop f).take n).map X6 := by rw [List.map_take, List.map_drop, List.drop_take, Nat.add_sub_cancel_left]
  repeat first | refine X0 ?_ | (refine JR ?_; (repeat first | refine Z7 (op := .add) (r' := ni (f + n)) (u := ni f) (v := ni n) ?_ (hr := by exact Yb (by rw [Xx]; omega)) | refine ZV (lb := f) (hb := f + n) (ys := ((b.drop f).take n).map X6) ?_ (hys := by exact hsl) | refine Z1 ?_ | refine Z0 ?_ | refine Zd ?_ | refine Zs ?_ | refine Zv ?_ | refine ZR ?_ | refine ZF ?_ | refine ZW ?_ | refine Z9 (hcon := hr) ?_); refine JD ?_) | refine JF ?_ | refine X4 ?_ | refine X2 ?_
  exact X1 ⟨_, St.le_refl _, ⟨rfl, rfl, rfl, trivial⟩, X3 _⟩
 ·rw [if_pos h2]
  repeat first | refine X0 ?_ | (refine JR ?_; (repeat first | refine Z1 ?_ | refine Z0 ?_ | refine Zv ?_ | refine ZF ?_ | refine Z9 (hcon := hr) ?_); refine JD ?_) | refine JT ?_ | refine X4 ?_
  exact X1 ⟨_, St.le_refl _, ⟨rfl, rfl, rfl, trivial⟩, X3 _⟩
end Go.Fw
namespace Go.Fw
open Go Go.Proofs
set_option maxRecDepth 100000
set_option linter.unusedVariables false
set_option linter.unusedSimpArgs false
abbrev zB : List D := [.v (.int .u8 0)]
theorem Xhx {b : List UInt8} {i : Nat} (hi : i < 4) : ∃ y, (Ua b)[i]? = some y ∧ n8 (XT b / 2 ^ (8 * i) % 256) = n8 y.toNat := by
 have hs := X1T b
 rcases i with _ | _ | _ | _ | i
 ·exact ⟨_, rfl, by rw [UL (by omega)]; simp⟩
 ·exact ⟨_, rfl, by rw [UL (by omega)]⟩
 ·exact ⟨_, rfl, by rw [UL (by omega)]⟩
 ·exact ⟨_, rfl, by rw [UL (by omega)]; show n8 (XT b / 16777216 % 256) = _; rw [Nat.mod_eq_of_lt (by omega)]⟩
 ·omega
theorem X6H (b : List UInt8) (hb : b.length ≤ 65536) : Con Tryz.prog 40 [] [.d (Xa b)] [] (.d (Xa (Y2 b))) := by
 refine X9 (xs := [.d (Xa (Y2 b))]) Tryz.func40 rfl Tryz.ntmps40 rfl rfl rfl (fun E => ?_)
 have hl : (Xc (b.length : Int)).length ≤ 10 := by rw [X1o (by omega)]; exact X0I (by omega)
 have hpc := X2V b.length (by omega)
 have hput : Y2 b = Xc (b.length : Int) ++ b ++ Ua b := rfl
 generalize Xc (b.length : Int) = hd at *
 have hlb : (List.map X6 b).length = b.length := by simp
 have hlm : (List.map X6 hd).length = hd.length := by simp
 have hm1 : hd.length = min (hd.map X6).length (List.replicate ((hd.map X6).length + (b.map X6).length + 4) (zD (Value.int IntKind.u8 0).cells.toList)).length := by simp; omega
 have hk : hd.length ≤ ((hd.map X6).take hd.length ++ (List.replicate ((hd.map X6).length + (b.map X6).length + 4) (zD (Value.int IntKind.u8 0).cells.toList)).drop hd.length).length := by simp
 have hm2 : b.length = min (b.map X6).length (((hd.map X6).take hd.length ++ (List.replicate ((hd.map X6).length + (b.map X6).length + 4) (zD (Value.int IntKind.u8 0).cells.toList)).drop hd.length).length - hd.length) := by simp; omega
 refine X0 ?_; refine JR ?_; refine Z0 ?_; refine JD ?_; refine X0 ?_; refine JR ?_; refine Z1 ?_; refine Zd ?_; refine Z9 (hcon := hpc) ?_; refine Z0 ?_; refine JD ?_; refine X0 ?_; refine JR ?_
 refine Z1 ?_; refine Zd ?_; refine Z1 ?_; refine Zd ?_; refine Zb ?_; refine Zb ?_; refine Ze (γ := 131) ?_; refine Z0 ?_; refine JD ?_; refine X0 ?_; refine JR ?_; refine Z1 ?_; refine Z1 ?_
 refine Zf (m := hd.length) ?_ (hm := by exact hm1); refine Z0 ?_; refine JD ?_; refine X0 ?_; refine JR ?_; refine Z1 ?_; refine Z1 ?_; refine Z1 ?_; refine Zg (k := hd.length) ?_ (hk := by exact hk); refine Z1 ?_
 refine Zh (m := b.length) ?_ (hk := by exact hk) (hm := by exact hm2); refine Z7 (op := .add) (r' := ni (hd.length + b.length)) (u := ni hd.length) (v := ni b.length) ?_ (hr := by exact Yb (by rw [Xx]; omega))
 refine Z0 ?_; refine JD ?_; refine X0 ?_; refine JR ?_; refine Z1 ?_; refine Z9 (hcon := X6p b) ?_; refine Z0 ?_; refine JD ?_; refine X0 ?_; refine X0 ?_; refine JR ?_; refine Z1 ?_; refine JD ?_
 refine X4 ?_
 refine Xy (fun i : Nat => i ≤ 4) (fun i => ⟨45, [(4, .own 131 (hd.length + b.length + 4)), (5, ai (hd.length + b.length : Nat)), (6, ai (XT b)), (30, ai i)], [(131, .row 1 ((hd ++ b ++ (Ua b).take i).map X6 ++ List.replicate (4 - i) zB))]⟩) (fun i => 4 - i) 0 (by omega)
  (X8 rfl ⟨(by refine AVal.le_of_eq ?_; refine Eq.trans (b := AVal.own 131 ((hd.map X6).length + (b.map X6).length + 4)) rfl ?_; rw [hlb, hlm]), JL, JL, JL, trivial⟩ ⟨?_, trivial⟩) ?_
 ·refine Eq.trans (b := AObj.row 1 (List.take _ _ ++ _ ++ List.drop _ _)) rfl ?_
  congr 1
  rw [List.take_of_length_le (l := hd.map X6) (by simp), List.take_left' (by simp), List.take_of_length_le (by simp), List.drop_append, List.drop_of_length_le (by simp), List.nil_append, List.drop_drop, List.drop_replicate]
  simp only [List.take_zero, List.append_nil, List.map_append, Nat.sub_zero]
  congr 1
  rw [show (List.map X6 hd).length + (List.map X6 b).length + 4 - (hd.length + (hd.length + b.length - (List.map X6 hd).length)) = 4 by rw [hlb, hlm]; omega]
  rfl
 intro i hi
 by_cases h4 : i < 4
 ·obtain ⟨y, hy, hey⟩ := Xhx (b := b) h4
  have hs := X1T b
  have h8 : 8 * i ≤ 64 := by omega
  have hrl : ((hd ++ b ++ (Ua b).take i).map X6 ++ List.replicate (4 - i) zB).length = hd.length + b.length + 4 := by
   have := X11 b
   simp only [List.length_append, List.length_map, List.length_take, List.length_replicate]; omega
  have hrl2 := hrl.symm
  have hrl3 : hd.length + b.length + i < ((hd ++ b ++ (Ua b).take i).map X6 ++ List.replicate (4 - i) zB).length := by rw [hrl]; omega
  have hsl : (hd ++ b ++ (Ua b).take i).length = hd.length + b.length + i := by
   have := X11 b
   simp only [List.length_append, List.length_take]; omega
  refine X0 ?_; refine JR ?_; refine Z8 ?_; refine JD ?_; refine X0 ?_; refine JT ?_; refine X2 ?_; refine X0 ?_; refine X4 ?_; refine X0 ?_; refine JR ?_; refine Z1 ?_; refine Z0 ?_
  refine JD ?_; refine JR ?_; refine Z1 ?_; refine Z1 ?_; refine Z1 ?_
  refine Z7 (op := .add) (r' := ni (hd.length + b.length + i)) (u := ni (hd.length + b.length)) (v := ni i) ?_ (hr := by exact Yb (by rw [Xx]; omega)); refine Z1 ?_; refine Z1 ?_
  refine Z7 (op := .mul) (r' := ni (8 * i)) (u := ni 8) (v := ni i) ?_ (hr := by exact YV (by rw [Xx]; omega))
  refine Z7 (op := .shr) (r' := ni (XT b / 2 ^ (8 * i))) (u := ni (XT b)) (v := ni (8 * i)) ?_ (hr := by exact X1a h8)
  refine Z3 (u := ni (XT b / 2 ^ (8 * i))) (r := n8 y.toNat) ?_ (hr := by exact by rw [← hey]; exact YJ rfl rfl); refine ZO ?_; refine ZP ?_; refine JD ?_; refine JR ?_; refine Zb ?_; refine Z1 ?_; refine JD ?_
  refine ⟨i + 1, by omega, by omega, X8 rfl ⟨JL, JL, JL, JL, trivial⟩ ⟨?_, trivial⟩⟩
  refine Eq.trans (b := AObj.row 1 (List.take _ _ ++ [X6 y] ++ List.drop _ _)) rfl ?_
  congr 1
  rw [List.take_left' (by rw [List.length_map, hsl]), List.drop_append, List.drop_of_length_le (by rw [List.length_map, hsl]; omega), List.nil_append, List.length_map, hsl, List.drop_replicate, List.take_add_one, hy]
  simp only [Option.toList_some, List.map_append, List.map_cons, List.map_nil, List.append_assoc]
  rw [show 4 - i - (hd.length + b.length + i + 1 - (hd.length + b.length + i)) = 4 - (i + 1) by omega]
 obtain rfl : i = 4 := by omega
 have hfin : (hd ++ b ++ (Ua b).take 4).map X6 ++ List.replicate (4 - 4) zB = (Y2 b).map X6 := by
  rw [hput, List.take_of_length_le (by rw [X11]; omega)]; simp
 rw [hfin]
 refine Xm (Y0 131 rfl) ?_
 refine Xm (YC 4 131 rfl rfl (by rw [List.length_map, hput]; simp only [List.length_append, X11])) ?_
 refine X0 ?_; refine JR ?_; refine Z8 ?_; refine JD ?_; refine X0 ?_; refine JF ?_; refine Xj ?_; refine X0 ?_; refine JR ?_; refine Z1 ?_; refine Z0 ?_; refine JD ?_
 exact X1 ⟨_, St.le_refl _, ⟨rfl, trivial⟩, X3 _⟩
end Go.Fw
namespace Go.Fw
open Go Go.Proofs
set_option maxRecDepth 100000
set_option linter.unusedVariables false
set_option linter.unusedSimpArgs false
def VW (b : List UInt8) (k : Nat) : Nat → Nat
 | 0 => 0
 | i + 1 => VW b k i + 2 ^ (8 * i) * ((b[k + i]?).getD 0).toNat
theorem X9Q (b : List UInt8) (k : Nat) : ∀ i, VW b k i < 2 ^ (8 * i)
 | 0 => by simp [VW]
 | i + 1 => by
  have h1 := X9Q b k i
  have h2 := ((b[k + i]?).getD 0).toNat_lt
  simp only [VW]
  rw [show 8 * (i + 1) = 8 * i + 8 by omega, Nat.pow_add]
  have : 2 ^ (8 * i) * ((b[k + i]?).getD 0).toNat ≤ 2 ^ (8 * i) * 255 := Nat.mul_le_mul_left _ (by omega)
  omega
theorem XbQ (b : List UInt8) (k : Nat) : VW b k 4 = UX b k := by
 simp [VW, UX]
theorem Xb4 {b : List UInt8} {a : Int} : YQ b a = if (Xe b a).2.2 ≠ 0 then ([], 0, (Xe b a).2.2) else if (b.length : Int) - (Xe b a).2.1 < 4 ∨ (b.length : Int) - (Xe b a).2.1 - 4 < (Xe b a).1 then ([], 0, 3) else
  if UX b ((Xe b a).2.1 + (Xe b a).1).toNat ≠ XT ((b.drop (Xe b a).2.1.toNat).take (Xe b a).1.toNat) then ([], 0, 21) else ((b.drop (Xe b a).2.1.toNat).take (Xe b a).1.toNat, (Xe b a).2.1 + (Xe b a).1 + 4, 0) := rfl
theorem XbM (b : List UInt8) (a : Int) (hb : b.length ≤ 140737488355328) : Con Tryz.prog 109 [] [.d (Xa b), ai a] [] (X2a (.d (Xa (YQ b a).1)) (YQ b a).2.1 (YQ b a).2.2) := by
 refine X9 (xs := [.d (Xa (YQ b a).1), ai (YQ b a).2.1, ai (YQ b a).2.2]) Tryz.func109 rfl Tryz.ntmps109 rfl rfl rfl (fun E => ?_)
 have hr := X3e b a (by omega)
 have hf := X3q (b := b) (a := a)
 rw [Xb4]
 generalize Xe b a = r at *
 obtain ⟨n, f, err⟩ := r
 simp only at hf ⊢
 by_cases h2 : err = 0
 ·obtain ⟨n, f, rfl, rfl, hf1, hf2⟩ := hf h2
  rw [if_neg (by simpa using h2)]
  by_cases h3 : (b.length : Int) - f < 4
  ·rw [if_pos (.inl h3)]
   repeat first | refine X0 ?_ | (refine JR ?_; (repeat first | refine Z1 ?_ | refine Z0 ?_ | refine Zd ?_ | refine Z8 ?_ | refine Zv ?_ | refine ZR ?_ | refine ZF ?_ | refine Zn ?_ | refine Zo ?_ | refine Z9 (hcon := hr) ?_); refine JD ?_) | refine JT ?_ | refine JF ?_ | refine X2 ?_
   exact X1 ⟨_, Xh 4 (y := .d (Xa [])) (AVal.le_nil 1), ⟨rfl, rfl, rfl, trivial⟩, X3 _⟩
  by_cases h4 : (b.length : Int) - f - 4 < n
  ·rw [if_pos (.inr h4)]
   repeat first | refine X0 ?_ | (refine JR ?_; (repeat first | refine Z1 ?_ | refine Z0 ?_ | refine Zd ?_ | refine Z8 ?_ | refine Zs ?_ | refine Zv ?_ | refine ZR ?_ | refine ZF ?_ | refine Zq ?_ | refine Z9 (hcon := hr) ?_); refine JD ?_) | refine JT ?_ | refine JF ?_ | refine X2 ?_
   exact X1 ⟨_, Xh 4 (y := .d (Xa [])) (AVal.le_nil 1), ⟨rfl, rfl, rfl, trivial⟩, X3 _⟩
  rw [if_neg (by omega)]
  have hsl : ((b.map X6).take (f + n)).drop f = ((b.drop f).take n).map X6 := by rw [List.map_take, List.map_drop, List.drop_take, Nat.add_sub_cancel_left]
  have hbl : ((b.drop f).take n).length = n := by simp; omega
  repeat first | refine X0 ?_ | (refine JR ?_; (repeat first | refine Z7 (op := .add) (r' := ni (f + n)) (u := ni f) (v := ni n) ?_ (hr := by exact Yb (by rw [Xx]; omega)) | refine ZX (lb := f) (hb := f + n) (ys := ((b.drop f).take n).map X6) ?_ (hys := by exact hsl) | refine Z1 ?_ | refine Z0 ?_ | refine Zd ?_ | refine Z8 ?_ | refine Zs ?_ | refine Zv ?_ | refine ZR ?_ | refine ZF ?_ | refine Zq ?_ | refine Z9 (hcon := hr) ?_); refine JD ?_) | refine JF ?_ | refine X4 ?_ | refine X2 ?_
  refine Xy (fun i : Nat => i ≤ 4) (fun i => ⟨79, [(0, .d (Xa b)), (7, ai n), (8, ai f), (10, .d (Xa ((b.drop f).take n))), (11, ai (VW b (f + n) i)), (47, ai i)], []⟩) (fun i => 4 - i) 0 (by omega)
   (X8 rfl ⟨JL, JL, JL, JL, JL, JL, trivial⟩ trivial) ?_
  intro i hi
  have hsp := X9Q b (f + n) i
  by_cases hi4 : i < 4
  ·obtain ⟨y, hy⟩ := Xu (l := b) (k := f + n + i) (by omega)
   have hy8 := y.toNat_lt
   have h24 : (2 : Nat) ^ (8 * i) ≤ 2 ^ 24 := Nat.pow_le_pow_right (by omega) (by omega)
   have hyp : y.toNat * 2 ^ (8 * i) ≤ 255 * 2 ^ 24 := Nat.mul_le_mul (by omega) h24
   have hst : VW b (f + n) i ||| y.toNat * 2 ^ (8 * i) = VW b (f + n) (i + 1) := by simp only [VW, hy, Option.getD_some]; exact X5T hsp
   have h8i : 8 * i ≤ 64 := by omega
   refine X0 ?_; refine JR ?_; refine Z8 ?_; refine JD ?_; refine X0 ?_; refine JT ?_; refine X2 ?_; refine X0 ?_; refine X4 ?_; refine X0 ?_; refine JR ?_; refine Z1 ?_; refine Z0 ?_
   refine JD ?_; refine JR ?_; refine Z1 ?_; refine Z1 ?_; refine Z1 ?_; refine Z1 ?_; refine Z7 (op := .add) (r' := ni (f + n)) (u := ni f) (v := ni n) ?_ (hr := by exact Yb (by rw [Xx]; omega)); refine Z1 ?_
   refine Z7 (op := .add) (r' := ni (f + n + i)) (u := ni (f + n)) (v := ni i) ?_ (hr := by exact Yb (by rw [Xx]; omega)); refine Zj ?_; refine Zk ?_; refine ZY ?_; refine Z1 ?_
   refine Z7 (op := .mul) (r' := ni (8 * i)) (u := ni 8) (v := ni i) ?_ (hr := by exact YV (by rw [Xx]; omega))
   refine Z7 (op := .shl) (r' := ni (y.toNat * 2 ^ (8 * i))) (u := ni y.toNat) (v := ni (8 * i)) ?_ (hr := by exact Xgj h8i (by rw [Xx]; omega))
   refine Z4 (op := .or) (r' := ni (VW b (f + n) (i + 1))) (u := ni (VW b (f + n) i)) (v := ni (y.toNat * 2 ^ (8 * i))) ?_ (hr' := by exact congrArg ni hst) (hr := by exact Vd (by rw [Xx]; omega) (by rw [Xx]; omega))
   refine Z0 ?_; refine JD ?_; refine JR ?_; refine Zb ?_; refine Z1 ?_; refine JD ?_
   exact ⟨i + 1, by omega, by omega, X8 rfl ⟨JL, JL, JL, JL, JL, JL, trivial⟩ trivial⟩
  obtain rfl : i = 4 := by omega
  have ha := XbQ b (f + n)
  rw [ha]
  have et : ((f : Int) + (n : Int)).toNat = f + n := by omega
  rw [et, Int.toNat_natCast, Int.toNat_natCast]
  generalize (b.drop f).take n = body at *
  by_cases hs : UX b (f + n) = XT body
  ·rw [if_neg (by simpa using hs)]
   have hm1 : min (body.map X6).length (List.replicate n (zD (Value.int IntKind.u8 0).cells.toList)).length = n := by simp [hbl]
   refine X0 ?_; refine JR ?_; refine Z8 ?_; refine JD ?_; refine X0 ?_; refine JF ?_; refine Xj ?_; refine X0 ?_; refine X0 ?_; refine JR ?_; refine Z1 ?_; refine Z9 (hcon := X6p body) ?_
   refine Z1 ?_; refine Zv ?_; refine JD ?_; refine JF ?_; refine X2 ?_; refine X0 ?_; refine JR ?_; refine Z1 ?_; refine Ze (γ := 131) ?_; refine Z0 ?_; refine JD ?_; refine X0 ?_; refine JR ?_
   refine Z1 ?_; refine Z1 ?_; refine Zf (m := n) ?_ (hm := by exact hm1.symm); refine JD ?_; refine X0 ?_; refine JR ?_; refine Z1 ?_; refine Z1 ?_; refine Z1 ?_
   refine Z7 (op := .add) (r' := ni (f + n)) (u := ni f) (v := ni n) ?_ (hr := by exact Yb (by rw [Xx]; omega)); refine Zb ?_; refine Z0 ?_; refine Z0 ?_; refine Z0 ?_; refine JD ?_
   refine Xm (Y0 131 rfl) ?_
   refine Xm (YC 4 131 rfl rfl (by simp [hbl])) ?_
   exact X1 ⟨_, St.le_trans (Xh 4 (y := .d (Xa body)) (AVal.le_of_eq (by refine Eq.trans (b := AVal.d (.sl 1 (List.take n _ ++ List.drop n _))) rfl ?_; rw [List.take_of_length_le (by simp [hbl]), List.drop_of_length_le (by simp), List.append_nil]))) (Xh 5 (y := ai ((f : Int) + n + 4)) (AVal.le_of_eq (by refine Eq.trans (b := ai _) rfl ?_; simp))), ⟨rfl, rfl, rfl, trivial⟩, X3 _⟩
  ·rw [if_pos hs]
   have hs' : ¬ (XT body = UX b (f + n)) := fun h => hs h.symm
   refine X0 ?_; refine JR ?_; refine Z8 ?_; refine JD ?_; refine X0 ?_; refine JF ?_; refine Xj ?_; refine X0 ?_; refine X0 ?_; refine JR ?_; refine Z1 ?_; refine Z9 (hcon := X6p body) ?_
   refine Z1 ?_; refine Zv ?_; refine JD ?_; refine JT ?_; refine X0 ?_; refine JR ?_; refine Z0 ?_; refine Z0 ?_; refine Z0 ?_; refine JD ?_
   exact X1 ⟨_, Xh 4 (y := .d (Xa [])) (AVal.le_nil 1), ⟨rfl, rfl, rfl, trivial⟩, X3 _⟩
 ·rw [if_pos h2]
  repeat first | refine X0 ?_ | (refine JR ?_; (repeat first | refine Z1 ?_ | refine Z0 ?_ | refine Zv ?_ | refine ZF ?_ | refine Z9 (hcon := hr) ?_); refine JD ?_) | refine JT ?_
  exact X1 ⟨_, Xh 4 (y := .d (Xa [])) (AVal.le_nil 1), ⟨rfl, rfl, rfl, trivial⟩, X3 _⟩
end Go.Fw
namespace Go.Fw
open Go Go.Proofs
set_option maxRecDepth 100000
set_option linter.unusedVariables false
set_option linter.unusedSimpArgs false
theorem X4y {l : List Val} {i : Nat} {x : Val} (h : l[i]? = some x) : XU (l.take (i + 1)) = XU (l.take i) ++ XA x := by
 induction l generalizing i with
 | nil => simp at h
 | cons y l ih =>
  cases i with
  | zero => simp at h; subst h; simp [XU]
  | succ i => simp only [List.take_succ_cons, XU]; rw [ih (by simpa using h), List.append_assoc]
theorem X3A (l : List Val) (i : Nat) : (XU (l.take i)).length ≤ (XU l).length := by
 induction l generalizing i with
 | nil => simp
 | cons y l ih =>
  cases i with
  | zero => simp [XU]
  | succ i => simp only [List.take_succ_cons, XU, List.length_append]; have := ih i; omega
def X7b (v : Val) : Prop := ∀ r : List UInt8, r.length + (XA v).length ≤ 140737488355328 →
 Con Tryz.prog 160 [(0, .row 1 (r.map X6))] [.own 0 r.length, Xv v] [(0, .row 1 ((r ++ XA v).map X6))] (.own 0 (r ++ XA v).length)
theorem Xd4 (v : Val) (hv : X7 8 v = true) (ih : ∀ x ∈ v.l, X7b x) : X7b v := by
 obtain ⟨k, n, d, s, l⟩ := v
 intro r hr
 have hlen := UR l
 simp only [Val.l] at ih
 refine X9 (xs := [.own 0 (r ++ XA (.mk k n d s l)).length]) Tryz.func160 rfl Tryz.ntmps160 rfl rfl rfl (fun E => ?_)
 rw [X7] at hv
 have hbig : ∀ (x : Int), -1000000000000000 ≤ x ∧ x ≤ 1000000000000000 → -9223372036854775808 ≤ x ∧ x ≤ 9223372036854775807 := fun x h => by omega
 by_cases hk0 : k = 0
 ·subst hk0
  have hput : XA (.mk 0 n d s l) = [UInt8.ofNat 0] := by rw [XA]; simp
  rw [hput] at hr ⊢
  simp only [List.length_append, List.length_cons, List.length_nil] at hr
  repeat first | refine X0 ?_ | (refine JR ?_; (repeat first | refine Z3 (u := nj 0) (r := n8 0) ?_ (hr := by exact YJ rfl rfl) | refine Z1 ?_ | refine Z0 ?_ | refine ZB ?_ | refine ZC ?_ | refine Zl ?_ | refine ZA (γ := 100) ?_ | refine Z5 ?_ | refine Z6 ?_); refine JD ?_) | refine JF ?_ | refine X4 ?_ | refine X2 ?_
  refine X1 ⟨_, Xh 4 (y := .own 0 (r ++ UInt8.ofNat 0 :: []).length) (AVal.le_of_eq ?_), ⟨rfl, trivial⟩, Xd ⟨?_, trivial⟩⟩
  ·refine Eq.trans (b := AVal.own 0 (_ + _)) rfl ?_
   congr 1
   simp only [List.length_append, List.length_map, List.length_cons, List.length_nil] <;> omega
  ·refine Eq.trans (b := AObj.row 1 (_ ++ _)) rfl ?_
   simp only [List.map_append, List.map_cons, List.map_nil, List.append_assoc, List.cons_append, List.nil_append]; rfl
 by_cases hk1 : k = 1
 ·subst hk1
  have hput : XA (.mk 1 n d s l) = UInt8.ofNat 1 :: XP n := by rw [XA]; simp
  have hn : -9223372036854775808 ≤ n ∧ n ≤ 9223372036854775807 := by simp at hv; omega
  have hpi := X1E n hn
  rw [hput] at hr ⊢
  generalize XP n = q at *
  simp only [List.length_append, List.length_cons, List.length_nil] at hr
  refine X0 ?_; refine JR ?_; refine ZA (γ := 100) ?_; refine Z0 ?_; refine JD ?_; refine X0 ?_; refine JR ?_; refine Z1 ?_; refine ZB ?_; refine ZC ?_
  refine Z3 (u := nj 1) (r := n8 1) ?_ (hr := by exact YJ rfl rfl); refine Z5 ?_; refine Z6 ?_; refine Z0 ?_; refine JD ?_; refine X0 ?_; refine X0 ?_; refine JR ?_; refine ZB ?_; refine ZC ?_; refine JD ?_
  refine X4 ?_; refine X0 ?_; refine X0 ?_; refine JR ?_; refine Zl ?_; refine Z0 ?_; refine JD ?_; refine JT ?_; refine X2 ?_; refine JT ?_; refine X0 ?_; refine JR ?_; refine Z1 ?_
  refine ZB ?_; refine ZC ?_; refine Z9 (hcon := hpi) ?_; refine Z6 ?_; refine Z0 ?_; refine JD ?_
  refine X1 ⟨_, Xh 4 (y := .own 0 (r ++ UInt8.ofNat 1 :: q).length) (AVal.le_of_eq ?_), ⟨rfl, trivial⟩, Xd ⟨?_, trivial⟩⟩
  ·refine Eq.trans (b := AVal.own 0 (_ + _)) rfl ?_
   congr 1
   simp only [List.length_append, List.length_map, List.length_cons, List.length_nil] <;> omega
  ·refine Eq.trans (b := AObj.row 1 (_ ++ _ ++ _)) rfl ?_
   simp only [List.map_append, List.map_cons, List.map_nil, List.append_assoc, List.cons_append, List.nil_append]; rfl
 by_cases hk2 : k = 2
 ·subst hk2
  have hput : XA (.mk 2 n d s l) = UInt8.ofNat 2 :: XP n := by rw [XA]; simp
  have hn : -9223372036854775808 ≤ n ∧ n ≤ 9223372036854775807 := by simp at hv; omega
  have hpi := X1E n hn
  rw [hput] at hr ⊢
  generalize XP n = q at *
  simp only [List.length_append, List.length_cons, List.length_nil] at hr
  repeat first | refine X0 ?_ | (refine JR ?_; (repeat first | refine Z3 (u := nj 2) (r := n8 2) ?_ (hr := by exact YJ rfl rfl) | refine Z1 ?_ | refine Z0 ?_ | refine ZB ?_ | refine ZC ?_ | refine Zl ?_ | refine ZA (γ := 100) ?_ | refine Z5 ?_ | refine Z6 ?_ | refine Z9 (hcon := hpi) ?_); refine JD ?_) | refine JT ?_ | refine JF ?_ | refine X4 ?_ | refine X2 ?_
  refine X1 ⟨_, Xh 4 (y := .own 0 (r ++ UInt8.ofNat 2 :: q).length) (AVal.le_of_eq ?_), ⟨rfl, trivial⟩, Xd ⟨?_, trivial⟩⟩
  ·refine Eq.trans (b := AVal.own 0 (_ + _)) rfl ?_
   congr 1
   simp only [List.length_append, List.length_map, List.length_cons, List.length_nil] <;> omega
  ·refine Eq.trans (b := AObj.row 1 (_ ++ _ ++ _)) rfl ?_
   simp only [List.map_append, List.map_cons, List.map_nil, List.append_assoc, List.cons_append, List.nil_append]; rfl
 by_cases hk3 : k = 3
 ·subst hk3
  have hput : XA (.mk 3 n d s l) = UInt8.ofNat 3 :: (XP n ++ XP d) := by rw [XA]; simp
  have hnd : (-9223372036854775808 ≤ n ∧ n ≤ 9223372036854775807) ∧ -9223372036854775808 ≤ d ∧ d ≤ 9223372036854775807 := by simp [V6] at hv; omega
  have hpi := X1E n hnd.1
  have hpd := X1E d hnd.2
  rw [hput] at hr ⊢
  generalize XP n = q at *
  generalize XP d = q2 at *
  simp only [List.length_append, List.length_cons, List.length_nil] at hr
  repeat first | refine X0 ?_ | (refine JR ?_; (repeat first | refine Z3 (u := nj 3) (r := n8 3) ?_ (hr := by exact YJ rfl rfl) | refine Z1 ?_ | refine Z0 ?_ | refine ZB ?_ | refine ZC ?_ | refine Zl ?_ | refine ZA (γ := 100) ?_ | refine Z5 ?_ | refine Z6 ?_ | refine Z9 (hcon := hpi) ?_ | refine Z9 (hcon := hpd) ?_); refine JD ?_) | refine JT ?_ | refine JF ?_ | refine X4 ?_
  refine X1 ⟨_, Xh 4 (y := .own 0 (r ++ UInt8.ofNat 3 :: (q ++ q2)).length) (AVal.le_of_eq ?_), ⟨rfl, trivial⟩, Xd ⟨?_, trivial⟩⟩
  ·refine Eq.trans (b := AVal.own 0 (_ + _)) rfl ?_
   congr 1
   simp only [List.length_append, List.length_map, List.length_cons, List.length_nil] <;> omega
  ·refine Eq.trans (b := AObj.row 1 (_ ++ _ ++ _ ++ _)) rfl ?_
   simp only [List.map_append, List.map_cons, List.map_nil, List.append_assoc, List.cons_append, List.nil_append]; rfl
 by_cases hk4 : k = 4
 ·subst hk4
  have hput : XA (.mk 4 n d s l) = UInt8.ofNat 4 :: Xz s := by rw [XA]; simp
  have hs : s.length ≤ 65536 := by simp at hv; omega
  have hpi := X2T s hs
  rw [hput] at hr ⊢
  generalize Xz s = q at *
  simp only [List.length_append, List.length_cons, List.length_nil] at hr
  repeat first | refine X0 ?_ | (refine JR ?_; (repeat first | refine Z3 (u := nj 4) (r := n8 4) ?_ (hr := by exact YJ rfl rfl) | refine Z1 ?_ | refine Z0 ?_ | refine ZB ?_ | refine ZC ?_ | refine Zl ?_ | refine ZA (γ := 100) ?_ | refine Z5 ?_ | refine Z6 ?_ | refine Z9 (hcon := hpi) ?_); refine JD ?_) | refine JT ?_ | refine JF ?_ | refine X4 ?_
  refine X1 ⟨_, Xh 4 (y := .own 0 (r ++ UInt8.ofNat 4 :: q).length) (AVal.le_of_eq ?_), ⟨rfl, trivial⟩, Xd ⟨?_, trivial⟩⟩
  ·refine Eq.trans (b := AVal.own 0 (_ + _)) rfl ?_
   congr 1
   simp only [List.length_append, List.length_map, List.length_cons, List.length_nil] <;> omega
  ·refine Eq.trans (b := AObj.row 1 (_ ++ _ ++ _)) rfl ?_
   simp only [List.map_append, List.map_cons, List.map_nil, List.append_assoc, List.cons_append, List.nil_append]; rfl
 by_cases hk5 : k = 5
 ·subst hk5
  have hput : XA (.mk 5 n d s l) = UInt8.ofNat 5 :: XP n := by rw [XA]; simp
  have hn : -9223372036854775808 ≤ n ∧ n ≤ 9223372036854775807 := by simp at hv; omega
  have hpi := X1E n hn
  rw [hput] at hr ⊢
  generalize XP n = q at *
  simp only [List.length_append, List.length_cons, List.length_nil] at hr
  repeat first | refine X0 ?_ | (refine JR ?_; (repeat first | refine Z3 (u := nj 5) (r := n8 5) ?_ (hr := by exact YJ rfl rfl) | refine Z1 ?_ | refine Z0 ?_ | refine ZB ?_ | refine ZC ?_ | refine Zl ?_ | refine ZA (γ := 100) ?_ | refine Z5 ?_ | refine Z6 ?_ | refine Z9 (hcon := hpi) ?_); refine JD ?_) | refine JT ?_ | refine JF ?_ | refine X4 ?_ | refine X2 ?_
  refine X1 ⟨_, Xh 4 (y := .own 0 (r ++ UInt8.ofNat 5 :: q).length) (AVal.le_of_eq ?_), ⟨rfl, trivial⟩, Xd ⟨?_, trivial⟩⟩
  ·refine Eq.trans (b := AVal.own 0 (_ + _)) rfl ?_
   congr 1
   simp only [List.length_append, List.length_map, List.length_cons, List.length_nil] <;> omega
  ·refine Eq.trans (b := AObj.row 1 (_ ++ _ ++ _)) rfl ?_
   simp only [List.map_append, List.map_cons, List.map_nil, List.append_assoc, List.cons_append, List.nil_append]; rfl
 by_cases hk6 : k = 6
 ·subst hk6
  have hput : XA (.mk 6 n d s l) = UInt8.ofNat 6 :: XP n := by rw [XA]; simp
  have hn : -9223372036854775808 ≤ n ∧ n ≤ 9223372036854775807 := by simp at hv; omega
  have hpi := X1E n hn
  rw [hput] at hr ⊢
  generalize XP n = q at *
  simp only [List.length_append, List.length_cons, List.length_nil] at hr
  repeat first | refine X0 ?_ | (refine JR ?_; (repeat first | refine Z3 (u := nj 6) (r := n8 6) ?_ (hr := by exact YJ rfl rfl) | refine Z1 ?_ | refine Z0 ?_ | refine ZB ?_ | refine ZC ?_ | refine Zl ?_ | refine ZA (γ := 100) ?_ | refine Z5 ?_ | refine Z6 ?_ | refine Z9 (hcon := hpi) ?_); refine JD ?_) | refine JT ?_ | refine JF ?_ | refine X4 ?_
  refine X1 ⟨_, Xh 4 (y := .own 0 (r ++ UInt8.ofNat 6 :: q).length) (AVal.le_of_eq ?_), ⟨rfl, trivial⟩, Xd ⟨?_, trivial⟩⟩
  ·refine Eq.trans (b := AVal.own 0 (_ + _)) rfl ?_
   congr 1
   simp only [List.length_append, List.length_map, List.length_cons, List.length_nil] <;> omega
  ·refine Eq.trans (b := AObj.row 1 (_ ++ _ ++ _)) rfl ?_
   simp only [List.map_append, List.map_cons, List.map_nil, List.append_assoc, List.cons_append, List.nil_append]; rfl
 by_cases hk7 : k = 7
 ·subst hk7
  have hput : XA (.mk 7 n d s l) = UInt8.ofNat 7 :: (Xc l.length ++ XU l) := by rw [XA]; simp
  have hll : l.length ≤ 64 := by simp at hv; omega
  have hpu := X2V (XJ l).length (by omega)
  rw [← hlen] at hput
  rw [hput] at hr ⊢
  generalize Xc ((XJ l).length : Int) = q at *
  simp only [List.length_append, List.length_cons, List.length_nil] at hr
  repeat first | refine X0 ?_ | (refine JR ?_; (repeat first | refine Z3 (u := nj 7) (r := n8 7) ?_ (hr := by exact YJ rfl rfl) | refine Z1 ?_ | refine Z0 ?_ | refine ZB ?_ | refine ZC ?_ | refine Zd ?_ | refine Zl ?_ | refine ZA (γ := 100) ?_ | refine Z5 ?_ | refine Z6 ?_ | refine Z9 (hcon := hpu) ?_); refine JD ?_) | refine JT ?_ | refine JF ?_ | refine X4 ?_
  generalize hbase : r ++ UInt8.ofNat 7 :: q = base at *
  have hbl : base.length = r.length + q.length + 1 := by rw [← hbase]; simp; omega
  have hgoal : r ++ UInt8.ofNat 7 :: (q ++ XU l) = base ++ XU l := by rw [← hbase]; simp
  rw [hgoal]
  refine Xy (fun i : Nat => i ≤ l.length) (fun i => ⟨64, [(0, .own 0 (base ++ XU (l.take i)).length), (53, .d (.sl 5 (XJ l))), (54, ai l.length), (55, ai i)], [(0, .row 1 ((base ++ XU (l.take i)).map X6))]⟩) (fun i => l.length - i) 0 (by omega)
   (X8 rfl ⟨(by refine AVal.le_of_eq ?_; refine Eq.trans (b := AVal.own 0 (_ + _)) rfl ?_; congr 1; simp only [List.take_zero, XU, List.append_nil, hbl, List.length_append, List.length_map, List.length_cons, List.length_nil] <;> omega), JL, (by refine AVal.le_of_eq ?_; refine Eq.trans (b := ai ((XJ l).length : Nat)) rfl ?_; rw [hlen]), JL, trivial⟩ ⟨?_, trivial⟩) ?_
  ·refine Eq.trans (b := AObj.row 1 (_ ++ _ ++ _)) rfl ?_
   simp only [List.take_zero, XU, List.append_nil, ← hbase, List.map_append, List.map_cons, List.append_assoc, List.cons_append, List.nil_append]; rfl
  intro i hi
  by_cases hlt : i < l.length
  ·obtain ⟨x, hx⟩ := Xu (l := l) hlt
   have hgx := X0W hx
   have htk := X4y hx
   have hle := X3A l (i + 1)
   have hpx := ih x (List.mem_of_getElem? hx) (base ++ XU (l.take i)) (by rw [htk] at hle; simp only [List.length_append] at hle ⊢; omega)
   rw [List.append_assoc, ← htk] at hpx
   obtain ⟨k', n', d', s', q'⟩ := x
   simp only [Xv] at hpx
   rw [YO] at hgx
   refine X0 ?_; refine JR ?_; refine Z8 ?_; refine JD ?_; refine X0 ?_; refine JT ?_; refine X2 ?_; refine X0 ?_; refine X4 ?_; refine X0 ?_; refine JR ?_; refine Zj ?_; refine ZK ?_
   refine Zw (γ := 100) ?_; refine Zy ?_; refine JD ?_; refine JR ?_; refine Z1 ?_; refine ZL ?_; refine Z9 (hcon := hpx) ?_; refine Z0 ?_; refine JD ?_; refine JR ?_; refine Zb ?_; refine Z1 ?_; refine JD ?_
   exact ⟨i + 1, by omega, by omega, X8 rfl ⟨JL, JL, JL, JL, trivial⟩ ⟨rfl, trivial⟩⟩
  obtain rfl : i = l.length := by omega
  rw [List.take_length]
  refine X0 ?_; refine JR ?_; refine Z8 ?_; refine JD ?_; refine X0 ?_; refine JF ?_; refine Xj ?_; refine X0 ?_; refine JR ?_; refine Z1 ?_; refine Z0 ?_; refine JD ?_
  exact X1 ⟨_, St.le_refl _, ⟨rfl, trivial⟩, Xd ⟨rfl, trivial⟩⟩
 by_cases hk8 : k = 8
 ·subst hk8
  have hput : XA (.mk 8 n d s l) = UInt8.ofNat 8 :: (Xc l.length ++ XU l) := by rw [XA]; simp
  have hll : l.length ≤ 64 := by simp at hv; omega
  have hpu := X2V (XJ l).length (by omega)
  rw [← hlen] at hput
  rw [hput] at hr ⊢
  generalize Xc ((XJ l).length : Int) = q at *
  simp only [List.length_append, List.length_cons, List.length_nil] at hr
  repeat first | refine X0 ?_ | (refine JR ?_; (repeat first | refine Z3 (u := nj 8) (r := n8 8) ?_ (hr := by exact YJ rfl rfl) | refine Z1 ?_ | refine Z0 ?_ | refine ZB ?_ | refine ZC ?_ | refine Zd ?_ | refine Zl ?_ | refine ZA (γ := 100) ?_ | refine Z5 ?_ | refine Z6 ?_ | refine Z9 (hcon := hpu) ?_); refine JD ?_) | refine JT ?_ | refine JF ?_ | refine X4 ?_ | refine X2 ?_
  generalize hbase : r ++ UInt8.ofNat 8 :: q = base at *
  have hbl : base.length = r.length + q.length + 1 := by rw [← hbase]; simp; omega
  have hgoal : r ++ UInt8.ofNat 8 :: (q ++ XU l) = base ++ XU l := by rw [← hbase]; simp
  rw [hgoal]
  refine Xy (fun i : Nat => i ≤ l.length) (fun i => ⟨64, [(0, .own 0 (base ++ XU (l.take i)).length), (53, .d (.sl 5 (XJ l))), (54, ai l.length), (55, ai i)], [(0, .row 1 ((base ++ XU (l.take i)).map X6))]⟩) (fun i => l.length - i) 0 (by omega)
   (X8 rfl ⟨(by refine AVal.le_of_eq ?_; refine Eq.trans (b := AVal.own 0 (_ + _)) rfl ?_; congr 1; simp only [List.take_zero, XU, List.append_nil, hbl, List.length_append, List.length_map, List.length_cons, List.length_nil] <;> omega), JL, (by refine AVal.le_of_eq ?_; refine Eq.trans (b := ai ((XJ l).length : Nat)) rfl ?_; rw [hlen]), JL, trivial⟩ ⟨?_, trivial⟩) ?_
  ·refine Eq.trans (b := AObj.row 1 (_ ++ _ ++ _)) rfl ?_
   simp only [List.take_zero, XU, List.append_nil, ← hbase, List.map_append, List.map_cons, List.append_assoc, List.cons_append, List.nil_append]; rfl
  intro i hi
  by_cases hlt : i < l.length
  ·obtain ⟨x, hx⟩ := Xu (l := l) hlt
   have hgx := X0W hx
   have htk := X4y hx
   have hle := X3A l (i + 1)
   have hpx := ih x (List.mem_of_getElem? hx) (base ++ XU (l.take i)) (by rw [htk] at hle; simp only [List.length_append] at hle ⊢; omega)
   rw [List.append_assoc, ← htk] at hpx
   obtain ⟨k', n', d', s', q'⟩ := x
   simp only [Xv] at hpx
   rw [YO] at hgx
   refine X0 ?_; refine JR ?_; refine Z8 ?_; refine JD ?_; refine X0 ?_; refine JT ?_; refine X2 ?_; refine X0 ?_; refine X4 ?_; refine X0 ?_; refine JR ?_; refine Zj ?_; refine ZK ?_
   refine Zw (γ := 100) ?_; refine Zy ?_; refine JD ?_; refine JR ?_; refine Z1 ?_; refine ZL ?_; refine Z9 (hcon := hpx) ?_; refine Z0 ?_; refine JD ?_; refine JR ?_; refine Zb ?_; refine Z1 ?_; refine JD ?_
   exact ⟨i + 1, by omega, by omega, X8 rfl ⟨JL, JL, JL, JL, trivial⟩ ⟨rfl, trivial⟩⟩
  obtain rfl : i = l.length := by omega
  rw [List.take_length]
  refine X0 ?_; refine JR ?_; refine Z8 ?_; refine JD ?_; refine X0 ?_; refine JF ?_; refine Xj ?_; refine X0 ?_; refine JR ?_; refine Z1 ?_; refine Z0 ?_; refine JD ?_
  exact X1 ⟨_, St.le_refl _, ⟨rfl, trivial⟩, Xd ⟨rfl, trivial⟩⟩
 simp [*] at hv
end Go.Fw
namespace Go.Fw
open Go Go.Proofs
set_option maxRecDepth 100000
set_option linter.unusedVariables false
set_option linter.unusedSimpArgs false
theorem X5Z {m : Nat} : ∀ {l : List Val} {x : Val}, Ui m l = true → x ∈ l → X7 m x = true
 | [], x, _, h => by simp at h
 | v :: r, x, h, hx => by
  rw [Ui, Bool.and_eq_true] at h
  rcases List.mem_cons.1 hx with rfl | hx
  ·exact h.1
  ·exact X5Z h.2 hx
theorem X7r : ∀ {l : List Val} {i : Nat} {x : Val}, Uc i l = true → x ∈ l → X7 0 x = true
 | [], _, x, _, h => by simp at h
 | v :: r, i, x, h, hx => by
  rw [Uc, Bool.and_eq_true, Bool.and_eq_true] at h
  rcases List.mem_cons.1 hx with rfl | hx
  ·exact h.1.2
  ·exact X7r h.2 hx
theorem X6J {m : Nat} {k n d : Int} {s : List UInt8} {l : List Val} (h : X7 m (.mk k n d s l) = true) : ∀ x ∈ l, X7 m x = true := by
 intro x hx
 rw [X7] at h
 by_cases h7 : k = 7
 ·subst h7
  simp at h
  exact X6P x 0 m (by omega) (X7r h.2.2 hx)
 ·by_cases h8 : k = 8
  ·subst h8
   simp at h
   exact X6P x (m - 1) m (by omega) (X5Z h.2.2 hx)
  ·have : l = [] := by
    simp [h7, h8] at h
    exact h.1.2
   subst this; simp at hx
theorem X8m : ∀ v : Val, X7 8 v = true → X7b v
 | .mk k n d s l => fun hv => Xd4 (.mk k n d s l) hv fun x hx => X8m x (X6J hv x hx)
termination_by v => SizeOf.sizeOf v
decreasing_by
 have h1 := List.sizeOf_lt_of_mem (show x ∈ l from hx)
 simp only [Val.mk.sizeOf_spec]
 omega
theorem Xhj (v : Val) (hv : X7 8 v = true) (hb : (XA v).length ≤ 140737488355328) : Con Tryz.prog 160 [] [ani, Xv v] [] (.d (Xa (XA v))) := by
 have h := X8m v hv [] (by simpa using hb)
 have h2 := Con.adopt (sz := 1) (args := [Xv v]) h (by obtain ⟨k, n, d, s, l⟩ := v; rfl)
 exact h2.data (by simp)
theorem XdC (v : Val) (hb : (XA v).length ≤ 140737488355328) : Con Tryz.prog 101 [] [Xv v] [] (.d (Xa (Ys v))) := by
 refine X9 (xs := [.d (Xa (Ys v))]) Tryz.func101 rfl Tryz.ntmps101 rfl rfl rfl (fun E => ?_)
 have hval := X0g v
 cases hv : X7 8 v with
 | false =>
  rw [hv] at hval
  rw [show Ys v = [] by unfold Ys; rw [hv]; rfl]
  obtain ⟨k, n, d, s, l⟩ := v
  simp only [Xv] at hval
  refine X0 ?_; refine JR ?_; refine ZA (γ := 100) ?_; refine Z0 ?_; refine JD ?_; refine X0 ?_; refine X0 ?_; refine JR ?_; refine ZL ?_; refine Z9 (hcon := hval) ?_; refine Zu ?_; refine JD ?_
  refine JT ?_; refine X0 ?_; refine JR ?_; refine Z0 ?_; refine JD ?_
  exact X1 ⟨_, Xh 2 (y := .d (Xa [])) (AVal.le_nil 1), ⟨rfl, trivial⟩, X3 _⟩
 | true =>
  rw [hv] at hval
  rw [show Ys v = XA v by unfold Ys; rw [hv]; rfl]
  have hp := Xhj v hv hb
  obtain ⟨k, n, d, s, l⟩ := v
  simp only [Xv] at hval hp
  generalize XA (.mk k n d s l) = q at *
  refine X0 ?_; refine JR ?_; refine ZA (γ := 100) ?_; refine Z0 ?_; refine JD ?_; refine X0 ?_; refine X0 ?_; refine JR ?_; refine ZL ?_; refine Z9 (hcon := hval) ?_; refine Zu ?_; refine JD ?_
  refine JF ?_; refine X2 ?_; refine X0 ?_; refine JR ?_; refine ZL ?_; refine Z9 (hcon := hp) ?_; refine Z0 ?_; refine JD ?_
  exact X1 ⟨_, St.le_refl _, ⟨rfl, trivial⟩, X3 _⟩
end Go.Fw
namespace Go.Fw
open Go Go.Proofs
set_option maxRecDepth 100000
set_option linter.unusedVariables false
set_option linter.unusedSimpArgs false
theorem Xe5 (n : Int) : Vr n = 0 ∨ Vr n = 1 ∨ Vr n = -1 := by
 unfold Vr
 split
 ·exact .inr (.inr rfl)
 ·split
  ·exact .inr (.inl rfl)
  ·exact .inl rfl
theorem Xci (n d : Int) : Con Tryz.prog 91 [] [X2f n d, X2f n d] [] (ai 0) := by
 refine X9 (xs := [ai 0]) Tryz.func91 rfl Tryz.ntmps91 rfl rfl rfl (fun E => ?_)
 have hv := X9x n d
 cases hb : V6 n d with
 | true =>
  rw [hb] at hv
  simp [V6] at hb
  obtain ⟨D, rfl⟩ : ∃ D : Nat, d = D := ⟨d.toNat, by omega⟩
  have hsz := X6Y n (by omega)
  have hsg := Xav n
  have hr := Xe5 n
  have ht := Xan n.natAbs D (by omega) (by omega)
  have hsum := X9k (Vr n) hr (Ux 14 (n.natAbs * D)) (X5E _ _) (X7l _ _)
  generalize Vr n = s at *
  generalize Ux 14 (n.natAbs * D) = x at *
  generalize X1y s x = y at *
  generalize n.natAbs = N at *
  have hr1 : -1 ≤ s ∧ s ≤ 1 := by omega
  clear hr hb
  repeat first | refine X0 ?_ | (refine JR ?_; (repeat first | refine Z1 ?_ | refine Z0 ?_ | refine ZB ?_ | refine ZC ?_ | refine ZL ?_ | refine Zu ?_ | refine ZA (γ := 100) ?_ | refine ZA (γ := 101) ?_ | refine ZF ?_ | refine Z9 (hcon := hv) ?_ | refine Z9 (hcon := hsz) ?_ | refine Z9 (hcon := hsg) ?_ | refine Z9 (hcon := ht) ?_ | refine Z9 (hcon := hsum) ?_); refine JD ?_) | refine JF ?_ | refine X2 ?_
  exact X1 ⟨_, St.le_refl _, ⟨rfl, trivial⟩, X3 _⟩
 | false =>
  rw [hb] at hv
  clear hb
  have hsz : Con Tryz.prog 145 [] [ai 0] [] (ai 0) := X6Y 0 (by omega)
  have hsg : Con Tryz.prog 143 [] [ai 0] [] (ai 0) := Xav 0
  have ht : Con Tryz.prog 144 [] [ai 0, ai 1] [] (.d (UE (Ux 14 (0 * 1)))) := Xan 0 1 (by omega) (by omega)
  have hsum : Con Tryz.prog 142 [] [ai 0, .d (UE (Ux 14 (0 * 1))), ai 0, .d (UE (Ux 14 (0 * 1)))] [] (.tup [ai 0, .d (UE (X1y 0 (Ux 14 (0 * 1))))]) := X9k 0 (.inl rfl) (Ux 14 (0 * 1)) (X5E _ _) (X7l _ _)
  generalize Ux 14 (0 * 1) = x at *
  generalize X1y 0 x = y at *
  repeat first | refine X0 ?_ | (refine JR ?_; (repeat first | refine Z1 ?_ | refine Z0 ?_ | refine ZB ?_ | refine ZC ?_ | refine ZL ?_ | refine Zu ?_ | refine ZA (γ := 100) ?_ | refine ZA (γ := 101) ?_ | refine Zy ?_ | refine Zx ?_ | refine ZF ?_ | refine Z9 (hcon := hv) ?_ | refine Z9 (hcon := hsz) ?_ | refine Z9 (hcon := hsg) ?_ | refine Z9 (hcon := ht) ?_ | refine Z9 (hcon := hsum) ?_); refine JD ?_) | refine JT ?_
  exact X1 ⟨_, St.le_refl _, ⟨rfl, trivial⟩, X3 _⟩
theorem X3b (n : Int) : Con Tryz.prog 219 [] [ai n, ai n] [] (ai 0) := by
 refine X9 (xs := [ai 0]) Tryz.func219 rfl Tryz.ntmps219 rfl rfl rfl (fun E => ?_)
 have h : ¬ n < n := by omega
 repeat first | refine X0 ?_ | (refine JR ?_; (repeat first | refine Z1 ?_ | refine Z0 ?_ | refine Z8 ?_ | refine Zs ?_); refine JD ?_) | refine JF ?_ | refine X2 ?_
 exact X1 ⟨_, St.le_refl _, ⟨rfl, trivial⟩, X3 _⟩
theorem X6B : ∀ s : List UInt8, Op.bytesLess s s = false
 | [] => rfl
 | b :: s => by simp [Op.bytesLess, X6B s]
theorem XdZ {t : TypeId} {x y : Operand} {s : List UInt8} (w : World) : (do eqGuard .lss t x y (.string (X5 s)) (.string (X5 s)); binOp .lss t (.string (X5 s)) (.string (X5 s)) : Sem Value).run Tryz.prog w = .ok (.bool false) w := by
 simp [go_sem, X1F, X6B]
theorem XhV {t : TypeId} {x y : Operand} {s : List UInt8} (w : World) : (do eqGuard .gtr t x y (.string (X5 s)) (.string (X5 s)); binOp .gtr t (.string (X5 s)) (.string (X5 s)) : Sem Value).run Tryz.prog w = .ok (.bool false) w := by
 simp [go_sem, binOp, Op.stringOp, X1F, X6B]
theorem Xfe (s : List UInt8) : Con Tryz.prog 234 [] [XD s, XD s] [] (ai 0) := by
 refine X9 (xs := [ai 0]) Tryz.func234 rfl Tryz.ntmps234 rfl rfl rfl (fun E => ?_)
 refine X0 ?_; refine JR ?_; refine Z0 ?_; refine JD ?_; refine X0 ?_; refine X0 ?_; refine JR ?_; refine Z1 ?_; refine Z1 ?_
 refine Z7 (op := .lss) (r' := .bool false) (u := .string (X5 s)) (v := .string (X5 s)) ?_ (hr := by exact XdZ); refine JD ?_; refine JF ?_; refine X2 ?_; refine X0 ?_; refine X0 ?_; refine JR ?_
 refine Z1 ?_; refine Z1 ?_; refine Z7 (op := .gtr) (r' := .bool false) (u := .string (X5 s)) (v := .string (X5 s)) ?_ (hr := by exact XhV); refine JD ?_; refine JF ?_; refine X2 ?_; refine X0 ?_
 refine JR ?_; refine Z0 ?_; refine JD ?_
 exact X1 ⟨_, St.le_refl _, ⟨rfl, trivial⟩, X3 _⟩
def X2D (k : Int) : Int := if k = 0 then 0 else if k = 1 then 1 else if k = 2 ∨ k = 3 then 2 else if k = 4 then 3 else if k = 5 then 4 else if k = 6 then 5 else if k = 8 then 6 else 7
theorem XhU (k : Int) : Con Tryz.prog 220 [] [ai k] [] (ai (X2D k)) := by
 refine X9 (xs := [ai (X2D k)]) Tryz.func220 rfl Tryz.ntmps220 rfl rfl rfl (fun E => ?_)
 by_cases h0 : k = 0
 ·subst h0
  refine X0 ?_; refine JR ?_; refine Z0 ?_; refine JD ?_; refine X0 ?_; refine X0 ?_; refine JR ?_; refine Z1 ?_; refine JD ?_; refine X4 ?_; refine X0 ?_; refine JR ?_; refine Zl ?_
  refine Z0 ?_; refine JD ?_; refine JT ?_; refine X0 ?_; refine JR ?_; refine Z0 ?_; refine JD ?_
  exact X1 ⟨_, St.le_refl _, ⟨rfl, trivial⟩, X3 _⟩
 by_cases h1 : k = 1
 ·subst h1
  repeat first | refine X0 ?_ | (refine JR ?_; (repeat first | refine Z1 ?_ | refine Z0 ?_ | refine Zl ?_); refine JD ?_) | refine JT ?_ | refine JF ?_ | refine X4 ?_
  exact X1 ⟨_, St.le_refl _, ⟨rfl, trivial⟩, X3 _⟩
 by_cases h2 : k = 2
 ·subst h2
  repeat first | refine X0 ?_ | (refine JR ?_; (repeat first | refine Z1 ?_ | refine Z0 ?_ | refine Zl ?_); refine JD ?_) | refine JT ?_ | refine JF ?_ | refine X4 ?_ | refine X2 ?_
  exact X1 ⟨_, St.le_refl _, ⟨rfl, trivial⟩, X3 _⟩
 by_cases h3 : k = 3
 ·subst h3
  repeat first | refine X0 ?_ | (refine JR ?_; (repeat first | refine Z1 ?_ | refine Z0 ?_ | refine Zl ?_); refine JD ?_) | refine JT ?_ | refine JF ?_ | refine X4 ?_
  exact X1 ⟨_, St.le_refl _, ⟨rfl, trivial⟩, X3 _⟩
 by_cases h4 : k = 4
 ·subst h4
  repeat first | refine X0 ?_ | (refine JR ?_; (repeat first | refine Z1 ?_ | refine Z0 ?_ | refine Zl ?_); refine JD ?_) | refine JT ?_ | refine JF ?_ | refine X4 ?_
  exact X1 ⟨_, St.le_refl _, ⟨rfl, trivial⟩, X3 _⟩
 by_cases h5 : k = 5
 ·subst h5
  repeat first | refine X0 ?_ | (refine JR ?_; (repeat first | refine Z1 ?_ | refine Z0 ?_ | refine Zl ?_); refine JD ?_) | refine JT ?_ | refine JF ?_ | refine X4 ?_
  exact X1 ⟨_, St.le_refl _, ⟨rfl, trivial⟩, X3 _⟩
 by_cases h6 : k = 6
 ·subst h6
  repeat first | refine X0 ?_ | (refine JR ?_; (repeat first | refine Z1 ?_ | refine Z0 ?_ | refine Zl ?_); refine JD ?_) | refine JT ?_ | refine JF ?_ | refine X4 ?_
  exact X1 ⟨_, St.le_refl _, ⟨rfl, trivial⟩, X3 _⟩
 by_cases h8 : k = 8
 ·subst h8
  repeat first | refine X0 ?_ | (refine JR ?_; (repeat first | refine Z1 ?_ | refine Z0 ?_ | refine Zl ?_); refine JD ?_) | refine JT ?_ | refine JF ?_ | refine X4 ?_
  exact X1 ⟨_, St.le_refl _, ⟨rfl, trivial⟩, X3 _⟩
 rw [show X2D k = 7 by simp [X2D, *]]
 repeat first | refine X0 ?_ | (refine JR ?_; (repeat first | refine Z1 ?_ | refine Z0 ?_ | refine Zl ?_); refine JD ?_) | refine JF ?_ | refine X4 ?_ | refine X2 ?_
 exact X1 ⟨_, St.le_refl _, ⟨rfl, trivial⟩, X3 _⟩
end Go.Fw
namespace Go.Fw
open Go Go.Proofs
set_option maxRecDepth 100000
set_option linter.unusedVariables false
set_option linter.unusedSimpArgs false
def X86 (b : Bool) (k n d : Int) : Int × Int × Bool := if b = false then (0, 0, false) else if k = 2 then (n, 1, true) else if k = 3 then (n, d, true) else (0, 0, false)
def X0z (v : Val) : Int × Int × Bool := X86 (X7 8 v) v.kind v.n v.d
theorem XbZ (v : Val) (hok : XY v) : Con Tryz.prog 89 [] [Xv v] [] (.tup [X2f (X0z v).1 (X0z v).2.1, ab (X0z v).2.2]) := by
 have hv := X3t v hok
 refine X9 (xs := [X2f (X0z v).1 (X0z v).2.1, ab (X0z v).2.2]) Tryz.func89 rfl Tryz.ntmps89 rfl rfl rfl (fun E => ?_)
 unfold X0z
 generalize X7 8 v = bb at *
 obtain ⟨k, n, d, s, l⟩ := v
 simp only [Xv, Val.kind, Val.n, Val.d] at hv ⊢
 unfold X86
 cases bb with
 | false =>
  rw [if_pos rfl]
  refine X0 ?_; refine JR ?_; refine ZA (γ := 100) ?_; refine Zw (γ := 101) ?_; refine Z0 ?_; refine JD ?_; refine X0 ?_; refine X0 ?_; refine JR ?_; refine ZL ?_; refine Z9 (hcon := hv) ?_; refine Zu ?_
  refine JD ?_; refine JT ?_; refine X0 ?_; refine JR ?_; refine Zx ?_; refine Zy ?_; refine Z0 ?_; refine JD ?_
  exact X1 ⟨_, St.le_refl _, ⟨⟨101, 0, _, rfl, rfl, .inr ⟨2, _, rfl, rfl, rfl, rfl⟩⟩, rfl, trivial⟩, X3 _⟩
 | true =>
  rw [if_neg (by simp)]
  by_cases h2 : k = 2
  ·rw [if_pos h2]
   refine X0 ?_; refine JR ?_; refine ZA (γ := 100) ?_; refine Zw (γ := 101) ?_; refine Z0 ?_; refine JD ?_; refine X0 ?_; refine X0 ?_; refine JR ?_; refine ZL ?_; refine Z9 (hcon := hv) ?_; refine Zu ?_
   refine JD ?_; refine JF ?_; refine X2 ?_; refine X0 ?_; refine X0 ?_; refine JR ?_; refine ZB ?_; refine ZC ?_; refine Zl ?_; refine JD ?_; refine JT ?_; refine X0 ?_; refine JR ?_; refine ZB ?_
   refine ZC ?_; refine Zx ?_; refine Zy ?_; refine Z0 ?_; refine JD ?_
   exact X1 ⟨_, St.le_refl _, ⟨⟨101, 0, _, rfl, rfl, .inr ⟨2, _, rfl, rfl, rfl, rfl⟩⟩, rfl, trivial⟩, X3 _⟩
  rw [if_neg h2]
  by_cases h3 : k = 3
  ·rw [if_pos h3]
   repeat first | refine X0 ?_ | (refine JR ?_; (repeat first | refine Z0 ?_ | refine ZB ?_ | refine ZC ?_ | refine ZL ?_ | refine Zl ?_ | refine Zu ?_ | refine Zw (γ := 101) ?_ | refine ZA (γ := 100) ?_ | refine Zy ?_ | refine Zx ?_ | refine Z9 (hcon := hv) ?_); refine JD ?_) | refine JT ?_ | refine JF ?_ | refine X2 ?_
   exact X1 ⟨_, St.le_refl _, ⟨⟨101, 0, _, rfl, rfl, .inr ⟨2, _, rfl, rfl, rfl, rfl⟩⟩, rfl, trivial⟩, X3 _⟩
  rw [if_neg h3]
  repeat first | refine X0 ?_ | (refine JR ?_; (repeat first | refine Z0 ?_ | refine ZB ?_ | refine ZC ?_ | refine ZL ?_ | refine Zl ?_ | refine Zu ?_ | refine Zw (γ := 101) ?_ | refine ZA (γ := 100) ?_ | refine Zy ?_ | refine Zx ?_ | refine Z9 (hcon := hv) ?_); refine JD ?_) | refine JF ?_ | refine X2 ?_
  exact X1 ⟨_, St.le_refl _, ⟨⟨101, 0, _, rfl, rfl, .inr ⟨2, _, rfl, rfl, rfl, rfl⟩⟩, rfl, trivial⟩, X3 _⟩
def X2d (v : Val) : Prop := Con Tryz.prog 180 [] [Xv v, Xv v] [] (ai 0)
theorem XeG (l : List Val) (hl : l.length ≤ 9223372036854775807) (ih : ∀ x ∈ l, X2d x) : Con Tryz.prog 235 [] [.d (.sl 5 (XJ l)), .d (.sl 5 (XJ l))] [] (ai 0) := by
 refine X9 (xs := [ai 0]) Tryz.func235 rfl Tryz.ntmps235 rfl rfl rfl (fun E => ?_)
 have hlen := UR l
 have hi := X3b (XJ l).length
 refine X0 ?_; refine JR ?_; refine Z0 ?_; refine JD ?_; refine X0 ?_; refine X0 ?_; refine JR ?_; refine Z0 ?_; refine JD ?_; refine X4 ?_
 refine Xy (fun i : Nat => i ≤ l.length) (fun i => ⟨36, [(0, .d (.sl 5 (XJ l))), (1, .d (.sl 5 (XJ l))), (5, ai i)], []⟩) (fun i => l.length - i) 0 (by omega)
  (X8 rfl ⟨JL, JL, JL, trivial⟩ trivial) ?_
 intro i hi2
 by_cases hil : i < l.length
 case neg =>
  have hn : ¬ (i : Int) < (XJ l).length := by omega
  refine X0 ?_; refine X0 ?_; refine JR ?_; refine Z1 ?_; refine Z1 ?_; refine Zd ?_; refine Z8 ?_; refine Z1 ?_; refine Zo ?_; refine Zo ?_; refine Zo ?_; refine Zo ?_; refine Zq ?_; refine JD ?_; refine JF ?_
  refine Xj ?_; refine X0 ?_; refine JR ?_; refine Z1 ?_; refine Zd ?_; refine Z1 ?_; refine Zd ?_; refine Z9 (hcon := hi) ?_; refine Z0 ?_; refine JD ?_
  exact X1 ⟨_, St.le_refl _, ⟨rfl, trivial⟩, X3 _⟩
 obtain ⟨x, hx⟩ := Xu (l := l) hil
 have hxc : (XJ l)[i]? = some (YO x) := by rw [X14]; exact XS hx
 have hc := ih x (List.mem_of_getElem? hx)
 unfold X2d at hc
 have hn : (i : Int) < (XJ l).length := by omega
 obtain ⟨k, n, d, s, q⟩ := x
 simp only [Xv, YO] at hc hxc
 repeat first | refine X0 ?_ | (refine JR ?_; (repeat first | refine Z1 ?_ | refine Z0 ?_ | refine ZK ?_ | refine Zd ?_ | refine Z8 ?_ | refine Zv ?_ | refine Zb ?_ | refine Zn ?_ | refine Zj ?_ | refine Z9 (hcon := hc) ?_); refine JD ?_) | refine JT ?_ | refine JF ?_ | refine X4 ?_ | refine X2 ?_
 exact ⟨i + 1, by omega, by omega, X8 rfl ⟨JL, JL, JL, trivial⟩ trivial⟩
theorem Xde (v : Val) (hl : v.l.length ≤ 9223372036854775807) (ih : ∀ x ∈ v.l, X2d x) : Con Tryz.prog 218 [] [Xv v, Xv v] [] (ai 0) := by
 obtain ⟨k, n, d, s, l⟩ := v
 simp only [Val.l] at hl ih
 have hl := XeG l hl ih
 have hk := X3b k
 have hn := X3b n
 have hd := X3b d
 have hs := Xfe s
 refine X9 (xs := [ai 0]) Tryz.func218 rfl Tryz.ntmps218 rfl rfl rfl (fun E => ?_)
 simp only [Xv]
 repeat first | refine X0 ?_ | (refine JR ?_; (repeat first | refine Z1 ?_ | refine Z0 ?_ | refine ZB ?_ | refine ZC ?_ | refine Zv ?_ | refine ZA (γ := 100) ?_ | refine ZA (γ := 101) ?_ | refine Z9 (hcon := hk) ?_ | refine Z9 (hcon := hn) ?_ | refine Z9 (hcon := hd) ?_ | refine Z9 (hcon := hs) ?_ | refine Z9 (hcon := hl) ?_); refine JD ?_) | refine JF ?_ | refine X2 ?_
 exact X1 ⟨_, St.le_refl _, ⟨rfl, trivial⟩, X3 _⟩
theorem Xfz (v : Val) (hok : XY v) (hf : Con Tryz.prog 218 [] [Xv v, Xv v] [] (ai 0)) : X2d v := by
 have hv := X3t v hok
 have hn := XbZ v hok
 have hcl := XhU v.kind
 have hi := X3b (X2D v.kind)
 have hcmp := Xci (X0z v).1 (X0z v).2.1
 refine X9 (xs := [ai 0]) Tryz.func180 rfl Tryz.ntmps180 rfl rfl rfl (fun E => ?_)
 generalize X0z v = u at *
 generalize X7 8 v = bb at *
 obtain ⟨k, n, d, s, l⟩ := v
 obtain ⟨p, q, is⟩ := u
 simp only [Xv, Val.kind] at hv hn hcl hi hcmp hf ⊢
 generalize X2D k = c at *
 cases bb with
 | false =>
  repeat first | refine X0 ?_ | (refine JR ?_; (repeat first | refine Z1 ?_ | refine Z0 ?_ | refine ZL ?_ | refine Z00 ?_ | refine Zu ?_ | refine ZA (γ := 100) ?_ | refine ZA (γ := 101) ?_ | refine Z9 (hcon := hv) ?_ | refine Z9 (hcon := hf) ?_); refine JD ?_) | refine JT ?_ | refine JF ?_ | refine X2 ?_
  exact X1 ⟨_, St.le_refl _, ⟨rfl, trivial⟩, X3 _⟩
 | true =>
  cases is with
  | true =>
   repeat first | refine X0 ?_ | (refine JR ?_; (repeat first | refine Z1 ?_ | refine Z0 ?_ | refine ZB ?_ | refine ZC ?_ | refine ZL ?_ | refine Zv ?_ | refine Z00 ?_ | refine Zu ?_ | refine Zw (γ := 102) ?_ | refine Zw (γ := 103) ?_ | refine ZA (γ := 100) ?_ | refine ZA (γ := 101) ?_ | refine Zy ?_ | refine ZF ?_ | refine Z9 (hcon := hv) ?_ | refine Z9 (hcon := hcl) ?_ | refine Z9 (hcon := hi) ?_ | refine Z9 (hcon := hn) ?_ | refine Z9 (hcon := hcmp) ?_); refine JD ?_) | refine JT ?_ | refine JF ?_ | refine X2 ?_
   exact X1 ⟨_, St.le_refl _, ⟨rfl, trivial⟩, X3 _⟩
  | false =>
   repeat first | refine X0 ?_ | (refine JR ?_; (repeat first | refine Z1 ?_ | refine Z0 ?_ | refine ZB ?_ | refine ZC ?_ | refine ZL ?_ | refine Zv ?_ | refine Z00 ?_ | refine Zu ?_ | refine Zw (γ := 102) ?_ | refine Zw (γ := 103) ?_ | refine ZA (γ := 100) ?_ | refine ZA (γ := 101) ?_ | refine Zy ?_ | refine ZF ?_ | refine Z9 (hcon := hv) ?_ | refine Z9 (hcon := hcl) ?_ | refine Z9 (hcon := hi) ?_ | refine Z9 (hcon := hn) ?_ | refine Z9 (hcon := hf) ?_); refine JD ?_) | refine JF ?_ | refine X2 ?_
   exact X1 ⟨_, St.le_refl _, ⟨rfl, trivial⟩, X3 _⟩
theorem Xat : ∀ v : Val, XY v → X2d v
 | .mk k n d s l => fun hok => Xfz (.mk k n d s l) hok (Xde (.mk k n d s l) (by rw [XY] at hok; exact hok.2.1) fun x hx => Xat x (X1p (by rw [XY] at hok; exact hok.2.2) hx))
termination_by v => SizeOf.sizeOf v
decreasing_by
 have h1 := List.sizeOf_lt_of_mem (show x ∈ l from hx)
 simp only [Val.mk.sizeOf_spec]
 omega
end Go.Fw
