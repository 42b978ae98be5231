/- Frame, the program's and the reference's. -/
import Derived.Test.YtpfldfkhgplcgaaGreatDoorK16
set_option maxHeartbeats 8000000
namespace Go.Fw
open Go Go.Proofs
set_option maxRecDepth 100000
set_option linter.unusedVariables false
set_option linter.unusedSimpArgs false
abbrev zB : List D := [.v (.int .u8 0)]
theorem Xdr {b : List UInt8} {i : Nat} (hi : i < 4) : ∃ y, (U0 b)[i]? = some y ∧ n8 (YQ b / 2 ^ (8 * i) % 256) = n8 y.toNat := by
 have hs := X2L b
 rcases i with _ | _ | _ | _ | i
 ·exact ⟨_, rfl, by rw [X02 (by omega)]; simp⟩
 ·exact ⟨_, rfl, by rw [X02 (by omega)]⟩
 ·exact ⟨_, rfl, by rw [X02 (by omega)]⟩
 ·exact ⟨_, rfl, by rw [X02 (by omega)]; show n8 (YQ b / 16777216 % 256) = _; rw [Nat.mod_eq_of_lt (by omega)]⟩
 ·omega
theorem Xeu (b : List UInt8) (hb : b.length ≤ 65536) : Con Tryz.prog 84 [] [.d (Xg b)] [] (.d (Xg (YT b))) := by
 refine Xb (xs := [.d (Xg (YT b))]) Tryz.func84 rfl Tryz.ntmps84 rfl rfl rfl (fun E => ?_)
 have hl : (Xo (b.length : Int)).length ≤ 10 := by rw [X0e (by omega)]; exact X0q (by omega)
 have hpc := X0S b.length (by omega)
 have hput : YT b = Xo (b.length : Int) ++ b ++ U0 b := rfl
 generalize Xo (b.length : Int) = hd at *
 have hlb : (List.map X7 b).length = b.length := by simp
 have hlm : (List.map X7 hd).length = hd.length := by simp
 have hm1 : hd.length = min (hd.map X7).length (List.replicate ((hd.map X7).length + (b.map X7).length + 4) (zD (Value.int IntKind.u8 0).cells.toList)).length := by simp; omega
 have hk : hd.length ≤ ((hd.map X7).take hd.length ++ (List.replicate ((hd.map X7).length + (b.map X7).length + 4) (zD (Value.int IntKind.u8 0).cells.toList)).drop hd.length).length := by simp
 have hm2 : b.length = min (b.map X7).length (((hd.map X7).take hd.length ++ (List.replicate ((hd.map X7).length + (b.map X7).length + 4) (zD (Value.int IntKind.u8 0).cells.toList)).drop hd.length).length - hd.length) := by simp; omega
 refine Qu ?_; refine Zd ?_; refine Z9 (hcon := hpc) ?_; refine Qv ?_; refine Zd ?_; refine Z1 ?_; refine Zd ?_; refine Zb ?_; refine Zb ?_; refine Ze (γ := 131) ?_; refine Qc ?_; refine Qi ?_; refine Zf (m := hd.length) ?_ (hm := by exact hm1); refine Qv ?_; refine Qw ?_; refine Zg (k := hd.length) ?_ (hk := by exact hk); refine Z1 ?_; refine Zh (m := b.length) ?_ (hk := by exact hk) (hm := by exact hm2); refine Z7 (op := .add) (r' := ni (hd.length + b.length)) (u := ni hd.length) (v := ni b.length) ?_ (hr := by exact Y6 (by rw [Xr]; omega)); refine Qv ?_; refine Z9 (hcon := X6S b) ?_; refine Qja ?_; refine QE ?_
 refine Xu (fun i : Nat => i ≤ 4) (fun i => ⟨45, [(4, .own 131 (hd.length + b.length + 4)), (5, ai (hd.length + b.length : Nat)), (6, ai (YQ b)), (30, ai i)], [(131, .row 1 ((hd ++ b ++ (U0 b).take i).map X7 ++ List.replicate (4 - i) zB))]⟩) (fun i => 4 - i) 0 (by omega)
  (Xa rfl ⟨(by refine AVal.le_of_eq ?_; refine Eq.trans (b := AVal.own 131 ((hd.map X7).length + (b.map X7).length + 4)) rfl ?_; rw [hlb, hlm]), JL, JL, JL, trivial⟩ ⟨?_, trivial⟩) ?_
 ·refine Eq.trans (b := AObj.row 1 (List.take _ _ ++ _ ++ List.drop _ _)) rfl ?_
  congr 1
  rw [List.take_of_length_le (l := hd.map X7) (by simp), List.take_left' (by simp), List.take_of_length_le (by simp), List.drop_append, List.drop_of_length_le (by simp), List.nil_append, List.drop_drop, List.drop_replicate]
  simp only [List.take_zero, List.append_nil, List.map_append, Nat.sub_zero]
  congr 1
  rw [show (List.map X7 hd).length + (List.map X7 b).length + 4 - (hd.length + (hd.length + b.length - (List.map X7 hd).length)) = 4 by rw [hlb, hlm]; omega]
  rfl
 intro i hi
 by_cases h4 : i < 4
 ·obtain ⟨y, hy, hey⟩ := Xdr (b := b) h4
  have hs := X2L b
  have h8 : 8 * i ≤ 64 := by omega
  have hrl : ((hd ++ b ++ (U0 b).take i).map X7 ++ List.replicate (4 - i) zB).length = hd.length + b.length + 4 := by
   have := X0U b
   simp only [List.length_append, List.length_map, List.length_take, List.length_replicate]; omega
  have hrl2 := hrl.symm
  have hrl3 : hd.length + b.length + i < ((hd ++ b ++ (U0 b).take i).map X7 ++ List.replicate (4 - i) zB).length := by rw [hrl]; omega
  have hsl : (hd ++ b ++ (U0 b).take i).length = hd.length + b.length + i := by
   have := X0U b
   simp only [List.length_append, List.length_take]; omega
  refine QA ?_; refine JT ?_; refine QB ?_; refine Qx ?_; refine JR ?_; refine QBa ?_; refine Z7 (op := .add) (r' := ni (hd.length + b.length + i)) (u := ni (hd.length + b.length)) (v := ni i) ?_ (hr := by exact Y6 (by rw [Xr]; omega)); refine Qw ?_; refine Z7 (op := .mul) (r' := ni (8 * i)) (u := ni 8) (v := ni i) ?_ (hr := by exact YK (by rw [Xr]; omega)); refine Z7 (op := .shr) (r' := ni (YQ b / 2 ^ (8 * i))) (u := ni (YQ b)) (v := ni (8 * i)) ?_ (hr := by exact X2p h8); refine Z3 (u := ni (YQ b / 2 ^ (8 * i))) (r := n8 y.toNat) ?_ (hr := by exact by rw [← hey]; exact U4 rfl rfl); refine ZO ?_; refine ZP ?_; refine JD ?_; refine QI ?_
  refine ⟨i + 1, by omega, by omega, Xa rfl ⟨JL, JL, JL, JL, trivial⟩ ⟨?_, trivial⟩⟩
  refine Eq.trans (b := AObj.row 1 (List.take _ _ ++ [X7 y] ++ List.drop _ _)) rfl ?_
  congr 1
  rw [List.take_left' (by rw [List.length_map, hsl]), List.drop_append, List.drop_of_length_le (by rw [List.length_map, hsl]; omega), List.nil_append, List.length_map, hsl, List.drop_replicate, List.take_add_one, hy]
  simp only [Option.toList_some, List.map_append, List.map_cons, List.map_nil, List.append_assoc]
  rw [show 4 - i - (hd.length + b.length + i + 1 - (hd.length + b.length + i)) = 4 - (i + 1) by omega]
 obtain rfl : i = 4 := by omega
 have hfin : (hd ++ b ++ (U0 b).take 4).map X7 ++ List.replicate (4 - 4) zB = (YT b).map X7 := by
  rw [hput, List.take_of_length_le (by rw [X0U]; omega)]; simp
 rw [hfin]
 refine Xm (Y4 131 rfl) ?_; refine Xm (U1 4 131 rfl rfl (by rw [List.length_map, hput]; simp only [List.length_append, X0U])) ?_; refine QK ?_; exact Qza
def VU (b : List UInt8) (k : Nat) : Nat → Nat
 | 0 => 0
 | i + 1 => VU b k i + 2 ^ (8 * i) * ((b[k + i]?).getD 0).toNat
theorem X8A (b : List UInt8) (k : Nat) : ∀ i, VU b k i < 2 ^ (8 * i)
 | 0 => by simp [VU]
 | i + 1 => by
  have h1 := X8A b k i
  have h2 := ((b[k + i]?).getD 0).toNat_lt
  simp only [VU]
  rw [show 8 * (i + 1) = 8 * i + 8 by omega, Nat.pow_add]
  have : 2 ^ (8 * i) * ((b[k + i]?).getD 0).toNat ≤ 2 ^ (8 * i) * 255 := Nat.mul_le_mul_left _ (by omega)
  omega
theorem Xfz (b : List UInt8) (k : Nat) : VU b k 4 = X0f b k := by
 simp [VU, X0f]
theorem X7A {b : List UInt8} {a : Int} : Ue b a = if (Xf b a).2.2 ≠ 0 then ([], 0, (Xf b a).2.2) else if (b.length : Int) - (Xf b a).2.1 < 4 ∨ (b.length : Int) - (Xf b a).2.1 - 4 < (Xf b a).1 then ([], 0, 3) else
  if X0f b ((Xf b a).2.1 + (Xf b a).1).toNat ≠ YQ ((b.drop (Xf b a).2.1.toNat).take (Xf b a).1.toNat) then ([], 0, 21) else ((b.drop (Xf b a).2.1.toNat).take (Xf b a).1.toNat, (Xf b a).2.1 + (Xf b a).1 + 4, 0) := rfl
theorem Xby (b : List UInt8) (a : Int) (hb : b.length ≤ 140737488355328) : Con Tryz.prog 71 [] [.d (Xg b), ai a] [] (X2j (.d (Xg (Ue b a).1)) (Ue b a).2.1 (Ue b a).2.2) := by
 refine Xb (xs := [.d (Xg (Ue b a).1), ai (Ue b a).2.1, ai (Ue b a).2.2]) Tryz.func71 rfl Tryz.ntmps71 rfl rfl rfl (fun E => ?_)
 have hr := X24 b a (by omega)
 have hf := X4q (b := b) (a := a)
 rw [X7A]
 generalize Xf b a = r at *
 obtain ⟨n, f, err⟩ := r
 simp only at hf ⊢
 by_cases h2 : err = 0
 ·obtain ⟨n, f, rfl, rfl, hf1, hf2⟩ := hf h2
  rw [if_neg (by simpa using h2)]
  by_cases h3 : (b.length : Int) - f < 4
  ·rw [if_pos (.inl h3)]
   repeat first | refine X0 ?_ | (refine JR ?_; (repeat first | refine Z1 ?_ | refine Z0 ?_ | refine Zd ?_ | refine Z8 ?_ | refine Zv ?_ | refine ZR ?_ | refine ZF ?_ | refine Zn ?_ | refine Zo ?_ | refine Z9 (hcon := hr) ?_); refine JD ?_) | refine JT ?_ | refine JF ?_ | refine X4 ?_
   exact Qfc
  by_cases h4 : (b.length : Int) - f - 4 < n
  ·rw [if_pos (.inr h4)]
   repeat first | refine X0 ?_ | (refine JR ?_; (repeat first | refine Z1 ?_ | refine Z0 ?_ | refine Zd ?_ | refine Z8 ?_ | refine Zs ?_ | refine Zv ?_ | refine ZR ?_ | refine ZF ?_ | refine Zq ?_ | refine Z9 (hcon := hr) ?_); refine JD ?_) | refine JT ?_ | refine JF ?_ | refine X4 ?_
   exact Qfc
  rw [if_neg (by omega)]
  have hsl : ((b.map X7).take (f + n)).drop f = ((b.drop f).take n).map X7 := by rw [List.map_take, List.map_drop, List.drop_take, Nat.add_sub_cancel_left]
  have hbl : ((b.drop f).take n).length = n := by simp; omega
  repeat first | refine X0 ?_ | (refine JR ?_; (repeat first | refine Z7 (op := .add) (r' := ni (f + n)) (u := ni f) (v := ni n) ?_ (hr := by exact Y6 (by rw [Xr]; omega)) | refine ZX (lb := f) (hb := f + n) (ys := ((b.drop f).take n).map X7) ?_ (hys := by exact hsl) | refine Z1 ?_ | refine Z0 ?_ | refine Zd ?_ | refine Z8 ?_ | refine Zs ?_ | refine Zv ?_ | refine ZR ?_ | refine ZF ?_ | refine Zq ?_ | refine Z9 (hcon := hr) ?_); refine JD ?_) | refine JF ?_ | refine X5 ?_ | refine X4 ?_
  refine Xu (fun i : Nat => i ≤ 4) (fun i => ⟨79, [(0, .d (Xg b)), (7, ai n), (8, ai f), (10, .d (Xg ((b.drop f).take n))), (11, ai (VU b (f + n) i)), (47, ai i)], []⟩) (fun i => 4 - i) 0 (by omega)
   (Xa rfl ⟨JL, JL, JL, JL, JL, JL, trivial⟩ trivial) ?_
  intro i hi
  have hsp := X8A b (f + n) i
  by_cases hi4 : i < 4
  ·obtain ⟨y, hy⟩ := Xv (l := b) (k := f + n + i) (by omega)
   have hy8 := y.toNat_lt
   have h24 : (2 : Nat) ^ (8 * i) ≤ 2 ^ 24 := Nat.pow_le_pow_right (by omega) (by omega)
   have hyp : y.toNat * 2 ^ (8 * i) ≤ 255 * 2 ^ 24 := Nat.mul_le_mul (by omega) h24
   have hst : VU b (f + n) i ||| y.toNat * 2 ^ (8 * i) = VU b (f + n) (i + 1) := by simp only [VU, hy, Option.getD_some]; exact X54 hsp
   have h8i : 8 * i ≤ 64 := by omega
   refine QA ?_; refine JT ?_; refine QB ?_; refine Qx ?_; refine Qgc ?_; refine Qw ?_; refine Z7 (op := .add) (r' := ni (f + n)) (u := ni f) (v := ni n) ?_ (hr := by exact Y6 (by rw [Xr]; omega)); refine Z1 ?_; refine Z7 (op := .add) (r' := ni (f + n + i)) (u := ni (f + n)) (v := ni i) ?_ (hr := by exact Y6 (by rw [Xr]; omega)); refine Qhc ?_; refine Z1 ?_; refine Z7 (op := .mul) (r' := ni (8 * i)) (u := ni 8) (v := ni i) ?_ (hr := by exact YK (by rw [Xr]; omega)); refine Z7 (op := .shl) (r' := ni (y.toNat * 2 ^ (8 * i))) (u := ni y.toNat) (v := ni (8 * i)) ?_ (hr := by exact XfR h8i (by rw [Xr]; omega)); refine Z4 (op := .or) (r' := ni (VU b (f + n) (i + 1))) (u := ni (VU b (f + n) i)) (v := ni (y.toNat * 2 ^ (8 * i))) ?_ (hr' := by exact congrArg ni hst) (hr := by exact V7 (by rw [Xr]; omega) (by rw [Xr]; omega)); refine Qc ?_; refine QI ?_; exact ⟨i + 1, by omega, by omega, Xa rfl ⟨JL, JL, JL, JL, JL, JL, trivial⟩ trivial⟩
  obtain rfl : i = 4 := by omega
  have ha := Xfz b (f + n)
  rw [ha]
  have et : ((f : Int) + (n : Int)).toNat = f + n := by omega
  rw [et, Int.toNat_natCast, Int.toNat_natCast]
  generalize (b.drop f).take n = body at *
  by_cases hs : X0f b (f + n) = YQ body
  ·rw [if_neg (by simpa using hs)]
   have hm1 : min (body.map X7).length (List.replicate n (zD (Value.int IntKind.u8 0).cells.toList)).length = n := by simp [hbl]
   refine QK ?_; refine Qg ?_; refine Z9 (hcon := X6S body) ?_; refine Z1 ?_; refine QDb ?_; refine Qf ?_; refine Ze (γ := 131) ?_; refine Qc ?_; refine Qi ?_; refine Zf (m := n) ?_ (hm := by exact hm1.symm); refine JD ?_; refine QGb ?_; refine Z7 (op := .add) (r' := ni (f + n)) (u := ni f) (v := ni n) ?_ (hr := by exact Y6 (by rw [Xr]; omega)); refine Zb ?_; refine QMb ?_; refine Xm (Y4 131 rfl) ?_; refine Xm (U1 4 131 rfl rfl (by simp [hbl])) ?_; exact X1 ⟨_, St.le_trans (Xc 4 (y := .d (Xg body)) (AVal.le_of_eq (by refine Eq.trans (b := AVal.d (.sl 1 (List.take n _ ++ List.drop n _))) rfl ?_; rw [List.take_of_length_le (by simp [hbl]), List.drop_of_length_le (by simp), List.append_nil]))) (Xc 5 (y := ai ((f : Int) + n + 4)) (AVal.le_of_eq (by refine Eq.trans (b := ai _) rfl ?_; simp))), ⟨rfl, rfl, rfl, trivial⟩, X3 _⟩
  ·rw [if_pos hs]
   have hs' : ¬ (YQ body = X0f b (f + n)) := fun h => hs h.symm
   refine QK ?_; refine Qg ?_; refine Z9 (hcon := X6S body) ?_; refine Z1 ?_; refine Zv ?_; refine QOb ?_; refine QMb ?_; exact Qfc
 ·rw [if_pos h2]
  repeat first | refine X0 ?_ | (refine JR ?_; (repeat first | refine Z1 ?_ | refine Z0 ?_ | refine Zv ?_ | refine ZF ?_ | refine Z9 (hcon := hr) ?_); refine JD ?_) | refine JT ?_
  exact Qfc
theorem X9V {l : List Val} {i : Nat} {x : Val} (h : l[i]? = some x) : Ye (l.take (i + 1)) = Ye (l.take i) ++ XP x := by
 induction l generalizing i with
 | nil => simp at h
 | cons y l ih =>
  cases i with
  | zero => simp at h; subst h; simp [Ye]
  | succ i => simp only [List.take_succ_cons, Ye]; rw [ih (by simpa using h), List.append_assoc]
theorem X9m (l : List Val) (i : Nat) : (Ye (l.take i)).length ≤ (Ye l).length := by
 induction l generalizing i with
 | nil => simp
 | cons y l ih =>
  cases i with
  | zero => simp [Ye]
  | succ i => simp only [List.take_succ_cons, Ye, List.length_append]; have := ih i; omega
def X5w (v : Val) : Prop := ∀ r : List UInt8, r.length + (XP v).length ≤ 140737488355328 →
 Con Tryz.prog 175 [(0, .row 1 (r.map X7))] [.own 0 r.length, Xi v] [(0, .row 1 ((r ++ XP v).map X7))] (.own 0 (r ++ XP v).length)
theorem Xfg (v : Val) (hv : X8 8 v = true) (ih : ∀ x ∈ v.l, X5w x) : X5w v := by
 obtain ⟨k, n, d, s, l⟩ := v
 intro r hr
 have hlen := Va l
 simp only [Val.l] at ih
 refine Xb (xs := [.own 0 (r ++ XP (.mk k n d s l)).length]) Tryz.func175 rfl Tryz.ntmps175 rfl rfl rfl (fun E => ?_)
 rw [X8] at hv
 have hbig : ∀ (x : Int), -1000000000000000 ≤ x ∧ x ≤ 1000000000000000 → -9223372036854775808 ≤ x ∧ x ≤ 9223372036854775807 := fun x h => by omega
 by_cases hk0 : k = 0
 ·subst hk0
  have hput : XP (.mk 0 n d s l) = [UInt8.ofNat 0] := by rw [XP]; simp
  rw [hput] at hr ⊢
  simp only [List.length_append, List.length_cons, List.length_nil] at hr
  repeat first | refine X0 ?_ | (refine JR ?_; (repeat first | refine Z3 (u := nj 0) (r := n8 0) ?_ (hr := by exact U4 rfl rfl) | refine Z1 ?_ | refine Z0 ?_ | refine ZB ?_ | refine ZC ?_ | refine Zl ?_ | refine ZA (γ := 100) ?_ | refine Z5 ?_ | refine Z6 ?_); refine JD ?_) | refine JF ?_ | refine X5 ?_ | refine X4 ?_
  refine X1 ⟨_, Xc 4 (y := .own 0 (r ++ UInt8.ofNat 0 :: []).length) (AVal.le_of_eq ?_), ⟨rfl, trivial⟩, Xh ⟨?_, trivial⟩⟩
  ·refine Qic ?_
   congr 1
   simp only [List.length_append, List.length_map, List.length_cons, List.length_nil] <;> omega
  ·refine Qjc ?_
   simp only [List.map_append, List.map_cons, List.map_nil, List.append_assoc, List.cons_append, List.nil_append]; rfl
 by_cases hk1 : k = 1
 ·subst hk1
  have hput : XP (.mk 1 n d s l) = UInt8.ofNat 1 :: Yi n := by rw [XP]; simp
  have hn : -9223372036854775808 ≤ n ∧ n ≤ 9223372036854775807 := by simp at hv; omega
  have hpi := X1R n hn
  rw [hput] at hr ⊢
  generalize Yi n = q at *
  simp only [List.length_append, List.length_cons, List.length_nil] at hr
  refine QEa ?_; refine Qf ?_; refine QFa ?_; refine Z3 (u := nj 1) (r := n8 1) ?_ (hr := by exact U4 rfl rfl); refine Qj ?_; refine Qyb ?_; refine QE ?_; refine X0 ?_; refine Qla ?_; refine X4 ?_; refine JT ?_; refine Qf ?_; refine QFa ?_; refine Z9 (hcon := hpi) ?_; refine Qkc ?_
  refine X1 ⟨_, Xc 4 (y := .own 0 (r ++ UInt8.ofNat 1 :: q).length) (AVal.le_of_eq ?_), ⟨rfl, trivial⟩, Xh ⟨?_, trivial⟩⟩
  ·refine Qic ?_
   congr 1
   simp only [List.length_append, List.length_map, List.length_cons, List.length_nil] <;> omega
  ·refine Qlc ?_
   simp only [List.map_append, List.map_cons, List.map_nil, List.append_assoc, List.cons_append, List.nil_append]; rfl
 by_cases hk2 : k = 2
 ·subst hk2
  have hput : XP (.mk 2 n d s l) = UInt8.ofNat 2 :: Yi n := by rw [XP]; simp
  have hn : -9223372036854775808 ≤ n ∧ n ≤ 9223372036854775807 := by simp at hv; omega
  have hpi := X1R n hn
  rw [hput] at hr ⊢
  generalize Yi n = q at *
  simp only [List.length_append, List.length_cons, List.length_nil] at hr
  repeat first | refine X0 ?_ | (refine JR ?_; (repeat first | refine Z3 (u := nj 2) (r := n8 2) ?_ (hr := by exact U4 rfl rfl) | refine Z1 ?_ | refine Z0 ?_ | refine ZB ?_ | refine ZC ?_ | refine Zl ?_ | refine ZA (γ := 100) ?_ | refine Z5 ?_ | refine Z6 ?_ | refine Z9 (hcon := hpi) ?_); refine JD ?_) | refine JT ?_ | refine JF ?_ | refine X5 ?_ | refine X4 ?_
  refine X1 ⟨_, Xc 4 (y := .own 0 (r ++ UInt8.ofNat 2 :: q).length) (AVal.le_of_eq ?_), ⟨rfl, trivial⟩, Xh ⟨?_, trivial⟩⟩
  ·refine Qic ?_
   congr 1
   simp only [List.length_append, List.length_map, List.length_cons, List.length_nil] <;> omega
  ·refine Qlc ?_
   simp only [List.map_append, List.map_cons, List.map_nil, List.append_assoc, List.cons_append, List.nil_append]; rfl
 by_cases hk3 : k = 3
 ·subst hk3
  have hput : XP (.mk 3 n d s l) = UInt8.ofNat 3 :: (Yi n ++ Yi d) := by rw [XP]; simp
  have hnd : (-9223372036854775808 ≤ n ∧ n ≤ 9223372036854775807) ∧ -9223372036854775808 ≤ d ∧ d ≤ 9223372036854775807 := by simp [Ve] at hv; omega
  have hpi := X1R n hnd.1
  have hpd := X1R d hnd.2
  rw [hput] at hr ⊢
  generalize Yi n = q at *
  generalize Yi d = q2 at *
  simp only [List.length_append, List.length_cons, List.length_nil] at hr
  repeat first | refine X0 ?_ | (refine JR ?_; (repeat first | refine Z3 (u := nj 3) (r := n8 3) ?_ (hr := by exact U4 rfl rfl) | refine Z1 ?_ | refine Z0 ?_ | refine ZB ?_ | refine ZC ?_ | refine Zl ?_ | refine ZA (γ := 100) ?_ | refine Z5 ?_ | refine Z6 ?_ | refine Z9 (hcon := hpi) ?_ | refine Z9 (hcon := hpd) ?_); refine JD ?_) | refine JT ?_ | refine JF ?_ | refine X5 ?_
  refine X1 ⟨_, Xc 4 (y := .own 0 (r ++ UInt8.ofNat 3 :: (q ++ q2)).length) (AVal.le_of_eq ?_), ⟨rfl, trivial⟩, Xh ⟨?_, trivial⟩⟩
  ·refine Qic ?_
   congr 1
   simp only [List.length_append, List.length_map, List.length_cons, List.length_nil] <;> omega
  ·refine Eq.trans (b := AObj.row 1 (_ ++ _ ++ _ ++ _)) rfl ?_
   simp only [List.map_append, List.map_cons, List.map_nil, List.append_assoc, List.cons_append, List.nil_append]; rfl
 by_cases hk4 : k = 4
 ·subst hk4
  have hput : XP (.mk 4 n d s l) = UInt8.ofNat 4 :: XM s := by rw [XP]; simp
  have hs : s.length ≤ 65536 := by simp at hv; omega
  have hpi := X1J s hs
  rw [hput] at hr ⊢
  generalize XM s = q at *
  simp only [List.length_append, List.length_cons, List.length_nil] at hr
  repeat first | refine X0 ?_ | (refine JR ?_; (repeat first | refine Z3 (u := nj 4) (r := n8 4) ?_ (hr := by exact U4 rfl rfl) | refine Z1 ?_ | refine Z0 ?_ | refine ZB ?_ | refine ZC ?_ | refine Zl ?_ | refine ZA (γ := 100) ?_ | refine Z5 ?_ | refine Z6 ?_ | refine Z9 (hcon := hpi) ?_); refine JD ?_) | refine JT ?_ | refine JF ?_ | refine X5 ?_
  refine X1 ⟨_, Xc 4 (y := .own 0 (r ++ UInt8.ofNat 4 :: q).length) (AVal.le_of_eq ?_), ⟨rfl, trivial⟩, Xh ⟨?_, trivial⟩⟩
  ·refine Qic ?_
   congr 1
   simp only [List.length_append, List.length_map, List.length_cons, List.length_nil] <;> omega
  ·refine Qlc ?_
   simp only [List.map_append, List.map_cons, List.map_nil, List.append_assoc, List.cons_append, List.nil_append]; rfl
 by_cases hk5 : k = 5
 ·subst hk5
  have hput : XP (.mk 5 n d s l) = UInt8.ofNat 5 :: Yi n := by rw [XP]; simp
  have hn : -9223372036854775808 ≤ n ∧ n ≤ 9223372036854775807 := by simp at hv; omega
  have hpi := X1R n hn
  rw [hput] at hr ⊢
  generalize Yi n = q at *
  simp only [List.length_append, List.length_cons, List.length_nil] at hr
  repeat first | refine X0 ?_ | (refine JR ?_; (repeat first | refine Z3 (u := nj 5) (r := n8 5) ?_ (hr := by exact U4 rfl rfl) | refine Z1 ?_ | refine Z0 ?_ | refine ZB ?_ | refine ZC ?_ | refine Zl ?_ | refine ZA (γ := 100) ?_ | refine Z5 ?_ | refine Z6 ?_ | refine Z9 (hcon := hpi) ?_); refine JD ?_) | refine JT ?_ | refine JF ?_ | refine X5 ?_ | refine X4 ?_
  refine X1 ⟨_, Xc 4 (y := .own 0 (r ++ UInt8.ofNat 5 :: q).length) (AVal.le_of_eq ?_), ⟨rfl, trivial⟩, Xh ⟨?_, trivial⟩⟩
  ·refine Qic ?_
   congr 1
   simp only [List.length_append, List.length_map, List.length_cons, List.length_nil] <;> omega
  ·refine Qlc ?_
   simp only [List.map_append, List.map_cons, List.map_nil, List.append_assoc, List.cons_append, List.nil_append]; rfl
 by_cases hk6 : k = 6
 ·subst hk6
  have hput : XP (.mk 6 n d s l) = UInt8.ofNat 6 :: Yi n := by rw [XP]; simp
  have hn : -9223372036854775808 ≤ n ∧ n ≤ 9223372036854775807 := by simp at hv; omega
  have hpi := X1R n hn
  rw [hput] at hr ⊢
  generalize Yi n = q at *
  simp only [List.length_append, List.length_cons, List.length_nil] at hr
  repeat first | refine X0 ?_ | (refine JR ?_; (repeat first | refine Z3 (u := nj 6) (r := n8 6) ?_ (hr := by exact U4 rfl rfl) | refine Z1 ?_ | refine Z0 ?_ | refine ZB ?_ | refine ZC ?_ | refine Zl ?_ | refine ZA (γ := 100) ?_ | refine Z5 ?_ | refine Z6 ?_ | refine Z9 (hcon := hpi) ?_); refine JD ?_) | refine JT ?_ | refine JF ?_ | refine X5 ?_
  refine X1 ⟨_, Xc 4 (y := .own 0 (r ++ UInt8.ofNat 6 :: q).length) (AVal.le_of_eq ?_), ⟨rfl, trivial⟩, Xh ⟨?_, trivial⟩⟩
  ·refine Qic ?_
   congr 1
   simp only [List.length_append, List.length_map, List.length_cons, List.length_nil] <;> omega
  ·refine Qlc ?_
   simp only [List.map_append, List.map_cons, List.map_nil, List.append_assoc, List.cons_append, List.nil_append]; rfl
 by_cases hk7 : k = 7
 ·subst hk7
  have hput : XP (.mk 7 n d s l) = UInt8.ofNat 7 :: (Xo l.length ++ Ye l) := by rw [XP]; simp
  have hll : l.length ≤ 64 := by simp at hv; omega
  have hpu := X0S (Xy l).length (by omega)
  rw [← hlen] at hput
  rw [hput] at hr ⊢
  generalize Xo ((Xy l).length : Int) = q at *
  simp only [List.length_append, List.length_cons, List.length_nil] at hr
  repeat first | refine X0 ?_ | (refine JR ?_; (repeat first | refine Z3 (u := nj 7) (r := n8 7) ?_ (hr := by exact U4 rfl rfl) | refine Z1 ?_ | refine Z0 ?_ | refine ZB ?_ | refine ZC ?_ | refine Zd ?_ | refine Zl ?_ | refine ZA (γ := 100) ?_ | refine Z5 ?_ | refine Z6 ?_ | refine Z9 (hcon := hpu) ?_); refine JD ?_) | refine JT ?_ | refine JF ?_ | refine X5 ?_
  generalize hbase : r ++ UInt8.ofNat 7 :: q = base at *
  have hbl : base.length = r.length + q.length + 1 := by rw [← hbase]; simp; omega
  have hgoal : r ++ UInt8.ofNat 7 :: (q ++ Ye l) = base ++ Ye l := by rw [← hbase]; simp
  rw [hgoal]
  refine Xu (fun i : Nat => i ≤ l.length) (fun i => ⟨64, [(0, .own 0 (base ++ Ye (l.take i)).length), (53, .d (.sl 5 (Xy l))), (54, ai l.length), (55, ai i)], [(0, .row 1 ((base ++ Ye (l.take i)).map X7))]⟩) (fun i => l.length - i) 0 (by omega)
   (Xa rfl ⟨(by refine AVal.le_of_eq ?_; refine Eq.trans (b := AVal.own 0 (_ + _)) rfl ?_; congr 1; simp only [List.take_zero, Ye, List.append_nil, hbl, List.length_append, List.length_map, List.length_cons, List.length_nil] <;> omega), JL, (by refine AVal.le_of_eq ?_; refine Eq.trans (b := ai ((Xy l).length : Nat)) rfl ?_; rw [hlen]), JL, trivial⟩ ⟨?_, trivial⟩) ?_
  ·refine Qlc ?_
   simp only [List.take_zero, Ye, List.append_nil, ← hbase, List.map_append, List.map_cons, List.append_assoc, List.cons_append, List.nil_append]; rfl
  intro i hi
  by_cases hlt : i < l.length
  ·obtain ⟨x, hx⟩ := Xv (l := l) hlt
   have hgx := X2x hx
   have htk := X9V hx
   have hle := X9m l (i + 1)
   have hpx := ih x (List.mem_of_getElem? hx) (base ++ Ye (l.take i)) (by rw [htk] at hle; simp only [List.length_append] at hle ⊢; omega)
   rw [List.append_assoc, ← htk] at hpx
   obtain ⟨k', n', d', s', q'⟩ := x
   simp only [Xi] at hpx
   rw [Vb] at hgx
   refine Qdb ?_; refine Qk ?_; refine ZL ?_; refine Z9 (hcon := hpx) ?_; refine Qc ?_; refine QI ?_; exact ⟨i + 1, by omega, by omega, Xa rfl ⟨JL, JL, JL, JL, trivial⟩ ⟨rfl, trivial⟩⟩
  obtain rfl : i = l.length := by omega
  rw [List.take_length]
  refine QK ?_; exact Qmc
 by_cases hk8 : k = 8
 ·subst hk8
  have hput : XP (.mk 8 n d s l) = UInt8.ofNat 8 :: (Xo l.length ++ Ye l) := by rw [XP]; simp
  have hll : l.length ≤ 64 := by simp at hv; omega
  have hpu := X0S (Xy l).length (by omega)
  rw [← hlen] at hput
  rw [hput] at hr ⊢
  generalize Xo ((Xy l).length : Int) = q at *
  simp only [List.length_append, List.length_cons, List.length_nil] at hr
  repeat first | refine X0 ?_ | (refine JR ?_; (repeat first | refine Z3 (u := nj 8) (r := n8 8) ?_ (hr := by exact U4 rfl rfl) | refine Z1 ?_ | refine Z0 ?_ | refine ZB ?_ | refine ZC ?_ | refine Zd ?_ | refine Zl ?_ | refine ZA (γ := 100) ?_ | refine Z5 ?_ | refine Z6 ?_ | refine Z9 (hcon := hpu) ?_); refine JD ?_) | refine JT ?_ | refine JF ?_ | refine X5 ?_ | refine X4 ?_
  generalize hbase : r ++ UInt8.ofNat 8 :: q = base at *
  have hbl : base.length = r.length + q.length + 1 := by rw [← hbase]; simp; omega
  have hgoal : r ++ UInt8.ofNat 8 :: (q ++ Ye l) = base ++ Ye l := by rw [← hbase]; simp
  rw [hgoal]
  refine Xu (fun i : Nat => i ≤ l.length) (fun i => ⟨64, [(0, .own 0 (base ++ Ye (l.take i)).length), (53, .d (.sl 5 (Xy l))), (54, ai l.length), (55, ai i)], [(0, .row 1 ((base ++ Ye (l.take i)).map X7))]⟩) (fun i => l.length - i) 0 (by omega)
   (Xa rfl ⟨(by refine AVal.le_of_eq ?_; refine Eq.trans (b := AVal.own 0 (_ + _)) rfl ?_; congr 1; simp only [List.take_zero, Ye, List.append_nil, hbl, List.length_append, List.length_map, List.length_cons, List.length_nil] <;> omega), JL, (by refine AVal.le_of_eq ?_; refine Eq.trans (b := ai ((Xy l).length : Nat)) rfl ?_; rw [hlen]), JL, trivial⟩ ⟨?_, trivial⟩) ?_
  ·refine Qlc ?_
   simp only [List.take_zero, Ye, List.append_nil, ← hbase, List.map_append, List.map_cons, List.append_assoc, List.cons_append, List.nil_append]; rfl
  intro i hi
  by_cases hlt : i < l.length
  ·obtain ⟨x, hx⟩ := Xv (l := l) hlt
   have hgx := X2x hx
   have htk := X9V hx
   have hle := X9m l (i + 1)
   have hpx := ih x (List.mem_of_getElem? hx) (base ++ Ye (l.take i)) (by rw [htk] at hle; simp only [List.length_append] at hle ⊢; omega)
   rw [List.append_assoc, ← htk] at hpx
   obtain ⟨k', n', d', s', q'⟩ := x
   simp only [Xi] at hpx
   rw [Vb] at hgx
   refine Qdb ?_; refine Qk ?_; refine ZL ?_; refine Z9 (hcon := hpx) ?_; refine Qc ?_; refine QI ?_; exact ⟨i + 1, by omega, by omega, Xa rfl ⟨JL, JL, JL, JL, trivial⟩ ⟨rfl, trivial⟩⟩
  obtain rfl : i = l.length := by omega
  rw [List.take_length]
  refine QK ?_; exact Qmc
 simp [*] at hv
theorem X6E {m : Nat} : ∀ {l : List Val} {x : Val}, Uf m l = true → x ∈ l → X8 m x = true
 | [], x, _, h => by simp at h
 | v :: r, x, h, hx => by
  rw [Uf, Bool.and_eq_true] at h
  rcases List.mem_cons.1 hx with rfl | hx
  ·exact h.1
  ·exact X6E h.2 hx
theorem Xa0 : ∀ {l : List Val} {i : Nat} {x : Val}, U7 i l = true → x ∈ l → X8 0 x = true
 | [], _, x, _, h => by simp at h
 | v :: r, i, x, h, hx => by
  rw [U7, Bool.and_eq_true, Bool.and_eq_true] at h
  rcases List.mem_cons.1 hx with rfl | hx
  ·exact h.1.2
  ·exact Xa0 h.2 hx
theorem X8H {m : Nat} {k n d : Int} {s : List UInt8} {l : List Val} (h : X8 m (.mk k n d s l) = true) : ∀ x ∈ l, X8 m x = true := by
 intro x hx
 rw [X8] at h
 by_cases h7 : k = 7
 ·subst h7
  simp at h
  exact X6U x 0 m (by omega) (Xa0 h.2.2 hx)
 ·by_cases h8 : k = 8
  ·subst h8
   simp at h
   exact X6U x (m - 1) m (by omega) (X6E h.2.2 hx)
  ·have : l = [] := by
    simp [h7, h8] at h
    exact h.1.2
   subst this; simp at hx
theorem X8R : ∀ v : Val, X8 8 v = true → X5w v
 | .mk k n d s l => fun hv => Xfg (.mk k n d s l) hv fun x hx => X8R x (X8H hv x hx)
termination_by v => SizeOf.sizeOf v
decreasing_by
 have h1 := List.sizeOf_lt_of_mem (show x ∈ l from hx)
 simp only [Val.mk.sizeOf_spec]
 omega
theorem Xgo (v : Val) (hv : X8 8 v = true) (hb : (XP v).length ≤ 140737488355328) : Con Tryz.prog 175 [] [ani, Xi v] [] (.d (Xg (XP v))) := by
 have h := X8R v hv [] (by simpa using hb)
 have h2 := Con.adopt (sz := 1) (args := [Xi v]) h (by obtain ⟨k, n, d, s, l⟩ := v; rfl)
 exact h2.data (by simp)
theorem X7C (v : Val) (hb : (XP v).length ≤ 140737488355328) : Con Tryz.prog 150 [] [Xi v] [] (.d (Xg (YW v))) := by
 refine Xb (xs := [.d (Xg (YW v))]) Tryz.func150 rfl Tryz.ntmps150 rfl rfl rfl (fun E => ?_)
 have hval := VG v
 cases hv : X8 8 v with
 | false =>
  rw [hv] at hval
  rw [show YW v = [] by unfold YW; rw [hv]; rfl]
  obtain ⟨k, n, d, s, l⟩ := v
  simp only [Xi] at hval
  refine Qoc ?_; refine Z9 (hcon := hval) ?_; refine Zu ?_; refine Qp ?_; exact X1 ⟨_, Xc 2 (y := .d (Xg [])) (AVal.le_nil 1), ⟨rfl, trivial⟩, X3 _⟩
 | true =>
  rw [hv] at hval
  rw [show YW v = XP v by unfold YW; rw [hv]; rfl]
  have hp := Xgo v hv hb
  obtain ⟨k, n, d, s, l⟩ := v
  simp only [Xi] at hval hp
  generalize XP (.mk k n d s l) = q at *
  refine Qoc ?_; refine Z9 (hcon := hval) ?_; refine Qgb ?_; refine Qeb ?_; refine Z9 (hcon := hp) ?_; exact QM
theorem Xeb (n : Int) : Vs n = 0 ∨ Vs n = 1 ∨ Vs n = -1 := by
 unfold Vs
 split
 ·exact .inr (.inr rfl)
 ·split
  ·exact .inr (.inl rfl)
  ·exact .inl rfl
theorem Xey (n d : Int) : Con Tryz.prog 145 [] [X21 n d, X21 n d] [] (ai 0) := by
 refine Xb (xs := [ai 0]) Tryz.func145 rfl Tryz.ntmps145 rfl rfl rfl (fun E => ?_)
 have hv := X8u n d
 cases hb : Ve n d with
 | true =>
  rw [hb] at hv
  simp [Ve] at hb
  obtain ⟨D, rfl⟩ : ∃ D : Nat, d = D := ⟨d.toNat, by omega⟩
  have hsz := X6K n (by omega)
  have hsg := XaE n
  have hr := Xeb n
  have ht := Xak n.natAbs D (by omega) (by omega)
  have hsum := X8q (Vs n) hr (Um 14 (n.natAbs * D)) (X4Y _ _) (X6l _ _)
  generalize Vs n = s at *
  generalize Um 14 (n.natAbs * D) = x at *
  generalize X1V s x = y at *
  generalize n.natAbs = N at *
  have hr1 : -1 ≤ s ∧ s ≤ 1 := by omega
  clear hr hb
  repeat first | refine X0 ?_ | (refine JR ?_; (repeat first | refine Z1 ?_ | refine Z0 ?_ | refine ZB ?_ | refine ZC ?_ | refine ZL ?_ | refine Zu ?_ | refine ZA (γ := 100) ?_ | refine ZA (γ := 101) ?_ | refine ZF ?_ | refine Z9 (hcon := hv) ?_ | refine Z9 (hcon := hsz) ?_ | refine Z9 (hcon := hsg) ?_ | refine Z9 (hcon := ht) ?_ | refine Z9 (hcon := hsum) ?_); refine JD ?_) | refine JF ?_ | refine X4 ?_
  exact QL
 | false =>
  rw [hb] at hv
  clear hb
  have hsz : Con Tryz.prog 168 [] [ai 0] [] (ai 0) := X6K 0 (by omega)
  have hsg : Con Tryz.prog 166 [] [ai 0] [] (ai 0) := XaE 0
  have ht : Con Tryz.prog 167 [] [ai 0, ai 1] [] (.d (UA (Um 14 (0 * 1)))) := Xak 0 1 (by omega) (by omega)
  have hsum : Con Tryz.prog 165 [] [ai 0, .d (UA (Um 14 (0 * 1))), ai 0, .d (UA (Um 14 (0 * 1)))] [] (.tup [ai 0, .d (UA (X1V 0 (Um 14 (0 * 1))))]) := X8q 0 (.inl rfl) (Um 14 (0 * 1)) (X4Y _ _) (X6l _ _)
  generalize Um 14 (0 * 1) = x at *
  generalize X1V 0 x = y at *
  repeat first | refine X0 ?_ | (refine JR ?_; (repeat first | refine Z1 ?_ | refine Z0 ?_ | refine ZB ?_ | refine ZC ?_ | refine ZL ?_ | refine Zu ?_ | refine ZA (γ := 100) ?_ | refine ZA (γ := 101) ?_ | refine Zy ?_ | refine Zx ?_ | refine ZF ?_ | refine Z9 (hcon := hv) ?_ | refine Z9 (hcon := hsz) ?_ | refine Z9 (hcon := hsg) ?_ | refine Z9 (hcon := ht) ?_ | refine Z9 (hcon := hsum) ?_); refine JD ?_) | refine JT ?_
  exact QL
theorem X3u (n : Int) : Con Tryz.prog 142 [] [ai n, ai n] [] (ai 0) := by
 refine Xb (xs := [ai 0]) Tryz.func142 rfl Tryz.ntmps142 rfl rfl rfl (fun E => ?_)
 have h : ¬ n < n := by omega
 repeat first | refine X0 ?_ | (refine JR ?_; (repeat first | refine Z1 ?_ | refine Z0 ?_ | refine Z8 ?_ | refine Zs ?_); refine JD ?_) | refine JF ?_ | refine X4 ?_
 exact QL
theorem X5q : ∀ s : List UInt8, Op.bytesLess s s = false
 | [] => rfl
 | b :: s => by simp [Op.bytesLess, X5q s]
theorem XcL {t : TypeId} {x y : Operand} {s : List UInt8} (w : World) : (do eqGuard .lss t x y (.string (X6 s)) (.string (X6 s)); binOp .lss t (.string (X6 s)) (.string (X6 s)) : Sem Value).run Tryz.prog w = .ok (.bool false) w := by
 simp [go_sem, X2b, X5q]
theorem Xbh {t : TypeId} {x y : Operand} {s : List UInt8} (w : World) : (do eqGuard .gtr t x y (.string (X6 s)) (.string (X6 s)); binOp .gtr t (.string (X6 s)) (.string (X6 s)) : Sem Value).run Tryz.prog w = .ok (.bool false) w := by
 simp [go_sem, binOp, Op.stringOp, X2b, X5q]
theorem Xff (s : List UInt8) : Con Tryz.prog 162 [] [X9 s, X9 s] [] (ai 0) := by
 refine Xb (xs := [ai 0]) Tryz.func162 rfl Tryz.ntmps162 rfl rfl rfl (fun E => ?_)
 refine Qd ?_; refine Qjb ?_; refine Z7 (op := .lss) (r' := .bool false) (u := .string (X6 s)) (v := .string (X6 s)) ?_ (hr := by exact XcL); refine Qr ?_; refine Qjb ?_; refine Z7 (op := .gtr) (r' := .bool false) (u := .string (X6 s)) (v := .string (X6 s)) ?_ (hr := by exact Xbh); refine Qr ?_; exact Qga
def Vj (k : Int) : Int := if k = 0 then 0 else if k = 1 then 1 else if k = 2 ∨ k = 3 then 2 else if k = 4 then 3 else if k = 5 then 4 else if k = 6 then 5 else if k = 8 then 6 else 7
theorem X5x (k : Int) : Con Tryz.prog 143 [] [ai k] [] (ai (Vj k)) := by
 refine Xb (xs := [ai (Vj k)]) Tryz.func143 rfl Tryz.ntmps143 rfl rfl rfl (fun E => ?_)
 by_cases h0 : k = 0
 ·subst h0
  refine Qy ?_; refine QE ?_; exact QFb
 by_cases h1 : k = 1
 ·subst h1
  repeat first | refine X0 ?_ | (refine JR ?_; (repeat first | refine Z1 ?_ | refine Z0 ?_ | refine Zl ?_); refine JD ?_) | refine JT ?_ | refine JF ?_ | refine X5 ?_
  exact QL
 by_cases h2 : k = 2
 ·subst h2
  repeat first | refine X0 ?_ | (refine JR ?_; (repeat first | refine Z1 ?_ | refine Z0 ?_ | refine Zl ?_); refine JD ?_) | refine JT ?_ | refine JF ?_ | refine X5 ?_ | refine X4 ?_
  exact QL
 by_cases h3 : k = 3
 ·subst h3
  repeat first | refine X0 ?_ | (refine JR ?_; (repeat first | refine Z1 ?_ | refine Z0 ?_ | refine Zl ?_); refine JD ?_) | refine JT ?_ | refine JF ?_ | refine X5 ?_
  exact QL
 by_cases h4 : k = 4
 ·subst h4
  repeat first | refine X0 ?_ | (refine JR ?_; (repeat first | refine Z1 ?_ | refine Z0 ?_ | refine Zl ?_); refine JD ?_) | refine JT ?_ | refine JF ?_ | refine X5 ?_
  exact QL
 by_cases h5 : k = 5
 ·subst h5
  repeat first | refine X0 ?_ | (refine JR ?_; (repeat first | refine Z1 ?_ | refine Z0 ?_ | refine Zl ?_); refine JD ?_) | refine JT ?_ | refine JF ?_ | refine X5 ?_
  exact QL
 by_cases h6 : k = 6
 ·subst h6
  repeat first | refine X0 ?_ | (refine JR ?_; (repeat first | refine Z1 ?_ | refine Z0 ?_ | refine Zl ?_); refine JD ?_) | refine JT ?_ | refine JF ?_ | refine X5 ?_
  exact QL
 by_cases h8 : k = 8
 ·subst h8
  repeat first | refine X0 ?_ | (refine JR ?_; (repeat first | refine Z1 ?_ | refine Z0 ?_ | refine Zl ?_); refine JD ?_) | refine JT ?_ | refine JF ?_ | refine X5 ?_
  exact QL
 rw [show Vj k = 7 by simp [Vj, *]]
 repeat first | refine X0 ?_ | (refine JR ?_; (repeat first | refine Z1 ?_ | refine Z0 ?_ | refine Zl ?_); refine JD ?_) | refine JF ?_ | refine X5 ?_ | refine X4 ?_
 exact QL
theorem X8U {m : Nat} {k n d : Int} {s : List UInt8} {l : List Val} (h : X8 m (.mk k n d s l) = true) (hk : k = 0) : n = 0 ∧ d = 0 ∧ s = [] ∧ l = [] := by
 subst hk
 rw [X8] at h
 simp at h
 exact ⟨h.2, h.1.1.1, h.1.1.2, h.1.2⟩
theorem X4N {m : Nat} {k n d : Int} {s : List UInt8} {l : List Val} (h : X8 m (.mk k n d s l) = true) : 0 ≤ k ∧ k ≤ 8 := by
 refine Classical.byContradiction fun hn => ?_
 rw [X8] at h
 rw [if_neg (by omega), if_neg (by omega), if_neg (by omega), if_neg (by omega), if_neg (by omega), if_neg (by omega), if_neg (by omega), if_neg (by omega)] at h
 simp at h
theorem Xe2 (f : FuncId) : Con Tryz.prog 173 [] [.d (.sl 5 []), .d (.sl 5 []), .fn f []] [] (ai 0) := by
 refine Xb (xs := [ai 0]) Tryz.func173 rfl Tryz.ntmps173 rfl rfl rfl (fun E => ?_)
 refine Qy ?_; refine Qz ?_
 refine Xu (fun _ : Unit => True) (fun _ => ⟨39, [(0, .d (.sl 5 [])), (1, .d (.sl 5 [])), (12, ai 0), (13, ai 0)], []⟩) (fun _ => 0) () trivial
  (Xa rfl ⟨JL, JL, JL, JL, trivial⟩ trivial) ?_
 intro _ _
 refine QK ?_; refine Qg ?_; refine Zd ?_; refine Z1 ?_; refine Qob ?_; refine Qr ?_; exact Qga
theorem XcD (k n d : Int) (s : List UInt8) (l : List Val) (h : UM k ≠ 0) : Con Tryz.prog 169 [] [Xi (.mk k n d s l), Xi zV] [] (ai (YC (UM k) 0)) := by
 refine Xb (xs := [ai (YC (UM k) 0)]) Tryz.func169 rfl Tryz.ntmps169 rfl rfl rfl (fun E => ?_)
 have c1 := X6h k n d s l
 have c2 := X6h 0 0 0 [] []
 have c3 := X9Z (UM k) 0
 rw [show UM 0 = 0 from rfl] at c2
 have hz : YC (UM k) 0 ≠ 0 := by
  unfold YC
  split
  ·omega
  ·split
   ·omega
   ·omega
 generalize YC (UM k) 0 = z at *
 generalize UM k = c at *
 simp only [Xi, Xy] at c1 c2 ⊢
 refine Qpc ?_; refine Qnc ?_; refine Z9 (hcon := c1) ?_; refine ZL ?_; refine Z9 (hcon := c2) ?_; refine Z9 (hcon := c3) ?_; exact Qqc
theorem XeD : Con Tryz.prog 169 [] [Xi zV, Xi zV] [] (ai 0) := by
 refine Xb (xs := [ai 0]) Tryz.func169 rfl Tryz.ntmps169 rfl rfl rfl (fun E => ?_)
 have c2 := X6h 0 0 0 [] []
 have c3 := X9Z 0 0
 have c4 := Xdl []
 have c5 := Xe2 169
 have c6 := XcO [0, 0, 0] (by decide)
 rw [show UM 0 = 0 from rfl] at c2
 rw [show YC 0 0 = 0 from rfl] at c3
 rw [show orI [0, 0, 0] = 0 from rfl] at c6
 simp only [Xi, Xy, List.map_cons, List.map_nil] at c2 c6 ⊢
 repeat first | refine X0 ?_ | (refine JR ?_; (repeat first | refine Z1 ?_ | refine Z0 ?_ | refine ZB ?_ | refine ZC ?_ | refine ZL ?_ | refine Zl ?_ | refine Zv ?_ | refine ZA (γ := 100) ?_ | refine ZA (γ := 101) ?_ | refine Z5 ?_ | refine Z9 (hcon := c2) ?_ | refine Z9 (hcon := c3) ?_ | refine Z9 (hcon := c4) ?_ | refine Z9 (hcon := c5) ?_ | refine Z9 (hcon := c6) ?_); refine JD ?_) | refine JF ?_ | refine X4 ?_
 exact QL
def X2i (v : Val) : Int := if X8 8 v = false then 1 else YC (UM v.kind) 0
theorem XfJ (v : Val) : decide (X2i v = 0) = UQ v := by
 unfold X2i UQ
 cases h : X8 8 v with
 | false => simp
 | true =>
  obtain ⟨k, n, d, s, l⟩ := v
  have hk := X4N h
  simp only [Val.kind, Bool.true_and]
  refine decide_eq_decide.2 ?_
  rw [if_neg (by simp)]
  unfold YC UM
  constructor
  ·intro h1
   split at h1
   ·omega
   split at h1
   ·split at h1
    ·omega
    ·split at h1 <;> omega
   ·split at h1 <;> omega
  ·intro h1
   subst h1
   rfl
theorem Xgp (v : Val) : Con Tryz.prog 147 [] [Xi v, Xi zV] [] (ai (X2i v)) := by
 refine Xb (xs := [ai (X2i v)]) Tryz.func147 rfl Tryz.ntmps147 rfl rfl rfl (fun E => ?_)
 have hv := VG v
 have hz := VG zV
 rw [show X8 8 zV = true by rw [X8]; simp] at hz
 unfold X2i
 cases h : X8 8 v with
 | false =>
  rw [h] at hv
  rw [if_pos rfl]
  obtain ⟨k, n, d, s, l⟩ := v
  simp only [Xi, Xy] at hv hz ⊢
  repeat first | refine X0 ?_ | (refine JR ?_; (repeat first | refine Z1 ?_ | refine Z0 ?_ | refine ZL ?_ | refine ZA (γ := 100) ?_ | refine ZA (γ := 101) ?_ | refine Zq ?_ | refine Zo ?_ | refine Z9 (hcon := hv) ?_ | refine Z9 (hcon := hz) ?_); refine JD ?_) | refine JT ?_ | refine JF ?_ | refine X5 ?_
  exact QL
 | true =>
  rw [h] at hv
  rw [if_neg (by simp)]
  obtain ⟨k, n, d, s, l⟩ := v
  simp only [Val.kind]
  by_cases hk : UM k = 0
  ·have hk0 : k = 0 := by
    have := X4N h
    unfold UM at hk
    split at hk
    ·omega
    ·split at hk <;> omega
   obtain ⟨rfl, rfl, rfl, rfl⟩ := X8U h hk0
   subst hk0
   have ho := XeD
   rw [show YC (UM 0) 0 = 0 from rfl]
   simp only [Xi, Xy] at hv hz ho ⊢
   refine Qpc ?_; refine Qrc ?_; refine ZL ?_; refine Z9 (hcon := hv) ?_; refine Qya ?_; refine Qe ?_; refine QGb ?_; refine QQ ?_; refine JT ?_; refine Qeb ?_; refine ZL ?_; refine Z9 (hcon := ho) ?_; exact QM
  ·have ho := XcD k n d s l hk
   generalize YC (UM k) 0 = z at *
   simp only [Xi, Xy] at hv hz ho ⊢
   refine Qpc ?_; refine Qrc ?_; refine ZL ?_; refine Z9 (hcon := hz) ?_; refine Qya ?_; refine Qe ?_; refine QGb ?_; refine QQ ?_; refine JT ?_; refine Qeb ?_; refine ZL ?_; refine Z9 (hcon := ho) ?_; exact QM
theorem Xdf (v : Val) : Con Tryz.prog 113 [] [Xi v] [] (ab (UQ v)) := by
 refine Xb (xs := [ab (UQ v)]) Tryz.func113 rfl Tryz.ntmps113 rfl rfl rfl (fun E => ?_)
 have ho := Xgp v
 rw [← XfJ v]
 generalize X2i v = z at *
 obtain ⟨k, n, d, s, l⟩ := v
 simp only [Xi, Xy] at ho ⊢
 refine QEa ?_; refine Qeb ?_; refine Zx ?_; refine Z9 (hcon := ho) ?_; refine Zl ?_; refine Qc ?_; exact QL
end Go.Fw
