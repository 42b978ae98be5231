/- Frame, the program's and the reference's. -/
import Derived.Test.YtpfldfkhgplcgaaGreatDoorM16
set_option maxHeartbeats 8000000
namespace Go.Fw
open Go Go.Proofs
set_option maxRecDepth 100000
set_option linter.unusedVariables false
set_option linter.unusedSimpArgs false
abbrev zB : List D := [.v (.int .u8 0)]
theorem Xfr {b : List UInt8} {i : Nat} (hi : i < 4) : ∃ y, (YS b)[i]? = some y ∧ n8 (XZ b / 2 ^ (8 * i) % 256) = n8 y.toNat := by
 have hs := X23 b
 rcases i with _ | _ | _ | _ | i
 ·exact ⟨_, rfl, by rw [UZ (by omega)]; simp⟩
 ·exact ⟨_, rfl, by rw [UZ (by omega)]⟩
 ·exact ⟨_, rfl, by rw [UZ (by omega)]⟩
 ·exact ⟨_, rfl, by rw [UZ (by omega)]; show n8 (XZ b / 16777216 % 256) = _; rw [Nat.mod_eq_of_lt (by omega)]⟩
 ·omega
theorem XgV (b : List UInt8) (hb : b.length ≤ 65536) : Con Tryz.prog 84 [] [.d (Xf b)] [] (.d (Xf (XD b))) := by
 refine Xa (xs := [.d (Xf (XD b))]) Tryz.func84 rfl Tryz.ntmps84 rfl rfl rfl (fun E => ?_)
 have hl : (Xh (b.length : Int)).length ≤ 10 := by rw [Vl (by omega)]; exact Vo (by omega)
 have hpc := X18 b.length (by omega)
 have hput : XD b = Xh (b.length : Int) ++ b ++ YS b := rfl
 generalize Xh (b.length : Int) = hd at *
 have hlb : (List.map X6 b).length = b.length := by simp
 have hlm : (List.map X6 hd).length = hd.length := by simp
 have hm1 : hd.length = min (hd.map X6).length (List.replicate ((hd.map X6).length + (b.map X6).length + 4) (zD (Value.int IntKind.u8 0).cells.toList)).length := by simp; omega
 have hk : hd.length ≤ ((hd.map X6).take hd.length ++ (List.replicate ((hd.map X6).length + (b.map X6).length + 4) (zD (Value.int IntKind.u8 0).cells.toList)).drop hd.length).length := by simp
 have hm2 : b.length = min (b.map X6).length (((hd.map X6).take hd.length ++ (List.replicate ((hd.map X6).length + (b.map X6).length + 4) (zD (Value.int IntKind.u8 0).cells.toList)).drop hd.length).length - hd.length) := by simp; omega
 refine Qv ?_; refine Zd ?_; refine Z9 (hcon := hpc) ?_; refine Qx ?_; refine Zd ?_; refine Z1 ?_; refine Zd ?_; refine Zb ?_; refine Zb ?_; refine Ze (γ := 131) ?_; refine Qc ?_; refine Qi ?_; refine Zf (m := hd.length) ?_ (hm := by exact hm1); refine Qx ?_; refine Qy ?_; refine Zg (k := hd.length) ?_ (hk := by exact hk); refine Z1 ?_; refine Zh (m := b.length) ?_ (hk := by exact hk) (hm := by exact hm2); refine Z7 (op := .add) (r' := ni (hd.length + b.length)) (u := ni hd.length) (v := ni b.length) ?_ (hr := by exact Ul (by rw [XM]; omega)); refine Qx ?_; refine Z9 (hcon := X5O b) ?_; refine Qw ?_; refine QG ?_
 refine Xu (fun i : Nat => i ≤ 4) (fun i => ⟨45, [(4, .own 131 (hd.length + b.length + 4)), (5, ai (hd.length + b.length : Nat)), (6, ai (XZ b)), (30, ai i)], [(131, .row 1 ((hd ++ b ++ (YS b).take i).map X6 ++ List.replicate (4 - i) zB))]⟩) (fun i => 4 - i) 0 (by omega)
  (X9 rfl ⟨(by refine AVal.le_of_eq ?_; refine Eq.trans (b := AVal.own 131 ((hd.map X6).length + (b.map X6).length + 4)) rfl ?_; rw [hlb, hlm]), JL, JL, JL, trivial⟩ ⟨?_, trivial⟩) ?_
 ·refine Eq.trans (b := AObj.row 1 (List.take _ _ ++ _ ++ List.drop _ _)) rfl ?_
  congr 1
  rw [List.take_of_length_le (l := hd.map X6) (by simp), List.take_left' (by simp), List.take_of_length_le (by simp), List.drop_append, List.drop_of_length_le (by simp), List.nil_append, List.drop_drop, List.drop_replicate]
  simp only [List.take_zero, List.append_nil, List.map_append, Nat.sub_zero]
  congr 1
  rw [show (List.map X6 hd).length + (List.map X6 b).length + 4 - (hd.length + (hd.length + b.length - (List.map X6 hd).length)) = 4 by rw [hlb, hlm]; omega]
  rfl
 intro i hi
 by_cases h4 : i < 4
 ·obtain ⟨y, hy, hey⟩ := Xfr (b := b) h4
  have hs := X23 b
  have h8 : 8 * i ≤ 64 := by omega
  have hrl : ((hd ++ b ++ (YS b).take i).map X6 ++ List.replicate (4 - i) zB).length = hd.length + b.length + 4 := by
   have := X06 b
   simp only [List.length_append, List.length_map, List.length_take, List.length_replicate]; omega
  have hrl2 := hrl.symm
  have hrl3 : hd.length + b.length + i < ((hd ++ b ++ (YS b).take i).map X6 ++ List.replicate (4 - i) zB).length := by rw [hrl]; omega
  have hsl : (hd ++ b ++ (YS b).take i).length = hd.length + b.length + i := by
   have := X06 b
   simp only [List.length_append, List.length_take]; omega
  refine QB ?_; refine JT ?_; refine QC ?_; refine Qz ?_; refine QDa ?_; refine Z7 (op := .add) (r' := ni (hd.length + b.length + i)) (u := ni (hd.length + b.length)) (v := ni i) ?_ (hr := by exact Ul (by rw [XM]; omega)); refine Qy ?_; refine Z7 (op := .mul) (r' := ni (8 * i)) (u := ni 8) (v := ni i) ?_ (hr := by exact U0 (by rw [XM]; omega)); refine Z7 (op := .shr) (r' := ni (XZ b / 2 ^ (8 * i))) (u := ni (XZ b)) (v := ni (8 * i)) ?_ (hr := by exact X2E h8); refine Z3 (u := ni (XZ b / 2 ^ (8 * i))) (r := n8 y.toNat) ?_ (hr := by exact by rw [← hey]; exact Y6 rfl rfl); refine ZO ?_; refine ZP ?_; refine JD ?_; refine QK ?_
  refine ⟨i + 1, by omega, by omega, X9 rfl ⟨JL, JL, JL, JL, trivial⟩ ⟨?_, trivial⟩⟩
  refine Eq.trans (b := AObj.row 1 (List.take _ _ ++ [X6 y] ++ List.drop _ _)) rfl ?_
  congr 1
  rw [List.take_left' (by rw [List.length_map, hsl]), List.drop_append, List.drop_of_length_le (by rw [List.length_map, hsl]; omega), List.nil_append, List.length_map, hsl, List.drop_replicate, List.take_add_one, hy]
  simp only [Option.toList_some, List.map_append, List.map_cons, List.map_nil, List.append_assoc]
  rw [show 4 - i - (hd.length + b.length + i + 1 - (hd.length + b.length + i)) = 4 - (i + 1) by omega]
 obtain rfl : i = 4 := by omega
 have hfin : (hd ++ b ++ (YS b).take 4).map X6 ++ List.replicate (4 - 4) zB = (XD b).map X6 := by
  rw [hput, List.take_of_length_le (by rw [X06]; omega)]; simp
 rw [hfin]
 refine Xi (XL 131 rfl) ?_; refine Xi (Yc 4 131 rfl rfl (by rw [List.length_map, hput]; simp only [List.length_append, X06])) ?_; refine QM ?_; exact QBa
def X0f (b : List UInt8) (k : Nat) : Nat → Nat
 | 0 => 0
 | i + 1 => X0f b k i + 2 ^ (8 * i) * ((b[k + i]?).getD 0).toNat
theorem XbH (b : List UInt8) (k : Nat) : ∀ i, X0f b k i < 2 ^ (8 * i)
 | 0 => by simp [X0f]
 | i + 1 => by
  have h1 := XbH b k i
  have h2 := ((b[k + i]?).getD 0).toNat_lt
  simp only [X0f]
  rw [show 8 * (i + 1) = 8 * i + 8 by omega, Nat.pow_add]
  have : 2 ^ (8 * i) * ((b[k + i]?).getD 0).toNat ≤ 2 ^ (8 * i) * 255 := Nat.mul_le_mul_left _ (by omega)
  omega
theorem Xft (b : List UInt8) (k : Nat) : X0f b k 4 = X0k b k := by
 simp [X0f, X0k]
theorem XfL {b : List UInt8} {a : Int} : Uo b a = if (Xk b a).2.2 ≠ 0 then ([], 0, (Xk b a).2.2) else if (b.length : Int) - (Xk b a).2.1 < 4 ∨ (b.length : Int) - (Xk b a).2.1 - 4 < (Xk b a).1 then ([], 0, 3) else
  if X0k b ((Xk b a).2.1 + (Xk b a).1).toNat ≠ XZ ((b.drop (Xk b a).2.1.toNat).take (Xk b a).1.toNat) then ([], 0, 21) else ((b.drop (Xk b a).2.1.toNat).take (Xk b a).1.toNat, (Xk b a).2.1 + (Xk b a).1 + 4, 0) := rfl
theorem XgP (b : List UInt8) (a : Int) (hb : b.length ≤ 140737488355328) : Con Tryz.prog 71 [] [.d (Xf b), ai a] [] (X73 (.d (Xf (Uo b a).1)) (Uo b a).2.1 (Uo b a).2.2) := by
 refine Xa (xs := [.d (Xf (Uo b a).1), ai (Uo b a).2.1, ai (Uo b a).2.2]) Tryz.func71 rfl Tryz.ntmps71 rfl rfl rfl (fun E => ?_)
 have hr := X2v b a (by omega)
 have hf := Xan (b := b) (a := a)
 rw [XfL]
 generalize Xk b a = r at *
 obtain ⟨n, f, err⟩ := r
 simp only at hf ⊢
 by_cases h2 : err = 0
 ·obtain ⟨n, f, rfl, rfl, hf1, hf2⟩ := hf h2
  rw [if_neg (by simpa using h2)]
  by_cases h3 : (b.length : Int) - f < 4
  ·rw [if_pos (.inl h3)]
   repeat first | refine X0 ?_ | (refine JR ?_; (repeat first | refine Z1 ?_ | refine Z0 ?_ | refine Zd ?_ | refine Z8 ?_ | refine Zv ?_ | refine ZR ?_ | refine ZF ?_ | refine Zn ?_ | refine Zo ?_ | refine Z9 (hcon := hr) ?_); refine JD ?_) | refine JT ?_ | refine JF ?_ | refine X4 ?_
   exact Qfc
  by_cases h4 : (b.length : Int) - f - 4 < n
  ·rw [if_pos (.inr h4)]
   repeat first | refine X0 ?_ | (refine JR ?_; (repeat first | refine Z1 ?_ | refine Z0 ?_ | refine Zd ?_ | refine Z8 ?_ | refine Zs ?_ | refine Zv ?_ | refine ZR ?_ | refine ZF ?_ | refine Zq ?_ | refine Z9 (hcon := hr) ?_); refine JD ?_) | refine JT ?_ | refine JF ?_ | refine X4 ?_
   exact Qfc
  rw [if_neg (by omega)]
  have hsl : ((b.map X6).take (f + n)).drop f = ((b.drop f).take n).map X6 := by rw [List.map_take, List.map_drop, List.drop_take, Nat.add_sub_cancel_left]
  have hbl : ((b.drop f).take n).length = n := by simp; omega
  repeat first | refine X0 ?_ | (refine JR ?_; (repeat first | refine Z7 (op := .add) (r' := ni (f + n)) (u := ni f) (v := ni n) ?_ (hr := by exact Ul (by rw [XM]; omega)) | refine ZX (lb := f) (hb := f + n) (ys := ((b.drop f).take n).map X6) ?_ (hys := by exact hsl) | refine Z1 ?_ | refine Z0 ?_ | refine Zd ?_ | refine Z8 ?_ | refine Zs ?_ | refine Zv ?_ | refine ZR ?_ | refine ZF ?_ | refine Zq ?_ | refine Z9 (hcon := hr) ?_); refine JD ?_) | refine JF ?_ | refine X5 ?_ | refine X4 ?_
  refine Xu (fun i : Nat => i ≤ 4) (fun i => ⟨79, [(0, .d (Xf b)), (7, ai n), (8, ai f), (10, .d (Xf ((b.drop f).take n))), (11, ai (X0f b (f + n) i)), (47, ai i)], []⟩) (fun i => 4 - i) 0 (by omega)
   (X9 rfl ⟨JL, JL, JL, JL, JL, JL, trivial⟩ trivial) ?_
  intro i hi
  have hsp := XbH b (f + n) i
  by_cases hi4 : i < 4
  ·obtain ⟨y, hy⟩ := Xx (l := b) (k := f + n + i) (by omega)
   have hy8 := y.toNat_lt
   have h24 : (2 : Nat) ^ (8 * i) ≤ 2 ^ 24 := Nat.pow_le_pow_right (by omega) (by omega)
   have hyp : y.toNat * 2 ^ (8 * i) ≤ 255 * 2 ^ 24 := Nat.mul_le_mul (by omega) h24
   have hst : X0f b (f + n) i ||| y.toNat * 2 ^ (8 * i) = X0f b (f + n) (i + 1) := by simp only [X0f, hy, Option.getD_some]; exact X6D hsp
   have h8i : 8 * i ≤ 64 := by omega
   refine QB ?_; refine JT ?_; refine QC ?_; refine Qz ?_; refine Qgc ?_; refine Qy ?_; refine Z7 (op := .add) (r' := ni (f + n)) (u := ni f) (v := ni n) ?_ (hr := by exact Ul (by rw [XM]; omega)); refine Z1 ?_; refine Z7 (op := .add) (r' := ni (f + n + i)) (u := ni (f + n)) (v := ni i) ?_ (hr := by exact Ul (by rw [XM]; omega)); refine QE ?_; refine ZY ?_; refine Z1 ?_; refine Z7 (op := .mul) (r' := ni (8 * i)) (u := ni 8) (v := ni i) ?_ (hr := by exact U0 (by rw [XM]; omega)); refine Z7 (op := .shl) (r' := ni (y.toNat * 2 ^ (8 * i))) (u := ni y.toNat) (v := ni (8 * i)) ?_ (hr := by exact Xc5 h8i (by rw [XM]; omega)); refine Z4 (op := .or) (r' := ni (X0f b (f + n) (i + 1))) (u := ni (X0f b (f + n) i)) (v := ni (y.toNat * 2 ^ (8 * i))) ?_ (hr' := by exact congrArg ni hst) (hr := by exact Vi (by rw [XM]; omega) (by rw [XM]; omega)); refine Qc ?_; refine QK ?_; exact ⟨i + 1, by omega, by omega, X9 rfl ⟨JL, JL, JL, JL, JL, JL, trivial⟩ trivial⟩
  obtain rfl : i = 4 := by omega
  have ha := Xft b (f + n)
  rw [ha]
  have et : ((f : Int) + (n : Int)).toNat = f + n := by omega
  rw [et, Int.toNat_natCast, Int.toNat_natCast]
  generalize (b.drop f).take n = body at *
  by_cases hs : X0k b (f + n) = XZ body
  ·rw [if_neg (by simpa using hs)]
   have hm1 : min (body.map X6).length (List.replicate n (zD (Value.int IntKind.u8 0).cells.toList)).length = n := by simp [hbl]
   refine QM ?_; refine Qg ?_; refine Z9 (hcon := X5O body) ?_; refine Z1 ?_; refine QEb ?_; refine Qf ?_; refine Ze (γ := 131) ?_; refine Qc ?_; refine Qi ?_; refine Zf (m := n) ?_ (hm := by exact hm1.symm); refine JD ?_; refine QHb ?_; refine Z7 (op := .add) (r' := ni (f + n)) (u := ni f) (v := ni n) ?_ (hr := by exact Ul (by rw [XM]; omega)); refine Zb ?_; refine QNb ?_; refine Xi (XL 131 rfl) ?_; refine Xi (Yc 4 131 rfl rfl (by simp [hbl])) ?_; exact X1 ⟨_, St.le_trans (Xb 4 (y := .d (Xf body)) (AVal.le_of_eq (by refine Eq.trans (b := AVal.d (.sl 1 (List.take n _ ++ List.drop n _))) rfl ?_; rw [List.take_of_length_le (by simp [hbl]), List.drop_of_length_le (by simp), List.append_nil]))) (Xb 5 (y := ai ((f : Int) + n + 4)) (AVal.le_of_eq (by refine Eq.trans (b := ai _) rfl ?_; simp))), ⟨rfl, rfl, rfl, trivial⟩, X3 _⟩
  ·rw [if_pos hs]
   have hs' : ¬ (XZ body = X0k b (f + n)) := fun h => hs h.symm
   refine QM ?_; refine Qg ?_; refine Z9 (hcon := X5O body) ?_; refine Z1 ?_; refine Zv ?_; refine QPb ?_; refine QNb ?_; exact Qfc
 ·rw [if_pos h2]
  repeat first | refine X0 ?_ | (refine JR ?_; (repeat first | refine Z1 ?_ | refine Z0 ?_ | refine Zv ?_ | refine ZF ?_ | refine Z9 (hcon := hr) ?_); refine JD ?_) | refine JT ?_
  exact Qfc
theorem X4Y {l : List Val} {i : Nat} {x : Val} (h : l[i]? = some x) : XX (l.take (i + 1)) = XX (l.take i) ++ Xs x := by
 induction l generalizing i with
 | nil => simp at h
 | cons y l ih =>
  cases i with
  | zero => simp at h; subst h; simp [XX]
  | succ i => simp only [List.take_succ_cons, XX]; rw [ih (by simpa using h), List.append_assoc]
theorem X4M (l : List Val) (i : Nat) : (XX (l.take i)).length ≤ (XX l).length := by
 induction l generalizing i with
 | nil => simp
 | cons y l ih =>
  cases i with
  | zero => simp [XX]
  | succ i => simp only [List.take_succ_cons, XX, List.length_append]; have := ih i; omega
def X6n (v : Val) : Prop := ∀ r : List UInt8, r.length + (Xs v).length ≤ 140737488355328 →
 Con Tryz.prog 175 [(0, .row 1 (r.map X6))] [.own 0 r.length, Xo v] [(0, .row 1 ((r ++ Xs v).map X6))] (.own 0 (r ++ Xs v).length)
theorem XbR (v : Val) (hv : X8 8 v = true) (ih : ∀ x ∈ v.l, X6n x) : X6n v := by
 obtain ⟨k, n, d, s, l⟩ := v
 intro r hr
 have hlen := Vr l
 simp only [Val.l] at ih
 refine Xa (xs := [.own 0 (r ++ Xs (.mk k n d s l)).length]) Tryz.func175 rfl Tryz.ntmps175 rfl rfl rfl (fun E => ?_)
 rw [X8] at hv
 have hbig : ∀ (x : Int), -1000000000000000 ≤ x ∧ x ≤ 1000000000000000 → -9223372036854775808 ≤ x ∧ x ≤ 9223372036854775807 := fun x h => by omega
 by_cases hk0 : k = 0
 ·subst hk0
  have hput : Xs (.mk 0 n d s l) = [UInt8.ofNat 0] := by rw [Xs]; simp
  rw [hput] at hr ⊢
  simp only [List.length_append, List.length_cons, List.length_nil] at hr
  repeat first | refine X0 ?_ | (refine JR ?_; (repeat first | refine Z3 (u := nj 0) (r := n8 0) ?_ (hr := by exact Y6 rfl rfl) | refine Z1 ?_ | refine Z0 ?_ | refine ZB ?_ | refine ZC ?_ | refine Zl ?_ | refine ZA (γ := 100) ?_ | refine Z5 ?_ | refine Z6 ?_); refine JD ?_) | refine JF ?_ | refine X5 ?_ | refine X4 ?_
  refine X1 ⟨_, Xb 4 (y := .own 0 (r ++ UInt8.ofNat 0 :: []).length) (AVal.le_of_eq ?_), ⟨rfl, trivial⟩, Xj ⟨?_, trivial⟩⟩
  ·refine Qhc ?_
   congr 1
   simp only [List.length_append, List.length_map, List.length_cons, List.length_nil] <;> omega
  ·refine Qic ?_
   simp only [List.map_append, List.map_cons, List.map_nil, List.append_assoc, List.cons_append, List.nil_append]; rfl
 by_cases hk1 : k = 1
 ·subst hk1
  have hput : Xs (.mk 1 n d s l) = UInt8.ofNat 1 :: XS n := by rw [Xs]; simp
  have hn : -9223372036854775808 ≤ n ∧ n ≤ 9223372036854775807 := by simp at hv; omega
  have hpi := X1L n hn
  rw [hput] at hr ⊢
  generalize XS n = q at *
  simp only [List.length_append, List.length_cons, List.length_nil] at hr
  refine QGa ?_; refine Qf ?_; refine QHa ?_; refine Z3 (u := nj 1) (r := n8 1) ?_ (hr := by exact Y6 rfl rfl); refine Qk ?_; refine Qzb ?_; refine Qma ?_; refine Qf ?_; refine QHa ?_; refine Z9 (hcon := hpi) ?_; refine Qj ?_
  refine X1 ⟨_, Xb 4 (y := .own 0 (r ++ UInt8.ofNat 1 :: q).length) (AVal.le_of_eq ?_), ⟨rfl, trivial⟩, Xj ⟨?_, trivial⟩⟩
  ·refine Qhc ?_
   congr 1
   simp only [List.length_append, List.length_map, List.length_cons, List.length_nil] <;> omega
  ·refine Qjc ?_
   simp only [List.map_append, List.map_cons, List.map_nil, List.append_assoc, List.cons_append, List.nil_append]; rfl
 by_cases hk2 : k = 2
 ·subst hk2
  have hput : Xs (.mk 2 n d s l) = UInt8.ofNat 2 :: XS n := by rw [Xs]; simp
  have hn : -9223372036854775808 ≤ n ∧ n ≤ 9223372036854775807 := by simp at hv; omega
  have hpi := X1L n hn
  rw [hput] at hr ⊢
  generalize XS n = q at *
  simp only [List.length_append, List.length_cons, List.length_nil] at hr
  repeat first | refine X0 ?_ | (refine JR ?_; (repeat first | refine Z3 (u := nj 2) (r := n8 2) ?_ (hr := by exact Y6 rfl rfl) | refine Z1 ?_ | refine Z0 ?_ | refine ZB ?_ | refine ZC ?_ | refine Zl ?_ | refine ZA (γ := 100) ?_ | refine Z5 ?_ | refine Z6 ?_ | refine Z9 (hcon := hpi) ?_); refine JD ?_) | refine JT ?_ | refine JF ?_ | refine X5 ?_ | refine X4 ?_
  refine X1 ⟨_, Xb 4 (y := .own 0 (r ++ UInt8.ofNat 2 :: q).length) (AVal.le_of_eq ?_), ⟨rfl, trivial⟩, Xj ⟨?_, trivial⟩⟩
  ·refine Qhc ?_
   congr 1
   simp only [List.length_append, List.length_map, List.length_cons, List.length_nil] <;> omega
  ·refine Qjc ?_
   simp only [List.map_append, List.map_cons, List.map_nil, List.append_assoc, List.cons_append, List.nil_append]; rfl
 by_cases hk3 : k = 3
 ·subst hk3
  have hput : Xs (.mk 3 n d s l) = UInt8.ofNat 3 :: (XS n ++ XS d) := by rw [Xs]; simp
  have hnd : (-9223372036854775808 ≤ n ∧ n ≤ 9223372036854775807) ∧ -9223372036854775808 ≤ d ∧ d ≤ 9223372036854775807 := by simp [Vc] at hv; omega
  have hpi := X1L n hnd.1
  have hpd := X1L d hnd.2
  rw [hput] at hr ⊢
  generalize XS n = q at *
  generalize XS d = q2 at *
  simp only [List.length_append, List.length_cons, List.length_nil] at hr
  repeat first | refine X0 ?_ | (refine JR ?_; (repeat first | refine Z3 (u := nj 3) (r := n8 3) ?_ (hr := by exact Y6 rfl rfl) | refine Z1 ?_ | refine Z0 ?_ | refine ZB ?_ | refine ZC ?_ | refine Zl ?_ | refine ZA (γ := 100) ?_ | refine Z5 ?_ | refine Z6 ?_ | refine Z9 (hcon := hpi) ?_ | refine Z9 (hcon := hpd) ?_); refine JD ?_) | refine JT ?_ | refine JF ?_ | refine X5 ?_
  refine X1 ⟨_, Xb 4 (y := .own 0 (r ++ UInt8.ofNat 3 :: (q ++ q2)).length) (AVal.le_of_eq ?_), ⟨rfl, trivial⟩, Xj ⟨?_, trivial⟩⟩
  ·refine Qhc ?_
   congr 1
   simp only [List.length_append, List.length_map, List.length_cons, List.length_nil] <;> omega
  ·refine Eq.trans (b := AObj.row 1 (_ ++ _ ++ _ ++ _)) rfl ?_
   simp only [List.map_append, List.map_cons, List.map_nil, List.append_assoc, List.cons_append, List.nil_append]; rfl
 by_cases hk4 : k = 4
 ·subst hk4
  have hput : Xs (.mk 4 n d s l) = UInt8.ofNat 4 :: Xw s := by rw [Xs]; simp
  have hs : s.length ≤ 65536 := by simp at hv; omega
  have hpi := X20 s hs
  rw [hput] at hr ⊢
  generalize Xw s = q at *
  simp only [List.length_append, List.length_cons, List.length_nil] at hr
  repeat first | refine X0 ?_ | (refine JR ?_; (repeat first | refine Z3 (u := nj 4) (r := n8 4) ?_ (hr := by exact Y6 rfl rfl) | refine Z1 ?_ | refine Z0 ?_ | refine ZB ?_ | refine ZC ?_ | refine Zl ?_ | refine ZA (γ := 100) ?_ | refine Z5 ?_ | refine Z6 ?_ | refine Z9 (hcon := hpi) ?_); refine JD ?_) | refine JT ?_ | refine JF ?_ | refine X5 ?_
  refine X1 ⟨_, Xb 4 (y := .own 0 (r ++ UInt8.ofNat 4 :: q).length) (AVal.le_of_eq ?_), ⟨rfl, trivial⟩, Xj ⟨?_, trivial⟩⟩
  ·refine Qhc ?_
   congr 1
   simp only [List.length_append, List.length_map, List.length_cons, List.length_nil] <;> omega
  ·refine Qjc ?_
   simp only [List.map_append, List.map_cons, List.map_nil, List.append_assoc, List.cons_append, List.nil_append]; rfl
 by_cases hk5 : k = 5
 ·subst hk5
  have hput : Xs (.mk 5 n d s l) = UInt8.ofNat 5 :: XS n := by rw [Xs]; simp
  have hn : -9223372036854775808 ≤ n ∧ n ≤ 9223372036854775807 := by simp at hv; omega
  have hpi := X1L n hn
  rw [hput] at hr ⊢
  generalize XS n = q at *
  simp only [List.length_append, List.length_cons, List.length_nil] at hr
  repeat first | refine X0 ?_ | (refine JR ?_; (repeat first | refine Z3 (u := nj 5) (r := n8 5) ?_ (hr := by exact Y6 rfl rfl) | refine Z1 ?_ | refine Z0 ?_ | refine ZB ?_ | refine ZC ?_ | refine Zl ?_ | refine ZA (γ := 100) ?_ | refine Z5 ?_ | refine Z6 ?_ | refine Z9 (hcon := hpi) ?_); refine JD ?_) | refine JT ?_ | refine JF ?_ | refine X5 ?_ | refine X4 ?_
  refine X1 ⟨_, Xb 4 (y := .own 0 (r ++ UInt8.ofNat 5 :: q).length) (AVal.le_of_eq ?_), ⟨rfl, trivial⟩, Xj ⟨?_, trivial⟩⟩
  ·refine Qhc ?_
   congr 1
   simp only [List.length_append, List.length_map, List.length_cons, List.length_nil] <;> omega
  ·refine Qjc ?_
   simp only [List.map_append, List.map_cons, List.map_nil, List.append_assoc, List.cons_append, List.nil_append]; rfl
 by_cases hk6 : k = 6
 ·subst hk6
  have hput : Xs (.mk 6 n d s l) = UInt8.ofNat 6 :: XS n := by rw [Xs]; simp
  have hn : -9223372036854775808 ≤ n ∧ n ≤ 9223372036854775807 := by simp at hv; omega
  have hpi := X1L n hn
  rw [hput] at hr ⊢
  generalize XS n = q at *
  simp only [List.length_append, List.length_cons, List.length_nil] at hr
  repeat first | refine X0 ?_ | (refine JR ?_; (repeat first | refine Z3 (u := nj 6) (r := n8 6) ?_ (hr := by exact Y6 rfl rfl) | refine Z1 ?_ | refine Z0 ?_ | refine ZB ?_ | refine ZC ?_ | refine Zl ?_ | refine ZA (γ := 100) ?_ | refine Z5 ?_ | refine Z6 ?_ | refine Z9 (hcon := hpi) ?_); refine JD ?_) | refine JT ?_ | refine JF ?_ | refine X5 ?_
  refine X1 ⟨_, Xb 4 (y := .own 0 (r ++ UInt8.ofNat 6 :: q).length) (AVal.le_of_eq ?_), ⟨rfl, trivial⟩, Xj ⟨?_, trivial⟩⟩
  ·refine Qhc ?_
   congr 1
   simp only [List.length_append, List.length_map, List.length_cons, List.length_nil] <;> omega
  ·refine Qjc ?_
   simp only [List.map_append, List.map_cons, List.map_nil, List.append_assoc, List.cons_append, List.nil_append]; rfl
 by_cases hk7 : k = 7
 ·subst hk7
  have hput : Xs (.mk 7 n d s l) = UInt8.ofNat 7 :: (Xh l.length ++ XX l) := by rw [Xs]; simp
  have hll : l.length ≤ 64 := by simp at hv; omega
  have hpu := X18 (XF l).length (by omega)
  rw [← hlen] at hput
  rw [hput] at hr ⊢
  generalize Xh ((XF l).length : Int) = q at *
  simp only [List.length_append, List.length_cons, List.length_nil] at hr
  repeat first | refine X0 ?_ | (refine JR ?_; (repeat first | refine Z3 (u := nj 7) (r := n8 7) ?_ (hr := by exact Y6 rfl rfl) | refine Z1 ?_ | refine Z0 ?_ | refine ZB ?_ | refine ZC ?_ | refine Zd ?_ | refine Zl ?_ | refine ZA (γ := 100) ?_ | refine Z5 ?_ | refine Z6 ?_ | refine Z9 (hcon := hpu) ?_); refine JD ?_) | refine JT ?_ | refine JF ?_ | refine X5 ?_
  generalize hbase : r ++ UInt8.ofNat 7 :: q = base at *
  have hbl : base.length = r.length + q.length + 1 := by rw [← hbase]; simp; omega
  have hgoal : r ++ UInt8.ofNat 7 :: (q ++ XX l) = base ++ XX l := by rw [← hbase]; simp
  rw [hgoal]
  refine Xu (fun i : Nat => i ≤ l.length) (fun i => ⟨64, [(0, .own 0 (base ++ XX (l.take i)).length), (53, .d (.sl 5 (XF l))), (54, ai l.length), (55, ai i)], [(0, .row 1 ((base ++ XX (l.take i)).map X6))]⟩) (fun i => l.length - i) 0 (by omega)
   (X9 rfl ⟨(by refine AVal.le_of_eq ?_; refine Eq.trans (b := AVal.own 0 (_ + _)) rfl ?_; congr 1; simp only [List.take_zero, XX, List.append_nil, hbl, List.length_append, List.length_map, List.length_cons, List.length_nil] <;> omega), JL, (by refine AVal.le_of_eq ?_; refine Eq.trans (b := ai ((XF l).length : Nat)) rfl ?_; rw [hlen]), JL, trivial⟩ ⟨?_, trivial⟩) ?_
  ·refine Qjc ?_
   simp only [List.take_zero, XX, List.append_nil, ← hbase, List.map_append, List.map_cons, List.append_assoc, List.cons_append, List.nil_append]; rfl
  intro i hi
  by_cases hlt : i < l.length
  ·obtain ⟨x, hx⟩ := Xx (l := l) hlt
   have hgx := X1y hx
   have htk := X4Y hx
   have hle := X4M l (i + 1)
   have hpx := ih x (List.mem_of_getElem? hx) (base ++ XX (l.take i)) (by rw [htk] at hle; simp only [List.length_append] at hle ⊢; omega)
   rw [List.append_assoc, ← htk] at hpx
   obtain ⟨k', n', d', s', q'⟩ := x
   simp only [Xo] at hpx
   rw [V5] at hgx
   refine Qfb ?_; refine Ql ?_; refine ZL ?_; refine Z9 (hcon := hpx) ?_; refine Qc ?_; refine QK ?_; exact ⟨i + 1, by omega, by omega, X9 rfl ⟨JL, JL, JL, JL, trivial⟩ ⟨rfl, trivial⟩⟩
  obtain rfl : i = l.length := by omega
  rw [List.take_length]
  refine QM ?_; refine Qz ?_; exact Qr
 by_cases hk8 : k = 8
 ·subst hk8
  have hput : Xs (.mk 8 n d s l) = UInt8.ofNat 8 :: (Xh l.length ++ XX l) := by rw [Xs]; simp
  have hll : l.length ≤ 64 := by simp at hv; omega
  have hpu := X18 (XF l).length (by omega)
  rw [← hlen] at hput
  rw [hput] at hr ⊢
  generalize Xh ((XF l).length : Int) = q at *
  simp only [List.length_append, List.length_cons, List.length_nil] at hr
  repeat first | refine X0 ?_ | (refine JR ?_; (repeat first | refine Z3 (u := nj 8) (r := n8 8) ?_ (hr := by exact Y6 rfl rfl) | refine Z1 ?_ | refine Z0 ?_ | refine ZB ?_ | refine ZC ?_ | refine Zd ?_ | refine Zl ?_ | refine ZA (γ := 100) ?_ | refine Z5 ?_ | refine Z6 ?_ | refine Z9 (hcon := hpu) ?_); refine JD ?_) | refine JT ?_ | refine JF ?_ | refine X5 ?_ | refine X4 ?_
  generalize hbase : r ++ UInt8.ofNat 8 :: q = base at *
  have hbl : base.length = r.length + q.length + 1 := by rw [← hbase]; simp; omega
  have hgoal : r ++ UInt8.ofNat 8 :: (q ++ XX l) = base ++ XX l := by rw [← hbase]; simp
  rw [hgoal]
  refine Xu (fun i : Nat => i ≤ l.length) (fun i => ⟨64, [(0, .own 0 (base ++ XX (l.take i)).length), (53, .d (.sl 5 (XF l))), (54, ai l.length), (55, ai i)], [(0, .row 1 ((base ++ XX (l.take i)).map X6))]⟩) (fun i => l.length - i) 0 (by omega)
   (X9 rfl ⟨(by refine AVal.le_of_eq ?_; refine Eq.trans (b := AVal.own 0 (_ + _)) rfl ?_; congr 1; simp only [List.take_zero, XX, List.append_nil, hbl, List.length_append, List.length_map, List.length_cons, List.length_nil] <;> omega), JL, (by refine AVal.le_of_eq ?_; refine Eq.trans (b := ai ((XF l).length : Nat)) rfl ?_; rw [hlen]), JL, trivial⟩ ⟨?_, trivial⟩) ?_
  ·refine Qjc ?_
   simp only [List.take_zero, XX, List.append_nil, ← hbase, List.map_append, List.map_cons, List.append_assoc, List.cons_append, List.nil_append]; rfl
  intro i hi
  by_cases hlt : i < l.length
  ·obtain ⟨x, hx⟩ := Xx (l := l) hlt
   have hgx := X1y hx
   have htk := X4Y hx
   have hle := X4M l (i + 1)
   have hpx := ih x (List.mem_of_getElem? hx) (base ++ XX (l.take i)) (by rw [htk] at hle; simp only [List.length_append] at hle ⊢; omega)
   rw [List.append_assoc, ← htk] at hpx
   obtain ⟨k', n', d', s', q'⟩ := x
   simp only [Xo] at hpx
   rw [V5] at hgx
   refine Qfb ?_; refine Ql ?_; refine ZL ?_; refine Z9 (hcon := hpx) ?_; refine Qc ?_; refine QK ?_; exact ⟨i + 1, by omega, by omega, X9 rfl ⟨JL, JL, JL, JL, trivial⟩ ⟨rfl, trivial⟩⟩
  obtain rfl : i = l.length := by omega
  rw [List.take_length]
  refine QM ?_; refine Qz ?_; exact Qr
 simp [*] at hv
theorem X6K {m : Nat} : ∀ {l : List Val} {x : Val}, Un m l = true → x ∈ l → X8 m x = true
 | [], x, _, h => by simp at h
 | v :: r, x, h, hx => by
  rw [Un, Bool.and_eq_true] at h
  rcases List.mem_cons.1 hx with rfl | hx
  ·exact h.1
  ·exact X6K h.2 hx
theorem X8W : ∀ {l : List Val} {i : Nat} {x : Val}, Ue i l = true → x ∈ l → X8 0 x = true
 | [], _, x, _, h => by simp at h
 | v :: r, i, x, h, hx => by
  rw [Ue, Bool.and_eq_true, Bool.and_eq_true] at h
  rcases List.mem_cons.1 hx with rfl | hx
  ·exact h.1.2
  ·exact X8W h.2 hx
theorem X5D {m : Nat} {k n d : Int} {s : List UInt8} {l : List Val} (h : X8 m (.mk k n d s l) = true) : ∀ x ∈ l, X8 m x = true := by
 intro x hx
 rw [X8] at h
 by_cases h7 : k = 7
 ·subst h7
  simp at h
  exact X7c x 0 m (by omega) (X8W h.2.2 hx)
 ·by_cases h8 : k = 8
  ·subst h8
   simp at h
   exact X7c x (m - 1) m (by omega) (X6K h.2.2 hx)
  ·have : l = [] := by
    simp [h7, h8] at h
    exact h.1.2
   subst this; simp at hx
theorem XbD : ∀ v : Val, X8 8 v = true → X6n v
 | .mk k n d s l => fun hv => XbR (.mk k n d s l) hv fun x hx => XbD x (X5D hv x hx)
termination_by v => SizeOf.sizeOf v
decreasing_by
 have h1 := List.sizeOf_lt_of_mem (show x ∈ l from hx)
 simp only [Val.mk.sizeOf_spec]
 omega
theorem XeQ (v : Val) (hv : X8 8 v = true) (hb : (Xs v).length ≤ 140737488355328) : Con Tryz.prog 175 [] [ani, Xo v] [] (.d (Xf (Xs v))) := by
 have h := XbD v hv [] (by simpa using hb)
 have h2 := Con.adopt (sz := 1) (args := [Xo v]) h (by obtain ⟨k, n, d, s, l⟩ := v; rfl)
 exact h2.data (by simp)
theorem X8v (v : Val) (hb : (Xs v).length ≤ 140737488355328) : Con Tryz.prog 150 [] [Xo v] [] (.d (Xf (Ym v))) := by
 refine Xa (xs := [.d (Xf (Ym v))]) Tryz.func150 rfl Tryz.ntmps150 rfl rfl rfl (fun E => ?_)
 have hval := VR v
 cases hv : X8 8 v with
 | false =>
  rw [hv] at hval
  rw [show Ym v = [] by unfold Ym; rw [hv]; rfl]
  obtain ⟨k, n, d, s, l⟩ := v
  simp only [Xo] at hval
  refine Qlc ?_; refine Z9 (hcon := hval) ?_; refine Zu ?_; exact Qmc
 | true =>
  rw [hv] at hval
  rw [show Ym v = Xs v by unfold Ym; rw [hv]; rfl]
  have hp := XeQ v hv hb
  obtain ⟨k, n, d, s, l⟩ := v
  simp only [Xo] at hval hp
  generalize Xs (.mk k n d s l) = q at *
  refine Qlc ?_; refine Z9 (hcon := hval) ?_; refine Qhb ?_; refine Qgb ?_; refine Z9 (hcon := hp) ?_; exact QO
theorem Xic (n : Int) : VG n = 0 ∨ VG n = 1 ∨ VG n = -1 := by
 unfold VG
 split
 ·exact .inr (.inr rfl)
 ·split
  ·exact .inr (.inl rfl)
  ·exact .inl rfl
theorem Xd1 (n d : Int) : Con Tryz.prog 145 [] [X2y n d, X2y n d] [] (ai 0) := by
 refine Xa (xs := [ai 0]) Tryz.func145 rfl Tryz.ntmps145 rfl rfl rfl (fun E => ?_)
 have hv := Xby n d
 cases hb : Vc n d with
 | true =>
  rw [hb] at hv
  simp [Vc] at hb
  obtain ⟨D, rfl⟩ : ∃ D : Nat, d = D := ⟨d.toNat, by omega⟩
  have hsz := X6U n (by omega)
  have hsg := X8D n
  have hr := Xic n
  have ht := X7E n.natAbs D (by omega) (by omega)
  have hsum := Xal (VG n) hr (UB 14 (n.natAbs * D)) (X6x _ _) (X6t _ _)
  generalize VG n = s at *
  generalize UB 14 (n.natAbs * D) = x at *
  generalize X1E s x = y at *
  generalize n.natAbs = N at *
  have hr1 : -1 ≤ s ∧ s ≤ 1 := by omega
  clear hr hb
  repeat first | refine X0 ?_ | (refine JR ?_; (repeat first | refine Z1 ?_ | refine Z0 ?_ | refine ZB ?_ | refine ZC ?_ | refine ZL ?_ | refine Zu ?_ | refine ZA (γ := 100) ?_ | refine ZA (γ := 101) ?_ | refine ZF ?_ | refine Z9 (hcon := hv) ?_ | refine Z9 (hcon := hsz) ?_ | refine Z9 (hcon := hsg) ?_ | refine Z9 (hcon := ht) ?_ | refine Z9 (hcon := hsum) ?_); refine JD ?_) | refine JF ?_ | refine X4 ?_
  exact QN
 | false =>
  rw [hb] at hv
  clear hb
  have hsz : Con Tryz.prog 168 [] [ai 0] [] (ai 0) := X6U 0 (by omega)
  have hsg : Con Tryz.prog 166 [] [ai 0] [] (ai 0) := X8D 0
  have ht : Con Tryz.prog 167 [] [ai 0, ai 1] [] (.d (UL (UB 14 (0 * 1)))) := X7E 0 1 (by omega) (by omega)
  have hsum : Con Tryz.prog 165 [] [ai 0, .d (UL (UB 14 (0 * 1))), ai 0, .d (UL (UB 14 (0 * 1)))] [] (.tup [ai 0, .d (UL (X1E 0 (UB 14 (0 * 1))))]) := Xal 0 (.inl rfl) (UB 14 (0 * 1)) (X6x _ _) (X6t _ _)
  generalize UB 14 (0 * 1) = x at *
  generalize X1E 0 x = y at *
  repeat first | refine X0 ?_ | (refine JR ?_; (repeat first | refine Z1 ?_ | refine Z0 ?_ | refine ZB ?_ | refine ZC ?_ | refine ZL ?_ | refine Zu ?_ | refine ZA (γ := 100) ?_ | refine ZA (γ := 101) ?_ | refine Zy ?_ | refine Zx ?_ | refine ZF ?_ | refine Z9 (hcon := hv) ?_ | refine Z9 (hcon := hsz) ?_ | refine Z9 (hcon := hsg) ?_ | refine Z9 (hcon := ht) ?_ | refine Z9 (hcon := hsum) ?_); refine JD ?_) | refine JT ?_
  exact QN
theorem X3b (n : Int) : Con Tryz.prog 142 [] [ai n, ai n] [] (ai 0) := by
 refine Xa (xs := [ai 0]) Tryz.func142 rfl Tryz.ntmps142 rfl rfl rfl (fun E => ?_)
 have h : ¬ n < n := by omega
 repeat first | refine X0 ?_ | (refine JR ?_; (repeat first | refine Z1 ?_ | refine Z0 ?_ | refine Z8 ?_ | refine Zs ?_); refine JD ?_) | refine JF ?_ | refine X4 ?_
 exact QN
theorem X5Y : ∀ s : List UInt8, Op.bytesLess s s = false
 | [] => rfl
 | b :: s => by simp [Op.bytesLess, X5Y s]
theorem XcE {t : TypeId} {x y : Operand} {s : List UInt8} (w : World) : (do eqGuard .lss t x y (.string (X7 s)) (.string (X7 s)); binOp .lss t (.string (X7 s)) (.string (X7 s)) : Sem Value).run Tryz.prog w = .ok (.bool false) w := by
 simp [go_sem, X2Q, X5Y]
theorem XfR {t : TypeId} {x y : Operand} {s : List UInt8} (w : World) : (do eqGuard .gtr t x y (.string (X7 s)) (.string (X7 s)); binOp .gtr t (.string (X7 s)) (.string (X7 s)) : Sem Value).run Tryz.prog w = .ok (.bool false) w := by
 simp [go_sem, binOp, Op.stringOp, X2Q, X5Y]
theorem XgC (s : List UInt8) : Con Tryz.prog 162 [] [Xc s, Xc s] [] (ai 0) := by
 refine Xa (xs := [ai 0]) Tryz.func162 rfl Tryz.ntmps162 rfl rfl rfl (fun E => ?_)
 refine Qd ?_; refine Qkb ?_; refine Z7 (op := .lss) (r' := .bool false) (u := .string (X7 s)) (v := .string (X7 s)) ?_ (hr := by exact XcE); refine Qs ?_; refine Qkb ?_; refine Z7 (op := .gtr) (r' := .bool false) (u := .string (X7 s)) (v := .string (X7 s)) ?_ (hr := by exact XfR); refine Qs ?_; exact Qia
def Vs (k : Int) : Int := if k = 0 then 0 else if k = 1 then 1 else if k = 2 ∨ k = 3 then 2 else if k = 4 then 3 else if k = 5 then 4 else if k = 6 then 5 else if k = 8 then 6 else 7
theorem X7g (k : Int) : Con Tryz.prog 143 [] [ai k] [] (ai (Vs k)) := by
 refine Xa (xs := [ai (Vs k)]) Tryz.func143 rfl Tryz.ntmps143 rfl rfl rfl (fun E => ?_)
 by_cases h0 : k = 0
 ·subst h0
  refine Qo ?_; refine QG ?_; exact QGb
 by_cases h1 : k = 1
 ·subst h1
  repeat first | refine X0 ?_ | (refine JR ?_; (repeat first | refine Z1 ?_ | refine Z0 ?_ | refine Zl ?_); refine JD ?_) | refine JT ?_ | refine JF ?_ | refine X5 ?_
  exact QN
 by_cases h2 : k = 2
 ·subst h2
  repeat first | refine X0 ?_ | (refine JR ?_; (repeat first | refine Z1 ?_ | refine Z0 ?_ | refine Zl ?_); refine JD ?_) | refine JT ?_ | refine JF ?_ | refine X5 ?_ | refine X4 ?_
  exact QN
 by_cases h3 : k = 3
 ·subst h3
  repeat first | refine X0 ?_ | (refine JR ?_; (repeat first | refine Z1 ?_ | refine Z0 ?_ | refine Zl ?_); refine JD ?_) | refine JT ?_ | refine JF ?_ | refine X5 ?_
  exact QN
 by_cases h4 : k = 4
 ·subst h4
  repeat first | refine X0 ?_ | (refine JR ?_; (repeat first | refine Z1 ?_ | refine Z0 ?_ | refine Zl ?_); refine JD ?_) | refine JT ?_ | refine JF ?_ | refine X5 ?_
  exact QN
 by_cases h5 : k = 5
 ·subst h5
  repeat first | refine X0 ?_ | (refine JR ?_; (repeat first | refine Z1 ?_ | refine Z0 ?_ | refine Zl ?_); refine JD ?_) | refine JT ?_ | refine JF ?_ | refine X5 ?_
  exact QN
 by_cases h6 : k = 6
 ·subst h6
  repeat first | refine X0 ?_ | (refine JR ?_; (repeat first | refine Z1 ?_ | refine Z0 ?_ | refine Zl ?_); refine JD ?_) | refine JT ?_ | refine JF ?_ | refine X5 ?_
  exact QN
 by_cases h8 : k = 8
 ·subst h8
  repeat first | refine X0 ?_ | (refine JR ?_; (repeat first | refine Z1 ?_ | refine Z0 ?_ | refine Zl ?_); refine JD ?_) | refine JT ?_ | refine JF ?_ | refine X5 ?_
  exact QN
 rw [show Vs k = 7 by simp [Vs, *]]
 repeat first | refine X0 ?_ | (refine JR ?_; (repeat first | refine Z1 ?_ | refine Z0 ?_ | refine Zl ?_); refine JD ?_) | refine JF ?_ | refine X5 ?_ | refine X4 ?_
 exact QN
theorem Xb6 {m : Nat} {k n d : Int} {s : List UInt8} {l : List Val} (h : X8 m (.mk k n d s l) = true) (hk : k = 0) : n = 0 ∧ d = 0 ∧ s = [] ∧ l = [] := by
 subst hk
 rw [X8] at h
 simp at h
 exact ⟨h.2, h.1.1.1, h.1.1.2, h.1.2⟩
theorem X6E {m : Nat} {k n d : Int} {s : List UInt8} {l : List Val} (h : X8 m (.mk k n d s l) = true) : 0 ≤ k ∧ k ≤ 8 := by
 refine Classical.byContradiction fun hn => ?_
 rw [X8] at h
 rw [if_neg (by omega), if_neg (by omega), if_neg (by omega), if_neg (by omega), if_neg (by omega), if_neg (by omega), if_neg (by omega), if_neg (by omega)] at h
 simp at h
theorem Xhq (f : FuncId) : Con Tryz.prog 173 [] [.d (.sl 5 []), .d (.sl 5 []), .fn f []] [] (ai 0) := by
 refine Xa (xs := [ai 0]) Tryz.func173 rfl Tryz.ntmps173 rfl rfl rfl (fun E => ?_)
 refine Qo ?_; refine QA ?_
 refine Xu (fun _ : Unit => True) (fun _ => ⟨39, [(0, .d (.sl 5 [])), (1, .d (.sl 5 [])), (12, ai 0), (13, ai 0)], []⟩) (fun _ => 0) () trivial
  (X9 rfl ⟨JL, JL, JL, JL, trivial⟩ trivial) ?_
 intro _ _
 refine QM ?_; refine Qg ?_; refine Zd ?_; refine Z1 ?_; refine Qob ?_; refine Qs ?_; exact Qia
theorem XbY (k n d : Int) (s : List UInt8) (l : List Val) (h : UR k ≠ 0) : Con Tryz.prog 169 [] [Xo (.mk k n d s l), Xo zV] [] (ai (YL (UR k) 0)) := by
 refine Xa (xs := [ai (YL (UR k) 0)]) Tryz.func169 rfl Tryz.ntmps169 rfl rfl rfl (fun E => ?_)
 have c1 := X6d k n d s l
 have c2 := X6d 0 0 0 [] []
 have c3 := Xaf (UR k) 0
 rw [show UR 0 = 0 from rfl] at c2
 have hz : YL (UR k) 0 ≠ 0 := by
  unfold YL
  split
  ·omega
  ·split
   ·omega
   ·omega
 generalize YL (UR k) 0 = z at *
 generalize UR k = c at *
 simp only [Xo, XF] at c1 c2 ⊢
 refine Qnc ?_; refine Qkc ?_; refine Qoc ?_; refine ZL ?_; refine Z9 (hcon := c2) ?_; refine Z9 (hcon := c3) ?_; exact Qpc
theorem XfP : Con Tryz.prog 169 [] [Xo zV, Xo zV] [] (ai 0) := by
 refine Xa (xs := [ai 0]) Tryz.func169 rfl Tryz.ntmps169 rfl rfl rfl (fun E => ?_)
 have c2 := X6d 0 0 0 [] []
 have c3 := Xaf 0 0
 have c4 := Xig []
 have c5 := Xhq 169
 have c6 := XgN [0, 0, 0] (by decide)
 rw [show UR 0 = 0 from rfl] at c2
 rw [show YL 0 0 = 0 from rfl] at c3
 rw [show orI [0, 0, 0] = 0 from rfl] at c6
 simp only [Xo, XF, List.map_cons, List.map_nil] at c2 c6 ⊢
 repeat first | refine X0 ?_ | (refine JR ?_; (repeat first | refine Z1 ?_ | refine Z0 ?_ | refine ZB ?_ | refine ZC ?_ | refine ZL ?_ | refine Zl ?_ | refine Zv ?_ | refine ZA (γ := 100) ?_ | refine ZA (γ := 101) ?_ | refine Z5 ?_ | refine Z9 (hcon := c2) ?_ | refine Z9 (hcon := c3) ?_ | refine Z9 (hcon := c4) ?_ | refine Z9 (hcon := c5) ?_ | refine Z9 (hcon := c6) ?_); refine JD ?_) | refine JF ?_ | refine X4 ?_
 exact QN
def X2I (v : Val) : Int := if X8 8 v = false then 1 else YL (UR v.kind) 0
theorem Xcl (v : Val) : decide (X2I v = 0) = V6 v := by
 unfold X2I V6
 cases h : X8 8 v with
 | false => simp
 | true =>
  obtain ⟨k, n, d, s, l⟩ := v
  have hk := X6E h
  simp only [Val.kind, Bool.true_and]
  refine decide_eq_decide.2 ?_
  rw [if_neg (by simp)]
  unfold YL UR
  constructor
  ·intro h1
   split at h1
   ·omega
   split at h1
   ·split at h1
    ·omega
    ·split at h1 <;> omega
   ·split at h1 <;> omega
  ·intro h1
   subst h1
   rfl
theorem Xfn (v : Val) : Con Tryz.prog 147 [] [Xo v, Xo zV] [] (ai (X2I v)) := by
 refine Xa (xs := [ai (X2I v)]) Tryz.func147 rfl Tryz.ntmps147 rfl rfl rfl (fun E => ?_)
 have hv := VR v
 have hz := VR zV
 rw [show X8 8 zV = true by rw [X8]; simp] at hz
 unfold X2I
 cases h : X8 8 v with
 | false =>
  rw [h] at hv
  rw [if_pos rfl]
  obtain ⟨k, n, d, s, l⟩ := v
  simp only [Xo, XF] at hv hz ⊢
  repeat first | refine X0 ?_ | (refine JR ?_; (repeat first | refine Z1 ?_ | refine Z0 ?_ | refine ZL ?_ | refine ZA (γ := 100) ?_ | refine ZA (γ := 101) ?_ | refine Zq ?_ | refine Zo ?_ | refine Z9 (hcon := hv) ?_ | refine Z9 (hcon := hz) ?_); refine JD ?_) | refine JT ?_ | refine JF ?_ | refine X5 ?_
  exact QN
 | true =>
  rw [h] at hv
  rw [if_neg (by simp)]
  obtain ⟨k, n, d, s, l⟩ := v
  simp only [Val.kind]
  by_cases hk : UR k = 0
  ·have hk0 : k = 0 := by
    have := X6E h
    unfold UR at hk
    split at hk
    ·omega
    ·split at hk <;> omega
   obtain ⟨rfl, rfl, rfl, rfl⟩ := Xb6 h hk0
   subst hk0
   have ho := XfP
   rw [show YL (UR 0) 0 = 0 from rfl]
   simp only [Xo, XF] at hv hz ho ⊢
   refine Qnc ?_; refine Qqc ?_; refine ZL ?_; refine Z9 (hcon := hv) ?_; refine QAa ?_; refine Qe ?_; refine Qf ?_; refine Qy ?_; refine Qsa ?_; refine JT ?_; refine Qgb ?_; refine ZL ?_; refine Z9 (hcon := ho) ?_; exact QO
  ·have ho := XbY k n d s l hk
   generalize YL (UR k) 0 = z at *
   simp only [Xo, XF] at hv hz ho ⊢
   refine Qnc ?_; refine Qqc ?_; refine ZL ?_; refine Z9 (hcon := hz) ?_; refine QAa ?_; refine Qe ?_; refine Qf ?_; refine Qy ?_; refine Qsa ?_; refine JT ?_; refine Qgb ?_; refine ZL ?_; refine Z9 (hcon := ho) ?_; exact QO
theorem XgF (v : Val) : Con Tryz.prog 113 [] [Xo v] [] (ab (V6 v)) := by
 refine Xa (xs := [ab (V6 v)]) Tryz.func113 rfl Tryz.ntmps113 rfl rfl rfl (fun E => ?_)
 have ho := Xfn v
 rw [← Xcl v]
 generalize X2I v = z at *
 obtain ⟨k, n, d, s, l⟩ := v
 simp only [Xo, XF] at ho ⊢
 refine QGa ?_; refine Qgb ?_; refine Zx ?_; refine Z9 (hcon := ho) ?_; refine Zl ?_; refine Qc ?_; exact QN
end Go.Fw
