/- slices.Insert of one element into a row of one's own. -/
import Derived.Test.YtonekjkmnhfjmaaGreatDoorChecked
import Derived.Test.YtonekjkmnhfjmaaGreatDoorM11
set_option maxHeartbeats 16000000
namespace Go.Fw
open Go Go.Proofs
set_option maxRecDepth 100000
set_option linter.unusedVariables false
set_option linter.unusedSimpArgs false
theorem Xfd (xs : List (List D)) (i : Nat) (v : List D) (hz : ∀ x ∈ xs, x.length = 3) (hv : v.length = 3) (hi : i ≤ xs.length) (hx : xs.length ≤ 5000) :
  Con Tryz.prog 229 [(1, .row 3 xs)] [.own 1 xs.length, ai (i : Nat), .d (.sl 3 [v])] [(1, .dead), (110, .row 3 (xs.take i ++ v :: xs.drop i))] (.own 110 (xs.length + 1)) := by
 refine Xc (xs := [.own 110 (xs.length + 1)]) Tryz.func229 rfl Tryz.ntmps229 rfl rfl rfl (fun E => ?_)
 by_cases hin : i = xs.length
 case pos =>
  subst hin
  rw [List.take_length, List.drop_length]
  refine Qmf ?_
  show AWP Tryz.prog E _ _ _
  refine Xm (X33 6 1 110 rfl rfl (by simp) rfl rfl) ?_
  (show AWP Tryz.prog E _ _ _; refine X1 ?_; exact (show Xd _ _ _ _ _ from ⟨_, St.le_refl _, ⟨rfl, trivial⟩, XZ ⟨rfl, rfl, trivial⟩⟩))
 have hlt : i < xs.length := by omega
 refine X0r 0 1 120 rfl (by omega) rfl rfl rfl rfl (fun c k hc1 hc2 hc3 _ => ?_)
 have hT : (List.replicate k (none : Option D)).length = k := List.length_replicate
 generalize List.replicate k (none : Option D) = T at *
 have hlen : (List.map some xs.flatten ++ T).length = xs.length * 3 + k := by rw [List.length_append, hT]; exact congrArg (· + k) (Yc hz)
 have s1 : (if c = i then 0 else 0 + i * 3) = i * 3 := by rw [if_neg (by omega), Nat.zero_add]
 have s0 : (if c = 0 then 0 else 0 + 0 * 3) = 0 := by split <;> rfl
 have a1 : (xs.length : Int) + (([v].length : Nat) : Int) = ((xs.length + 1 : Nat) : Int) := rfl
 have a2 : (i : Int) + (([v].length : Nat) : Int) = ((i + 1 : Nat) : Int) := rfl
 have a3 : ((xs.length + 1 : Nat) : Int) - (i : Int) = ((xs.length + 1 - i : Nat) : Int) := by omega
 by_cases hroom : xs.length + 1 ≤ c
 case pos =>
  have hk : 3 ≤ k := by omega
  have s3 : (if c = i + 1 then 0 else 0 + (i + 1) * 3) = (i + 1) * 3 := by rw [if_neg (by omega), Nat.zero_add]
  have e1 := X4s (T := T) hz hlt
  have e2 := X3B (v := v) (T := T) hz hlt
  have e3 := X3n (T := T) hz hlt
  have e4 := X4g (v := v) (T := T) hz hv hi
  have cA : Uw (((List.map some xs.flatten ++ T).drop (i * 3)).take ((xs.length - i) * 3)) = true := by rw [show List.map some xs.flatten = fl xs from rfl, e3]; exact X13 _
  have lA := X42 (T := T) hz hlt (by omega)
  have lB := X4Y (T := T) hz hv hi (by omega)
  have hne : (List.map some xs.flatten ++ T) ≠ [] := fun q => by rw [q] at hlen; simp at hlen; omega
  have hok := X3P (i := i) hz hv
  have hln := X4O (v := v) hi
  refine QHa ?_; refine Z0h (lb := i) (hb := xs.length) (m := xs.length - i) (c' := c - i) (o' := i * 3) ?_ (ho' := by exact s1); refine Qnf ?_
  (refine Z4 (op := .add) (r' := .int .i64 ((xs.length + 1 : Nat) : Int)) (u := .int .i64 (xs.length : Nat)) (v := .int .i64 ([v].length : Nat)) ?_ (hr' := by exact congrArg (Value.int .i64) a1) (hr := by exact Yk (by unfold Xw; omega)))
  refine Qof ?_
  (refine Z4 (op := .add) (r' := .int .i64 ((xs.length + 1 : Nat) : Int)) (u := .int .i64 (xs.length : Nat)) (v := .int .i64 ([v].length : Nat)) ?_ (hr' := by exact congrArg (Value.int .i64) a1) (hr := by exact Yk (by unfold Xw; omega)))
  refine Qpf ?_
  (refine Z4 (op := .add) (r' := .int .i64 ((i + 1 : Nat) : Int)) (u := .int .i64 (i : Nat)) (v := .int .i64 ([v].length : Nat)) ?_ (hr' := by exact congrArg (Value.int .i64) a2) (hr := by exact Yk (by unfold Xw; omega)))
  refine Z0h (lb := i + 1) (hb := xs.length + 1) (m := xs.length - i) (c' := c - (i + 1)) (o' := (i + 1) * 3) ?_ (ho' := by exact s3)
  (refine Z0k ?_ (hys := ?hys1) (hcs := ?hcs2) (hf := by exact Tryz.func280) (h1 := by exact (by kernel_rfl)) (h2 := by exact (by kernel_rfl)) (h3 := by exact (by kernel_rfl)) (h4 := by exact (by kernel_rfl)); (case hys1 => exact (by simp)); (case hcs2 => exact hne))
  refine Zu ?_; refine QIa ?_; refine Qf ?_
  (refine Z4 (op := .add) (r' := .int .i64 ((i + 1 : Nat) : Int)) (u := .int .i64 (i : Nat)) (v := .int .i64 ([v].length : Nat)) ?_ (hr' := by exact congrArg (Value.int .i64) a2) (hr := by exact Yk (by unfold Xw; omega)))
  refine Z0h (lb := i + 1) (hb := xs.length + 1) (m := xs.length - i) (c' := c - (i + 1)) (o' := (i + 1) * 3) ?_ (ho' := by exact s3); refine Qf ?_; refine Z0h (lb := i) (hb := xs.length + 1) (m := xs.length + 1 - i) (c' := c - i) (o' := i * 3) ?_ (ho' := by exact s1); refine Z0l (m := xs.length - i) (cs' := X06 3 i xs T) ?_ (hc := by exact cA) (hcs := by exact e1); refine Qlf ?_; refine Z1 ?_; refine Z0h (lb := i) (hb := xs.length + 1) (m := xs.length + 1 - i) (c' := c - i) (o' := i * 3) ?_ (ho' := by exact s1); refine Z1 ?_; refine Z0m (m := 1) (cs' := VT 3 i xs v T) ?_ (hcs := by exact e2); refine Qqf ?_
  show AWP Tryz.prog E _ _ _
  refine Qrf ?_
  (show AWP Tryz.prog E _ _ _; refine X1 ?_; exact (show Xd _ _ _ _ _ from ⟨_, St.le_refl _, ⟨rfl, trivial⟩, XZ ⟨rfl, rfl, trivial⟩⟩))
 have e5 := X1h hz T hi
 have e6 : (List.map some xs.flatten ++ T).take (xs.length * 3) = xs.flatten.map some := List.take_left' (Yc hz)
 have l5 : (xs.take i).length = i := by rw [List.length_take]; omega
 refine QHa ?_; refine Z0h (lb := i) (hb := xs.length) (m := xs.length - i) (c' := c - i) (o' := i * 3) ?_ (ho' := by exact s1); refine Qnf ?_
 (refine Z4 (op := .add) (r' := .int .i64 ((xs.length + 1 : Nat) : Int)) (u := .int .i64 (xs.length : Nat)) (v := .int .i64 ([v].length : Nat)) ?_ (hr' := by exact congrArg (Value.int .i64) a1) (hr := by exact Yk (by unfold Xw; omega)))
 refine Qsf ?_
 (refine Z4 (op := .add) (r' := .int .i64 ((xs.length + 1 : Nat) : Int)) (u := .int .i64 (xs.length : Nat)) (v := .int .i64 ([v].length : Nat)) ?_ (hr' := by exact congrArg (Value.int .i64) a1) (hr := by exact Yk (by unfold Xw; omega)))
 refine Z1 ?_
 (refine Z4 (op := .sub) (r' := .int .i64 ((xs.length + 1 - i : Nat) : Int)) (u := .int .i64 ((xs.length + 1 : Nat) : Int)) (v := .int .i64 (i : Nat)) ?_ (hr' := by exact congrArg (Value.int .i64) a3) (hr := by exact XU (by unfold Xw; omega)))
 (refine Z0n (γ := 110) (n' := xs.length + 1) (xs := xs.take i) ?_ (hxs := ?hxs5) (hxl := ?hxl6) (hxz := by exact Ur hz i); (case hxs5 => exact e5); (case hxl6 => exact l5)); refine Qb ?_; refine X0 ?_
 show AWP Tryz.prog E _ _ _
 refine Qtf ?_; (refine Zg (k := i) ?_ (hk := ?hk9); (case hk9 => exact (by simp; omega))); refine Z1 ?_; (refine Zh (m := 1) ?_ (hk := ?hk10) (hm := ?hm11); (case hk10 => exact (by simp; omega)); (case hm11 => exact (by simp; omega))); refine Qlf ?_; refine Qf ?_
 (refine Z4 (op := .add) (r' := .int .i64 ((i + 1 : Nat) : Int)) (u := .int .i64 (i : Nat)) (v := .int .i64 ([v].length : Nat)) ?_ (hr' := by exact congrArg (Value.int .i64) a2) (hr := by exact Yk (by unfold Xw; omega)))
 (refine Zg (k := i + 1) ?_ (hk := ?hk12); (case hk12 => exact (by simp; omega))); refine Qf ?_; refine Z0o ?_; (refine Zh (m := xs.length - i) ?_ (hk := ?hk13) (hm := ?hm14); (case hk13 => exact (by simp; omega)); (case hm14 => exact (by simp; omega))); refine Qqf ?_
 (show AWP Tryz.prog E _ _ _; refine X1 ?_; exact (show Xd _ _ _ _ _ from ⟨_, St.le_refl _, ⟨rfl, trivial⟩, XZ ⟨rfl, congrArg (AObj.row _) (X3M hi (by rw [List.length_replicate]) hlt), trivial⟩⟩))
theorem XgK (xs : List (List D)) (i : Nat) (v : List D) (hz : ∀ x ∈ xs, x.length = 5) (hv : v.length = 5) (hi : i ≤ xs.length) (hx : xs.length ≤ 5000) :
  Con Tryz.prog 236 [(1, .row 5 xs)] [.own 1 xs.length, ai (i : Nat), .d (.sl 5 [v])] [(1, .dead), (110, .row 5 (xs.take i ++ v :: xs.drop i))] (.own 110 (xs.length + 1)) := by
 refine Xc (xs := [.own 110 (xs.length + 1)]) Tryz.func236 rfl Tryz.ntmps236 rfl rfl rfl (fun E => ?_)
 by_cases hin : i = xs.length
 case pos =>
  subst hin
  rw [List.take_length, List.drop_length]
  refine Qmf ?_
  show AWP Tryz.prog E _ _ _
  refine Xm (X33 6 1 110 rfl rfl (by simp) rfl rfl) ?_
  (show AWP Tryz.prog E _ _ _; refine X1 ?_; exact (show Xd _ _ _ _ _ from ⟨_, St.le_refl _, ⟨rfl, trivial⟩, XZ ⟨rfl, rfl, trivial⟩⟩))
 have hlt : i < xs.length := by omega
 refine X0r 0 1 120 rfl (by omega) rfl rfl rfl rfl (fun c k hc1 hc2 hc3 _ => ?_)
 have hT : (List.replicate k (none : Option D)).length = k := List.length_replicate
 generalize List.replicate k (none : Option D) = T at *
 have hlen : (List.map some xs.flatten ++ T).length = xs.length * 5 + k := by rw [List.length_append, hT]; exact congrArg (· + k) (Yc hz)
 have s1 : (if c = i then 0 else 0 + i * 5) = i * 5 := by rw [if_neg (by omega), Nat.zero_add]
 have s0 : (if c = 0 then 0 else 0 + 0 * 5) = 0 := by split <;> rfl
 have a1 : (xs.length : Int) + (([v].length : Nat) : Int) = ((xs.length + 1 : Nat) : Int) := rfl
 have a2 : (i : Int) + (([v].length : Nat) : Int) = ((i + 1 : Nat) : Int) := rfl
 have a3 : ((xs.length + 1 : Nat) : Int) - (i : Int) = ((xs.length + 1 - i : Nat) : Int) := by omega
 by_cases hroom : xs.length + 1 ≤ c
 case pos =>
  have hk : 5 ≤ k := by omega
  have s3 : (if c = i + 1 then 0 else 0 + (i + 1) * 5) = (i + 1) * 5 := by rw [if_neg (by omega), Nat.zero_add]
  have e1 := X4s (T := T) hz hlt
  have e2 := X3B (v := v) (T := T) hz hlt
  have e3 := X3n (T := T) hz hlt
  have e4 := X4g (v := v) (T := T) hz hv hi
  have cA : Uw (((List.map some xs.flatten ++ T).drop (i * 5)).take ((xs.length - i) * 5)) = true := by rw [show List.map some xs.flatten = fl xs from rfl, e3]; exact X13 _
  have lA := X42 (T := T) hz hlt (by omega)
  have lB := X4Y (T := T) hz hv hi (by omega)
  have hne : (List.map some xs.flatten ++ T) ≠ [] := fun q => by rw [q] at hlen; simp at hlen; omega
  have hok := X3P (i := i) hz hv
  have hln := X4O (v := v) hi
  refine QHa ?_; refine Z0h (lb := i) (hb := xs.length) (m := xs.length - i) (c' := c - i) (o' := i * 5) ?_ (ho' := by exact s1); refine Qnf ?_
  (refine Z4 (op := .add) (r' := .int .i64 ((xs.length + 1 : Nat) : Int)) (u := .int .i64 (xs.length : Nat)) (v := .int .i64 ([v].length : Nat)) ?_ (hr' := by exact congrArg (Value.int .i64) a1) (hr := by exact Yk (by unfold Xw; omega)))
  refine Qof ?_
  (refine Z4 (op := .add) (r' := .int .i64 ((xs.length + 1 : Nat) : Int)) (u := .int .i64 (xs.length : Nat)) (v := .int .i64 ([v].length : Nat)) ?_ (hr' := by exact congrArg (Value.int .i64) a1) (hr := by exact Yk (by unfold Xw; omega)))
  refine Qpf ?_
  (refine Z4 (op := .add) (r' := .int .i64 ((i + 1 : Nat) : Int)) (u := .int .i64 (i : Nat)) (v := .int .i64 ([v].length : Nat)) ?_ (hr' := by exact congrArg (Value.int .i64) a2) (hr := by exact Yk (by unfold Xw; omega)))
  refine Z0h (lb := i + 1) (hb := xs.length + 1) (m := xs.length - i) (c' := c - (i + 1)) (o' := (i + 1) * 5) ?_ (ho' := by exact s3)
  (refine Z0k ?_ (hys := ?hys21) (hcs := ?hcs22) (hf := by exact Tryz.func292) (h1 := by exact (by kernel_rfl)) (h2 := by exact (by kernel_rfl)) (h3 := by exact (by kernel_rfl)) (h4 := by exact (by kernel_rfl)); (case hys21 => exact (by simp)); (case hcs22 => exact hne))
  refine Zu ?_; refine QIa ?_; refine Qf ?_
  (refine Z4 (op := .add) (r' := .int .i64 ((i + 1 : Nat) : Int)) (u := .int .i64 (i : Nat)) (v := .int .i64 ([v].length : Nat)) ?_ (hr' := by exact congrArg (Value.int .i64) a2) (hr := by exact Yk (by unfold Xw; omega)))
  refine Z0h (lb := i + 1) (hb := xs.length + 1) (m := xs.length - i) (c' := c - (i + 1)) (o' := (i + 1) * 5) ?_ (ho' := by exact s3); refine Qf ?_; refine Z0h (lb := i) (hb := xs.length + 1) (m := xs.length + 1 - i) (c' := c - i) (o' := i * 5) ?_ (ho' := by exact s1); refine Z0l (m := xs.length - i) (cs' := X06 5 i xs T) ?_ (hc := by exact cA) (hcs := by exact e1); refine Qlf ?_; refine Z1 ?_; refine Z0h (lb := i) (hb := xs.length + 1) (m := xs.length + 1 - i) (c' := c - i) (o' := i * 5) ?_ (ho' := by exact s1); refine Z1 ?_; refine Z0m (m := 1) (cs' := VT 5 i xs v T) ?_ (hcs := by exact e2); refine Qqf ?_
  show AWP Tryz.prog E _ _ _
  refine Qrf ?_
  (show AWP Tryz.prog E _ _ _; refine X1 ?_; exact (show Xd _ _ _ _ _ from ⟨_, St.le_refl _, ⟨rfl, trivial⟩, XZ ⟨rfl, rfl, trivial⟩⟩))
 have e5 := X1h hz T hi
 have e6 : (List.map some xs.flatten ++ T).take (xs.length * 5) = xs.flatten.map some := List.take_left' (Yc hz)
 have l5 : (xs.take i).length = i := by rw [List.length_take]; omega
 refine QHa ?_; refine Z0h (lb := i) (hb := xs.length) (m := xs.length - i) (c' := c - i) (o' := i * 5) ?_ (ho' := by exact s1); refine Qnf ?_
 (refine Z4 (op := .add) (r' := .int .i64 ((xs.length + 1 : Nat) : Int)) (u := .int .i64 (xs.length : Nat)) (v := .int .i64 ([v].length : Nat)) ?_ (hr' := by exact congrArg (Value.int .i64) a1) (hr := by exact Yk (by unfold Xw; omega)))
 refine Qsf ?_
 (refine Z4 (op := .add) (r' := .int .i64 ((xs.length + 1 : Nat) : Int)) (u := .int .i64 (xs.length : Nat)) (v := .int .i64 ([v].length : Nat)) ?_ (hr' := by exact congrArg (Value.int .i64) a1) (hr := by exact Yk (by unfold Xw; omega)))
 refine Z1 ?_
 (refine Z4 (op := .sub) (r' := .int .i64 ((xs.length + 1 - i : Nat) : Int)) (u := .int .i64 ((xs.length + 1 : Nat) : Int)) (v := .int .i64 (i : Nat)) ?_ (hr' := by exact congrArg (Value.int .i64) a3) (hr := by exact XU (by unfold Xw; omega)))
 (refine Z0n (γ := 110) (n' := xs.length + 1) (xs := xs.take i) ?_ (hxs := ?hxs25) (hxl := ?hxl26) (hxz := by exact Ur hz i); (case hxs25 => exact e5); (case hxl26 => exact l5)); refine Qb ?_; refine X0 ?_
 show AWP Tryz.prog E _ _ _
 refine Qtf ?_; (refine Zg (k := i) ?_ (hk := ?hk29); (case hk29 => exact (by simp; omega))); refine Z1 ?_; (refine Zh (m := 1) ?_ (hk := ?hk30) (hm := ?hm31); (case hk30 => exact (by simp; omega)); (case hm31 => exact (by simp; omega))); refine Qlf ?_; refine Qf ?_
 (refine Z4 (op := .add) (r' := .int .i64 ((i + 1 : Nat) : Int)) (u := .int .i64 (i : Nat)) (v := .int .i64 ([v].length : Nat)) ?_ (hr' := by exact congrArg (Value.int .i64) a2) (hr := by exact Yk (by unfold Xw; omega)))
 (refine Zg (k := i + 1) ?_ (hk := ?hk32); (case hk32 => exact (by simp; omega))); refine Qf ?_; refine Z0o ?_; (refine Zh (m := xs.length - i) ?_ (hk := ?hk33) (hm := ?hm34); (case hk33 => exact (by simp; omega)); (case hm34 => exact (by simp; omega))); refine Qqf ?_
 (show AWP Tryz.prog E _ _ _; refine X1 ?_; exact (show Xd _ _ _ _ _ from ⟨_, St.le_refl _, ⟨rfl, trivial⟩, XZ ⟨rfl, congrArg (AObj.row _) (X3M hi (by rw [List.length_replicate]) hlt), trivial⟩⟩))
theorem XeI (xs : List (List D)) (i : Nat) (v : List D) (hz : ∀ x ∈ xs, x.length = 1) (hv : v.length = 1) (hi : i ≤ xs.length) (hx : xs.length ≤ 5000) :
  Con Tryz.prog 232 [(1, .row 1 xs)] [.own 1 xs.length, ai (i : Nat), .d (.sl 1 [v])] [(1, .dead), (110, .row 1 (xs.take i ++ v :: xs.drop i))] (.own 110 (xs.length + 1)) := by
 refine Xc (xs := [.own 110 (xs.length + 1)]) Tryz.func232 rfl Tryz.ntmps232 rfl rfl rfl (fun E => ?_)
 by_cases hin : i = xs.length
 case pos =>
  subst hin
  rw [List.take_length, List.drop_length]
  refine Qmf ?_
  show AWP Tryz.prog E _ _ _
  refine Xm (X33 6 1 110 rfl rfl (by simp) rfl rfl) ?_
  (show AWP Tryz.prog E _ _ _; refine X1 ?_; exact (show Xd _ _ _ _ _ from ⟨_, St.le_refl _, ⟨rfl, trivial⟩, XZ ⟨rfl, rfl, trivial⟩⟩))
 have hlt : i < xs.length := by omega
 refine X0r 0 1 120 rfl (by omega) rfl rfl rfl rfl (fun c k hc1 hc2 hc3 _ => ?_)
 have hT : (List.replicate k (none : Option D)).length = k := List.length_replicate
 generalize List.replicate k (none : Option D) = T at *
 have hlen : (List.map some xs.flatten ++ T).length = xs.length * 1 + k := by rw [List.length_append, hT]; exact congrArg (· + k) (Yc hz)
 have s1 : (if c = i then 0 else 0 + i * 1) = i * 1 := by rw [if_neg (by omega), Nat.zero_add]
 have s0 : (if c = 0 then 0 else 0 + 0 * 1) = 0 := by split <;> rfl
 have a1 : (xs.length : Int) + (([v].length : Nat) : Int) = ((xs.length + 1 : Nat) : Int) := rfl
 have a2 : (i : Int) + (([v].length : Nat) : Int) = ((i + 1 : Nat) : Int) := rfl
 have a3 : ((xs.length + 1 : Nat) : Int) - (i : Int) = ((xs.length + 1 - i : Nat) : Int) := by omega
 by_cases hroom : xs.length + 1 ≤ c
 case pos =>
  have hk : 1 ≤ k := by omega
  have s3 : (if c = i + 1 then 0 else 0 + (i + 1) * 1) = (i + 1) * 1 := by rw [if_neg (by omega), Nat.zero_add]
  have e1 := X4s (T := T) hz hlt
  have e2 := X3B (v := v) (T := T) hz hlt
  have e3 := X3n (T := T) hz hlt
  have e4 := X4g (v := v) (T := T) hz hv hi
  have cA : Uw (((List.map some xs.flatten ++ T).drop (i * 1)).take ((xs.length - i) * 1)) = true := by rw [show List.map some xs.flatten = fl xs from rfl, e3]; exact X13 _
  have lA := X42 (T := T) hz hlt (by omega)
  have lB := X4Y (T := T) hz hv hi (by omega)
  have hne : (List.map some xs.flatten ++ T) ≠ [] := fun q => by rw [q] at hlen; simp at hlen; omega
  have hok := X3P (i := i) hz hv
  have hln := X4O (v := v) hi
  refine QHa ?_; refine Z0h (lb := i) (hb := xs.length) (m := xs.length - i) (c' := c - i) (o' := i * 1) ?_ (ho' := by exact s1); refine Qnf ?_
  (refine Z4 (op := .add) (r' := .int .i64 ((xs.length + 1 : Nat) : Int)) (u := .int .i64 (xs.length : Nat)) (v := .int .i64 ([v].length : Nat)) ?_ (hr' := by exact congrArg (Value.int .i64) a1) (hr := by exact Yk (by unfold Xw; omega)))
  refine Qof ?_
  (refine Z4 (op := .add) (r' := .int .i64 ((xs.length + 1 : Nat) : Int)) (u := .int .i64 (xs.length : Nat)) (v := .int .i64 ([v].length : Nat)) ?_ (hr' := by exact congrArg (Value.int .i64) a1) (hr := by exact Yk (by unfold Xw; omega)))
  refine Qpf ?_
  (refine Z4 (op := .add) (r' := .int .i64 ((i + 1 : Nat) : Int)) (u := .int .i64 (i : Nat)) (v := .int .i64 ([v].length : Nat)) ?_ (hr' := by exact congrArg (Value.int .i64) a2) (hr := by exact Yk (by unfold Xw; omega)))
  refine Z0h (lb := i + 1) (hb := xs.length + 1) (m := xs.length - i) (c' := c - (i + 1)) (o' := (i + 1) * 1) ?_ (ho' := by exact s3)
  (refine Z0k ?_ (hys := ?hys41) (hcs := ?hcs42) (hf := by exact Tryz.func284) (h1 := by exact (by kernel_rfl)) (h2 := by exact (by kernel_rfl)) (h3 := by exact (by kernel_rfl)) (h4 := by exact (by kernel_rfl)); (case hys41 => exact (by simp)); (case hcs42 => exact hne))
  refine Zu ?_; refine QIa ?_; refine Qf ?_
  (refine Z4 (op := .add) (r' := .int .i64 ((i + 1 : Nat) : Int)) (u := .int .i64 (i : Nat)) (v := .int .i64 ([v].length : Nat)) ?_ (hr' := by exact congrArg (Value.int .i64) a2) (hr := by exact Yk (by unfold Xw; omega)))
  refine Z0h (lb := i + 1) (hb := xs.length + 1) (m := xs.length - i) (c' := c - (i + 1)) (o' := (i + 1) * 1) ?_ (ho' := by exact s3); refine Qf ?_; refine Z0h (lb := i) (hb := xs.length + 1) (m := xs.length + 1 - i) (c' := c - i) (o' := i * 1) ?_ (ho' := by exact s1); refine Z0l (m := xs.length - i) (cs' := X06 1 i xs T) ?_ (hc := by exact cA) (hcs := by exact e1); refine Qlf ?_; refine Z1 ?_; refine Z0h (lb := i) (hb := xs.length + 1) (m := xs.length + 1 - i) (c' := c - i) (o' := i * 1) ?_ (ho' := by exact s1); refine Z1 ?_; refine Z0m (m := 1) (cs' := VT 1 i xs v T) ?_ (hcs := by exact e2); refine Qqf ?_
  show AWP Tryz.prog E _ _ _
  refine Qrf ?_
  (show AWP Tryz.prog E _ _ _; refine X1 ?_; exact (show Xd _ _ _ _ _ from ⟨_, St.le_refl _, ⟨rfl, trivial⟩, XZ ⟨rfl, rfl, trivial⟩⟩))
 have e5 := X1h hz T hi
 have e6 : (List.map some xs.flatten ++ T).take (xs.length * 1) = xs.flatten.map some := List.take_left' (Yc hz)
 have l5 : (xs.take i).length = i := by rw [List.length_take]; omega
 refine QHa ?_; refine Z0h (lb := i) (hb := xs.length) (m := xs.length - i) (c' := c - i) (o' := i * 1) ?_ (ho' := by exact s1); refine Qnf ?_
 (refine Z4 (op := .add) (r' := .int .i64 ((xs.length + 1 : Nat) : Int)) (u := .int .i64 (xs.length : Nat)) (v := .int .i64 ([v].length : Nat)) ?_ (hr' := by exact congrArg (Value.int .i64) a1) (hr := by exact Yk (by unfold Xw; omega)))
 refine Qsf ?_
 (refine Z4 (op := .add) (r' := .int .i64 ((xs.length + 1 : Nat) : Int)) (u := .int .i64 (xs.length : Nat)) (v := .int .i64 ([v].length : Nat)) ?_ (hr' := by exact congrArg (Value.int .i64) a1) (hr := by exact Yk (by unfold Xw; omega)))
 refine Z1 ?_
 (refine Z4 (op := .sub) (r' := .int .i64 ((xs.length + 1 - i : Nat) : Int)) (u := .int .i64 ((xs.length + 1 : Nat) : Int)) (v := .int .i64 (i : Nat)) ?_ (hr' := by exact congrArg (Value.int .i64) a3) (hr := by exact XU (by unfold Xw; omega)))
 (refine Z0n (γ := 110) (n' := xs.length + 1) (xs := xs.take i) ?_ (hxs := ?hxs45) (hxl := ?hxl46) (hxz := by exact Ur hz i); (case hxs45 => exact e5); (case hxl46 => exact l5)); refine Qb ?_; refine X0 ?_
 show AWP Tryz.prog E _ _ _
 refine Qtf ?_; (refine Zg (k := i) ?_ (hk := ?hk49); (case hk49 => exact (by simp; omega))); refine Z1 ?_; (refine Zh (m := 1) ?_ (hk := ?hk50) (hm := ?hm51); (case hk50 => exact (by simp; omega)); (case hm51 => exact (by simp; omega))); refine Qlf ?_; refine Qf ?_
 (refine Z4 (op := .add) (r' := .int .i64 ((i + 1 : Nat) : Int)) (u := .int .i64 (i : Nat)) (v := .int .i64 ([v].length : Nat)) ?_ (hr' := by exact congrArg (Value.int .i64) a2) (hr := by exact Yk (by unfold Xw; omega)))
 (refine Zg (k := i + 1) ?_ (hk := ?hk52); (case hk52 => exact (by simp; omega))); refine Qf ?_; refine Z0o ?_; (refine Zh (m := xs.length - i) ?_ (hk := ?hk53) (hm := ?hm54); (case hk53 => exact (by simp; omega)); (case hm54 => exact (by simp; omega))); refine Qqf ?_
 (show AWP Tryz.prog E _ _ _; refine X1 ?_; exact (show Xd _ _ _ _ _ from ⟨_, St.le_refl _, ⟨rfl, trivial⟩, XZ ⟨rfl, congrArg (AObj.row _) (X3M hi (by rw [List.length_replicate]) hlt), trivial⟩⟩))
theorem XgV (xs : List (List D)) (i : Nat) (v : List D) (hz : ∀ x ∈ xs, x.length = 6) (hv : v.length = 6) (hi : i ≤ xs.length) (hx : xs.length ≤ 5000) :
  Con Tryz.prog 289 [(1, .row 6 xs)] [.own 1 xs.length, ai (i : Nat), .d (.sl 6 [v])] [(1, .dead), (110, .row 6 (xs.take i ++ v :: xs.drop i))] (.own 110 (xs.length + 1)) := by
 refine Xc (xs := [.own 110 (xs.length + 1)]) Tryz.func289 rfl Tryz.ntmps289 rfl rfl rfl (fun E => ?_)
 by_cases hin : i = xs.length
 case pos =>
  subst hin
  rw [List.take_length, List.drop_length]
  refine Qmf ?_
  show AWP Tryz.prog E _ _ _
  refine Xm (X33 6 1 110 rfl rfl (by simp) rfl rfl) ?_
  (show AWP Tryz.prog E _ _ _; refine X1 ?_; exact (show Xd _ _ _ _ _ from ⟨_, St.le_refl _, ⟨rfl, trivial⟩, XZ ⟨rfl, rfl, trivial⟩⟩))
 have hlt : i < xs.length := by omega
 refine X0r 0 1 120 rfl (by omega) rfl rfl rfl rfl (fun c k hc1 hc2 hc3 _ => ?_)
 have hT : (List.replicate k (none : Option D)).length = k := List.length_replicate
 generalize List.replicate k (none : Option D) = T at *
 have hlen : (List.map some xs.flatten ++ T).length = xs.length * 6 + k := by rw [List.length_append, hT]; exact congrArg (· + k) (Yc hz)
 have s1 : (if c = i then 0 else 0 + i * 6) = i * 6 := by rw [if_neg (by omega), Nat.zero_add]
 have s0 : (if c = 0 then 0 else 0 + 0 * 6) = 0 := by split <;> rfl
 have a1 : (xs.length : Int) + (([v].length : Nat) : Int) = ((xs.length + 1 : Nat) : Int) := rfl
 have a2 : (i : Int) + (([v].length : Nat) : Int) = ((i + 1 : Nat) : Int) := rfl
 have a3 : ((xs.length + 1 : Nat) : Int) - (i : Int) = ((xs.length + 1 - i : Nat) : Int) := by omega
 by_cases hroom : xs.length + 1 ≤ c
 case pos =>
  have hk : 6 ≤ k := by omega
  have s3 : (if c = i + 1 then 0 else 0 + (i + 1) * 6) = (i + 1) * 6 := by rw [if_neg (by omega), Nat.zero_add]
  have e1 := X4s (T := T) hz hlt
  have e2 := X3B (v := v) (T := T) hz hlt
  have e3 := X3n (T := T) hz hlt
  have e4 := X4g (v := v) (T := T) hz hv hi
  have cA : Uw (((List.map some xs.flatten ++ T).drop (i * 6)).take ((xs.length - i) * 6)) = true := by rw [show List.map some xs.flatten = fl xs from rfl, e3]; exact X13 _
  have lA := X42 (T := T) hz hlt (by omega)
  have lB := X4Y (T := T) hz hv hi (by omega)
  have hne : (List.map some xs.flatten ++ T) ≠ [] := fun q => by rw [q] at hlen; simp at hlen; omega
  have hok := X3P (i := i) hz hv
  have hln := X4O (v := v) hi
  refine QHa ?_; refine Z0h (lb := i) (hb := xs.length) (m := xs.length - i) (c' := c - i) (o' := i * 6) ?_ (ho' := by exact s1); refine Qnf ?_
  (refine Z4 (op := .add) (r' := .int .i64 ((xs.length + 1 : Nat) : Int)) (u := .int .i64 (xs.length : Nat)) (v := .int .i64 ([v].length : Nat)) ?_ (hr' := by exact congrArg (Value.int .i64) a1) (hr := by exact Yk (by unfold Xw; omega)))
  refine Qof ?_
  (refine Z4 (op := .add) (r' := .int .i64 ((xs.length + 1 : Nat) : Int)) (u := .int .i64 (xs.length : Nat)) (v := .int .i64 ([v].length : Nat)) ?_ (hr' := by exact congrArg (Value.int .i64) a1) (hr := by exact Yk (by unfold Xw; omega)))
  refine Qpf ?_
  (refine Z4 (op := .add) (r' := .int .i64 ((i + 1 : Nat) : Int)) (u := .int .i64 (i : Nat)) (v := .int .i64 ([v].length : Nat)) ?_ (hr' := by exact congrArg (Value.int .i64) a2) (hr := by exact Yk (by unfold Xw; omega)))
  refine Z0h (lb := i + 1) (hb := xs.length + 1) (m := xs.length - i) (c' := c - (i + 1)) (o' := (i + 1) * 6) ?_ (ho' := by exact s3)
  (refine Z0k ?_ (hys := ?hys61) (hcs := ?hcs62) (hf := by exact Tryz.func324) (h1 := by exact (by kernel_rfl)) (h2 := by exact (by kernel_rfl)) (h3 := by exact (by kernel_rfl)) (h4 := by exact (by kernel_rfl)); (case hys61 => exact (by simp)); (case hcs62 => exact hne))
  refine Zu ?_; refine QIa ?_; refine Qf ?_
  (refine Z4 (op := .add) (r' := .int .i64 ((i + 1 : Nat) : Int)) (u := .int .i64 (i : Nat)) (v := .int .i64 ([v].length : Nat)) ?_ (hr' := by exact congrArg (Value.int .i64) a2) (hr := by exact Yk (by unfold Xw; omega)))
  refine Z0h (lb := i + 1) (hb := xs.length + 1) (m := xs.length - i) (c' := c - (i + 1)) (o' := (i + 1) * 6) ?_ (ho' := by exact s3); refine Qf ?_; refine Z0h (lb := i) (hb := xs.length + 1) (m := xs.length + 1 - i) (c' := c - i) (o' := i * 6) ?_ (ho' := by exact s1); refine Z0l (m := xs.length - i) (cs' := X06 6 i xs T) ?_ (hc := by exact cA) (hcs := by exact e1); refine Qlf ?_; refine Z1 ?_; refine Z0h (lb := i) (hb := xs.length + 1) (m := xs.length + 1 - i) (c' := c - i) (o' := i * 6) ?_ (ho' := by exact s1); refine Z1 ?_; refine Z0m (m := 1) (cs' := VT 6 i xs v T) ?_ (hcs := by exact e2); refine Qqf ?_
  show AWP Tryz.prog E _ _ _
  refine Qrf ?_
  (show AWP Tryz.prog E _ _ _; refine X1 ?_; exact (show Xd _ _ _ _ _ from ⟨_, St.le_refl _, ⟨rfl, trivial⟩, XZ ⟨rfl, rfl, trivial⟩⟩))
 have e5 := X1h hz T hi
 have e6 : (List.map some xs.flatten ++ T).take (xs.length * 6) = xs.flatten.map some := List.take_left' (Yc hz)
 have l5 : (xs.take i).length = i := by rw [List.length_take]; omega
 refine QHa ?_; refine Z0h (lb := i) (hb := xs.length) (m := xs.length - i) (c' := c - i) (o' := i * 6) ?_ (ho' := by exact s1); refine Qnf ?_
 (refine Z4 (op := .add) (r' := .int .i64 ((xs.length + 1 : Nat) : Int)) (u := .int .i64 (xs.length : Nat)) (v := .int .i64 ([v].length : Nat)) ?_ (hr' := by exact congrArg (Value.int .i64) a1) (hr := by exact Yk (by unfold Xw; omega)))
 refine Qsf ?_
 (refine Z4 (op := .add) (r' := .int .i64 ((xs.length + 1 : Nat) : Int)) (u := .int .i64 (xs.length : Nat)) (v := .int .i64 ([v].length : Nat)) ?_ (hr' := by exact congrArg (Value.int .i64) a1) (hr := by exact Yk (by unfold Xw; omega)))
 refine Z1 ?_
 (refine Z4 (op := .sub) (r' := .int .i64 ((xs.length + 1 - i : Nat) : Int)) (u := .int .i64 ((xs.length + 1 : Nat) : Int)) (v := .int .i64 (i : Nat)) ?_ (hr' := by exact congrArg (Value.int .i64) a3) (hr := by exact XU (by unfold Xw; omega)))
 (refine Z0n (γ := 110) (n' := xs.length + 1) (xs := xs.take i) ?_ (hxs := ?hxs65) (hxl := ?hxl66) (hxz := by exact Ur hz i); (case hxs65 => exact e5); (case hxl66 => exact l5)); refine Qb ?_; refine X0 ?_
 show AWP Tryz.prog E _ _ _
 refine Qtf ?_; (refine Zg (k := i) ?_ (hk := ?hk69); (case hk69 => exact (by simp; omega))); refine Z1 ?_; (refine Zh (m := 1) ?_ (hk := ?hk70) (hm := ?hm71); (case hk70 => exact (by simp; omega)); (case hm71 => exact (by simp; omega))); refine Qlf ?_; refine Qf ?_
 (refine Z4 (op := .add) (r' := .int .i64 ((i + 1 : Nat) : Int)) (u := .int .i64 (i : Nat)) (v := .int .i64 ([v].length : Nat)) ?_ (hr' := by exact congrArg (Value.int .i64) a2) (hr := by exact Yk (by unfold Xw; omega)))
 (refine Zg (k := i + 1) ?_ (hk := ?hk72); (case hk72 => exact (by simp; omega))); refine Qf ?_; refine Z0o ?_; (refine Zh (m := xs.length - i) ?_ (hk := ?hk73) (hm := ?hm74); (case hk73 => exact (by simp; omega)); (case hm74 => exact (by simp; omega))); refine Qqf ?_
 (show AWP Tryz.prog E _ _ _; refine X1 ?_; exact (show Xd _ _ _ _ _ from ⟨_, St.le_refl _, ⟨rfl, trivial⟩, XZ ⟨rfl, congrArg (AObj.row _) (X3M hi (by rw [List.length_replicate]) hlt), trivial⟩⟩))
theorem XdC (xs : List (List D)) (i : Nat) (hz : ∀ x ∈ xs, x.length = 3) (hi : i < xs.length) (hx : xs.length ≤ 5000) :
  Con Tryz.prog 230 [(1, .row 3 xs)] [.own 1 xs.length, ai (i : Nat), ai ((i + 1 : Nat) : Int)] [(1, .dead), (110, .row 3 (xs.take i ++ xs.drop (i + 1)))] (.own 110 (xs.length - 1)) := by
 refine Xc (xs := [.own 110 (xs.length - 1)]) Tryz.func230 rfl Tryz.ntmps230 rfl rfl rfl (fun E => ?_)
 refine X0r 0 1 120 rfl (by omega) rfl rfl rfl rfl (fun c k hc1 hc2 hc3 _ => ?_)
 have hT : (List.replicate k (none : Option D)).length = k := List.length_replicate
 generalize List.replicate k (none : Option D) = T at *
 have hlen : (List.map some xs.flatten ++ T).length = xs.length * 3 + k := by rw [List.length_append, hT]; exact congrArg (· + k) (Yc hz)
 have s0 : (if c = 0 then 0 else 0 + 0 * 3) = 0 := by split <;> rfl
 obtain ⟨off, ho⟩ : ∃ off, (if c = i + 1 then 0 else 0 + (i + 1) * 3) = off := ⟨_, rfl⟩
 have s5 : (if c = xs.length - 1 then 0 else 0 + (xs.length - 1) * 3) = (xs.length - 1) * 3 := by rw [if_neg (by omega), Nat.zero_add]
 have e1 := X4o (T := T) hz hi hc1 ho
 have e2 := X2Q (T := T) hz hi hc1 ho
 have e3 := X4b (T := T) hi hc1 ho hz
 have lA := X4a (T := T) hz hi
 have cA : Uw (((List.map some xs.flatten ++ T).drop off).take ((xs.length - (i + 1)) * 3)) = true := by rw [show List.map some xs.flatten = fl xs from rfl, e2]; exact X13 _
 have e4 := fun W V => X3Q hz hi W V
 have hln := X4A hi
 have hok : ∀ x ∈ xs.take i ++ xs.drop (i + 1), x.length = 3 := fun x hx => (List.mem_append.1 hx).elim (Ur hz i x) (Vy hz _ x)
 generalize hdA : VM 3 i xs ((fl xs ++ T).drop (i * 3 + (xs.length - (i + 1)) * 3)) = A at *
 have e4 := fun V => (hdA ▸ e4 _ V : (A.take ((xs.length - 1) * 3) ++ V).take ((xs.length - 1) * 3) = _)
 clear hdA
 refine Qe ?_; refine QX ?_; refine Z0i ?_; refine Z0p (lb := i) (hb := i + 1) (mb := xs.length) (sz := 3) ?_; refine Quf ?_; (refine Z0q (n' := xs.length - 1) (cs' := A) ?_ (hc := ?hc81) (hcs := ?hcs82); (case hc81 => exact cA); (case hcs82 => exact e1)); refine QR ?_; refine Z0i ?_; refine Z1 ?_; refine Z0h (lb := xs.length - 1) (hb := xs.length) (m := 1) (c' := c - (xs.length - 1)) (o' := (xs.length - 1) * 3) ?_ (ho' := by exact s5); (refine Z0r (cs' := A.take ((xs.length - 1) * 3) ++ (List.replicate (1 * 3) none ++ A.drop ((xs.length - 1) * 3 + 1 * 3))) (sz := 3) ?_ (hcs := ?hcs83); (case hcs83 => exact List.append_assoc _ _ _)); refine Qqf ?_
 show AWP Tryz.prog E _ _ _
 refine Qvf ?_
 (show AWP Tryz.prog E _ _ _; refine X1 ?_; exact (show Xd _ _ _ _ _ from ⟨_, St.le_refl _, ⟨rfl, trivial⟩, XZ ⟨rfl, rfl, trivial⟩⟩))
theorem XcC (xs : List (List D)) (i : Nat) (hz : ∀ x ∈ xs, x.length = 5) (hi : i < xs.length) (hx : xs.length ≤ 5000) :
  Con Tryz.prog 237 [(1, .row 5 xs)] [.own 1 xs.length, ai (i : Nat), ai ((i + 1 : Nat) : Int)] [(1, .dead), (110, .row 5 (xs.take i ++ xs.drop (i + 1)))] (.own 110 (xs.length - 1)) := by
 refine Xc (xs := [.own 110 (xs.length - 1)]) Tryz.func237 rfl Tryz.ntmps237 rfl rfl rfl (fun E => ?_)
 refine X0r 0 1 120 rfl (by omega) rfl rfl rfl rfl (fun c k hc1 hc2 hc3 _ => ?_)
 have hT : (List.replicate k (none : Option D)).length = k := List.length_replicate
 generalize List.replicate k (none : Option D) = T at *
 have hlen : (List.map some xs.flatten ++ T).length = xs.length * 5 + k := by rw [List.length_append, hT]; exact congrArg (· + k) (Yc hz)
 have s0 : (if c = 0 then 0 else 0 + 0 * 5) = 0 := by split <;> rfl
 obtain ⟨off, ho⟩ : ∃ off, (if c = i + 1 then 0 else 0 + (i + 1) * 5) = off := ⟨_, rfl⟩
 have s5 : (if c = xs.length - 1 then 0 else 0 + (xs.length - 1) * 5) = (xs.length - 1) * 5 := by rw [if_neg (by omega), Nat.zero_add]
 have e1 := X4o (T := T) hz hi hc1 ho
 have e2 := X2Q (T := T) hz hi hc1 ho
 have e3 := X4b (T := T) hi hc1 ho hz
 have lA := X4a (T := T) hz hi
 have cA : Uw (((List.map some xs.flatten ++ T).drop off).take ((xs.length - (i + 1)) * 5)) = true := by rw [show List.map some xs.flatten = fl xs from rfl, e2]; exact X13 _
 have e4 := fun W V => X3Q hz hi W V
 have hln := X4A hi
 have hok : ∀ x ∈ xs.take i ++ xs.drop (i + 1), x.length = 5 := fun x hx => (List.mem_append.1 hx).elim (Ur hz i x) (Vy hz _ x)
 generalize hdA : VM 5 i xs ((fl xs ++ T).drop (i * 5 + (xs.length - (i + 1)) * 5)) = A at *
 have e4 := fun V => (hdA ▸ e4 _ V : (A.take ((xs.length - 1) * 5) ++ V).take ((xs.length - 1) * 5) = _)
 clear hdA
 refine Qe ?_; refine QX ?_; refine Z0i ?_; refine Z0p (lb := i) (hb := i + 1) (mb := xs.length) (sz := 5) ?_; refine Quf ?_; (refine Z0q (n' := xs.length - 1) (cs' := A) ?_ (hc := ?hc87) (hcs := ?hcs88); (case hc87 => exact cA); (case hcs88 => exact e1)); refine QR ?_; refine Z0i ?_; refine Z1 ?_; refine Z0h (lb := xs.length - 1) (hb := xs.length) (m := 1) (c' := c - (xs.length - 1)) (o' := (xs.length - 1) * 5) ?_ (ho' := by exact s5); (refine Z0r (cs' := A.take ((xs.length - 1) * 5) ++ (List.replicate (1 * 5) none ++ A.drop ((xs.length - 1) * 5 + 1 * 5))) (sz := 5) ?_ (hcs := ?hcs89); (case hcs89 => exact List.append_assoc _ _ _)); refine Qqf ?_
 show AWP Tryz.prog E _ _ _
 refine Qvf ?_
 (show AWP Tryz.prog E _ _ _; refine X1 ?_; exact (show Xd _ _ _ _ _ from ⟨_, St.le_refl _, ⟨rfl, trivial⟩, XZ ⟨rfl, rfl, trivial⟩⟩))
theorem Xdc (xs : List (List D)) (i : Nat) (hz : ∀ x ∈ xs, x.length = 1) (hi : i < xs.length) (hx : xs.length ≤ 5000) :
  Con Tryz.prog 233 [(1, .row 1 xs)] [.own 1 xs.length, ai (i : Nat), ai ((i + 1 : Nat) : Int)] [(1, .dead), (110, .row 1 (xs.take i ++ xs.drop (i + 1)))] (.own 110 (xs.length - 1)) := by
 refine Xc (xs := [.own 110 (xs.length - 1)]) Tryz.func233 rfl Tryz.ntmps233 rfl rfl rfl (fun E => ?_)
 refine X0r 0 1 120 rfl (by omega) rfl rfl rfl rfl (fun c k hc1 hc2 hc3 _ => ?_)
 have hT : (List.replicate k (none : Option D)).length = k := List.length_replicate
 generalize List.replicate k (none : Option D) = T at *
 have hlen : (List.map some xs.flatten ++ T).length = xs.length * 1 + k := by rw [List.length_append, hT]; exact congrArg (· + k) (Yc hz)
 have s0 : (if c = 0 then 0 else 0 + 0 * 1) = 0 := by split <;> rfl
 obtain ⟨off, ho⟩ : ∃ off, (if c = i + 1 then 0 else 0 + (i + 1) * 1) = off := ⟨_, rfl⟩
 have s5 : (if c = xs.length - 1 then 0 else 0 + (xs.length - 1) * 1) = (xs.length - 1) * 1 := by rw [if_neg (by omega), Nat.zero_add]
 have e1 := X4o (T := T) hz hi hc1 ho
 have e2 := X2Q (T := T) hz hi hc1 ho
 have e3 := X4b (T := T) hi hc1 ho hz
 have lA := X4a (T := T) hz hi
 have cA : Uw (((List.map some xs.flatten ++ T).drop off).take ((xs.length - (i + 1)) * 1)) = true := by rw [show List.map some xs.flatten = fl xs from rfl, e2]; exact X13 _
 have e4 := fun W V => X3Q hz hi W V
 have hln := X4A hi
 have hok : ∀ x ∈ xs.take i ++ xs.drop (i + 1), x.length = 1 := fun x hx => (List.mem_append.1 hx).elim (Ur hz i x) (Vy hz _ x)
 generalize hdA : VM 1 i xs ((fl xs ++ T).drop (i * 1 + (xs.length - (i + 1)) * 1)) = A at *
 have e4 := fun V => (hdA ▸ e4 _ V : (A.take ((xs.length - 1) * 1) ++ V).take ((xs.length - 1) * 1) = _)
 clear hdA
 refine Qe ?_; refine QX ?_; refine Z0i ?_; refine Z0p (lb := i) (hb := i + 1) (mb := xs.length) (sz := 1) ?_; refine Quf ?_; (refine Z0q (n' := xs.length - 1) (cs' := A) ?_ (hc := ?hc93) (hcs := ?hcs94); (case hc93 => exact cA); (case hcs94 => exact e1)); refine QR ?_; refine Z0i ?_; refine Z1 ?_; refine Z0h (lb := xs.length - 1) (hb := xs.length) (m := 1) (c' := c - (xs.length - 1)) (o' := (xs.length - 1) * 1) ?_ (ho' := by exact s5); (refine Z0r (cs' := A.take ((xs.length - 1) * 1) ++ (List.replicate (1 * 1) none ++ A.drop ((xs.length - 1) * 1 + 1 * 1))) (sz := 1) ?_ (hcs := ?hcs95); (case hcs95 => exact List.append_assoc _ _ _)); refine Qqf ?_
 show AWP Tryz.prog E _ _ _
 refine Qvf ?_
 (show AWP Tryz.prog E _ _ _; refine X1 ?_; exact (show Xd _ _ _ _ _ from ⟨_, St.le_refl _, ⟨rfl, trivial⟩, XZ ⟨rfl, rfl, trivial⟩⟩))
theorem Xhj (xs : List (List D)) (i : Nat) (hz : ∀ x ∈ xs, x.length = 6) (hi : i < xs.length) (hx : xs.length ≤ 5000) :
  Con Tryz.prog 288 [(1, .row 6 xs)] [.own 1 xs.length, ai (i : Nat), ai ((i + 1 : Nat) : Int)] [(1, .dead), (110, .row 6 (xs.take i ++ xs.drop (i + 1)))] (.own 110 (xs.length - 1)) := by
 refine Xc (xs := [.own 110 (xs.length - 1)]) Tryz.func288 rfl Tryz.ntmps288 rfl rfl rfl (fun E => ?_)
 refine X0r 0 1 120 rfl (by omega) rfl rfl rfl rfl (fun c k hc1 hc2 hc3 _ => ?_)
 have hT : (List.replicate k (none : Option D)).length = k := List.length_replicate
 generalize List.replicate k (none : Option D) = T at *
 have hlen : (List.map some xs.flatten ++ T).length = xs.length * 6 + k := by rw [List.length_append, hT]; exact congrArg (· + k) (Yc hz)
 have s0 : (if c = 0 then 0 else 0 + 0 * 6) = 0 := by split <;> rfl
 obtain ⟨off, ho⟩ : ∃ off, (if c = i + 1 then 0 else 0 + (i + 1) * 6) = off := ⟨_, rfl⟩
 have s5 : (if c = xs.length - 1 then 0 else 0 + (xs.length - 1) * 6) = (xs.length - 1) * 6 := by rw [if_neg (by omega), Nat.zero_add]
 have e1 := X4o (T := T) hz hi hc1 ho
 have e2 := X2Q (T := T) hz hi hc1 ho
 have e3 := X4b (T := T) hi hc1 ho hz
 have lA := X4a (T := T) hz hi
 have cA : Uw (((List.map some xs.flatten ++ T).drop off).take ((xs.length - (i + 1)) * 6)) = true := by rw [show List.map some xs.flatten = fl xs from rfl, e2]; exact X13 _
 have e4 := fun W V => X3Q hz hi W V
 have hln := X4A hi
 have hok : ∀ x ∈ xs.take i ++ xs.drop (i + 1), x.length = 6 := fun x hx => (List.mem_append.1 hx).elim (Ur hz i x) (Vy hz _ x)
 generalize hdA : VM 6 i xs ((fl xs ++ T).drop (i * 6 + (xs.length - (i + 1)) * 6)) = A at *
 have e4 := fun V => (hdA ▸ e4 _ V : (A.take ((xs.length - 1) * 6) ++ V).take ((xs.length - 1) * 6) = _)
 clear hdA
 refine Qe ?_; refine QX ?_; refine Z0i ?_; refine Z0p (lb := i) (hb := i + 1) (mb := xs.length) (sz := 6) ?_; refine Quf ?_; (refine Z0q (n' := xs.length - 1) (cs' := A) ?_ (hc := ?hc99) (hcs := ?hcs100); (case hc99 => exact cA); (case hcs100 => exact e1)); refine QR ?_; refine Z0i ?_; refine Z1 ?_; refine Z0h (lb := xs.length - 1) (hb := xs.length) (m := 1) (c' := c - (xs.length - 1)) (o' := (xs.length - 1) * 6) ?_ (ho' := by exact s5); (refine Z0r (cs' := A.take ((xs.length - 1) * 6) ++ (List.replicate (1 * 6) none ++ A.drop ((xs.length - 1) * 6 + 1 * 6))) (sz := 6) ?_ (hcs := ?hcs101); (case hcs101 => exact List.append_assoc _ _ _)); refine Qqf ?_
 show AWP Tryz.prog E _ _ _
 refine Qvf ?_
 (show AWP Tryz.prog E _ _ _; refine X1 ?_; exact (show Xd _ _ _ _ _ from ⟨_, St.le_refl _, ⟨rfl, trivial⟩, XZ ⟨rfl, rfl, trivial⟩⟩))
end Go.Fw
