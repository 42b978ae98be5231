/- Order of the reference, for equal arguments. -/
import Derived.Test.YtpfldfkhgplcgaaGreatDoorK17
set_option maxHeartbeats 8000000
namespace Go.Fw
open Go Go.Proofs
set_option maxRecDepth 100000
set_option linter.unusedVariables false
set_option linter.unusedSimpArgs false
def X77 (b : Bool) (k n d : Int) : Int × Int × Bool := if b = false then (0, 0, false) else if k = 2 then (n, 1, true) else if k = 3 then (n, d, true) else (0, 0, false)
def X0i (v : Val) : Int × Int × Bool := X77 (X8 8 v) v.kind v.n v.d
theorem XbM (v : Val) (hok : Yd v) : Con Tryz.prog 144 [] [Xi v] [] (.tup [X21 (X0i v).1 (X0i v).2.1, ab (X0i v).2.2]) := by
 have hv := X28 v hok
 refine Xb (xs := [X21 (X0i v).1 (X0i v).2.1, ab (X0i v).2.2]) Tryz.func144 rfl Tryz.ntmps144 rfl rfl rfl (fun E => ?_)
 unfold X0i
 generalize X8 8 v = bb at *
 obtain ⟨k, n, d, s, l⟩ := v
 simp only [Xi, Val.kind, Val.n, Val.d] at hv ⊢
 unfold X77
 cases bb with
 | false =>
  rw [if_pos rfl]
  refine Qtc ?_; refine Z9 (hcon := hv) ?_; refine Zu ?_; refine Quc ?_; exact Qvc
 | true =>
  rw [if_neg (by simp)]
  by_cases h2 : k = 2
  ·rw [if_pos h2]
   refine Qtc ?_; refine Z9 (hcon := hv) ?_; refine Qgb ?_; refine Qyb ?_; refine Zl ?_; refine Qh ?_; refine QGa ?_; refine Zx ?_; refine Qma ?_; exact Qvc
  rw [if_neg h2]
  by_cases h3 : k = 3
  ·rw [if_pos h3]
   repeat first | refine X0 ?_ | (refine JR ?_; (repeat first | refine Z0 ?_ | refine ZB ?_ | refine ZC ?_ | refine ZL ?_ | refine Zl ?_ | refine Zu ?_ | refine Zw (γ := 101) ?_ | refine ZA (γ := 100) ?_ | refine Zy ?_ | refine Zx ?_ | refine Z9 (hcon := hv) ?_); refine JD ?_) | refine JT ?_ | refine JF ?_ | refine X4 ?_
   exact Qvc
  rw [if_neg h3]
  repeat first | refine X0 ?_ | (refine JR ?_; (repeat first | refine Z0 ?_ | refine ZB ?_ | refine ZC ?_ | refine ZL ?_ | refine Zl ?_ | refine Zu ?_ | refine Zw (γ := 101) ?_ | refine ZA (γ := 100) ?_ | refine Zy ?_ | refine Zx ?_ | refine Z9 (hcon := hv) ?_); refine JD ?_) | refine JF ?_ | refine X4 ?_
  exact Qvc
def X2y (v : Val) : Prop := Con Tryz.prog 107 [] [Xi v, Xi v] [] (ai 0)
theorem XbB (l : List Val) (hl : l.length ≤ 9223372036854775807) (ih : ∀ x ∈ l, X2y x) : Con Tryz.prog 163 [] [.d (.sl 5 (Xy l)), .d (.sl 5 (Xy l))] [] (ai 0) := by
 refine Xb (xs := [ai 0]) Tryz.func163 rfl Tryz.ntmps163 rfl rfl rfl (fun E => ?_)
 have hlen := Va l
 have hi := X3u (Xy l).length
 refine Qib ?_
 refine Xu (fun i : Nat => i ≤ l.length) (fun i => ⟨36, [(0, .d (.sl 5 (Xy l))), (1, .d (.sl 5 (Xy l))), (5, ai i)], []⟩) (fun i => l.length - i) 0 (by omega)
  (Xa rfl ⟨JL, JL, JL, trivial⟩ trivial) ?_
 intro i hi2
 by_cases hil : i < l.length
 case neg =>
  have hn : ¬ (i : Int) < (Xy l).length := by omega
  refine Qjb ?_; refine Qob ?_; refine Qwc ?_; refine Ql ?_; refine Qf ?_; refine Zd ?_; refine Z1 ?_; refine Zd ?_; refine Z9 (hcon := hi) ?_; exact QM
 obtain ⟨x, hx⟩ := Xv (l := l) hil
 have hxc : (Xy l)[i]? = some (Vb x) := by rw [X1A]; exact YF hx
 have hc := ih x (List.mem_of_getElem? hx)
 unfold X2y at hc
 have hn : (i : Int) < (Xy l).length := by omega
 obtain ⟨k, n, d, s, q⟩ := x
 simp only [Xi, Vb] at hc hxc
 repeat first | refine X0 ?_ | (refine JR ?_; (repeat first | refine Z1 ?_ | refine Z0 ?_ | refine ZK ?_ | refine Zd ?_ | refine Z8 ?_ | refine Zv ?_ | refine Zb ?_ | refine Zn ?_ | refine Zj ?_ | refine Z9 (hcon := hc) ?_); refine JD ?_) | refine JT ?_ | refine JF ?_ | refine X5 ?_ | refine X4 ?_
 exact ⟨i + 1, by omega, by omega, Xa rfl ⟨JL, JL, JL, trivial⟩ trivial⟩
theorem Xha (v : Val) (hl : v.l.length ≤ 9223372036854775807) (ih : ∀ x ∈ v.l, X2y x) : Con Tryz.prog 141 [] [Xi v, Xi v] [] (ai 0) := by
 obtain ⟨k, n, d, s, l⟩ := v
 simp only [Val.l] at hl ih
 have hl := XbB l hl ih
 have hk := X3u k
 have hn := X3u n
 have hd := X3u d
 have hs := Xff s
 refine Xb (xs := [ai 0]) Tryz.func141 rfl Tryz.ntmps141 rfl rfl rfl (fun E => ?_)
 simp only [Xi]
 repeat first | refine X0 ?_ | (refine JR ?_; (repeat first | refine Z1 ?_ | refine Z0 ?_ | refine ZB ?_ | refine ZC ?_ | refine Zv ?_ | refine ZA (γ := 100) ?_ | refine ZA (γ := 101) ?_ | refine Z9 (hcon := hk) ?_ | refine Z9 (hcon := hn) ?_ | refine Z9 (hcon := hd) ?_ | refine Z9 (hcon := hs) ?_ | refine Z9 (hcon := hl) ?_); refine JD ?_) | refine JF ?_ | refine X4 ?_
 exact QL
theorem XeG (v : Val) (hok : Yd v) (hf : Con Tryz.prog 141 [] [Xi v, Xi v] [] (ai 0)) : X2y v := by
 have hv := X28 v hok
 have hn := XbM v hok
 have hcl := X5x v.kind
 have hi := X3u (Vj v.kind)
 have hcmp := Xey (X0i v).1 (X0i v).2.1
 refine Xb (xs := [ai 0]) Tryz.func107 rfl Tryz.ntmps107 rfl rfl rfl (fun E => ?_)
 generalize X0i v = u at *
 generalize X8 8 v = bb at *
 obtain ⟨k, n, d, s, l⟩ := v
 obtain ⟨p, q, is⟩ := u
 simp only [Xi, Val.kind] at hv hn hcl hi hcmp hf ⊢
 generalize Vj k = c at *
 cases bb with
 | false =>
  repeat first | refine X0 ?_ | (refine JR ?_; (repeat first | refine Z1 ?_ | refine Z0 ?_ | refine ZL ?_ | refine Z00 ?_ | refine Zu ?_ | refine ZA (γ := 100) ?_ | refine ZA (γ := 101) ?_ | refine Z9 (hcon := hv) ?_ | refine Z9 (hcon := hf) ?_); refine JD ?_) | refine JT ?_ | refine JF ?_ | refine X4 ?_
  exact QL
 | true =>
  cases is with
  | true =>
   repeat first | refine X0 ?_ | (refine JR ?_; (repeat first | refine Z1 ?_ | refine Z0 ?_ | refine ZB ?_ | refine ZC ?_ | refine ZL ?_ | refine Zv ?_ | refine Z00 ?_ | refine Zu ?_ | refine Zw (γ := 102) ?_ | refine Zw (γ := 103) ?_ | refine ZA (γ := 100) ?_ | refine ZA (γ := 101) ?_ | refine Zy ?_ | refine ZF ?_ | refine Z9 (hcon := hv) ?_ | refine Z9 (hcon := hcl) ?_ | refine Z9 (hcon := hi) ?_ | refine Z9 (hcon := hn) ?_ | refine Z9 (hcon := hcmp) ?_); refine JD ?_) | refine JT ?_ | refine JF ?_ | refine X4 ?_
   exact QL
  | false =>
   repeat first | refine X0 ?_ | (refine JR ?_; (repeat first | refine Z1 ?_ | refine Z0 ?_ | refine ZB ?_ | refine ZC ?_ | refine ZL ?_ | refine Zv ?_ | refine Z00 ?_ | refine Zu ?_ | refine Zw (γ := 102) ?_ | refine Zw (γ := 103) ?_ | refine ZA (γ := 100) ?_ | refine ZA (γ := 101) ?_ | refine Zy ?_ | refine ZF ?_ | refine Z9 (hcon := hv) ?_ | refine Z9 (hcon := hcl) ?_ | refine Z9 (hcon := hi) ?_ | refine Z9 (hcon := hn) ?_ | refine Z9 (hcon := hf) ?_); refine JD ?_) | refine JF ?_ | refine X4 ?_
   exact QL
theorem X5I : ∀ v : Val, Yd v → X2y v
 | .mk k n d s l => fun hok => XeG (.mk k n d s l) hok (Xha (.mk k n d s l) (by rw [Yd] at hok; exact hok.2.1) fun x hx => X5I x (X5j (by rw [Yd] at hok; exact hok.2.2) hx))
termination_by v => SizeOf.sizeOf v
decreasing_by
 have h1 := List.sizeOf_lt_of_mem (show x ∈ l from hx)
 simp only [Val.mk.sizeOf_spec]
 omega
theorem Xf3 (v : Val) : Con Tryz.prog 114 [] [Xi v] [] (ab (VW v)) := by
 refine Xb (xs := [ab (VW v)]) Tryz.func114 rfl Tryz.ntmps114 rfl rfl rfl (fun E => ?_)
 have hv := VG v
 unfold VW
 generalize X8 8 v = b at *
 obtain ⟨k, n, d, s, l⟩ := v
 simp only [Xi, Val.kind] at hv ⊢
 unfold X4b
 by_cases h1 : k = 1
 ·rw [decide_eq_true (by omega), Bool.true_and]
  cases b with
  | true =>
   refine QHa ?_; refine Zl ?_; refine QOa ?_; refine Qxc ?_; exact QS
  | false =>
   refine QHa ?_; refine Zl ?_; refine QOa ?_; refine Qxc ?_; exact Qyc
 by_cases h2 : k = 2
 ·rw [decide_eq_true (by omega), Bool.true_and]
  cases b with
  | true =>
   refine QHa ?_; refine Zl ?_; refine Qzc ?_; refine Zq ?_; refine Qxc ?_; exact QS
  | false =>
   refine QHa ?_; refine Zl ?_; refine Qzc ?_; refine Zq ?_; refine Qxc ?_; exact Qyc
 by_cases h4 : k = 4
 ·rw [decide_eq_true (by omega), Bool.true_and]
  cases b with
  | true =>
   refine QBc ?_; refine Z1 ?_; refine ZL ?_; refine Z9 (hcon := hv) ?_; exact QS
  | false =>
   refine QBc ?_; refine Z1 ?_; refine ZL ?_; refine Z9 (hcon := hv) ?_; exact Qyc
 rw [decide_eq_false (by omega), Bool.false_and]
 refine QBc ?_; refine QP ?_; exact QV
end Go.Fw
