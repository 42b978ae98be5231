/- Order of the reference, for equal arguments. -/
import Derived.Test.YtpfldfkhgplcgaaGreatDoorM17
set_option maxHeartbeats 8000000
namespace Go.Fw
open Go Go.Proofs
set_option maxRecDepth 100000
set_option linter.unusedVariables false
set_option linter.unusedSimpArgs false
def X7z (b : Bool) (k n d : Int) : Int × Int × Bool := if b = false then (0, 0, false) else if k = 2 then (n, 1, true) else if k = 3 then (n, d, true) else (0, 0, false)
def X0B (v : Val) : Int × Int × Bool := X7z (X8 8 v) v.kind v.n v.d
theorem XgH (v : Val) (hok : YD v) : Con Tryz.prog 144 [] [Xo v] [] (.tup [X2y (X0B v).1 (X0B v).2.1, ab (X0B v).2.2]) := by
 have hv := X2V v hok
 refine Xa (xs := [X2y (X0B v).1 (X0B v).2.1, ab (X0B v).2.2]) Tryz.func144 rfl Tryz.ntmps144 rfl rfl rfl (fun E => ?_)
 unfold X0B
 generalize X8 8 v = bb at *
 obtain ⟨k, n, d, s, l⟩ := v
 simp only [Xo, Val.kind, Val.n, Val.d] at hv ⊢
 unfold X7z
 cases bb with
 | false =>
  rw [if_pos rfl]
  refine Qsc ?_; refine Z9 (hcon := hv) ?_; refine Zu ?_; refine Qtc ?_; exact Quc
 | true =>
  rw [if_neg (by simp)]
  by_cases h2 : k = 2
  ·rw [if_pos h2]
   refine Qsc ?_; refine Z9 (hcon := hv) ?_; refine Qhb ?_; refine Qzb ?_; refine Zl ?_; refine Qh ?_; refine QIa ?_; refine Zx ?_; refine Qna ?_; exact Quc
  rw [if_neg h2]
  by_cases h3 : k = 3
  ·rw [if_pos h3]
   repeat first | refine X0 ?_ | (refine JR ?_; (repeat first | refine Z0 ?_ | refine ZB ?_ | refine ZC ?_ | refine ZL ?_ | refine Zl ?_ | refine Zu ?_ | refine Zw (γ := 101) ?_ | refine ZA (γ := 100) ?_ | refine Zy ?_ | refine Zx ?_ | refine Z9 (hcon := hv) ?_); refine JD ?_) | refine JT ?_ | refine JF ?_ | refine X4 ?_
   exact Quc
  rw [if_neg h3]
  repeat first | refine X0 ?_ | (refine JR ?_; (repeat first | refine Z0 ?_ | refine ZB ?_ | refine ZC ?_ | refine ZL ?_ | refine Zl ?_ | refine Zu ?_ | refine Zw (γ := 101) ?_ | refine ZA (γ := 100) ?_ | refine Zy ?_ | refine Zx ?_ | refine Z9 (hcon := hv) ?_); refine JD ?_) | refine JF ?_ | refine X4 ?_
  exact Quc
def X2P (v : Val) : Prop := Con Tryz.prog 107 [] [Xo v, Xo v] [] (ai 0)
theorem XdU (l : List Val) (hl : l.length ≤ 9223372036854775807) (ih : ∀ x ∈ l, X2P x) : Con Tryz.prog 163 [] [.d (.sl 5 (XF l)), .d (.sl 5 (XF l))] [] (ai 0) := by
 refine Xa (xs := [ai 0]) Tryz.func163 rfl Tryz.ntmps163 rfl rfl rfl (fun E => ?_)
 have hlen := Vr l
 have hi := X3b (XF l).length
 refine Qjb ?_
 refine Xu (fun i : Nat => i ≤ l.length) (fun i => ⟨36, [(0, .d (.sl 5 (XF l))), (1, .d (.sl 5 (XF l))), (5, ai i)], []⟩) (fun i => l.length - i) 0 (by omega)
  (X9 rfl ⟨JL, JL, JL, trivial⟩ trivial) ?_
 intro i hi2
 by_cases hil : i < l.length
 case neg =>
  have hn : ¬ (i : Int) < (XF l).length := by omega
  refine Qkb ?_; refine Qob ?_; refine Qvc ?_; refine Qm ?_; refine Qf ?_; refine Zd ?_; refine Z1 ?_; refine Zd ?_; refine Z9 (hcon := hi) ?_; exact QO
 obtain ⟨x, hx⟩ := Xx (l := l) hil
 have hxc : (XF l)[i]? = some (V5 x) := by rw [X25]; exact YR hx
 have hc := ih x (List.mem_of_getElem? hx)
 unfold X2P at hc
 have hn : (i : Int) < (XF l).length := by omega
 obtain ⟨k, n, d, s, q⟩ := x
 simp only [Xo, V5] at hc hxc
 repeat first | refine X0 ?_ | (refine JR ?_; (repeat first | refine Z1 ?_ | refine Z0 ?_ | refine ZK ?_ | refine Zd ?_ | refine Z8 ?_ | refine Zv ?_ | refine Zb ?_ | refine Zn ?_ | refine Zj ?_ | refine Z9 (hcon := hc) ?_); refine JD ?_) | refine JT ?_ | refine JF ?_ | refine X5 ?_ | refine X4 ?_
 exact ⟨i + 1, by omega, by omega, X9 rfl ⟨JL, JL, JL, trivial⟩ trivial⟩
theorem XeA (v : Val) (hl : v.l.length ≤ 9223372036854775807) (ih : ∀ x ∈ v.l, X2P x) : Con Tryz.prog 141 [] [Xo v, Xo v] [] (ai 0) := by
 obtain ⟨k, n, d, s, l⟩ := v
 simp only [Val.l] at hl ih
 have hl := XdU l hl ih
 have hk := X3b k
 have hn := X3b n
 have hd := X3b d
 have hs := XgC s
 refine Xa (xs := [ai 0]) Tryz.func141 rfl Tryz.ntmps141 rfl rfl rfl (fun E => ?_)
 simp only [Xo]
 repeat first | refine X0 ?_ | (refine JR ?_; (repeat first | refine Z1 ?_ | refine Z0 ?_ | refine ZB ?_ | refine ZC ?_ | refine Zv ?_ | refine ZA (γ := 100) ?_ | refine ZA (γ := 101) ?_ | refine Z9 (hcon := hk) ?_ | refine Z9 (hcon := hn) ?_ | refine Z9 (hcon := hd) ?_ | refine Z9 (hcon := hs) ?_ | refine Z9 (hcon := hl) ?_); refine JD ?_) | refine JF ?_ | refine X4 ?_
 exact QN
theorem Xg0 (v : Val) (hok : YD v) (hf : Con Tryz.prog 141 [] [Xo v, Xo v] [] (ai 0)) : X2P v := by
 have hv := X2V v hok
 have hn := XgH v hok
 have hcl := X7g v.kind
 have hi := X3b (Vs v.kind)
 have hcmp := Xd1 (X0B v).1 (X0B v).2.1
 refine Xa (xs := [ai 0]) Tryz.func107 rfl Tryz.ntmps107 rfl rfl rfl (fun E => ?_)
 generalize X0B v = u at *
 generalize X8 8 v = bb at *
 obtain ⟨k, n, d, s, l⟩ := v
 obtain ⟨p, q, is⟩ := u
 simp only [Xo, Val.kind] at hv hn hcl hi hcmp hf ⊢
 generalize Vs k = c at *
 cases bb with
 | false =>
  repeat first | refine X0 ?_ | (refine JR ?_; (repeat first | refine Z1 ?_ | refine Z0 ?_ | refine ZL ?_ | refine Z00 ?_ | refine Zu ?_ | refine ZA (γ := 100) ?_ | refine ZA (γ := 101) ?_ | refine Z9 (hcon := hv) ?_ | refine Z9 (hcon := hf) ?_); refine JD ?_) | refine JT ?_ | refine JF ?_ | refine X4 ?_
  exact QN
 | true =>
  cases is with
  | true =>
   repeat first | refine X0 ?_ | (refine JR ?_; (repeat first | refine Z1 ?_ | refine Z0 ?_ | refine ZB ?_ | refine ZC ?_ | refine ZL ?_ | refine Zv ?_ | refine Z00 ?_ | refine Zu ?_ | refine Zw (γ := 102) ?_ | refine Zw (γ := 103) ?_ | refine ZA (γ := 100) ?_ | refine ZA (γ := 101) ?_ | refine Zy ?_ | refine ZF ?_ | refine Z9 (hcon := hv) ?_ | refine Z9 (hcon := hcl) ?_ | refine Z9 (hcon := hi) ?_ | refine Z9 (hcon := hn) ?_ | refine Z9 (hcon := hcmp) ?_); refine JD ?_) | refine JT ?_ | refine JF ?_ | refine X4 ?_
   exact QN
  | false =>
   repeat first | refine X0 ?_ | (refine JR ?_; (repeat first | refine Z1 ?_ | refine Z0 ?_ | refine ZB ?_ | refine ZC ?_ | refine ZL ?_ | refine Zv ?_ | refine Z00 ?_ | refine Zu ?_ | refine Zw (γ := 102) ?_ | refine Zw (γ := 103) ?_ | refine ZA (γ := 100) ?_ | refine ZA (γ := 101) ?_ | refine Zy ?_ | refine ZF ?_ | refine Z9 (hcon := hv) ?_ | refine Z9 (hcon := hcl) ?_ | refine Z9 (hcon := hi) ?_ | refine Z9 (hcon := hn) ?_ | refine Z9 (hcon := hf) ?_); refine JD ?_) | refine JF ?_ | refine X4 ?_
   exact QN
theorem X5r : ∀ v : Val, YD v → X2P v
 | .mk k n d s l => fun hok => Xg0 (.mk k n d s l) hok (XeA (.mk k n d s l) (by rw [YD] at hok; exact hok.2.1) fun x hx => X5r x (X4F (by rw [YD] at hok; exact hok.2.2) hx))
termination_by v => SizeOf.sizeOf v
decreasing_by
 have h1 := List.sizeOf_lt_of_mem (show x ∈ l from hx)
 simp only [Val.mk.sizeOf_spec]
 omega
theorem XdK (v : Val) : Con Tryz.prog 114 [] [Xo v] [] (ab (X07 v)) := by
 refine Xa (xs := [ab (X07 v)]) Tryz.func114 rfl Tryz.ntmps114 rfl rfl rfl (fun E => ?_)
 have hv := VR v
 unfold X07
 generalize X8 8 v = b at *
 obtain ⟨k, n, d, s, l⟩ := v
 simp only [Xo, Val.kind] at hv ⊢
 unfold X43
 by_cases h1 : k = 1
 ·rw [decide_eq_true (by omega), Bool.true_and]
  cases b with
  | true =>
   refine QJa ?_; refine Zl ?_; refine QQa ?_; refine QQa ?_; exact Qwc
  | false =>
   refine QJa ?_; refine Zl ?_; refine QQa ?_; refine QQa ?_; exact Qyc
 by_cases h2 : k = 2
 ·rw [decide_eq_true (by omega), Bool.true_and]
  cases b with
  | true =>
   refine QJa ?_; refine Zl ?_; refine Qzc ?_; refine Zq ?_; refine QQa ?_; exact Qwc
  | false =>
   refine QJa ?_; refine Zl ?_; refine Qzc ?_; refine Zq ?_; refine QQa ?_; exact Qyc
 by_cases h4 : k = 4
 ·rw [decide_eq_true (by omega), Bool.true_and]
  cases b with
  | true =>
   refine QBc ?_; exact Qwc
  | false =>
   refine QBc ?_; exact Qyc
 rw [decide_eq_false (by omega), Bool.false_and]
 refine QBc ?_; refine QR ?_; exact QW
end Go.Fw
