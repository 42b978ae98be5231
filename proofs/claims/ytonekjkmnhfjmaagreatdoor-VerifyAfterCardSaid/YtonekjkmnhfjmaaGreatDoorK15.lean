/- Small tests of changes and rules. -/
import Derived.Test.YtonekjkmnhfjmaaGreatDoorK14
set_option maxHeartbeats 8000000
namespace Go.Fw
open Go Go.Proofs
set_option maxRecDepth 100000
set_option linter.unusedVariables false
set_option linter.unusedSimpArgs false
def Vf (op : Int) : Bool × Bool × Bool × Bool := (decide (op = 6), VO op, VL op, decide (1 ≤ op ∧ op ≤ 8))
theorem Xe5 (op : Int) : Con Tryz.prog 212 [] [ai op] [] (.tup [.agg [ab (Vf op).1, ab (Vf op).2.1, ab (Vf op).2.2.1], ab (Vf op).2.2.2]) := by
 refine Xc (xs := [.agg [ab (Vf op).1, ab (Vf op).2.1, ab (Vf op).2.2.1], ab (Vf op).2.2.2]) Tryz.func212 rfl Tryz.ntmps212 rfl rfl rfl (fun E => ?_)
 by_cases k1 : op = 1
 ·subst k1
  refine Qxa ?_; exact QFa
 by_cases k2 : op = 2
 ·subst k2
  refine Qxa ?_; refine QHa ?_; exact QEa
 by_cases k7 : op = 7
 ·subst k7
  refine Qxa ?_; refine QIa ?_; exact QEa
 by_cases k3 : op = 3
 ·subst k3
  refine QKa ?_; exact QFa
 by_cases k4 : op = 4
 ·subst k4
  refine QKa ?_; refine QLa ?_; exact QEa
 by_cases k5 : op = 5
 ·subst k5
  refine QKa ?_; refine QMa ?_; exact QFa
 by_cases k8 : op = 8
 ·subst k8
  refine QKa ?_; refine QMa ?_; refine QLa ?_; exact QEa
 by_cases k6 : op = 6
 ·subst k6
  refine QKa ?_; refine QMa ?_; refine QMa ?_; refine Qza ?_; exact QEa
 rw [show Vf op = (false, false, false, false) by unfold Vf VO VL; rw [decide_eq_false (by omega), decide_eq_false (by omega), decide_eq_false (by omega), decide_eq_false (by omega)]]
 refine QKa ?_; refine QMa ?_; refine QMa ?_; refine QGa ?_; refine X2 ?_; exact QEa
def UD (k : Int) : Bool × Bool × Bool × Bool := (Vb k, decide (k = 3 ∨ k = 5 ∨ k = 7), decide (k = 6), decide (1 ≤ k ∧ k ≤ 7))
theorem Xiy (op : Int) : Con Tryz.prog 187 [] [ai op] [] (.tup [.agg [ab (UD op).1, ab (UD op).2.1, ab (UD op).2.2.1], ab (UD op).2.2.2]) := by
 refine Xc (xs := [.agg [ab (UD op).1, ab (UD op).2.1, ab (UD op).2.2.1], ab (UD op).2.2.2]) Tryz.func187 rfl Tryz.ntmps187 rfl rfl rfl (fun E => ?_)
 by_cases k1 : op = 1
 ·subst k1
  refine Qxa ?_; exact QFa
 by_cases k2 : op = 2
 ·subst k2
  refine Qxa ?_; refine QHa ?_; exact QEa
 by_cases k4 : op = 4
 ·subst k4
  refine Qxa ?_; refine QIa ?_; exact QEa
 by_cases k3 : op = 3
 ·subst k3
  refine QKa ?_; exact QFa
 by_cases k5 : op = 5
 ·subst k5
  refine QKa ?_; refine QLa ?_; exact QEa
 by_cases k6 : op = 6
 ·subst k6
  refine QKa ?_; refine QMa ?_; refine Qza ?_; exact QEa
 by_cases k7 : op = 7
 ·subst k7
  refine QKa ?_; refine QNa ?_; exact QEa
 rw [show UD op = (false, false, false, false) by unfold UD Vb; rw [decide_eq_false (by omega), decide_eq_false (by omega), decide_eq_false (by omega), decide_eq_false (by omega)]]
 refine QKa ?_; refine QOa ?_; refine X2 ?_; exact QEa
theorem X63 (n : Int) : Con Tryz.prog 213 [] [ai n] [] (ab (idV n)) := by
 refine Xc (xs := [ab (idV n)]) Tryz.func213 rfl Tryz.ntmps213 rfl rfl rfl (fun E => ?_)
 by_cases h1 : 1 ≤ n
 ·by_cases h2 : n ≤ 1000000
  ·rw [show idV n = true by unfold idV; exact decide_eq_true ⟨h1, h2⟩]
   exact QRa
  ·rw [show idV n = false by unfold idV; exact decide_eq_false (by omega)]
   exact QSa
 ·rw [show idV n = false by unfold idV; exact decide_eq_false (by omega)]
  refine QR ?_; exact QP
theorem X6V (n : Int) : Con Tryz.prog 169 [] [ai n] [] (ab (idV n)) := by
 refine Xc (xs := [ab (idV n)]) Tryz.func169 rfl Tryz.ntmps169 rfl rfl rfl (fun E => ?_)
 by_cases h1 : 1 ≤ n
 ·by_cases h2 : n ≤ 1000000
  ·rw [show idV n = true by unfold idV; exact decide_eq_true ⟨h1, h2⟩]
   exact QRa
  ·rw [show idV n = false by unfold idV; exact decide_eq_false (by omega)]
   exact QSa
 ·rw [show idV n = false by unfold idV; exact decide_eq_false (by omega)]
  refine QR ?_; exact QP
theorem Xhn (op : Int) : Con Tryz.prog 170 [] [ai op] [] (ab (VO op)) := by
 refine Xc (xs := [ab (VO op)]) Tryz.func170 rfl Tryz.ntmps170 rfl rfl rfl (fun E => ?_)
 by_cases k3 : op = 3
 ·subst k3
  refine QB ?_; refine Z4 ?_; refine QJ ?_; refine QTa ?_; refine QTa ?_; refine QTa ?_; exact QUa
 by_cases k4 : op = 4
 ·subst k4
  refine QB ?_; refine QWa ?_; refine QJ ?_; refine QTa ?_; refine QTa ?_; exact QUa
 by_cases k5 : op = 5
 ·subst k5
  refine QB ?_; refine QWa ?_; refine QVa ?_; refine ZE ?_; refine QJ ?_; refine QTa ?_; exact QUa
 by_cases k6 : op = 6
 ·subst k6
  refine QXa ?_; refine QJ ?_; exact QUa
 by_cases k8 : op = 8
 ·subst k8
  refine QXa ?_; refine QVa ?_; exact QT
 rw [show VO op = false by unfold VO; exact decide_eq_false (by omega)]
 refine QXa ?_; refine QVa ?_; exact QP
theorem Xiw (op : Int) : Con Tryz.prog 171 [] [ai op] [] (ab (VL op)) := by
 refine Xc (xs := [ab (VL op)]) Tryz.func171 rfl Tryz.ntmps171 rfl rfl rfl (fun E => ?_)
 by_cases k5 : op = 5
 ·subst k5
  refine QB ?_; refine Z4 ?_; refine QJ ?_; exact QUa
 by_cases k8 : op = 8
 ·subst k8
  refine QB ?_; refine Z4 ?_; refine QVa ?_; exact QT
 rw [show VL op = false by unfold VL; exact decide_eq_false (by omega)]
 refine QB ?_; refine Z4 ?_; refine QVa ?_; exact QP
theorem X7z (s : List UInt8) : Con Tryz.prog 162 [] [.d (.v (.string (X5 s)))] [] (ab (Xt s)) := by
 refine Xc (xs := [ab (Xt s)]) Tryz.func162 rfl Tryz.ntmps162 rfl rfl rfl (fun E => ?_)
 have hsz : (X5 s).size = s.length := rfl
 by_cases h0 : s.length < 1
 ·rw [X5K (List.eq_nil_of_length_eq_zero (by omega))]
  have h0' : ((X5 s).size : Int) < 1 := by omega
  refine QYa ?_; refine QV ?_; exact Qba
 have h0' : ¬ ((X5 s).size : Int) < 1 := by omega
 by_cases h20 : 20 < s.length
 ·rw [X6Y h20]
  have h20' : (20 : Int) < (X5 s).size := by omega
  refine QYa ?_; refine Qq ?_; refine Zu ?_; refine Qca ?_; exact Qba
 have h20' : ¬ (20 : Int) < (X5 s).size := by omega
 obtain ⟨c, hc⟩ := Xs (l := s) (k := 0) (by omega)
 have hl := X80 c
 cases hlc : U3 c with
 | false =>
  rw [X3q hc hlc]
  rw [hlc] at hl
  refine QYa ?_; refine Qda ?_; exact Qfa
 | true =>
  rw [hlc] at hl
  refine QYa ?_; refine Qda ?_; refine Qha ?_; refine QZa ?_
  refine Xz (fun i : Nat => 1 ≤ i ∧ i ≤ s.length ∧ ∀ j, j < i → ∃ b, s[j]? = some b ∧ XT b = true) (fun i => ⟨47, [(0, .d (.v (.string (X5 s)))), (3, ai i)], []⟩) (fun i => s.length - i) 1
   ⟨by omega, by omega, fun j hj => ⟨c, by rw [show j = 0 by omega]; exact hc, by unfold XT; rw [hlc]; rfl⟩⟩
   (X6 rfl ⟨JL, JL, trivial⟩ trivial) ?_
  rintro i ⟨hi1, hi, hall⟩
  by_cases hil : i < s.length
  case neg =>
   obtain rfl : i = s.length := by omega
   rw [X5Z hc hlc h20 hall]
   have hn : ¬ ((s.length : Nat) : Int) < (X5 s).size := by omega
   refine Ql ?_; refine Zu ?_; refine Zq ?_; refine Qab ?_; exact QY
  have hn : (i : Int) < (X5 s).size := by omega
  clear hl hlc hc
  obtain ⟨c, hc⟩ := Xs (l := s) hil
  have hl := X80 c
  cases hlc : U3 c with
  | true =>
   rw [hlc] at hl
   have hnx := VY hc (show XT c = true by unfold XT; rw [hlc]; rfl) hall
   refine Qcb ?_; refine Zr (hcon := hl) ?_; refine Zd ?_; refine Qeb ?_; refine Qqa ?_; refine ZC ?_; refine Qhb ?_; exact Qib
  | false =>
   rw [hlc] at hl
   by_cases g3 : c.toNat = 95
   ·have hnx := VY hc (show XT c = true by unfold XT; rw [decide_eq_true (by omega)]; simp) hall
    refine Qcb ?_; refine Zr (hcon := hl) ?_; refine Zd ?_; refine Qua ?_; refine ZH ?_; refine ZB ?_; refine QW ?_; refine Qqa ?_; refine ZC ?_; refine Qhb ?_; exact Qib
   by_cases g1 : 48 ≤ c.toNat
   ·by_cases g2 : c.toNat ≤ 57
    ·have hnx := VY hc (show XT c = true by unfold XT; rw [decide_eq_true (by omega)]; simp) hall
     refine Qjb ?_; refine Qva ?_; refine ZB ?_; refine Qkb ?_; exact Qib
    ·rw [X1f hc (show XT c = false by unfold XT; rw [hlc, decide_eq_false (by omega)]; rfl)]
     refine Qjb ?_; refine Qva ?_; exact Qaa
   ·rw [X1f hc (show XT c = false by unfold XT; rw [hlc, decide_eq_false (by omega)]; rfl)]
    refine Qjb ?_; refine Qua ?_; refine Zq ?_; refine QW ?_; refine ZB ?_; exact Qaa
theorem X5g (s : List UInt8) : Con Tryz.prog 258 [] [.d (.v (.string (X5 s)))] [] (ab (Xt s)) := by
 refine Xc (xs := [ab (Xt s)]) Tryz.func258 rfl Tryz.ntmps258 rfl rfl rfl (fun E => ?_)
 have hsz : (X5 s).size = s.length := rfl
 by_cases h0 : s.length < 1
 ·rw [X5K (List.eq_nil_of_length_eq_zero (by omega))]
  have h0' : ((X5 s).size : Int) < 1 := by omega
  refine QYa ?_; exact Qlb
 have h0' : ¬ ((X5 s).size : Int) < 1 := by omega
 by_cases h20 : 20 < s.length
 ·rw [X6Y h20]
  have h20' : (20 : Int) < (X5 s).size := by omega
  refine QYa ?_; refine Qq ?_; refine Zu ?_; refine Zb ?_; exact Qea
 have h20' : ¬ (20 : Int) < (X5 s).size := by omega
 obtain ⟨c, hc⟩ := Xs (l := s) (k := 0) (by omega)
 refine QYa ?_; refine Qq ?_; refine Zu ?_; refine Zb ?_; refine Qga ?_; refine QZa ?_
 refine Xz (fun i : Nat => i ≤ s.length ∧ (0 < i → U3 c = true) ∧ ∀ j, j < i → ∃ b, s[j]? = some b ∧ XT b = true) (fun i => ⟨65, [(0, .d (.v (.string (X5 s)))), (3, ai i)], []⟩) (fun i => s.length - i) 0
  ⟨by omega, fun h => absurd h (by omega), fun j hj => absurd hj (by omega)⟩
  (X6 rfl ⟨JL, JL, trivial⟩ trivial) ?_
 rintro i ⟨hi, hh, hall⟩
 by_cases hil : i < s.length
 case neg =>
  obtain rfl : i = s.length := by omega
  rw [X5Z hc (hh (by omega)) h20 hall]
  have hn : ¬ ((s.length : Nat) : Int) < (X5 s).size := by omega
  refine Ql ?_; refine Zu ?_; refine Zq ?_; refine Qab ?_; exact QY
 have hn : (i : Int) < (X5 s).size := by omega
 obtain ⟨x, hx⟩ := Xs (l := s) hil
 by_cases hi0 : i = 0
 ·subst hi0
  have hcx : c = x := by rw [hc] at hx; exact Option.some.inj hx
  clear hc hh
  by_cases a1 : 97 ≤ x.toNat
  ·by_cases a2 : x.toNat ≤ 122
   ·have hlx : U3 x = true := X1m (by omega)
    have hh := hlx
    have hnx : ∀ j, j < 0 + 1 → ∃ b, s[j]? = some b ∧ XT b = true := VY hx (show XT x = true by unfold XT; rw [hlx]; rfl) hall
    refine Qmb ?_; refine QW ?_; refine ZC ?_; refine Qnb ?_; refine Qob ?_; exact Qpb
   ·have hlx : U3 x = false := VZ (by omega)
    have a3 : 65 ≤ x.toNat := by omega
    have a4 : ¬ x.toNat ≤ 90 := by omega
    rw [X3q hx hlx]
    refine Qmb ?_; refine Qua ?_; refine Zm ?_; refine Qua ?_; refine ZA ?_; refine Qqb ?_; exact Qrb
  by_cases a3 : 65 ≤ x.toNat
  ·by_cases a4 : x.toNat ≤ 90
   ·have hlx : U3 x = true := X1m (by omega)
    have hh := hlx
    have hnx : ∀ j, j < 0 + 1 → ∃ b, s[j]? = some b ∧ XT b = true := VY hx (show XT x = true by unfold XT; rw [hlx]; rfl) hall
    refine Qsb ?_; refine Qob ?_; exact Qpb
   ·have hlx : U3 x = false := VZ (by omega)
    rw [X3q hx hlx]
    refine Qsb ?_; exact Qrb
  have hlx : U3 x = false := VZ (by omega)
  rw [X3q hx hlx]
  refine Qtb ?_; exact Qrb
 replace hh := hh (by omega)
 have hi0' : ¬ (i : Int) = 0 := by omega
 clear hc
 by_cases a1 : 97 ≤ x.toNat
 ·by_cases a2 : x.toNat ≤ 122
  ·have hlx : U3 x = true := X1m (by omega)
   have hnx := VY hx (show XT x = true by unfold XT; rw [hlx]; rfl) hall
   refine Qmb ?_; refine QW ?_; refine ZC ?_; refine Qnb ?_; refine Qob ?_; exact Qub
  ·have hlx : U3 x = false := VZ (by omega)
   have a3 : 65 ≤ x.toNat := by omega
   have a4 : ¬ x.toNat ≤ 90 := by omega
   ·rw [X1f hx (show XT x = false by unfold XT; rw [hlx, decide_eq_false (by omega)]; rfl)]
    refine Qmb ?_; refine Qua ?_; refine Zm ?_; refine Qua ?_; refine ZA ?_; refine Qqb ?_; exact Qwb
 by_cases a3 : 65 ≤ x.toNat
 ·by_cases a4 : x.toNat ≤ 90
  ·have hlx : U3 x = true := X1m (by omega)
   have hnx := VY hx (show XT x = true by unfold XT; rw [hlx]; rfl) hall
   refine Qsb ?_; refine Qob ?_; exact Qub
  ·have hlx : U3 x = false := VZ (by omega)
   by_cases g3 : x.toNat = 95
   ·have hnx := VY hx (show XT x = true by unfold XT; rw [decide_eq_true (by omega)]; simp) hall
    refine Qsb ?_; refine Qvb ?_; refine QW ?_; refine Qqa ?_; refine Qra ?_; refine ZE ?_; refine ZB ?_; refine Qkb ?_; exact Qub
   ·rw [X1f hx (show XT x = false by unfold XT; rw [hlx, decide_eq_false (by omega)]; rfl)]
    refine Qsb ?_; exact Qwb
 have hlx : U3 x = false := VZ (by omega)
 by_cases g1 : 48 ≤ x.toNat
 ·by_cases g2 : x.toNat ≤ 57
  ·have hnx := VY hx (show XT x = true by unfold XT; rw [decide_eq_true (by omega)]; simp) hall
   refine Qtb ?_; refine Qvb ?_; refine Qva ?_; refine Qqb ?_; refine ZB ?_; refine Qkb ?_; exact Qub
  ·rw [X1f hx (show XT x = false by unfold XT; rw [hlx, decide_eq_false (by omega)]; rfl)]
   refine Qtb ?_; exact Qwb
 ·rw [X1f hx (show XT x = false by unfold XT; rw [hlx, decide_eq_false (by omega)]; rfl)]
  refine Qtb ?_; refine Qvb ?_; refine Qua ?_; refine Zq ?_; refine QW ?_; refine ZB ?_; refine Qqb ?_; exact Qaa
end Go.Fw
