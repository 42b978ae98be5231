/- PutStr, Sum. -/
import Derived.Test.YtpfldfkhgplcgaaGreatDoorK16
set_option maxHeartbeats 8000000
namespace Go.Fw
open Go Go.Proofs
set_option maxRecDepth 100000
set_option linter.unusedVariables false
set_option linter.unusedSimpArgs false
theorem X8F (b : List UInt8) : Con Tryz.prog 99 [] [.d (Xg b)] [] (ai (YQ b)) := by
 refine Xb (xs := [ai (YQ b)]) Tryz.func99 rfl Tryz.ntmps99 rfl rfl rfl (fun E => ?_)
 refine Qd ?_; refine Qib ?_
 refine Xu (fun i : Nat => i ≤ b.length) (fun i => ⟨34, [(0, .d (Xg b)), (3, X3T (Uk b i)), (4, ai i)], []⟩) (fun i => b.length - i) 0 (by omega)
  (Xa rfl ⟨JL, JL, JL, trivial⟩ trivial) ?_
 intro i hi
 refine X83 0 (sz := 1) (xs := b.map X7) rfl fun hbl => ?_
 rw [List.length_map] at hbl
 have hc := Xah b i
 by_cases hlt : i < b.length
 ·obtain ⟨x, hx⟩ := Xv hlt
  have hx8 := x.toNat_lt
  refine Qpb ?_; refine QGb ?_; refine QD ?_; refine Z3 (u := n8 x.toNat) (r := n32 x.toNat) ?_ (hr := by exact YM rfl rfl (by rw [UU]; omega)); refine Z7 (op := .xor) (r' := n32 (Uk b i ^^^ x.toNat)) (u := n32 (Uk b i)) (v := n32 x.toNat) ?_ (hr := by exact X3h (by rw [UU]; omega) (by rw [UU]; omega)); refine Qc ?_; refine Qd ?_; refine X5 ?_
  refine Xu (fun k : Nat => k ≤ 8) (fun k => ⟨34, [(0, .d (Xg b)), (4, ai i), (3, X3T (X0d k (Uk b i ^^^ x.toNat))), (5, ai k)], []⟩) (fun k => 8 - k) 0 (by omega)
   (Xa rfl ⟨JL, JL, JL, JL, trivial⟩ trivial) ?_
  intro k hk
  have hv := X4y (X6C hc x) k
  have hv1 : X0d (k + 1) (Uk b i ^^^ x.toNat) = VE (X0d k (Uk b i ^^^ x.toNat)) := rfl
  generalize hgv : X0d k (Uk b i ^^^ x.toNat) = v at *
  by_cases hk8 : k < 8
  ·by_cases hodd : v % 2 = 1
   ·have hb : VE v = (v / 2) ^^^ 3988292384 := by unfold VE; rw [if_pos hodd]
    refine Qn ?_; refine Qkb ?_; refine Qf ?_; refine Z7 (op := .rem) (r' := n32 (v % 2)) (u := n32 v) (v := n32 2) ?_ (hr := by exact YX (by omega)); refine Zl ?_; refine Qh ?_; refine Qk ?_; refine Z7 (op := .quo) (r' := n32 (v / 2)) (u := n32 v) (v := n32 2) ?_ (hr := by exact VR (by omega) (by rw [UU]; omega)); refine QH ?_; refine Qc ?_; refine Qnb ?_; exact Qof
   ·have hb : VE v = v / 2 := by unfold VE; rw [if_neg hodd]
    refine Qn ?_; refine Qkb ?_; refine Qf ?_; refine Z7 (op := .rem) (r' := n32 (v % 2)) (u := n32 v) (v := n32 2) ?_ (hr := by exact YX (by omega)); refine Zl ?_; refine JD ?_; refine JF ?_; refine Qk ?_; refine Z7 (op := .quo) (r' := n32 (v / 2)) (u := n32 v) (v := n32 2) ?_ (hr := by exact VR (by omega) (by rw [UU]; omega)); refine Qc ?_; refine Qnb ?_; exact Qof
  obtain rfl : k = 8 := by omega
  have hstep : Uk b (i + 1) = v := by rw [X82 hx]; exact hgv
  refine Qn ?_; refine Ql ?_; refine Qnb ?_; exact ⟨i + 1, by omega, by omega, Xa rfl ⟨JL, (by rw [hstep]; exact AVal.le_refl _), JL, trivial⟩ trivial⟩
 obtain rfl : i = b.length := by omega
 have hall := X7g b
 rw [hall] at hc
 rw [hall]
 have exor : X0Q b ^^^ 4294967295 = YQ b := by
  have h := BitVec.toNat_not (x := BitVec.ofNat 32 (X0Q b))
  rw [← BitVec.allOnes_xor, BitVec.toNat_xor, BitVec.toNat_allOnes, BitVec.toNat_ofNat, Nat.mod_eq_of_lt hc] at h
  rw [Nat.xor_comm]; exact h
 refine Qub ?_; refine Qf ?_; refine Z4 (op := .xor) (r' := n32 (YQ b)) (u := n32 (X0Q b)) (v := n32 4294967295) ?_ (hr' := by exact congrArg n32 exor) (hr := by exact X3h (by rw [UU]; omega) (by rw [UU]; omega)); refine Z3 (u := n32 (YQ b)) (r := ni (YQ b)) ?_ (hr := by exact YM rfl rfl (by rw [Xr]; have := X2L b; omega)); exact QM
theorem Xan (c : UInt8) : Con Tryz.prog 152 [] [au8 c.toNat] [] (ab (U2 c)) := by
 refine Xb (xs := [ab (U2 c)]) Tryz.func152 rfl Tryz.ntmps152 rfl rfl rfl (fun E => ?_)
 by_cases h1 : 97 ≤ c.toNat
 ·by_cases h2 : c.toNat ≤ 122
  ·rw [X1c (by omega)]
   refine QN ?_; refine QP ?_; refine Zo ?_; refine Zp ?_; refine Zp ?_; refine Zo ?_; exact QS
  ·rw [VZ (by omega)]
   refine QN ?_; refine Qw ?_; exact QW
 by_cases h3 : 65 ≤ c.toNat
 ·by_cases h4 : c.toNat ≤ 90
  ·rw [X1c (by omega)]
   refine QX ?_; refine QY ?_; refine Z2 ?_; refine Qw ?_; refine Zm ?_; refine Zn ?_; exact QZ
  ·rw [VZ (by omega)]
   refine QX ?_; refine QY ?_; exact QW
 rw [VZ (by omega)]
 repeat first | refine X0 ?_ | (refine JR ?_; (repeat first | refine Z1 ?_ | refine Z0 ?_ | refine Z2 ?_ | refine Zq ?_ | refine Zo ?_); refine JD ?_)
 exact QU
theorem X6k (n : Int) : Con Tryz.prog 121 [] [ai n] [] (ab (idV n)) := by
 refine Xb (xs := [ab (idV n)]) Tryz.func121 rfl Tryz.ntmps121 rfl rfl rfl (fun E => ?_)
 by_cases h1 : 1 ≤ n
 ·by_cases h2 : n ≤ 1000000
  ·rw [show idV n = true by unfold idV; exact decide_eq_true ⟨h1, h2⟩]
   exact Qra
  ·rw [show idV n = false by unfold idV; exact decide_eq_false (by omega)]
   exact Qta
 ·rw [show idV n = false by unfold idV; exact decide_eq_false (by omega)]
  refine QX ?_; exact QV
theorem XeW (op : Int) : Con Tryz.prog 122 [] [ai op] [] (ab (XX op)) := by
 refine Xb (xs := [ab (XX op)]) Tryz.func122 rfl Tryz.ntmps122 rfl rfl rfl (fun E => ?_)
 by_cases k3 : op = 3
 ·subst k3
  repeat first | refine X0 ?_ | (refine JR ?_; (repeat first | refine Z1 ?_ | refine Z0 ?_ | refine Zl ?_ | refine Zn ?_ | refine Zo ?_); refine JD ?_)
  exact QR
 by_cases k4 : op = 4
 ·subst k4
  repeat first | refine X0 ?_ | (refine JR ?_; (repeat first | refine Z1 ?_ | refine Z0 ?_ | refine Zl ?_ | refine Zn ?_ | refine Zq ?_ | refine Zo ?_); refine JD ?_)
  exact QR
 by_cases k5 : op = 5
 ·subst k5
  repeat first | refine X0 ?_ | (refine JR ?_; (repeat first | refine Z1 ?_ | refine Z0 ?_ | refine Zl ?_ | refine Zn ?_ | refine Zq ?_ | refine Zo ?_); refine JD ?_)
  exact QR
 by_cases k6 : op = 6
 ·subst k6
  repeat first | refine X0 ?_ | (refine JR ?_; (repeat first | refine Z1 ?_ | refine Z0 ?_ | refine Zl ?_ | refine Zn ?_ | refine Zq ?_ | refine Zo ?_); refine JD ?_)
  exact QR
 by_cases k8 : op = 8
 ·subst k8
  repeat first | refine X0 ?_ | (refine JR ?_; (repeat first | refine Z1 ?_ | refine Z0 ?_ | refine Zl ?_ | refine Zq ?_); refine JD ?_)
  exact QR
 rw [show XX op = false by unfold XX; exact decide_eq_false (by omega)]
 repeat first | refine X0 ?_ | (refine JR ?_; (repeat first | refine Z1 ?_ | refine Z0 ?_ | refine Zl ?_ | refine Zq ?_); refine JD ?_)
 exact QU
theorem Xfd (op : Int) : Con Tryz.prog 123 [] [ai op] [] (ab (XS op)) := by
 refine Xb (xs := [ab (XS op)]) Tryz.func123 rfl Tryz.ntmps123 rfl rfl rfl (fun E => ?_)
 by_cases k5 : op = 5
 ·subst k5
  refine Qu ?_; refine Zl ?_; refine QP ?_; exact QS
 by_cases k8 : op = 8
 ·subst k8
  refine Qu ?_; refine Zl ?_; refine Qw ?_; refine Zl ?_; exact QZ
 rw [show XS op = false by unfold XS; exact decide_eq_false (by omega)]
 refine Qu ?_; refine Zl ?_; refine Qw ?_; refine Zl ?_; exact QV
theorem Xct (op : Int) : Con Tryz.prog 134 [] [ai op] [] (ab (XX op)) := by
 refine Xb (xs := [ab (XX op)]) Tryz.func134 rfl Tryz.ntmps134 rfl rfl rfl (fun E => ?_)
 by_cases k3 : op = 3
 ·subst k3
  repeat first | refine X0 ?_ | (refine JR ?_; (repeat first | refine Z1 ?_ | refine Z0 ?_ | refine Zl ?_ | refine Zn ?_ | refine Zo ?_); refine JD ?_)
  exact QR
 by_cases k4 : op = 4
 ·subst k4
  repeat first | refine X0 ?_ | (refine JR ?_; (repeat first | refine Z1 ?_ | refine Z0 ?_ | refine Zl ?_ | refine Zn ?_ | refine Zq ?_ | refine Zo ?_); refine JD ?_)
  exact QR
 by_cases k5 : op = 5
 ·subst k5
  repeat first | refine X0 ?_ | (refine JR ?_; (repeat first | refine Z1 ?_ | refine Z0 ?_ | refine Zl ?_ | refine Zn ?_ | refine Zq ?_ | refine Zo ?_); refine JD ?_)
  exact QR
 by_cases k6 : op = 6
 ·subst k6
  repeat first | refine X0 ?_ | (refine JR ?_; (repeat first | refine Z1 ?_ | refine Z0 ?_ | refine Zl ?_ | refine Zn ?_ | refine Zq ?_ | refine Zo ?_); refine JD ?_)
  exact QR
 by_cases k8 : op = 8
 ·subst k8
  repeat first | refine X0 ?_ | (refine JR ?_; (repeat first | refine Z1 ?_ | refine Z0 ?_ | refine Zl ?_ | refine Zq ?_); refine JD ?_)
  exact QR
 rw [show XX op = false by unfold XX; exact decide_eq_false (by omega)]
 repeat first | refine X0 ?_ | (refine JR ?_; (repeat first | refine Z1 ?_ | refine Z0 ?_ | refine Zl ?_ | refine Zq ?_); refine JD ?_)
 exact QU
theorem XbW (op : Int) : Con Tryz.prog 136 [] [ai op] [] (ab (XS op)) := by
 refine Xb (xs := [ab (XS op)]) Tryz.func136 rfl Tryz.ntmps136 rfl rfl rfl (fun E => ?_)
 by_cases k5 : op = 5
 ·subst k5
  refine Qu ?_; refine Zl ?_; refine QP ?_; exact QS
 by_cases k8 : op = 8
 ·subst k8
  refine Qu ?_; refine Zl ?_; refine Qw ?_; refine Zl ?_; exact QZ
 rw [show XS op = false by unfold XS; exact decide_eq_false (by omega)]
 refine Qu ?_; refine Zl ?_; refine Qw ?_; refine Zl ?_; exact QV
theorem Xc2 (s : List UInt8) : Con Tryz.prog 125 [] [.d (.v (.string (X6 s)))] [] (ab (Y2 s)) := by
 refine Xb (xs := [ab (Y2 s)]) Tryz.func125 rfl Tryz.ntmps125 rfl rfl rfl (fun E => ?_)
 have hsz : (X6 s).size = s.length := rfl
 by_cases h0 : s.length < 1
 ·rw [X6L (List.eq_nil_of_length_eq_zero (by omega))]
  have h0' : ((X6 s).size : Int) < 1 := by omega
  repeat first | refine X0 ?_ | (refine JR ?_; (repeat first | refine Z1 ?_ | refine Z0 ?_ | refine Zc ?_ | refine Z8 ?_ | refine Zn ?_ | refine Zo ?_); refine JD ?_) | refine JT ?_
  exact QL
 have h0' : ¬ ((X6 s).size : Int) < 1 := by omega
 by_cases h20 : 20 < s.length
 ·rw [X66 h20]
  have h20' : (20 : Int) < (X6 s).size := by omega
  refine Qpf ?_; refine Qaa ?_; refine Qba ?_; refine Zn ?_; exact Qca
 have h20' : ¬ (20 : Int) < (X6 s).size := by omega
 obtain ⟨c, hc⟩ := Xv (l := s) (k := 0) (by omega)
 have hl := Xan c
 cases hlc : U2 c with
 | false =>
  rw [X3p hc hlc]
  rw [hlc] at hl
  refine Qpf ?_; refine Qda ?_; refine Zt ?_; refine Z9 (hcon := hl) ?_; refine Zu ?_; refine Zq ?_; exact Qca
 | true =>
  rw [hlc] at hl
  refine Qpf ?_; refine Qda ?_; refine Qea ?_; refine Qfa ?_; refine Qhb ?_
  refine Xu (fun i : Nat => 1 ≤ i ∧ i ≤ s.length ∧ ∀ j, j < i → ∃ b, s[j]? = some b ∧ XQ b = true) (fun i => ⟨47, [(0, .d (.v (.string (X6 s)))), (3, ai i)], []⟩) (fun i => s.length - i) 1
   ⟨by omega, by omega, fun j hj => ⟨c, by rw [show j = 0 by omega]; exact hc, by unfold XQ; rw [hlc]; rfl⟩⟩
   (Xa rfl ⟨JL, JL, trivial⟩ trivial) ?_
  rintro i ⟨hi1, hi, hall⟩
  by_cases hil : i < s.length
  case neg =>
   obtain rfl : i = s.length := by omega
   rw [X5W hc hlc h20 hall]
   have hn : ¬ ((s.length : Nat) : Int) < (X6 s).size := by omega
   refine Qjb ?_; refine Zc ?_; refine Z8 ?_; refine Ql ?_; exact Qga
  have hn : (i : Int) < (X6 s).size := by omega
  clear hl hlc hc
  obtain ⟨c, hc⟩ := Xv (l := s) hil
  have hl := Xan c
  cases hlc : U2 c with
  | true =>
   rw [hlc] at hl
   have hnx := VO hc (show XQ c = true by unfold XQ; rw [hlc]; rfl) hall
   repeat first | refine X0 ?_ | (refine JR ?_; (repeat first | refine Z1 ?_ | refine Z0 ?_ | refine Zc ?_ | refine Z8 ?_ | refine Zb ?_ | refine Zu ?_ | refine Zq ?_ | refine Zt ?_ | refine Zo ?_ | refine Zp ?_ | refine Z9 (hcon := hl) ?_); refine JD ?_) | refine JT ?_ | refine JF ?_ | refine X5 ?_ | refine X4 ?_
   exact Qqf
  | false =>
   rw [hlc] at hl
   by_cases g3 : c.toNat = 95
   ·have hnx := VO hc (show XQ c = true by unfold XQ; rw [decide_eq_true (by omega)]; simp) hall
    refine Qlb ?_; refine Qea ?_; refine QBa ?_; refine Zt ?_; refine Zv ?_; refine Zn ?_; refine Qba ?_; refine Zo ?_; refine QSc ?_; refine Zo ?_; refine Qfa ?_; refine Qnb ?_; exact Qqf
   by_cases g1 : 48 ≤ c.toNat
   ·by_cases g2 : c.toNat ≤ 57
    ·have hnx := VO hc (show XQ c = true by unfold XQ; rw [decide_eq_true (by omega)]; simp) hall
     refine Qlb ?_; refine Qea ?_; refine QBa ?_; refine Zt ?_; refine Zv ?_; refine Zn ?_; refine QBa ?_; refine Zt ?_; refine Z8 ?_; refine QBa ?_; refine Zt ?_; refine Qaa ?_; refine Zn ?_; refine Qr ?_; refine Qnb ?_; exact Qqf
    ·rw [X0Y hc (show XQ c = false by unfold XQ; rw [hlc, decide_eq_false (by omega)]; rfl)]
     repeat first | refine X0 ?_ | (refine JR ?_; (repeat first | refine Z1 ?_ | refine Z0 ?_ | refine Zc ?_ | refine Z8 ?_ | refine Zs ?_ | refine Zv ?_ | refine Zu ?_ | refine Zn ?_ | refine Zq ?_ | refine Zt ?_ | refine Z9 (hcon := hl) ?_); refine JD ?_) | refine JT ?_ | refine X5 ?_ | refine X4 ?_
     exact QL
   ·rw [X0Y hc (show XQ c = false by unfold XQ; rw [hlc, decide_eq_false (by omega)]; rfl)]
    repeat first | refine X0 ?_ | (refine JR ?_; (repeat first | refine Z1 ?_ | refine Z0 ?_ | refine Zc ?_ | refine Z8 ?_ | refine Zv ?_ | refine Zu ?_ | refine Zn ?_ | refine Zt ?_ | refine Zo ?_ | refine Z9 (hcon := hl) ?_); refine JD ?_) | refine JT ?_ | refine X5 ?_ | refine X4 ?_
    exact QL
theorem X41 (s : List UInt8) : Con Tryz.prog 120 [] [.d (.v (.string (X6 s)))] [] (ab (Y2 s)) := by
 refine Xb (xs := [ab (Y2 s)]) Tryz.func120 rfl Tryz.ntmps120 rfl rfl rfl (fun E => ?_)
 have hsz : (X6 s).size = s.length := rfl
 by_cases h0 : s.length < 1
 ·rw [X6L (List.eq_nil_of_length_eq_zero (by omega))]
  have h0' : ((X6 s).size : Int) < 1 := by omega
  refine Qy ?_; refine Zc ?_; refine Z8 ?_; exact QPa
 have h0' : ¬ ((X6 s).size : Int) < 1 := by omega
 by_cases h20 : 20 < s.length
 ·rw [X66 h20]
  have h20' : (20 : Int) < (X6 s).size := by omega
  refine Qpf ?_; refine Qaa ?_; exact Qca
 have h20' : ¬ (20 : Int) < (X6 s).size := by omega
 obtain ⟨c, hc⟩ := Xv (l := s) (k := 0) (by omega)
 refine Qpf ?_; refine Qmb ?_; refine Qhb ?_
 refine Xu (fun i : Nat => i ≤ s.length ∧ (0 < i → U2 c = true) ∧ ∀ j, j < i → ∃ b, s[j]? = some b ∧ XQ b = true) (fun i => ⟨65, [(0, .d (.v (.string (X6 s)))), (3, ai i)], []⟩) (fun i => s.length - i) 0
  ⟨by omega, fun h => absurd h (by omega), fun j hj => absurd hj (by omega)⟩
  (Xa rfl ⟨JL, JL, trivial⟩ trivial) ?_
 rintro i ⟨hi, hh, hall⟩
 by_cases hil : i < s.length
 case neg =>
  obtain rfl : i = s.length := by omega
  rw [X5W hc (hh (by omega)) h20 hall]
  have hn : ¬ ((s.length : Nat) : Int) < (X6 s).size := by omega
  refine Qjb ?_; refine Zc ?_; refine Z8 ?_; refine Ql ?_; exact Qga
 have hn : (i : Int) < (X6 s).size := by omega
 obtain ⟨x, hx⟩ := Xv (l := s) hil
 by_cases hi0 : i = 0
 ·subst hi0
  have hcx : c = x := by rw [hc] at hx; exact Option.some.inj hx
  clear hc hh
  by_cases a1 : 97 ≤ x.toNat
  ·by_cases a2 : x.toNat ≤ 122
   ·have hlx : U2 x = true := X1c (by omega)
    have hh := hlx
    have hnx : ∀ j, j < 0 + 1 → ∃ b, s[j]? = some b ∧ XQ b = true := VO hx (show XQ x = true by unfold XQ; rw [hlx]; rfl) hall
    repeat first | refine X0 ?_ | (refine JR ?_; (repeat first | refine Z1 ?_ | refine Z0 ?_ | refine Zc ?_ | refine Z8 ?_ | refine Zm ?_ | refine Z2 ?_ | refine Zb ?_ | refine Zu ?_ | refine Zn ?_ | refine Zq ?_ | refine Zt ?_ | refine Zo ?_ | refine Zp ?_); refine JD ?_) | refine JT ?_ | refine JF ?_ | refine X5 ?_ | refine X4 ?_
    exact Qrf
   ·have hlx : U2 x = false := VZ (by omega)
    have a3 : 65 ≤ x.toNat := by omega
    have a4 : ¬ x.toNat ≤ 90 := by omega
    rw [X3p hx hlx]
    repeat first | refine X0 ?_ | (refine JR ?_; (repeat first | refine Z1 ?_ | refine Z0 ?_ | refine Zc ?_ | refine Z8 ?_ | refine Zm ?_ | refine Z2 ?_ | refine Zl ?_ | refine Zu ?_ | refine Zn ?_ | refine Zq ?_ | refine Zt ?_ | refine Zo ?_ | refine Zp ?_); refine JD ?_) | refine JT ?_ | refine X5 ?_ | refine X4 ?_
    exact QL
  by_cases a3 : 65 ≤ x.toNat
  ·by_cases a4 : x.toNat ≤ 90
   ·have hlx : U2 x = true := X1c (by omega)
    have hh := hlx
    have hnx : ∀ j, j < 0 + 1 → ∃ b, s[j]? = some b ∧ XQ b = true := VO hx (show XQ x = true by unfold XQ; rw [hlx]; rfl) hall
    repeat first | refine X0 ?_ | (refine JR ?_; (repeat first | refine Z1 ?_ | refine Z0 ?_ | refine Zc ?_ | refine Z8 ?_ | refine Zm ?_ | refine Z2 ?_ | refine Zb ?_ | refine Zu ?_ | refine Zn ?_ | refine Zq ?_ | refine Zt ?_ | refine Zo ?_ | refine Zp ?_); refine JD ?_) | refine JT ?_ | refine JF ?_ | refine X5 ?_ | refine X4 ?_
    exact Qrf
   ·have hlx : U2 x = false := VZ (by omega)
    rw [X3p hx hlx]
    repeat first | refine X0 ?_ | (refine JR ?_; (repeat first | refine Z1 ?_ | refine Z0 ?_ | refine Zc ?_ | refine Z8 ?_ | refine Zm ?_ | refine Z2 ?_ | refine Zl ?_ | refine Zu ?_ | refine Zn ?_ | refine Zq ?_ | refine Zt ?_ | refine Zo ?_ | refine Zp ?_); refine JD ?_) | refine JT ?_ | refine X5 ?_ | refine X4 ?_
    exact QL
  have hlx : U2 x = false := VZ (by omega)
  rw [X3p hx hlx]
  repeat first | refine X0 ?_ | (refine JR ?_; (repeat first | refine Z1 ?_ | refine Z0 ?_ | refine Zc ?_ | refine Z8 ?_ | refine Z2 ?_ | refine Zl ?_ | refine Zu ?_ | refine Zn ?_ | refine Zq ?_ | refine Zt ?_ | refine Zo ?_ | refine Zp ?_); refine JD ?_) | refine JT ?_ | refine X5 ?_ | refine X4 ?_
  exact QL
 replace hh := hh (by omega)
 have hi0' : ¬ (i : Int) = 0 := by omega
 clear hc
 by_cases a1 : 97 ≤ x.toNat
 ·by_cases a2 : x.toNat ≤ 122
  ·have hlx : U2 x = true := X1c (by omega)
   have hnx := VO hx (show XQ x = true by unfold XQ; rw [hlx]; rfl) hall
   repeat first | refine X0 ?_ | (refine JR ?_; (repeat first | refine Z1 ?_ | refine Z0 ?_ | refine Zc ?_ | refine Z8 ?_ | refine Zm ?_ | refine Z2 ?_ | refine Zb ?_ | refine Zu ?_ | refine Zn ?_ | refine Zq ?_ | refine Zt ?_ | refine Zo ?_ | refine Zp ?_); refine JD ?_) | refine JT ?_ | refine JF ?_ | refine X5 ?_ | refine X4 ?_
   exact Qsf
  ·have hlx : U2 x = false := VZ (by omega)
   have a3 : 65 ≤ x.toNat := by omega
   have a4 : ¬ x.toNat ≤ 90 := by omega
   ·rw [X0Y hx (show XQ x = false by unfold XQ; rw [hlx, decide_eq_false (by omega)]; rfl)]
    repeat first | refine X0 ?_ | (refine JR ?_; (repeat first | refine Z1 ?_ | refine Z0 ?_ | refine Zc ?_ | refine Z8 ?_ | refine Zm ?_ | refine Zs ?_ | refine Z2 ?_ | refine Zl ?_ | refine Zv ?_ | refine Zu ?_ | refine Zn ?_ | refine Zq ?_ | refine Zt ?_); refine JD ?_) | refine JT ?_ | refine X5 ?_ | refine X4 ?_
    exact QL
 by_cases a3 : 65 ≤ x.toNat
 ·by_cases a4 : x.toNat ≤ 90
  ·have hlx : U2 x = true := X1c (by omega)
   have hnx := VO hx (show XQ x = true by unfold XQ; rw [hlx]; rfl) hall
   repeat first | refine X0 ?_ | (refine JR ?_; (repeat first | refine Z1 ?_ | refine Z0 ?_ | refine Zc ?_ | refine Z8 ?_ | refine Zm ?_ | refine Z2 ?_ | refine Zb ?_ | refine Zu ?_ | refine Zn ?_ | refine Zq ?_ | refine Zt ?_ | refine Zo ?_ | refine Zp ?_); refine JD ?_) | refine JT ?_ | refine JF ?_ | refine X5 ?_ | refine X4 ?_
   exact Qsf
  ·have hlx : U2 x = false := VZ (by omega)
   by_cases g3 : x.toNat = 95
   ·have hnx := VO hx (show XQ x = true by unfold XQ; rw [decide_eq_true (by omega)]; simp) hall
    repeat first | refine X0 ?_ | (refine JR ?_; (repeat first | refine Z1 ?_ | refine Z0 ?_ | refine Zc ?_ | refine Z8 ?_ | refine Zm ?_ | refine Z2 ?_ | refine Zl ?_ | refine Zv ?_ | refine Zb ?_ | refine Zu ?_ | refine Zn ?_ | refine Zq ?_ | refine Zt ?_ | refine Zo ?_ | refine Zp ?_); refine JD ?_) | refine JT ?_ | refine JF ?_ | refine X5 ?_ | refine X4 ?_
    exact Qsf
   ·rw [X0Y hx (show XQ x = false by unfold XQ; rw [hlx, decide_eq_false (by omega)]; rfl)]
    repeat first | refine X0 ?_ | (refine JR ?_; (repeat first | refine Z1 ?_ | refine Z0 ?_ | refine Zc ?_ | refine Z8 ?_ | refine Zm ?_ | refine Zs ?_ | refine Z2 ?_ | refine Zl ?_ | refine Zv ?_ | refine Zu ?_ | refine Zn ?_ | refine Zq ?_ | refine Zt ?_ | refine Zo ?_); refine JD ?_) | refine JT ?_ | refine X5 ?_ | refine X4 ?_
    exact QL
 have hlx : U2 x = false := VZ (by omega)
 by_cases g1 : 48 ≤ x.toNat
 ·by_cases g2 : x.toNat ≤ 57
  ·have hnx := VO hx (show XQ x = true by unfold XQ; rw [decide_eq_true (by omega)]; simp) hall
   repeat first | refine X0 ?_ | (refine JR ?_; (repeat first | refine Z1 ?_ | refine Z0 ?_ | refine Zc ?_ | refine Z8 ?_ | refine Zs ?_ | refine Z2 ?_ | refine Zl ?_ | refine Zv ?_ | refine Zb ?_ | refine Zu ?_ | refine Zn ?_ | refine Zq ?_ | refine Zt ?_ | refine Zo ?_); refine JD ?_) | refine JT ?_ | refine JF ?_ | refine X5 ?_ | refine X4 ?_
   exact Qsf
  ·rw [X0Y hx (show XQ x = false by unfold XQ; rw [hlx, decide_eq_false (by omega)]; rfl)]
   repeat first | refine X0 ?_ | (refine JR ?_; (repeat first | refine Z1 ?_ | refine Z0 ?_ | refine Zc ?_ | refine Z8 ?_ | refine Zs ?_ | refine Z2 ?_ | refine Zl ?_ | refine Zv ?_ | refine Zu ?_ | refine Zn ?_ | refine Zq ?_ | refine Zt ?_ | refine Zo ?_); refine JD ?_) | refine JT ?_ | refine X5 ?_ | refine X4 ?_
   exact QL
 ·rw [X0Y hx (show XQ x = false by unfold XQ; rw [hlx, decide_eq_false (by omega)]; rfl)]
  repeat first | refine X0 ?_ | (refine JR ?_; (repeat first | refine Z1 ?_ | refine Z0 ?_ | refine Zc ?_ | refine Z8 ?_ | refine Z2 ?_ | refine Zl ?_ | refine Zv ?_ | refine Zu ?_ | refine Zn ?_ | refine Zq ?_ | refine Zt ?_ | refine Zo ?_); refine JD ?_) | refine JT ?_ | refine X5 ?_ | refine X4 ?_
  exact QL
theorem X44 {b : List UInt8} {k i : Nat} {c : UInt8} (h : (b.drop k)[i]? = some c) : b[k + i]? = some c := by rwa [List.getElem?_drop] at h
theorem Xa3 : ∀ {l : List UInt8} {q : Nat} {x : UInt8}, l[q]? = some x → Xw (l.drop q) = x.toNat % 128 + 128 * Xw (l.drop (q + 1)) := by
 intro l q x h
 rw [List.drop_eq_getElem_cons (List.getElem?_eq_some_iff.1 h).1, (List.getElem?_eq_some_iff.1 h).2]; rfl
theorem X5t : ∀ (l : List UInt8) (q : Nat), Xw (l.drop q) ≤ Xw l
 | [], q => by simp
 | y :: l, 0 => Nat.le_refl _
 | y :: l, q + 1 => by
  have := X5t l q
  simp only [List.drop_succ_cons, Xw]; omega
theorem X9Y (b : List UInt8) (a : Int) (hb : b.length ≤ 281474976710656) : Con Tryz.prog 100 [] [.d (Xg b), ai a] [] (X2j (X0r (Xz b a).1) (Xz b a).2.1 (Xz b a).2.2) := by
 refine Xb (xs := [X0r (Xz b a).1, ai (Xz b a).2.1, ai (Xz b a).2.2]) Tryz.func100 rfl Tryz.ntmps100 rfl rfl rfl (fun E => ?_)
 by_cases h1 : a < 0
 ·rw [show Xz b a = (0, 0, 1) by unfold Xz; rw [if_pos (.inl h1)]]
  repeat first | refine X0 ?_ | (refine JR ?_; (repeat first | refine Z1 ?_ | refine Z0 ?_ | refine Z8 ?_ | refine Zn ?_ | refine Zo ?_); refine JD ?_) | refine JT ?_
  exact QLb
 by_cases h2 : (b.length : Int) < a
 ·rw [show Xz b a = (0, 0, 1) by unfold Xz; rw [if_pos (.inr h2)]]
  refine Qb ?_; refine QMb ?_; refine QNb ?_; refine QQa ?_; refine QOb ?_; exact QPb
 obtain ⟨k, rfl⟩ : ∃ k : Nat, a = k := ⟨a.toNat, by omega⟩
 have hnum : Xz b k = (let l := b.drop k; let n := XY l; if n = 10 then (0, 0, 4) else if l.length ≤ n then (0, 0, 3) else if n = 9 ∧ 1 < ((l[n]?).getD 0).toNat then (0, 0, 4) else (Xw (l.take (n + 1)), (k : Int) + n + 1, 0)) := by
  unfold Xz; rw [if_neg (by omega), Int.toNat_natCast]
 have hll : (b.drop k).length = b.length - k := List.length_drop
 refine Qb ?_; refine QMb ?_; refine QNb ?_; refine QQa ?_; refine Qr ?_; refine Qd ?_; refine Qe ?_
 refine Xu (fun i : Nat => big (b.drop k) i ∧ i ≤ 10 ∧ i ≤ (b.drop k).length) (fun i => ⟨79, [(0, .d (Xg b)), (1, ai k), (7, ai i)], []⟩) (fun i => 10 - i) 0 ⟨fun j hj => by omega, by omega, by omega⟩
  (Xa rfl ⟨JL, JL, JL, trivial⟩ trivial) ?_
 rintro i ⟨hbig, hi10, hil⟩
 generalize hl : b.drop k = l at *
 by_cases e10 : i = 10
 ·subst e10
  have hm : XY l = 10 := X4p hbig (by omega)
  rw [show Xz b k = (0, 0, 4) by rw [hnum]; simp only [hm, if_true]]
  repeat first | refine X0 ?_ | (refine JR ?_; (repeat first | refine Z1 ?_ | refine Z0 ?_ | refine Z8 ?_ | refine Zl ?_ | refine Zq ?_ | refine Zo ?_); refine JD ?_) | refine JT ?_ | refine JF ?_ | refine Xn ?_
  exact QLb
 by_cases el : i = l.length
 ·have hm : XY l = i := X4p hbig (by omega)
  rw [show Xz b k = (0, 0, 3) by rw [hnum]; simp only [hm]; rw [if_neg e10, if_pos (by omega)]]
  repeat first | refine X0 ?_ | (refine JR ?_; (repeat first | refine Z7 (op := .add) (r' := ni (k + i)) (u := ni k) (v := ni i) ?_ (hr := by exact Y6 (by rw [Xr]; omega)) | refine Z1 ?_ | refine Z0 ?_ | refine Zd ?_ | refine Z8 ?_ | refine Z2 ?_ | refine Zl ?_ | refine Zn ?_ | refine Zq ?_ | refine Zo ?_); refine JD ?_) | refine JT ?_ | refine JF ?_ | refine X4 ?_ | refine Xn ?_
  exact QLb
 obtain ⟨c, hc⟩ := Xv (l := l) (k := i) (by omega)
 have hbc : b[k + i]? = some c := X44 (by rw [hl]; exact hc)
 have hc8 := c.toNat_lt
 by_cases hge : 128 ≤ c.toNat
 ·refine QNb ?_; refine Qtf ?_; refine Z1 ?_; refine Qob ?_; refine Zn ?_; refine Qw ?_; refine Qw ?_; refine Qtf ?_; refine QD ?_; refine Z2 ?_; refine Zn ?_; refine Qh ?_; refine X4 ?_; refine X5 ?_; refine Qnb ?_; exact ⟨i + 1, ⟨X6W hbig hc hge, by omega, by omega⟩, by omega, Xa rfl ⟨JL, JL, JL, trivial⟩ trivial⟩
 have hm : XY l = i := X3w hbig hc (by omega) (by omega)
 by_cases h9 : i = 9 ∧ 1 < c.toNat
 ·rw [show Xz b k = (0, 0, 4) by rw [hnum]; simp only [hm, hc, Option.getD_some]; rw [if_neg e10, if_neg (by omega), if_pos h9]]
  obtain ⟨rfl, h91⟩ := h9
  repeat first | refine X0 ?_ | (refine JR ?_; (repeat first | refine Z7 (op := .add) (r' := ni (k + 9)) (u := ni k) (v := ni 9) ?_ (hr := by exact Y6 (by rw [Xr]; omega)) | refine Z1 ?_ | refine Z0 ?_ | refine Zk ?_ | refine Zd ?_ | refine Z8 ?_ | refine Zs ?_ | refine Z2 ?_ | refine Zl ?_ | refine Zn ?_ | refine Zj ?_); refine JD ?_) | refine JT ?_ | refine JF ?_ | refine X4 ?_ | refine Xn ?_
  exact QLb
 rw [show Xz b k = (Xw (l.take (i + 1)), (k : Int) + i + 1, 0) by rw [hnum]; simp only [hm, hc, Option.getD_some]; rw [if_neg e10, if_neg (by omega), if_neg h9]]
 have hu : Xw (l.take (i + 1)) < 18446744073709551616 := by
  have h1 := X3g l i
  rw [X1l l i c hc]
  by_cases hm9 : i = 9
  ·subst hm9
   have e9 : (2 : Nat) ^ (7 * 9) = 9223372036854775808 := rfl
   rw [e9] at h1 ⊢
   omega
  ·have h2 : (2 : Nat) ^ (7 * i) ≤ 2 ^ 56 := Nat.pow_le_pow_right (by omega) (by omega)
   have e56 : (2 : Nat) ^ 56 = 72057594037927936 := rfl
   rw [e56] at h2
   have h4 : 2 ^ (7 * i) * (c.toNat % 128) ≤ 72057594037927936 * 127 := Nat.mul_le_mul h2 (by omega)
   omega
 by_cases hi9 : i = 9
 ·have hc1 : ¬ (1 < c.toNat) := fun h => h9 ⟨hi9, h⟩
  repeat first | refine X0 ?_ | (refine JR ?_; (repeat first | refine Z7 (op := .add) (r' := ni (k + i)) (u := ni k) (v := ni i) ?_ (hr := by exact Y6 (by rw [Xr]; omega)) | refine Z1 ?_ | refine Z0 ?_ | refine Zk ?_ | refine Zd ?_ | refine Z8 ?_ | refine Zs ?_ | refine Z2 ?_ | refine Zl ?_ | refine Zn ?_ | refine Zj ?_); refine JD ?_) | refine JF ?_ | refine X5 ?_ | refine X4 ?_ | refine Xn ?_
  refine Xu (fun j : Int => -1 ≤ j ∧ j ≤ i) (fun j => ⟨79, [(0, .d (Xg b)), (1, ai k), (7, ai i), (8, X0r (Xw ((l.take (i + 1)).drop (j + 1).toNat))), (9, ai j)], []⟩) (fun j => (j + 1).toNat) i ⟨by omega, by omega⟩
   (Xa rfl ⟨JL, JL, JL, (by rw [show ((i : Int) + 1).toNat = i + 1 by omega, List.drop_of_length_le (by simp; omega)]; exact AVal.le_refl _), JL, trivial⟩ trivial) ?_
  rintro j ⟨hj1, hj2⟩
  by_cases hj : 0 ≤ j
  ·obtain ⟨q, rfl⟩ : ∃ q : Nat, j = q := ⟨j.toNat, by omega⟩
   obtain ⟨x, hx⟩ := Xv (l := l) (k := q) (by omega)
   have hbx : b[k + q]? = some x := X44 (by rw [hl]; exact hx)
   have hx8 := x.toNat_lt
   have hst : Xw ((l.take (i + 1)).drop q) = Xw ((l.take (i + 1)).drop (q + 1)) * 128 + x.toNat % 128 := by
    rw [Xa3 (l := l.take (i + 1)) (q := q) (x := x) (by rw [List.getElem?_take_of_lt (by omega)]; exact hx)]; omega
   have hlt : Xw ((l.take (i + 1)).drop q) < 18446744073709551616 := Nat.lt_of_le_of_lt (X5t _ _) hu
   rw [show ((q : Int) + 1).toNat = q + 1 by omega]
   refine Qg ?_; refine Z2 ?_; refine Qkb ?_; refine Qk ?_; refine Quf ?_; refine QBa ?_; refine Z7 (op := .add) (r' := ni (k + q)) (u := ni k) (v := ni q) ?_ (hr := by exact Y6 (by rw [Xr]; omega)); refine QD ?_; refine Z7 (op := .rem) (r' := n8 (x.toNat % 128)) (u := n8 x.toNat) (v := n8 128) ?_ (hr := by exact YX (by omega)); refine Z3 (u := n8 (x.toNat % 128)) (r := n64 (x.toNat % 128)) ?_ (hr := by exact YM rfl rfl (by rw [XN]; omega)); refine Qvf ?_; refine Qc ?_; refine Qk ?_; refine ZR ?_; refine Qc ?_
   refine ⟨(q : Int) - 1, ⟨by omega, by omega⟩, by omega, Xa rfl ⟨JL, JL, JL, (by rw [show ((q : Int) - 1 + 1).toNat = q by omega]; exact AVal.le_refl _), JL, trivial⟩ trivial⟩
  obtain rfl : j = -1 := by omega
  refine Qg ?_; refine Z2 ?_; refine Ql ?_; refine QGb ?_; refine Qtf ?_; refine Zb ?_; exact QPb
 ·repeat first | refine X0 ?_ | (refine JR ?_; (repeat first | refine Z7 (op := .add) (r' := ni (k + i)) (u := ni k) (v := ni i) ?_ (hr := by exact Y6 (by rw [Xr]; omega)) | refine Z1 ?_ | refine Z0 ?_ | refine Zk ?_ | refine Zd ?_ | refine Z8 ?_ | refine Z2 ?_ | refine Zl ?_ | refine Zn ?_ | refine Zq ?_ | refine Zj ?_ | refine Zo ?_); refine JD ?_) | refine JF ?_ | refine X5 ?_ | refine X4 ?_ | refine Xn ?_
  refine Xu (fun j : Int => -1 ≤ j ∧ j ≤ i) (fun j => ⟨79, [(0, .d (Xg b)), (1, ai k), (7, ai i), (8, X0r (Xw ((l.take (i + 1)).drop (j + 1).toNat))), (9, ai j)], []⟩) (fun j => (j + 1).toNat) i ⟨by omega, by omega⟩
   (Xa rfl ⟨JL, JL, JL, (by rw [show ((i : Int) + 1).toNat = i + 1 by omega, List.drop_of_length_le (by simp; omega)]; exact AVal.le_refl _), JL, trivial⟩ trivial) ?_
  rintro j ⟨hj1, hj2⟩
  by_cases hj : 0 ≤ j
  ·obtain ⟨q, rfl⟩ : ∃ q : Nat, j = q := ⟨j.toNat, by omega⟩
   obtain ⟨x, hx⟩ := Xv (l := l) (k := q) (by omega)
   have hbx : b[k + q]? = some x := X44 (by rw [hl]; exact hx)
   have hx8 := x.toNat_lt
   have hst : Xw ((l.take (i + 1)).drop q) = Xw ((l.take (i + 1)).drop (q + 1)) * 128 + x.toNat % 128 := by
    rw [Xa3 (l := l.take (i + 1)) (q := q) (x := x) (by rw [List.getElem?_take_of_lt (by omega)]; exact hx)]; omega
   have hlt : Xw ((l.take (i + 1)).drop q) < 18446744073709551616 := Nat.lt_of_le_of_lt (X5t _ _) hu
   rw [show ((q : Int) + 1).toNat = q + 1 by omega]
   refine Qg ?_; refine Z2 ?_; refine Qkb ?_; refine Qk ?_; refine Quf ?_; refine QBa ?_; refine Z7 (op := .add) (r' := ni (k + q)) (u := ni k) (v := ni q) ?_ (hr := by exact Y6 (by rw [Xr]; omega)); refine QD ?_; refine Z7 (op := .rem) (r' := n8 (x.toNat % 128)) (u := n8 x.toNat) (v := n8 128) ?_ (hr := by exact YX (by omega)); refine Z3 (u := n8 (x.toNat % 128)) (r := n64 (x.toNat % 128)) ?_ (hr := by exact YM rfl rfl (by rw [XN]; omega)); refine Qvf ?_; refine Qc ?_; refine Qk ?_; refine ZR ?_; refine Qc ?_
   refine ⟨(q : Int) - 1, ⟨by omega, by omega⟩, by omega, Xa rfl ⟨JL, JL, JL, (by rw [show ((q : Int) - 1 + 1).toNat = q by omega]; exact AVal.le_refl _), JL, trivial⟩ trivial⟩
  obtain rfl : j = -1 := by omega
  refine Qg ?_; refine Z2 ?_; refine Ql ?_; refine QGb ?_; refine Qtf ?_; refine Zb ?_; exact QPb
theorem X7n (b : List UInt8) (a : Int) (h : (Xz b a).2.2 = 0) (hb : b.length ≤ 281474976710656) : Con Tryz.prog 101 [] [.d (Xg b), ai a, ai (Xz b a).2.1] [] (ab (!U3 b a)) := by
 refine Xb (xs := [ab (!U3 b a)]) Tryz.func101 rfl Tryz.ntmps101 rfl rfl rfl (fun E => ?_)
 obtain ⟨k, rfl, hk, h1, h2, he⟩ := X6a h
 have hll : (b.drop k).length = b.length - k := List.length_drop
 obtain ⟨c, hc⟩ := Xv (l := b.drop k) h1
 have hbc : b[k + XY (b.drop k)]? = some c := X44 hc
 have hp : U3 b (k : Int) = (decide (0 < XY (b.drop k)) && decide (c = 0)) := by
  show (decide (0 < XY (b.drop ((k : Int)).toNat)) && decide (((b.drop ((k : Int)).toNat)[XY (b.drop ((k : Int)).toNat)]?).getD 0 = 0)) = _
  rw [Int.toNat_natCast, hc]; rfl
 rw [he, hp]
 generalize XY (b.drop k) = m at *
 have ee : Value.int .i64 (((k + m + 1 : Nat) : Int) - 1) = ni (k + m) := by show Value.int .i64 _ = Value.int .i64 _; congr 1; omega
 by_cases h0 : m = 0
 ·subst h0
  refine Qwa ?_; refine Zb ?_; refine Zl ?_; refine QKa ?_; refine QQ ?_; exact QL
 ·have h1' : ¬ (((k + m + 1 : Nat) : Int) = k + 1) := by omega
  have hm : 0 < m := by omega
  by_cases hz : c = 0
  ·have hz3 : c.toNat = 0 := by rw [hz]; rfl
   rw [show (!(decide (0 < m) && decide (c = 0))) = false by simp [hm, hz]]
   refine Qwa ?_; refine Zb ?_; refine Zl ?_; refine QBa ?_; refine Qwf ?_; refine QD ?_; refine Zv ?_; refine QT ?_; exact X1 ⟨_, Xc 6 (y := ab false) (AVal.le_of_eq (by refine Eq.trans (b := ab (decide ((c.toNat : Int) ≠ 0))) rfl ?_; simp [hz3])), ⟨rfl, trivial⟩, X3 _⟩
  ·have hz3 : ¬ (c.toNat = 0) := fun h => hz (UInt8.toNat_inj.1 h)
   rw [show (!(decide (0 < m) && decide (c = 0))) = true by simp [hm, hz]]
   refine Qwa ?_; refine Zb ?_; refine Zl ?_; refine QBa ?_; refine Qwf ?_; refine QD ?_; refine Zv ?_; refine QT ?_; exact X1 ⟨_, Xc 6 (y := ab true) (AVal.le_of_eq (by refine Eq.trans (b := ab (decide ((c.toNat : Int) ≠ 0))) rfl ?_; simp [hz3])), ⟨rfl, trivial⟩, X3 _⟩
end Go.Fw
