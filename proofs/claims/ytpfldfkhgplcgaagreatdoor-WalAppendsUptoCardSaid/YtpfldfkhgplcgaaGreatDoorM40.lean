/- Changes, rules and records, in plain Lean. -/
import Derived.Test.YtpfldfkhgplcgaaGreatDoorChecked
import Derived.Test.YtpfldfkhgplcgaaGreatDoorM17
import Derived.Test.YtpfldfkhgplcgaaGreatDoorM39
set_option maxHeartbeats 8000000
namespace Go.Fw
open Go
set_option linter.unusedVariables false
def X6c (c : Chg) : List UInt8 := if YM c = 0 then Ya c else []
def X6Y (r : Rul) : List UInt8 := if V2 r = 0 then Ua r else []
open Go Go.Proofs
set_option maxRecDepth 100000
set_option linter.unusedSimpArgs false
theorem X5W (n : Nat) (hn : n < 18446744073709551616) : Con Tryz.prog 127 [] [X1b n] [(130, .row 1 ((vS n).map X6))] (.own 130 (vS n).length) := by
 refine Xa (xs := [.own 130 (vS n).length]) Tryz.func127 rfl Tryz.ntmps127 rfl rfl rfl (fun E => ?_)
 refine Qd ?_; refine Qd ?_; refine Qe ?_; refine Xi (UM 3 130 1 rfl rfl rfl) ?_
 refine Xu (ι := List UInt8 × Nat) (fun i => i.1 ++ vS i.2 = vS n ∧ i.2 ≤ n) (fun i => ⟨20, [(0, X1b i.2), (3, .own 130 i.1.length)], [(130, .row 1 (i.1.map X6))]⟩) (fun i => i.2) ([], n) ⟨rfl, Nat.le_refl _⟩
  (X9 rfl ⟨JL, JL, trivial⟩ ⟨rfl, trivial⟩) ?_
 rintro ⟨pre, m⟩ ⟨hpre, hm⟩
 simp only at hpre hm
 have hlen : pre.length ≤ 10 := by
  have h1 := congrArg List.length hpre
  have h2 := Vo hn
  simp only [List.length_append] at h1; omega
 by_cases h : 128 ≤ m
 ·have hv := X9t h
  have e1 : n8 ((m % 128 + 128) % 256) = n8 (UInt8.ofNat (m % 128 + 128)).toNat := by rw [UZ (by omega)]; congr 2; omega
  refine Qg ?_; refine Z2 ?_; refine Qh ?_; refine X4 ?_; refine X5 ?_; refine Qi ?_; refine Z7 (op := .rem) (r' := n64 (m % 128)) (u := n64 m) (v := n64 128) ?_ (hr := by exact U5 (by omega)); refine Z7 (op := .add) (r' := n64 (m % 128 + 128)) (u := n64 (m % 128)) (v := n64 128) ?_ (hr := by exact Ul (by rw [XY]; omega)); refine Z3 (u := n64 (m % 128 + 128)) (r := n8 (UInt8.ofNat (m % 128 + 128)).toNat) ?_ (hr := by exact by rw [← e1]; exact Y6 rfl rfl); refine Qk ?_; refine Ql ?_; refine Z7 (op := .quo) (r' := n64 (m / 128)) (u := n64 m) (v := n64 128) ?_ (hr := by exact Vv (by omega) (by rw [XY]; omega)); refine Qc ?_
  refine ⟨(pre ++ [UInt8.ofNat (m % 128 + 128)], m / 128), ⟨by simp only; rw [← hpre, hv]; simp, by simp only; omega⟩, by simp only; omega, X9 rfl ⟨JL, (by refine AVal.le_of_eq ?_; refine Eq.trans (b := AVal.own 130 (_ + _)) rfl ?_; simp), trivial⟩ ⟨?_, trivial⟩⟩
  refine Eq.trans (b := AObj.row 1 (_ ++ [[.v (n8 _)]])) rfl ?_
  simp
 ·have hv : vS m = [UInt8.ofNat m] := X3F (by omega)
  have e3 : n8 (m % 256) = n8 (UInt8.ofNat m).toNat := by rw [UZ (by omega)]; congr 2; omega
  refine Qg ?_; refine Z2 ?_; refine Qm ?_; refine Qi ?_; refine Z3 (u := n64 m) (r := n8 (UInt8.ofNat m).toNat) ?_ (hr := by exact by rw [← e3]; exact Y6 rfl rfl); refine Qk ?_
  refine X1 ⟨_, Xb 2 (y := .own 130 (vS n).length) (AVal.le_of_eq ?_), ⟨rfl, trivial⟩, Xj ⟨?_, trivial⟩⟩
  ·refine Qn ?_
   rw [← hpre, hv]; simp
  ·refine Eq.trans (b := AObj.row 1 (_ ++ [[.v (n8 _)]])) rfl ?_
   rw [← hpre, hv]; simp
theorem X4L (n : Int) (hn : n ≤ 9223372036854775807) : Con Tryz.prog 89 [] [ai n] [(130, .row 1 ((Xh n).map X6))] (.own 130 (Xh n).length) := by
 refine Xa (xs := [.own 130 (Xh n).length]) Tryz.func89 rfl Tryz.ntmps89 rfl rfl rfl (fun E => ?_)
 by_cases h : n < 0
 ·rw [show Xh n = [] by simp [Xh, h]]
  refine Qp ?_; refine Qq ?_; refine Xi (UM 2 130 1 rfl rfl rfl) ?_; exact Qr
 ·obtain ⟨m, rfl⟩ : ∃ m : Nat, n = m := ⟨n.toNat, by omega⟩
  rw [show Xh (m : Int) = vS m by unfold Xh; rw [if_neg h, Int.toNat_natCast]]
  refine Qt ?_; refine Z9 (hcon := X5W m (by omega)) ?_; exact Qu
theorem XcQ (n : Int) (hn : -9223372036854775808 ≤ n ∧ n ≤ 9223372036854775807) : Con Tryz.prog 155 [] [ai n] [(130, .row 1 ((XS n).map X6))] (.own 130 (XS n).length) := by
 refine Xa (xs := [.own 130 (XS n).length]) Tryz.func155 rfl Tryz.ntmps155 rfl rfl rfl (fun E => ?_)
 by_cases h : n < 0
 ·obtain ⟨m, hm⟩ : ∃ m : Nat, -(n + 1) = (m : Int) := ⟨(-(n + 1)).toNat, by omega⟩
  have ez : zig n = 2 * m + 1 := by unfold zig; rw [if_pos h, hm, Int.toNat_natCast]
  unfold XS; rw [ez]
  have hneg : ∀ w, (Op.unary .neg (.int .i64 (n + 1))).run Tryz.prog w = .ok (ni m) w := fun w => by
   have h := Xay (P := Tryz.prog) (n := n + 1) (by omega) w
   rwa [hm] at h
  refine Qp ?_; refine Qh ?_; refine Qf ?_; refine Zb ?_; refine Za (u := .int .i64 (n + 1)) (r := ni m) ?_ (hr := by exact hneg); refine Z3 (u := ni m) (r := n64 m) ?_ (hr := by exact U2 rfl rfl (by rw [XY]; omega)); refine Z7 (op := .mul) (r' := n64 (2 * m)) (u := n64 2) (v := n64 m) ?_ (hr := by exact U0 (by rw [XY]; omega)); refine Z7 (op := .add) (r' := n64 (2 * m + 1)) (u := n64 (2 * m)) (v := n64 1) ?_ (hr := by exact Ul (by rw [XY]; omega)); refine Z9 (hcon := X5W (2 * m + 1) (by omega)) ?_; exact Qu
 ·obtain ⟨m, rfl⟩ : ∃ m : Nat, n = m := ⟨n.toNat, by omega⟩
  have ez : zig (m : Int) = 2 * m := by unfold zig; rw [if_neg (by omega)]; omega
  unfold XS; rw [ez]
  refine Qt ?_; refine Z7 (op := .mul) (r' := n64 (2 * m)) (u := n64 2) (v := n64 m) ?_ (hr := by exact U0 (by rw [XY]; omega)); refine Z9 (hcon := X5W (2 * m) (by omega)) ?_; exact Qu
theorem X22 (n : Int) (hn : n ≤ 9223372036854775807) : Con Tryz.prog 89 [] [ai n] [] (.d (Xf (Xh n))) := (X4L n hn).data (by simp)
theorem X1U (n : Int) (hn : -9223372036854775808 ≤ n ∧ n ≤ 9223372036854775807) : Con Tryz.prog 155 [] [ai n] [] (.d (Xf (XS n))) := (XcQ n hn).data (by simp)
theorem XfU (s : List UInt8) (hs : s.length ≤ 65536) : Con Tryz.prog 153 [] [Xc s] [(130, .row 1 ((Xw s).map X6))] (.own 130 (Xw s).length) := by
 refine Xa (xs := [.own 130 (Xw s).length]) Tryz.func153 rfl Tryz.ntmps153 rfl rfl rfl (fun E => ?_)
 have hl : (Xh (s.length : Int)).length ≤ 10 := by rw [Vl (by omega)]; exact Vo (by omega)
 have hsz : (X7 s).size = s.length := rfl
 refine Qv ?_; refine Zc ?_; refine Z9 (hcon := X4L s.length (by omega)) ?_; refine Z1 ?_; refine Zi ?_; refine Qj ?_
 refine X1 ⟨_, Xb 2 (y := .own 130 (Xw s).length) (AVal.le_of_eq ?_), ⟨rfl, trivial⟩, Xj ⟨?_, trivial⟩⟩
 ·refine Qn ?_
  simp [Xw]
 ·refine Qic ?_
  simp [Xw]
theorem Xfj (b : List UInt8) : Con Tryz.prog 99 [] [.d (Xf b)] [] (ai (XZ b)) := by
 refine Xa (xs := [ai (XZ b)]) Tryz.func99 rfl Tryz.ntmps99 rfl rfl rfl (fun E => ?_)
 refine Qd ?_; refine Qjb ?_
 refine Xu (fun i : Nat => i ≤ b.length) (fun i => ⟨34, [(0, .d (Xf b)), (3, X4D (Ur b i)), (4, ai i)], []⟩) (fun i => b.length - i) 0 (by omega)
  (X9 rfl ⟨JL, JL, JL, trivial⟩ trivial) ?_
 intro i hi
 refine XbI 0 (sz := 1) (xs := b.map X6) rfl fun hbl => ?_
 rw [List.length_map] at hbl
 have hc := Xb5 b i
 by_cases hlt : i < b.length
 ·obtain ⟨x, hx⟩ := Xx hlt
  have hx8 := x.toNat_lt
  refine Qpb ?_; refine QHb ?_; refine QE ?_; refine Z3 (u := n8 x.toNat) (r := n32 x.toNat) ?_ (hr := by exact U2 rfl rfl (by rw [V1]; omega)); refine Z7 (op := .xor) (r' := n32 (Ur b i ^^^ x.toNat)) (u := n32 (Ur b i)) (v := n32 x.toNat) ?_ (hr := by exact X3m (by rw [V1]; omega) (by rw [V1]; omega)); refine Qc ?_; refine Qd ?_; refine X5 ?_
  refine Xu (fun k : Nat => k ≤ 8) (fun k => ⟨34, [(0, .d (Xf b)), (4, ai i), (3, X4D (X0w k (Ur b i ^^^ x.toNat))), (5, ai k)], []⟩) (fun k => 8 - k) 0 (by omega)
   (X9 rfl ⟨JL, JL, JL, JL, trivial⟩ trivial) ?_
  intro k hk
  have hv := X4K (X5V hc x) k
  have hv1 : X0w (k + 1) (Ur b i ^^^ x.toNat) = VU (X0w k (Ur b i ^^^ x.toNat)) := rfl
  generalize hgv : X0w k (Ur b i ^^^ x.toNat) = v at *
  by_cases hk8 : k < 8
  ·by_cases hodd : v % 2 = 1
   ·have hb : VU v = (v / 2) ^^^ 3988292384 := by unfold VU; rw [if_pos hodd]
    refine QOb ?_; refine Qlb ?_; refine Qf ?_; refine Z7 (op := .rem) (r' := n32 (v % 2)) (u := n32 v) (v := n32 2) ?_ (hr := by exact U5 (by omega)); refine Zl ?_; refine Qh ?_; refine Ql ?_; refine Z7 (op := .quo) (r' := n32 (v / 2)) (u := n32 v) (v := n32 2) ?_ (hr := by exact Vv (by omega) (by rw [V1]; omega)); refine QJ ?_; refine Qc ?_; refine Qnb ?_; exact QZe
   ·have hb : VU v = v / 2 := by unfold VU; rw [if_neg hodd]
    refine QOb ?_; refine Qlb ?_; refine Qf ?_; refine Z7 (op := .rem) (r' := n32 (v % 2)) (u := n32 v) (v := n32 2) ?_ (hr := by exact U5 (by omega)); refine Zl ?_; refine JD ?_; refine JF ?_; refine Ql ?_; refine Z7 (op := .quo) (r' := n32 (v / 2)) (u := n32 v) (v := n32 2) ?_ (hr := by exact Vv (by omega) (by rw [V1]; omega)); refine Qc ?_; refine Qnb ?_; exact QZe
  obtain rfl : k = 8 := by omega
  have hstep : Ur b (i + 1) = v := by rw [X7F hx]; exact hgv
  refine QOb ?_; refine Qm ?_; refine Qnb ?_; exact ⟨i + 1, by omega, by omega, X9 rfl ⟨JL, (by rw [hstep]; exact AVal.le_refl _), JL, trivial⟩ trivial⟩
 obtain rfl : i = b.length := by omega
 have hall := X96 b
 rw [hall] at hc
 rw [hall]
 have exor : X0S b ^^^ 4294967295 = XZ b := by
  have h := BitVec.toNat_not (x := BitVec.ofNat 32 (X0S b))
  rw [← BitVec.allOnes_xor, BitVec.toNat_xor, BitVec.toNat_allOnes, BitVec.toNat_ofNat, Nat.mod_eq_of_lt hc] at h
  rw [Nat.xor_comm]; exact h
 refine Qvb ?_; refine Qf ?_; refine Z4 (op := .xor) (r' := n32 (XZ b)) (u := n32 (X0S b)) (v := n32 4294967295) ?_ (hr' := by exact congrArg n32 exor) (hr := by exact X3m (by rw [V1]; omega) (by rw [V1]; omega)); refine Z3 (u := n32 (XZ b)) (r := ni (XZ b)) ?_ (hr := by exact U2 rfl rfl (by rw [XM]; have := X23 b; omega)); exact QO
theorem X0J (s : List UInt8) (hs : s.length ≤ 65536) : Con Tryz.prog 153 [] [Xc s] [] (.d (Xf (Xw s))) := (XfU s hs).data (by simp)
theorem Xbz (c : UInt8) : Con Tryz.prog 152 [] [au8 c.toNat] [] (ab (Ub c)) := by
 refine Xa (xs := [ab (Ub c)]) Tryz.func152 rfl Tryz.ntmps152 rfl rfl rfl (fun E => ?_)
 by_cases h1 : 97 ≤ c.toNat
 ·by_cases h2 : c.toNat ≤ 122
  ·rw [X1p (by omega)]
   refine QP ?_; refine QR ?_; refine Zo ?_; refine Zp ?_; refine Zp ?_; refine QS ?_; refine Qc ?_; exact QT
  ·rw [X0e (by omega)]
   refine QP ?_; refine Qy ?_; exact QX
 by_cases h3 : 65 ≤ c.toNat
 ·by_cases h4 : c.toNat ≤ 90
  ·rw [X1p (by omega)]
   refine QY ?_; refine QZ ?_; refine Z2 ?_; refine Qy ?_; refine Zm ?_; refine Zn ?_; exact Qaa
  ·rw [X0e (by omega)]
   refine QY ?_; refine QZ ?_; exact QX
 rw [X0e (by omega)]
 repeat first | refine X0 ?_ | (refine JR ?_; (repeat first | refine Z1 ?_ | refine Z0 ?_ | refine Z2 ?_ | refine Zq ?_ | refine Zo ?_); refine JD ?_)
 exact QV
theorem X66 (n : Int) : Con Tryz.prog 121 [] [ai n] [] (ab (idV n)) := by
 refine Xa (xs := [ab (idV n)]) Tryz.func121 rfl Tryz.ntmps121 rfl rfl rfl (fun E => ?_)
 by_cases h1 : 1 ≤ n
 ·by_cases h2 : n ≤ 1000000
  ·rw [show idV n = true by unfold idV; exact decide_eq_true ⟨h1, h2⟩]
   exact Qua
  ·rw [show idV n = false by unfold idV; exact decide_eq_false (by omega)]
   exact Qwa
 ·rw [show idV n = false by unfold idV; exact decide_eq_false (by omega)]
  refine QY ?_; exact QW
theorem XcY (op : Int) : Con Tryz.prog 122 [] [ai op] [] (ab (XV op)) := by
 refine Xa (xs := [ab (XV op)]) Tryz.func122 rfl Tryz.ntmps122 rfl rfl rfl (fun E => ?_)
 by_cases k3 : op = 3
 ·subst k3
  repeat first | refine X0 ?_ | (refine JR ?_; (repeat first | refine Z1 ?_ | refine Z0 ?_ | refine Zl ?_ | refine Zn ?_ | refine Zo ?_); refine JD ?_)
  exact QT
 by_cases k4 : op = 4
 ·subst k4
  repeat first | refine X0 ?_ | (refine JR ?_; (repeat first | refine Z1 ?_ | refine Z0 ?_ | refine Zl ?_ | refine Zn ?_ | refine Zq ?_ | refine Zo ?_); refine JD ?_)
  exact QT
 by_cases k5 : op = 5
 ·subst k5
  repeat first | refine X0 ?_ | (refine JR ?_; (repeat first | refine Z1 ?_ | refine Z0 ?_ | refine Zl ?_ | refine Zn ?_ | refine Zq ?_ | refine Zo ?_); refine JD ?_)
  exact QT
 by_cases k6 : op = 6
 ·subst k6
  repeat first | refine X0 ?_ | (refine JR ?_; (repeat first | refine Z1 ?_ | refine Z0 ?_ | refine Zl ?_ | refine Zn ?_ | refine Zq ?_ | refine Zo ?_); refine JD ?_)
  exact QT
 by_cases k8 : op = 8
 ·subst k8
  repeat first | refine X0 ?_ | (refine JR ?_; (repeat first | refine Z1 ?_ | refine Z0 ?_ | refine Zl ?_ | refine Zq ?_); refine JD ?_)
  exact QT
 rw [show XV op = false by unfold XV; exact decide_eq_false (by omega)]
 repeat first | refine X0 ?_ | (refine JR ?_; (repeat first | refine Z1 ?_ | refine Z0 ?_ | refine Zl ?_ | refine Zq ?_); refine JD ?_)
 exact QV
theorem Xdp (op : Int) : Con Tryz.prog 123 [] [ai op] [] (ab (XQ op)) := by
 refine Xa (xs := [ab (XQ op)]) Tryz.func123 rfl Tryz.ntmps123 rfl rfl rfl (fun E => ?_)
 by_cases k5 : op = 5
 ·subst k5
  refine Qv ?_; refine Zl ?_; refine QR ?_; exact Qta
 by_cases k8 : op = 8
 ·subst k8
  refine Qv ?_; refine QSa ?_; refine Zl ?_; exact Qaa
 rw [show XQ op = false by unfold XQ; exact decide_eq_false (by omega)]
 refine Qv ?_; refine QSa ?_; refine Zl ?_; exact QW
theorem Xde (op : Int) : Con Tryz.prog 134 [] [ai op] [] (ab (XV op)) := by
 refine Xa (xs := [ab (XV op)]) Tryz.func134 rfl Tryz.ntmps134 rfl rfl rfl (fun E => ?_)
 by_cases k3 : op = 3
 ·subst k3
  repeat first | refine X0 ?_ | (refine JR ?_; (repeat first | refine Z1 ?_ | refine Z0 ?_ | refine Zl ?_ | refine Zn ?_ | refine Zo ?_); refine JD ?_)
  exact QT
 by_cases k4 : op = 4
 ·subst k4
  repeat first | refine X0 ?_ | (refine JR ?_; (repeat first | refine Z1 ?_ | refine Z0 ?_ | refine Zl ?_ | refine Zn ?_ | refine Zq ?_ | refine Zo ?_); refine JD ?_)
  exact QT
 by_cases k5 : op = 5
 ·subst k5
  repeat first | refine X0 ?_ | (refine JR ?_; (repeat first | refine Z1 ?_ | refine Z0 ?_ | refine Zl ?_ | refine Zn ?_ | refine Zq ?_ | refine Zo ?_); refine JD ?_)
  exact QT
 by_cases k6 : op = 6
 ·subst k6
  repeat first | refine X0 ?_ | (refine JR ?_; (repeat first | refine Z1 ?_ | refine Z0 ?_ | refine Zl ?_ | refine Zn ?_ | refine Zq ?_ | refine Zo ?_); refine JD ?_)
  exact QT
 by_cases k8 : op = 8
 ·subst k8
  repeat first | refine X0 ?_ | (refine JR ?_; (repeat first | refine Z1 ?_ | refine Z0 ?_ | refine Zl ?_ | refine Zq ?_); refine JD ?_)
  exact QT
 rw [show XV op = false by unfold XV; exact decide_eq_false (by omega)]
 repeat first | refine X0 ?_ | (refine JR ?_; (repeat first | refine Z1 ?_ | refine Z0 ?_ | refine Zl ?_ | refine Zq ?_); refine JD ?_)
 exact QV
theorem Xcc (op : Int) : Con Tryz.prog 136 [] [ai op] [] (ab (XQ op)) := by
 refine Xa (xs := [ab (XQ op)]) Tryz.func136 rfl Tryz.ntmps136 rfl rfl rfl (fun E => ?_)
 by_cases k5 : op = 5
 ·subst k5
  refine Qv ?_; refine Zl ?_; refine QR ?_; exact Qta
 by_cases k8 : op = 8
 ·subst k8
  refine Qv ?_; refine QSa ?_; refine Zl ?_; exact Qaa
 rw [show XQ op = false by unfold XQ; exact decide_eq_false (by omega)]
 refine Qv ?_; refine QSa ?_; refine Zl ?_; exact QW
theorem Xii (s : List UInt8) : Con Tryz.prog 125 [] [.d (.v (.string (X7 s)))] [] (ab (Yl s)) := by
 refine Xa (xs := [ab (Yl s)]) Tryz.func125 rfl Tryz.ntmps125 rfl rfl rfl (fun E => ?_)
 have hsz : (X7 s).size = s.length := rfl
 by_cases h0 : s.length < 1
 ·rw [X79 (List.eq_nil_of_length_eq_zero (by omega))]
  have h0' : ((X7 s).size : Int) < 1 := by omega
  repeat first | refine X0 ?_ | (refine JR ?_; (repeat first | refine Z1 ?_ | refine Z0 ?_ | refine Zc ?_ | refine Z8 ?_ | refine Zn ?_ | refine Zo ?_); refine JD ?_) | refine JT ?_
  exact QN
 have h0' : ¬ ((X7 s).size : Int) < 1 := by omega
 by_cases h20 : 20 < s.length
 ·rw [X75 h20]
  have h20' : (20 : Int) < (X7 s).size := by omega
  refine Qaf ?_; refine Qba ?_; refine Qda ?_; exact Qea
 have h20' : ¬ (20 : Int) < (X7 s).size := by omega
 obtain ⟨c, hc⟩ := Xx (l := s) (k := 0) (by omega)
 have hl := Xbz c
 cases hlc : Ub c with
 | false =>
  rw [X39 hc hlc]
  rw [hlc] at hl
  refine Qaf ?_; refine Qfa ?_; refine Zt ?_; refine Z9 (hcon := hl) ?_; refine Zu ?_; refine Zq ?_; exact Qea
 | true =>
  rw [hlc] at hl
  refine Qaf ?_; refine Qfa ?_; refine Qga ?_; refine Qha ?_; refine Qib ?_
  refine Xu (fun i : Nat => 1 ≤ i ∧ i ≤ s.length ∧ ∀ j, j < i → ∃ b, s[j]? = some b ∧ Y5 b = true) (fun i => ⟨47, [(0, .d (.v (.string (X7 s)))), (3, ai i)], []⟩) (fun i => s.length - i) 1
   ⟨by omega, by omega, fun j hj => ⟨c, by rw [show j = 0 by omega]; exact hc, by unfold Y5; rw [hlc]; rfl⟩⟩
   (X9 rfl ⟨JL, JL, trivial⟩ trivial) ?_
  rintro i ⟨hi1, hi, hall⟩
  by_cases hil : i < s.length
  case neg =>
   obtain rfl : i = s.length := by omega
   rw [X6o hc hlc h20 hall]
   have hn : ¬ ((s.length : Nat) : Int) < (X7 s).size := by omega
   refine Qkb ?_; refine Zc ?_; refine Z8 ?_; refine Qm ?_; exact Qia
  have hn : (i : Int) < (X7 s).size := by omega
  clear hl hlc hc
  obtain ⟨c, hc⟩ := Xx (l := s) hil
  have hl := Xbz c
  cases hlc : Ub c with
  | true =>
   rw [hlc] at hl
   have hnx := X02 hc (show Y5 c = true by unfold Y5; rw [hlc]; rfl) hall
   repeat first | refine X0 ?_ | (refine JR ?_; (repeat first | refine Z1 ?_ | refine Z0 ?_ | refine Zc ?_ | refine Z8 ?_ | refine Zb ?_ | refine Zu ?_ | refine Zq ?_ | refine Zt ?_ | refine Zo ?_ | refine Zp ?_ | refine Z9 (hcon := hl) ?_); refine JD ?_) | refine JT ?_ | refine JF ?_ | refine X5 ?_ | refine X4 ?_
   exact Qbf
  | false =>
   rw [hlc] at hl
   by_cases g3 : c.toNat = 95
   ·have hnx := X02 hc (show Y5 c = true by unfold Y5; rw [decide_eq_true (by omega)]; simp) hall
    refine Qmb ?_; refine Qga ?_; refine QCa ?_; refine Zt ?_; refine Zv ?_; refine Zn ?_; refine Qca ?_; refine Zo ?_; refine QQc ?_; refine Zo ?_; refine Qha ?_; refine Qnb ?_; exact Qbf
   by_cases g1 : 48 ≤ c.toNat
   ·by_cases g2 : c.toNat ≤ 57
    ·have hnx := X02 hc (show Y5 c = true by unfold Y5; rw [decide_eq_true (by omega)]; simp) hall
     refine Qmb ?_; refine Qga ?_; refine QCa ?_; refine Zt ?_; refine Zv ?_; refine Zn ?_; refine QCa ?_; refine Zt ?_; refine Z8 ?_; refine QCa ?_; refine Zt ?_; refine Qba ?_; refine Zn ?_; refine Qs ?_; refine Qnb ?_; exact Qbf
    ·rw [X1g hc (show Y5 c = false by unfold Y5; rw [hlc, decide_eq_false (by omega)]; rfl)]
     repeat first | refine X0 ?_ | (refine JR ?_; (repeat first | refine Z1 ?_ | refine Z0 ?_ | refine Zc ?_ | refine Z8 ?_ | refine Zs ?_ | refine Zv ?_ | refine Zu ?_ | refine Zn ?_ | refine Zq ?_ | refine Zt ?_ | refine Z9 (hcon := hl) ?_); refine JD ?_) | refine JT ?_ | refine X5 ?_ | refine X4 ?_
     exact QN
   ·rw [X1g hc (show Y5 c = false by unfold Y5; rw [hlc, decide_eq_false (by omega)]; rfl)]
    repeat first | refine X0 ?_ | (refine JR ?_; (repeat first | refine Z1 ?_ | refine Z0 ?_ | refine Zc ?_ | refine Z8 ?_ | refine Zv ?_ | refine Zu ?_ | refine Zn ?_ | refine Zt ?_ | refine Zo ?_ | refine Z9 (hcon := hl) ?_); refine JD ?_) | refine JT ?_ | refine X5 ?_ | refine X4 ?_
    exact QN
theorem X4w (s : List UInt8) : Con Tryz.prog 120 [] [.d (.v (.string (X7 s)))] [] (ab (Yl s)) := by
 refine Xa (xs := [ab (Yl s)]) Tryz.func120 rfl Tryz.ntmps120 rfl rfl rfl (fun E => ?_)
 have hsz : (X7 s).size = s.length := rfl
 by_cases h0 : s.length < 1
 ·rw [X79 (List.eq_nil_of_length_eq_zero (by omega))]
  have h0' : ((X7 s).size : Int) < 1 := by omega
  refine Qo ?_; refine Zc ?_; refine Z8 ?_; exact QRa
 have h0' : ¬ ((X7 s).size : Int) < 1 := by omega
 by_cases h20 : 20 < s.length
 ·rw [X75 h20]
  have h20' : (20 : Int) < (X7 s).size := by omega
  refine Qaf ?_; exact QTa
 have h20' : ¬ (20 : Int) < (X7 s).size := by omega
 obtain ⟨c, hc⟩ := Xx (l := s) (k := 0) (by omega)
 refine Qaf ?_; refine Zs ?_; refine Qha ?_; refine Qib ?_
 refine Xu (fun i : Nat => i ≤ s.length ∧ (0 < i → Ub c = true) ∧ ∀ j, j < i → ∃ b, s[j]? = some b ∧ Y5 b = true) (fun i => ⟨65, [(0, .d (.v (.string (X7 s)))), (3, ai i)], []⟩) (fun i => s.length - i) 0
  ⟨by omega, fun h => absurd h (by omega), fun j hj => absurd hj (by omega)⟩
  (X9 rfl ⟨JL, JL, trivial⟩ trivial) ?_
 rintro i ⟨hi, hh, hall⟩
 by_cases hil : i < s.length
 case neg =>
  obtain rfl : i = s.length := by omega
  rw [X6o hc (hh (by omega)) h20 hall]
  have hn : ¬ ((s.length : Nat) : Int) < (X7 s).size := by omega
  refine Qkb ?_; refine Zc ?_; refine Z8 ?_; refine Qm ?_; exact Qia
 have hn : (i : Int) < (X7 s).size := by omega
 obtain ⟨x, hx⟩ := Xx (l := s) hil
 by_cases hi0 : i = 0
 ·subst hi0
  have hcx : c = x := by rw [hc] at hx; exact Option.some.inj hx
  clear hc hh
  by_cases a1 : 97 ≤ x.toNat
  ·by_cases a2 : x.toNat ≤ 122
   ·have hlx : Ub x = true := X1p (by omega)
    have hh := hlx
    have hnx : ∀ j, j < 0 + 1 → ∃ b, s[j]? = some b ∧ Y5 b = true := X02 hx (show Y5 x = true by unfold Y5; rw [hlx]; rfl) hall
    repeat first | refine X0 ?_ | (refine JR ?_; (repeat first | refine Z1 ?_ | refine Z0 ?_ | refine Zc ?_ | refine Z8 ?_ | refine Zm ?_ | refine Z2 ?_ | refine Zb ?_ | refine Zu ?_ | refine Zn ?_ | refine Zq ?_ | refine Zt ?_ | refine Zo ?_ | refine Zp ?_); refine JD ?_) | refine JT ?_ | refine JF ?_ | refine X5 ?_ | refine X4 ?_
    exact Qcf
   ·have hlx : Ub x = false := X0e (by omega)
    have a3 : 65 ≤ x.toNat := by omega
    have a4 : ¬ x.toNat ≤ 90 := by omega
    rw [X39 hx hlx]
    repeat first | refine X0 ?_ | (refine JR ?_; (repeat first | refine Z1 ?_ | refine Z0 ?_ | refine Zc ?_ | refine Z8 ?_ | refine Zm ?_ | refine Z2 ?_ | refine Zl ?_ | refine Zu ?_ | refine Zn ?_ | refine Zq ?_ | refine Zt ?_ | refine Zo ?_ | refine Zp ?_); refine JD ?_) | refine JT ?_ | refine X5 ?_ | refine X4 ?_
    exact QN
  by_cases a3 : 65 ≤ x.toNat
  ·by_cases a4 : x.toNat ≤ 90
   ·have hlx : Ub x = true := X1p (by omega)
    have hh := hlx
    have hnx : ∀ j, j < 0 + 1 → ∃ b, s[j]? = some b ∧ Y5 b = true := X02 hx (show Y5 x = true by unfold Y5; rw [hlx]; rfl) hall
    repeat first | refine X0 ?_ | (refine JR ?_; (repeat first | refine Z1 ?_ | refine Z0 ?_ | refine Zc ?_ | refine Z8 ?_ | refine Zm ?_ | refine Z2 ?_ | refine Zb ?_ | refine Zu ?_ | refine Zn ?_ | refine Zq ?_ | refine Zt ?_ | refine Zo ?_ | refine Zp ?_); refine JD ?_) | refine JT ?_ | refine JF ?_ | refine X5 ?_ | refine X4 ?_
    exact Qcf
   ·have hlx : Ub x = false := X0e (by omega)
    rw [X39 hx hlx]
    repeat first | refine X0 ?_ | (refine JR ?_; (repeat first | refine Z1 ?_ | refine Z0 ?_ | refine Zc ?_ | refine Z8 ?_ | refine Zm ?_ | refine Z2 ?_ | refine Zl ?_ | refine Zu ?_ | refine Zn ?_ | refine Zq ?_ | refine Zt ?_ | refine Zo ?_ | refine Zp ?_); refine JD ?_) | refine JT ?_ | refine X5 ?_ | refine X4 ?_
    exact QN
  have hlx : Ub x = false := X0e (by omega)
  rw [X39 hx hlx]
  repeat first | refine X0 ?_ | (refine JR ?_; (repeat first | refine Z1 ?_ | refine Z0 ?_ | refine Zc ?_ | refine Z8 ?_ | refine Z2 ?_ | refine Zl ?_ | refine Zu ?_ | refine Zn ?_ | refine Zq ?_ | refine Zt ?_ | refine Zo ?_ | refine Zp ?_); refine JD ?_) | refine JT ?_ | refine X5 ?_ | refine X4 ?_
  exact QN
 replace hh := hh (by omega)
 have hi0' : ¬ (i : Int) = 0 := by omega
 clear hc
 by_cases a1 : 97 ≤ x.toNat
 ·by_cases a2 : x.toNat ≤ 122
  ·have hlx : Ub x = true := X1p (by omega)
   have hnx := X02 hx (show Y5 x = true by unfold Y5; rw [hlx]; rfl) hall
   repeat first | refine X0 ?_ | (refine JR ?_; (repeat first | refine Z1 ?_ | refine Z0 ?_ | refine Zc ?_ | refine Z8 ?_ | refine Zm ?_ | refine Z2 ?_ | refine Zb ?_ | refine Zu ?_ | refine Zn ?_ | refine Zq ?_ | refine Zt ?_ | refine Zo ?_ | refine Zp ?_); refine JD ?_) | refine JT ?_ | refine JF ?_ | refine X5 ?_ | refine X4 ?_
   exact Qdf
  ·have hlx : Ub x = false := X0e (by omega)
   have a3 : 65 ≤ x.toNat := by omega
   have a4 : ¬ x.toNat ≤ 90 := by omega
   ·rw [X1g hx (show Y5 x = false by unfold Y5; rw [hlx, decide_eq_false (by omega)]; rfl)]
    repeat first | refine X0 ?_ | (refine JR ?_; (repeat first | refine Z1 ?_ | refine Z0 ?_ | refine Zc ?_ | refine Z8 ?_ | refine Zm ?_ | refine Zs ?_ | refine Z2 ?_ | refine Zl ?_ | refine Zv ?_ | refine Zu ?_ | refine Zn ?_ | refine Zq ?_ | refine Zt ?_); refine JD ?_) | refine JT ?_ | refine X5 ?_ | refine X4 ?_
    exact QN
 by_cases a3 : 65 ≤ x.toNat
 ·by_cases a4 : x.toNat ≤ 90
  ·have hlx : Ub x = true := X1p (by omega)
   have hnx := X02 hx (show Y5 x = true by unfold Y5; rw [hlx]; rfl) hall
   repeat first | refine X0 ?_ | (refine JR ?_; (repeat first | refine Z1 ?_ | refine Z0 ?_ | refine Zc ?_ | refine Z8 ?_ | refine Zm ?_ | refine Z2 ?_ | refine Zb ?_ | refine Zu ?_ | refine Zn ?_ | refine Zq ?_ | refine Zt ?_ | refine Zo ?_ | refine Zp ?_); refine JD ?_) | refine JT ?_ | refine JF ?_ | refine X5 ?_ | refine X4 ?_
   exact Qdf
  ·have hlx : Ub x = false := X0e (by omega)
   by_cases g3 : x.toNat = 95
   ·have hnx := X02 hx (show Y5 x = true by unfold Y5; rw [decide_eq_true (by omega)]; simp) hall
    repeat first | refine X0 ?_ | (refine JR ?_; (repeat first | refine Z1 ?_ | refine Z0 ?_ | refine Zc ?_ | refine Z8 ?_ | refine Zm ?_ | refine Z2 ?_ | refine Zl ?_ | refine Zv ?_ | refine Zb ?_ | refine Zu ?_ | refine Zn ?_ | refine Zq ?_ | refine Zt ?_ | refine Zo ?_ | refine Zp ?_); refine JD ?_) | refine JT ?_ | refine JF ?_ | refine X5 ?_ | refine X4 ?_
    exact Qdf
   ·rw [X1g hx (show Y5 x = false by unfold Y5; rw [hlx, decide_eq_false (by omega)]; rfl)]
    repeat first | refine X0 ?_ | (refine JR ?_; (repeat first | refine Z1 ?_ | refine Z0 ?_ | refine Zc ?_ | refine Z8 ?_ | refine Zm ?_ | refine Zs ?_ | refine Z2 ?_ | refine Zl ?_ | refine Zv ?_ | refine Zu ?_ | refine Zn ?_ | refine Zq ?_ | refine Zt ?_ | refine Zo ?_); refine JD ?_) | refine JT ?_ | refine X5 ?_ | refine X4 ?_
    exact QN
 have hlx : Ub x = false := X0e (by omega)
 by_cases g1 : 48 ≤ x.toNat
 ·by_cases g2 : x.toNat ≤ 57
  ·have hnx := X02 hx (show Y5 x = true by unfold Y5; rw [decide_eq_true (by omega)]; simp) hall
   repeat first | refine X0 ?_ | (refine JR ?_; (repeat first | refine Z1 ?_ | refine Z0 ?_ | refine Zc ?_ | refine Z8 ?_ | refine Zs ?_ | refine Z2 ?_ | refine Zl ?_ | refine Zv ?_ | refine Zb ?_ | refine Zu ?_ | refine Zn ?_ | refine Zq ?_ | refine Zt ?_ | refine Zo ?_); refine JD ?_) | refine JT ?_ | refine JF ?_ | refine X5 ?_ | refine X4 ?_
   exact Qdf
  ·rw [X1g hx (show Y5 x = false by unfold Y5; rw [hlx, decide_eq_false (by omega)]; rfl)]
   repeat first | refine X0 ?_ | (refine JR ?_; (repeat first | refine Z1 ?_ | refine Z0 ?_ | refine Zc ?_ | refine Z8 ?_ | refine Zs ?_ | refine Z2 ?_ | refine Zl ?_ | refine Zv ?_ | refine Zu ?_ | refine Zn ?_ | refine Zq ?_ | refine Zt ?_ | refine Zo ?_); refine JD ?_) | refine JT ?_ | refine X5 ?_ | refine X4 ?_
   exact QN
 ·rw [X1g hx (show Y5 x = false by unfold Y5; rw [hlx, decide_eq_false (by omega)]; rfl)]
  repeat first | refine X0 ?_ | (refine JR ?_; (repeat first | refine Z1 ?_ | refine Z0 ?_ | refine Zc ?_ | refine Z8 ?_ | refine Z2 ?_ | refine Zl ?_ | refine Zv ?_ | refine Zu ?_ | refine Zn ?_ | refine Zq ?_ | refine Zt ?_ | refine Zo ?_); refine JD ?_) | refine JT ?_ | refine X5 ?_ | refine X4 ?_
  exact QN
theorem Xcz (b : List UInt8) (hb : b.length ≤ 65536) : Con Tryz.prog 91 [] [.d (Xf b)] [] (.d (Xf (XD b))) := by
 refine Xa (xs := [.d (Xf (XD b))]) Tryz.func91 rfl Tryz.ntmps91 rfl rfl rfl (fun E => ?_)
 have hl : (Xh (b.length : Int)).length ≤ 10 := by rw [Vl (by omega)]; exact Vo (by omega)
 have hpc := X4L b.length (by omega)
 have hput : XD b = Xh (b.length : Int) ++ b ++ YS b := rfl
 generalize Xh (b.length : Int) = hd at *
 have hlb : (List.map X6 b).length = b.length := by simp
 have hs := X23 b
 have hb0 : n8 (XZ b % 256 % 256) = n8 (UInt8.ofNat (XZ b % 256)).toNat := by rw [UZ (by omega), Nat.mod_mod]
 have hb1 : n8 (XZ b / 256 % 256 % 256) = n8 (UInt8.ofNat (XZ b / 256 % 256)).toNat := by rw [UZ (by omega), Nat.mod_mod]
 have hb2 : n8 (XZ b / 65536 % 256 % 256) = n8 (UInt8.ofNat (XZ b / 65536 % 256)).toNat := by rw [UZ (by omega), Nat.mod_mod]
 have hb3 : n8 (XZ b / 16777216 % 256) = n8 (UInt8.ofNat (XZ b / 16777216)).toNat := by rw [UZ (by omega), Nat.mod_eq_of_lt (by omega)]
 refine Qv ?_; refine Zd ?_; refine Z9 (hcon := hpc) ?_; refine Z1 ?_; refine Z6 ?_; refine Qx ?_; refine Z9 (hcon := Xfj b) ?_; refine Qc ?_; refine Qi ?_; refine Z7 (op := .rem) (r' := ni (XZ b % 256)) (u := ni (XZ b)) (v := ni 256) ?_ (hr := by exact U5 (by omega)); refine Z3 (u := ni (XZ b % 256)) (r := n8 (UInt8.ofNat (XZ b % 256)).toNat) ?_ (hr := by exact by rw [← hb0]; exact Y6 rfl rfl); refine Z1 ?_; refine Z7 (op := .quo) (r' := ni (XZ b / 256)) (u := ni (XZ b)) (v := ni 256) ?_ (hr := by exact Vv (by omega) (by rw [XM]; omega)); refine Z7 (op := .rem) (r' := ni (XZ b / 256 % 256)) (u := ni (XZ b / 256)) (v := ni 256) ?_ (hr := by exact U5 (by omega)); refine Z3 (u := ni (XZ b / 256 % 256)) (r := n8 (UInt8.ofNat (XZ b / 256 % 256)).toNat) ?_ (hr := by exact by rw [← hb1]; exact Y6 rfl rfl); refine Z1 ?_; refine Z7 (op := .quo) (r' := ni (XZ b / 65536)) (u := ni (XZ b)) (v := ni 65536) ?_ (hr := by exact Vv (by omega) (by rw [XM]; omega)); refine Z7 (op := .rem) (r' := ni (XZ b / 65536 % 256)) (u := ni (XZ b / 65536)) (v := ni 256) ?_ (hr := by exact U5 (by omega)); refine Z3 (u := ni (XZ b / 65536 % 256)) (r := n8 (UInt8.ofNat (XZ b / 65536 % 256)).toNat) ?_ (hr := by exact by rw [← hb2]; exact Y6 rfl rfl); refine Z1 ?_; refine Z7 (op := .quo) (r' := ni (XZ b / 16777216)) (u := ni (XZ b)) (v := ni 16777216) ?_ (hr := by exact Vv (by omega) (by rw [XM]; omega)); refine Z3 (u := ni (XZ b / 16777216)) (r := n8 (UInt8.ofNat (XZ b / 16777216)).toNat) ?_ (hr := by exact by rw [← hb3]; exact Y6 rfl rfl); refine Qk ?_; refine QQd ?_; refine Xi (Yc 2 130 rfl rfl (by simp; omega)) ?_; exact X1 ⟨_, Xb 2 (y := .d (Xf (XD b))) (AVal.le_of_eq (by refine Eq.trans (b := AVal.d (.sl 1 (_ ++ _ ++ _))) rfl ?_; rw [hput]; show _ = AVal.d (.sl 1 ((hd ++ b ++ YS b).map X6)); rw [List.map_append, List.map_append]; rfl)), ⟨rfl, trivial⟩, X3 _⟩
end Go.Fw
