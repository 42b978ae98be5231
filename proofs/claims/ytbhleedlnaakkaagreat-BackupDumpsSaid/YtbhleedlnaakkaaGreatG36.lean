/- varint, the program's and the reference's. -/
import Derived.Test.YtbhleedlnaakkaaGreatChecked
import Derived.Test.YtbhleedlnaakkaaGreatG26
import Derived.Test.YtbhleedlnaakkaaGreatG29
import Derived.Test.YtbhleedlnaakkaaGreatG30
set_option maxHeartbeats 16000000
namespace Go.Fw
open Go Go.Proofs
set_option maxRecDepth 100000
set_option linter.unusedVariables false
set_option linter.unusedSimpArgs false
theorem X7k (n : Nat) (hn : n < 18446744073709551616) : Con Tryz.prog 163 [] [X00 n] [(130, .row 1 ((vS n).map X6))] (.own 130 (vS n).length) := by
 refine X9 (xs := [.own 130 (vS n).length]) Tryz.func163 rfl Tryz.ntmps163 rfl rfl rfl (fun E => ?_)
 refine X0 ?_; refine JR ?_; refine Z0 ?_; refine JD ?_; refine X0 ?_; refine JR ?_; refine Z0 ?_; refine JD ?_; refine X0 ?_; refine X4 ?_
 refine Xm (VR 3 130 1 rfl rfl rfl) ?_
 refine Xy (ι := List UInt8 × Nat) (fun i => i.1 ++ vS i.2 = vS n ∧ i.2 ≤ n) (fun i => ⟨20, [(0, X00 i.2), (3, .own 130 i.1.length)], [(130, .row 1 (i.1.map X6))]⟩) (fun i => i.2) ([], n) ⟨rfl, Nat.le_refl _⟩
  (X8 rfl ⟨JL, JL, trivial⟩ ⟨rfl, trivial⟩) ?_
 rintro ⟨pre, m⟩ ⟨hpre, hm⟩
 simp only at hpre hm
 have hlen : pre.length ≤ 10 := by
  have h1 := congrArg List.length hpre
  have h2 := X0I hn
  simp only [List.length_append] at h1; omega
 by_cases h : 128 ≤ m
 ·have hv := X8k h
  have e1 : n8 ((m % 128 + 128) % 256) = n8 (UInt8.ofNat (m % 128 + 128)).toNat := by rw [UL (by omega)]; congr 2; omega
  refine X0 ?_; refine X0 ?_; refine JR ?_; refine Z1 ?_; refine Z2 ?_; refine JD ?_; refine JT ?_; refine X2 ?_; refine X4 ?_; refine X0 ?_; refine JR ?_; refine Z1 ?_; refine Z1 ?_
  refine Z7 (op := .rem) (r' := n64 (m % 128)) (u := n64 m) (v := n64 128) ?_ (hr := by exact YG (by omega))
  refine Z7 (op := .add) (r' := n64 (m % 128 + 128)) (u := n64 (m % 128)) (v := n64 128) ?_ (hr := by exact Yb (by rw [XK]; omega))
  refine Z3 (u := n64 (m % 128 + 128)) (r := n8 (UInt8.ofNat (m % 128 + 128)).toNat) ?_ (hr := by exact by rw [← e1]; exact YJ rfl rfl); refine Z5 ?_; refine Z6 ?_; refine Z0 ?_; refine JD ?_; refine JR ?_
  refine Z1 ?_; refine Z7 (op := .quo) (r' := n64 (m / 128)) (u := n64 m) (v := n64 128) ?_ (hr := by exact UN (by omega) (by rw [XK]; omega)); refine Z0 ?_; refine JD ?_
  refine ⟨(pre ++ [UInt8.ofNat (m % 128 + 128)], m / 128), ⟨by simp only; rw [← hpre, hv]; simp, by simp only; omega⟩, by simp only; omega, X8 rfl ⟨JL, (by refine AVal.le_of_eq ?_; refine Eq.trans (b := AVal.own 130 (_ + _)) rfl ?_; simp), trivial⟩ ⟨?_, trivial⟩⟩
  refine Eq.trans (b := AObj.row 1 (_ ++ [[.v (n8 _)]])) rfl ?_
  simp
 ·have hv : vS m = [UInt8.ofNat m] := XaP (by omega)
  have e3 : n8 (m % 256) = n8 (UInt8.ofNat m).toNat := by rw [UL (by omega)]; congr 2; omega
  refine X0 ?_; refine X0 ?_; refine JR ?_; refine Z1 ?_; refine Z2 ?_; refine JD ?_; refine JF ?_; refine Xj ?_; refine X0 ?_; refine JR ?_; refine Z1 ?_; refine Z1 ?_
  refine Z3 (u := n64 m) (r := n8 (UInt8.ofNat m).toNat) ?_ (hr := by exact by rw [← e3]; exact YJ rfl rfl); refine Z5 ?_; refine Z6 ?_; refine Z0 ?_; refine JD ?_
  refine X1 ⟨_, Xh 2 (y := .own 130 (vS n).length) (AVal.le_of_eq ?_), ⟨rfl, trivial⟩, Xd ⟨?_, trivial⟩⟩
  ·refine Eq.trans (b := AVal.own 130 (_ + _)) rfl ?_
   rw [← hpre, hv]; simp
  ·refine Eq.trans (b := AObj.row 1 (_ ++ [[.v (n8 _)]])) rfl ?_
   rw [← hpre, hv]; simp
end Go.Fw
namespace Go.Fw
open Go Go.Proofs
set_option maxRecDepth 100000
set_option linter.unusedVariables false
set_option linter.unusedSimpArgs false
theorem X2x (n : Int) (hn : n ≤ 9223372036854775807) : Con Tryz.prog 104 [] [ai n] [(130, .row 1 ((Xc n).map X6))] (.own 130 (Xc n).length) := by
 refine X9 (xs := [.own 130 (Xc n).length]) Tryz.func104 rfl Tryz.ntmps104 rfl rfl rfl (fun E => ?_)
 by_cases h : n < 0
 ·rw [show Xc n = [] by simp [Xc, h]]
  refine X0 ?_; refine JR ?_; refine Z0 ?_; refine JD ?_; refine X0 ?_; refine X0 ?_; refine JR ?_; refine Z1 ?_; refine Z8 ?_; refine JD ?_; refine JT ?_; refine X0 ?_; refine JR ?_; refine Z0 ?_
  refine JD ?_
  refine Xm (VR 2 130 1 rfl rfl rfl) ?_
  exact X1 ⟨_, St.le_refl _, ⟨rfl, trivial⟩, Xd ⟨rfl, trivial⟩⟩
 ·obtain ⟨m, rfl⟩ : ∃ m : Nat, n = m := ⟨n.toNat, by omega⟩
  rw [show Xc (m : Int) = vS m by unfold Xc; rw [if_neg h, Int.toNat_natCast]]
  refine X0 ?_; refine JR ?_; refine Z0 ?_; refine JD ?_; refine X0 ?_; refine X0 ?_; refine JR ?_; refine Z1 ?_; refine Z8 ?_; refine JD ?_; refine JF ?_; refine X2 ?_; refine X0 ?_; refine JR ?_
  refine Z1 ?_; refine Z3 (u := ni m) (r := n64 m) ?_ (hr := by exact Yu rfl rfl (by rw [XK]; omega)); refine Z9 (hcon := X7k m (by omega)) ?_; refine Z0 ?_; refine JD ?_
  exact X1 ⟨_, St.le_refl _, ⟨rfl, trivial⟩, Xd ⟨rfl, trivial⟩⟩
theorem Xgx (n : Int) (hn : -9223372036854775808 ≤ n ∧ n ≤ 9223372036854775807) : Con Tryz.prog 106 [] [ai n] [(130, .row 1 ((XP n).map X6))] (.own 130 (XP n).length) := by
 refine X9 (xs := [.own 130 (XP n).length]) Tryz.func106 rfl Tryz.ntmps106 rfl rfl rfl (fun E => ?_)
 by_cases h : n < 0
 ·obtain ⟨m, hm⟩ : ∃ m : Nat, -(n + 1) = (m : Int) := ⟨(-(n + 1)).toNat, by omega⟩
  have ez : zig n = 2 * m + 1 := by unfold zig; rw [if_pos h, hm, Int.toNat_natCast]
  unfold XP; rw [ez]
  have hneg : ∀ w, (Op.unary .neg (.int .i64 (n + 1))).run Tryz.prog w = .ok (ni m) w := fun w => by
   have h := X5J (P := Tryz.prog) (n := n + 1) (by omega) w
   rwa [hm] at h
  refine X0 ?_; refine JR ?_; refine Z0 ?_; refine JD ?_; refine X0 ?_; refine X0 ?_; refine JR ?_; refine Z1 ?_; refine Z8 ?_; refine JD ?_; refine JT ?_; refine X0 ?_; refine JR ?_; refine Z1 ?_
  refine Zb ?_; refine Za (u := .int .i64 (n + 1)) (r := ni m) ?_ (hr := by exact hneg); refine Z3 (u := ni m) (r := n64 m) ?_ (hr := by exact Yu rfl rfl (by rw [XK]; omega))
  refine Z7 (op := .mul) (r' := n64 (2 * m)) (u := n64 2) (v := n64 m) ?_ (hr := by exact YV (by rw [XK]; omega))
  refine Z7 (op := .add) (r' := n64 (2 * m + 1)) (u := n64 (2 * m)) (v := n64 1) ?_ (hr := by exact Yb (by rw [XK]; omega)); refine Z9 (hcon := X7k (2 * m + 1) (by omega)) ?_; refine Z0 ?_; refine JD ?_
  exact X1 ⟨_, St.le_refl _, ⟨rfl, trivial⟩, Xd ⟨rfl, trivial⟩⟩
 ·obtain ⟨m, rfl⟩ : ∃ m : Nat, n = m := ⟨n.toNat, by omega⟩
  have ez : zig (m : Int) = 2 * m := by unfold zig; rw [if_neg (by omega)]; omega
  unfold XP; rw [ez]
  refine X0 ?_; refine JR ?_; refine Z0 ?_; refine JD ?_; refine X0 ?_; refine X0 ?_; refine JR ?_; refine Z1 ?_; refine Z8 ?_; refine JD ?_; refine JF ?_; refine X2 ?_; refine X0 ?_; refine JR ?_
  refine Z1 ?_; refine Z3 (u := ni m) (r := n64 m) ?_ (hr := by exact Yu rfl rfl (by rw [XK]; omega))
  refine Z7 (op := .mul) (r' := n64 (2 * m)) (u := n64 2) (v := n64 m) ?_ (hr := by exact YV (by rw [XK]; omega)); refine Z9 (hcon := X7k (2 * m) (by omega)) ?_; refine Z0 ?_; refine JD ?_
  exact X1 ⟨_, St.le_refl _, ⟨rfl, trivial⟩, Xd ⟨rfl, trivial⟩⟩
theorem X2p (n : Int) (hn : n ≤ 9223372036854775807) : Con Tryz.prog 104 [] [ai n] [] (.d (Xa (Xc n))) := (X2x n hn).data (by simp)
theorem X1C (n : Int) (hn : -9223372036854775808 ≤ n ∧ n ≤ 9223372036854775807) : Con Tryz.prog 106 [] [ai n] [] (.d (Xa (XP n))) := (Xgx n hn).data (by simp)
end Go.Fw
namespace Go.Fw
open Go Go.Proofs
set_option maxRecDepth 100000
set_option linter.unusedVariables false
set_option linter.unusedSimpArgs false
theorem Xdb (s : List UInt8) (hs : s.length ≤ 65536) : Con Tryz.prog 105 [] [XD s] [(130, .row 1 ((Xz s).map X6))] (.own 130 (Xz s).length) := by
 refine X9 (xs := [.own 130 (Xz s).length]) Tryz.func105 rfl Tryz.ntmps105 rfl rfl rfl (fun E => ?_)
 have hl : (Xc (s.length : Int)).length ≤ 10 := by rw [X1o (by omega)]; exact X0I (by omega)
 have hsz : (X5 s).size = s.length := rfl
 refine X0 ?_; refine JR ?_; refine Z0 ?_; refine JD ?_; refine X0 ?_; refine JR ?_; refine Z1 ?_; refine Zc ?_; refine Z9 (hcon := X2x s.length (by omega)) ?_; refine Z1 ?_; refine Zi ?_; refine Z6 ?_
 refine Z0 ?_; refine JD ?_
 refine X1 ⟨_, Xh 2 (y := .own 130 (Xz s).length) (AVal.le_of_eq ?_), ⟨rfl, trivial⟩, Xd ⟨?_, trivial⟩⟩
 ·refine Eq.trans (b := AVal.own 130 (_ + _)) rfl ?_
  simp [Xz]
 ·refine Eq.trans (b := AObj.row 1 (_ ++ _)) rfl ?_
  simp [Xz]
theorem X1b (s : List UInt8) (hs : s.length ≤ 65536) : Con Tryz.prog 105 [] [XD s] [] (.d (Xa (Xz s))) := (Xdb s hs).data (by simp)
end Go.Fw
namespace Go.Fw
open Go Go.Proofs
set_option maxRecDepth 100000
set_option linter.unusedVariables false
set_option linter.unusedSimpArgs false
theorem XeL (b : List UInt8) (hb : b.length ≤ 65536) : Con Tryz.prog 103 [] [.d (Xa b)] [] (.d (Xa (Y2 b))) := by
 refine X9 (xs := [.d (Xa (Y2 b))]) Tryz.func103 rfl Tryz.ntmps103 rfl rfl rfl (fun E => ?_)
 have hl : (Xc (b.length : Int)).length ≤ 10 := by rw [X1o (by omega)]; exact X0I (by omega)
 have hpc := X2x b.length (by omega)
 have hput : Y2 b = Xc (b.length : Int) ++ b ++ Ua b := rfl
 generalize Xc (b.length : Int) = hd at *
 have hlb : (List.map X6 b).length = b.length := by simp
 have hs := X1T b
 have hb0 : n8 (XT b % 256 % 256) = n8 (UInt8.ofNat (XT b % 256)).toNat := by rw [UL (by omega), Nat.mod_mod]
 have hb1 : n8 (XT b / 256 % 256 % 256) = n8 (UInt8.ofNat (XT b / 256 % 256)).toNat := by rw [UL (by omega), Nat.mod_mod]
 have hb2 : n8 (XT b / 65536 % 256 % 256) = n8 (UInt8.ofNat (XT b / 65536 % 256)).toNat := by rw [UL (by omega), Nat.mod_mod]
 have hb3 : n8 (XT b / 16777216 % 256) = n8 (UInt8.ofNat (XT b / 16777216)).toNat := by rw [UL (by omega), Nat.mod_eq_of_lt (by omega)]
 refine X0 ?_; refine JR ?_; refine Z0 ?_; refine JD ?_; refine X0 ?_; refine JR ?_; refine Z1 ?_; refine Zd ?_; refine Z9 (hcon := hpc) ?_; refine Z1 ?_; refine Z6 ?_; refine Z0 ?_; refine JD ?_
 refine X0 ?_; refine JR ?_; refine Z1 ?_; refine Z9 (hcon := X6h b) ?_; refine Z0 ?_; refine JD ?_; refine X0 ?_; refine JR ?_; refine Z1 ?_; refine Z1 ?_
 refine Z7 (op := .rem) (r' := ni (XT b % 256)) (u := ni (XT b)) (v := ni 256) ?_ (hr := by exact YG (by omega))
 refine Z3 (u := ni (XT b % 256)) (r := n8 (UInt8.ofNat (XT b % 256)).toNat) ?_ (hr := by exact by rw [← hb0]; exact YJ rfl rfl); refine Z1 ?_
 refine Z7 (op := .quo) (r' := ni (XT b / 256)) (u := ni (XT b)) (v := ni 256) ?_ (hr := by exact UN (by omega) (by rw [Xx]; omega))
 refine Z7 (op := .rem) (r' := ni (XT b / 256 % 256)) (u := ni (XT b / 256)) (v := ni 256) ?_ (hr := by exact YG (by omega))
 refine Z3 (u := ni (XT b / 256 % 256)) (r := n8 (UInt8.ofNat (XT b / 256 % 256)).toNat) ?_ (hr := by exact by rw [← hb1]; exact YJ rfl rfl); refine Z1 ?_
 refine Z7 (op := .quo) (r' := ni (XT b / 65536)) (u := ni (XT b)) (v := ni 65536) ?_ (hr := by exact UN (by omega) (by rw [Xx]; omega))
 refine Z7 (op := .rem) (r' := ni (XT b / 65536 % 256)) (u := ni (XT b / 65536)) (v := ni 256) ?_ (hr := by exact YG (by omega))
 refine Z3 (u := ni (XT b / 65536 % 256)) (r := n8 (UInt8.ofNat (XT b / 65536 % 256)).toNat) ?_ (hr := by exact by rw [← hb2]; exact YJ rfl rfl); refine Z1 ?_
 refine Z7 (op := .quo) (r' := ni (XT b / 16777216)) (u := ni (XT b)) (v := ni 16777216) ?_ (hr := by exact UN (by omega) (by rw [Xx]; omega))
 refine Z3 (u := ni (XT b / 16777216)) (r := n8 (UInt8.ofNat (XT b / 16777216)).toNat) ?_ (hr := by exact by rw [← hb3]; exact YJ rfl rfl); refine Z5 ?_; refine Z6 ?_; refine Z0 ?_; refine JD ?_
 refine Xm (Y0 130 rfl) ?_
 refine Xm (YC 2 130 rfl rfl (by simp; omega)) ?_
 exact X1 ⟨_, Xh 2 (y := .d (Xa (Y2 b))) (AVal.le_of_eq (by refine Eq.trans (b := AVal.d (.sl 1 (_ ++ _ ++ _))) rfl ?_; rw [hput]; show _ = AVal.d (.sl 1 ((hd ++ b ++ Ua b).map X6)); rw [List.map_append, List.map_append]; rfl)), ⟨rfl, trivial⟩, X3 _⟩
end Go.Fw
namespace Go.Fw
open Go Go.Proofs
set_option maxRecDepth 100000
set_option linter.unusedVariables false
set_option linter.unusedSimpArgs false
theorem Xbu : ∀ {l : List Val} {x : Val}, x ∈ l → (XA x).length ≤ (XU l).length
 | [], x, h => by simp at h
 | v :: r, x, h => by
  simp only [XU, List.length_append]
  rcases List.mem_cons.1 h with rfl | h
  ·omega
  ·have := Xbu h; omega
def X2g (v : Val) : Prop := Con Tryz.prog 164 [] [Xv v] [] (.d (Xa (Ys v)))
theorem Xi3 (v : Val) (hok : XY v) (hb : (XA v).length ≤ 140737488355328) (ih : X7 8 v = true → ∀ x ∈ v.l, X2g x) : X2g v := by
 have hval := X3t v hok
 refine X9 (xs := [.d (Xa (Ys v))]) Tryz.func164 rfl Tryz.ntmps164 rfl rfl rfl (fun E => ?_)
 obtain ⟨k, n, d, s, l⟩ := v
 simp only [Xv] at hval
 have hlen := UR l
 simp only [Val.l] at ih
 cases hv : X7 8 (.mk k n d s l) with
 | false =>
  rw [hv] at hval
  rw [show Ys (.mk k n d s l) = [] by unfold Ys; rw [hv]; rfl]
  refine X0 ?_; refine JR ?_; refine ZA (γ := 100) ?_; refine Z0 ?_; refine JD ?_; refine X0 ?_; refine X0 ?_; refine JR ?_; refine ZL ?_; refine Z9 (hcon := hval) ?_; refine Zu ?_; refine JD ?_
  refine JT ?_; refine X0 ?_; refine JR ?_; refine Z0 ?_; refine JD ?_
  exact X1 ⟨_, Xh 2 (y := .d (Xa [])) (AVal.le_nil 1), ⟨rfl, trivial⟩, X3 _⟩
 | true =>
  have hel := X6J hv
  have ihv := ih hv
  rw [hv] at hval
  rw [show Ys (.mk k n d s l) = XA (.mk k n d s l) by unfold Ys; rw [hv]; rfl]
  rw [X7] at hv
  by_cases hk0 : k = 0
  ·subst hk0
   have hput : XA (.mk 0 n d s l) = [UInt8.ofNat 0] := by rw [XA]; simp
   rw [hput] at hb ⊢
   repeat first | refine X0 ?_ | (refine JR ?_; (repeat first | refine Z3 (u := nj 0) (r := n8 0) ?_ (hr := by exact YJ rfl rfl) | refine ZZ (γ := 130) ?_ | refine Z1 ?_ | refine Z0 ?_ | refine ZB ?_ | refine ZC ?_ | refine ZL ?_ | refine Zl ?_ | refine Zu ?_ | refine ZA (γ := 100) ?_ | refine Z9 (hcon := hval) ?_); refine JD ?_) | refine JF ?_ | refine X4 ?_ | refine X2 ?_
   refine Xm (Y0 130 rfl) ?_
   refine Xm (YC 2 130 rfl rfl (by first | rfl | (simp only [List.length_append, List.length_map, List.length_cons, List.length_nil] <;> omega))) ?_
   exact X1 ⟨_, Xh 2 (y := .d (Xa (UInt8.ofNat 0 :: []))) (AVal.le_of_eq (by refine Eq.trans (b := AVal.d (.sl 1 (_))) rfl ?_; show _ = AVal.d (.sl 1 ((UInt8.ofNat 0 :: []).map X6)); simp only [List.map_append, List.map_cons, List.map_nil, List.append_assoc, List.cons_append, List.nil_append]; rfl)), ⟨rfl, trivial⟩, X3 _⟩
  by_cases hk1 : k = 1
  ·subst hk1
   have hput : XA (.mk 1 n d s l) = UInt8.ofNat 1 :: XP n := by rw [XA]; simp
   have hn : -9223372036854775808 ≤ n ∧ n ≤ 9223372036854775807 := by simp at hv; omega
   have hpi := X1C n hn
   rw [hput] at hb ⊢
   generalize XP n = q at *
   simp only [List.length_cons] at hb
   refine X0 ?_; refine JR ?_; refine ZA (γ := 100) ?_; refine Z0 ?_; refine JD ?_; refine X0 ?_; refine X0 ?_; refine JR ?_; refine ZL ?_; refine Z9 (hcon := hval) ?_; refine Zu ?_; refine JD ?_
   refine JF ?_; refine X2 ?_; refine X0 ?_; refine JR ?_; refine ZB ?_; refine ZC ?_; refine Z3 (u := nj 1) (r := n8 1) ?_ (hr := by exact YJ rfl rfl); refine ZZ (γ := 130) ?_; refine Z0 ?_; refine JD ?_
   refine X0 ?_; refine X0 ?_; refine JR ?_; refine ZB ?_; refine ZC ?_; refine JD ?_; refine X4 ?_; refine X0 ?_; refine X0 ?_; refine JR ?_; refine Zl ?_; refine Z0 ?_; refine JD ?_
   refine JT ?_; refine X2 ?_; refine JT ?_; refine X0 ?_; refine JR ?_; refine Z1 ?_; refine ZB ?_; refine ZC ?_; refine Z9 (hcon := hpi) ?_; refine Z6 ?_; refine Z0 ?_; refine JD ?_
   refine Xm (Y0 130 rfl) ?_
   refine Xm (YC 2 130 rfl rfl (by first | rfl | (simp only [List.length_append, List.length_map, List.length_cons, List.length_nil] <;> omega))) ?_
   exact X1 ⟨_, Xh 2 (y := .d (Xa (UInt8.ofNat 1 :: q))) (AVal.le_of_eq (by refine Eq.trans (b := AVal.d (.sl 1 (_ ++ _))) rfl ?_; show _ = AVal.d (.sl 1 ((UInt8.ofNat 1 :: q).map X6)); simp only [List.map_append, List.map_cons, List.map_nil, List.append_assoc, List.cons_append, List.nil_append]; rfl)), ⟨rfl, trivial⟩, X3 _⟩
  by_cases hk2 : k = 2
  ·subst hk2
   have hput : XA (.mk 2 n d s l) = UInt8.ofNat 2 :: XP n := by rw [XA]; simp
   have hn : -9223372036854775808 ≤ n ∧ n ≤ 9223372036854775807 := by simp at hv; omega
   have hpi := X1C n hn
   rw [hput] at hb ⊢
   generalize XP n = q at *
   simp only [List.length_cons] at hb
   repeat first | refine X0 ?_ | (refine JR ?_; (repeat first | refine Z3 (u := nj 2) (r := n8 2) ?_ (hr := by exact YJ rfl rfl) | refine ZZ (γ := 130) ?_ | refine Z1 ?_ | refine Z0 ?_ | refine ZB ?_ | refine ZC ?_ | refine ZL ?_ | refine Zl ?_ | refine Zu ?_ | refine ZA (γ := 100) ?_ | refine Z6 ?_ | refine Z9 (hcon := hval) ?_ | refine Z9 (hcon := hpi) ?_); refine JD ?_) | refine JT ?_ | refine JF ?_ | refine X4 ?_ | refine X2 ?_
   refine Xm (Y0 130 rfl) ?_
   refine Xm (YC 2 130 rfl rfl (by first | rfl | (simp only [List.length_append, List.length_map, List.length_cons, List.length_nil] <;> omega))) ?_
   exact X1 ⟨_, Xh 2 (y := .d (Xa (UInt8.ofNat 2 :: q))) (AVal.le_of_eq (by refine Eq.trans (b := AVal.d (.sl 1 (_ ++ _))) rfl ?_; show _ = AVal.d (.sl 1 ((UInt8.ofNat 2 :: q).map X6)); simp only [List.map_append, List.map_cons, List.map_nil, List.append_assoc, List.cons_append, List.nil_append]; rfl)), ⟨rfl, trivial⟩, X3 _⟩
  by_cases hk3 : k = 3
  ·subst hk3
   have hput : XA (.mk 3 n d s l) = UInt8.ofNat 3 :: (XP n ++ XP d) := by rw [XA]; simp
   have hnd : (-9223372036854775808 ≤ n ∧ n ≤ 9223372036854775807) ∧ -9223372036854775808 ≤ d ∧ d ≤ 9223372036854775807 := by simp [V6] at hv; omega
   have hpi := X1C n hnd.1
   have hpd := X1C d hnd.2
   rw [hput] at hb ⊢
   generalize XP n = q at *
   generalize XP d = q2 at *
   simp only [List.length_append, List.length_cons] at hb
   repeat first | refine X0 ?_ | (refine JR ?_; (repeat first | refine Z3 (u := nj 3) (r := n8 3) ?_ (hr := by exact YJ rfl rfl) | refine ZZ (γ := 130) ?_ | refine Z1 ?_ | refine Z0 ?_ | refine ZB ?_ | refine ZC ?_ | refine ZL ?_ | refine Zl ?_ | refine Zu ?_ | refine ZA (γ := 100) ?_ | refine Z6 ?_ | refine Z9 (hcon := hval) ?_ | refine Z9 (hcon := hpi) ?_ | refine Z9 (hcon := hpd) ?_); refine JD ?_) | refine JT ?_ | refine JF ?_ | refine X4 ?_ | refine X2 ?_
   refine Xm (Y0 130 rfl) ?_
   refine Xm (YC 2 130 rfl rfl (by first | rfl | (simp only [List.length_append, List.length_map, List.length_cons, List.length_nil] <;> omega))) ?_
   exact X1 ⟨_, Xh 2 (y := .d (Xa (UInt8.ofNat 3 :: (q ++ q2)))) (AVal.le_of_eq (by refine Eq.trans (b := AVal.d (.sl 1 (_ ++ _ ++ _))) rfl ?_; show _ = AVal.d (.sl 1 ((UInt8.ofNat 3 :: (q ++ q2)).map X6)); simp only [List.map_append, List.map_cons, List.map_nil, List.append_assoc, List.cons_append, List.nil_append]; rfl)), ⟨rfl, trivial⟩, X3 _⟩
  by_cases hk4 : k = 4
  ·subst hk4
   have hput : XA (.mk 4 n d s l) = UInt8.ofNat 4 :: Xz s := by rw [XA]; simp
   have hs : s.length ≤ 65536 := by simp at hv; omega
   have hpi := X1b s hs
   rw [hput] at hb ⊢
   generalize Xz s = q at *
   simp only [List.length_cons] at hb
   repeat first | refine X0 ?_ | (refine JR ?_; (repeat first | refine Z3 (u := nj 4) (r := n8 4) ?_ (hr := by exact YJ rfl rfl) | refine ZZ (γ := 130) ?_ | refine Z1 ?_ | refine Z0 ?_ | refine ZB ?_ | refine ZC ?_ | refine ZL ?_ | refine Zl ?_ | refine Zu ?_ | refine ZA (γ := 100) ?_ | refine Z6 ?_ | refine Z9 (hcon := hval) ?_ | refine Z9 (hcon := hpi) ?_); refine JD ?_) | refine JT ?_ | refine JF ?_ | refine X4 ?_ | refine X2 ?_
   refine Xm (Y0 130 rfl) ?_
   refine Xm (YC 2 130 rfl rfl (by first | rfl | (simp only [List.length_append, List.length_map, List.length_cons, List.length_nil] <;> omega))) ?_
   exact X1 ⟨_, Xh 2 (y := .d (Xa (UInt8.ofNat 4 :: q))) (AVal.le_of_eq (by refine Eq.trans (b := AVal.d (.sl 1 (_ ++ _))) rfl ?_; show _ = AVal.d (.sl 1 ((UInt8.ofNat 4 :: q).map X6)); simp only [List.map_append, List.map_cons, List.map_nil, List.append_assoc, List.cons_append, List.nil_append]; rfl)), ⟨rfl, trivial⟩, X3 _⟩
  by_cases hk5 : k = 5
  ·subst hk5
   have hput : XA (.mk 5 n d s l) = UInt8.ofNat 5 :: XP n := by rw [XA]; simp
   have hn : -9223372036854775808 ≤ n ∧ n ≤ 9223372036854775807 := by simp at hv; omega
   have hpi := X1C n hn
   rw [hput] at hb ⊢
   generalize XP n = q at *
   simp only [List.length_cons] at hb
   repeat first | refine X0 ?_ | (refine JR ?_; (repeat first | refine Z3 (u := nj 5) (r := n8 5) ?_ (hr := by exact YJ rfl rfl) | refine ZZ (γ := 130) ?_ | refine Z1 ?_ | refine Z0 ?_ | refine ZB ?_ | refine ZC ?_ | refine ZL ?_ | refine Zl ?_ | refine Zu ?_ | refine ZA (γ := 100) ?_ | refine Z6 ?_ | refine Z9 (hcon := hval) ?_ | refine Z9 (hcon := hpi) ?_); refine JD ?_) | refine JT ?_ | refine JF ?_ | refine X4 ?_ | refine X2 ?_
   refine Xm (Y0 130 rfl) ?_
   refine Xm (YC 2 130 rfl rfl (by first | rfl | (simp only [List.length_append, List.length_map, List.length_cons, List.length_nil] <;> omega))) ?_
   exact X1 ⟨_, Xh 2 (y := .d (Xa (UInt8.ofNat 5 :: q))) (AVal.le_of_eq (by refine Eq.trans (b := AVal.d (.sl 1 (_ ++ _))) rfl ?_; show _ = AVal.d (.sl 1 ((UInt8.ofNat 5 :: q).map X6)); simp only [List.map_append, List.map_cons, List.map_nil, List.append_assoc, List.cons_append, List.nil_append]; rfl)), ⟨rfl, trivial⟩, X3 _⟩
  by_cases hk6 : k = 6
  ·subst hk6
   have hput : XA (.mk 6 n d s l) = UInt8.ofNat 6 :: XP n := by rw [XA]; simp
   have hn : -9223372036854775808 ≤ n ∧ n ≤ 9223372036854775807 := by simp at hv; omega
   have hpi := X1C n hn
   rw [hput] at hb ⊢
   generalize XP n = q at *
   simp only [List.length_cons] at hb
   repeat first | refine X0 ?_ | (refine JR ?_; (repeat first | refine Z3 (u := nj 6) (r := n8 6) ?_ (hr := by exact YJ rfl rfl) | refine ZZ (γ := 130) ?_ | refine Z1 ?_ | refine Z0 ?_ | refine ZB ?_ | refine ZC ?_ | refine ZL ?_ | refine Zl ?_ | refine Zu ?_ | refine ZA (γ := 100) ?_ | refine Z6 ?_ | refine Z9 (hcon := hval) ?_ | refine Z9 (hcon := hpi) ?_); refine JD ?_) | refine JT ?_ | refine JF ?_ | refine X4 ?_ | refine X2 ?_
   refine Xm (Y0 130 rfl) ?_
   refine Xm (YC 2 130 rfl rfl (by first | rfl | (simp only [List.length_append, List.length_map, List.length_cons, List.length_nil] <;> omega))) ?_
   exact X1 ⟨_, Xh 2 (y := .d (Xa (UInt8.ofNat 6 :: q))) (AVal.le_of_eq (by refine Eq.trans (b := AVal.d (.sl 1 (_ ++ _))) rfl ?_; show _ = AVal.d (.sl 1 ((UInt8.ofNat 6 :: q).map X6)); simp only [List.map_append, List.map_cons, List.map_nil, List.append_assoc, List.cons_append, List.nil_append]; rfl)), ⟨rfl, trivial⟩, X3 _⟩
  by_cases hk7 : k = 7
  ·subst hk7
   have hput : XA (.mk 7 n d s l) = UInt8.ofNat 7 :: (Xc l.length ++ XU l) := by rw [XA]; simp
   have hll : l.length ≤ 64 := by simp at hv; omega
   have hpu := X2p (XJ l).length (by omega)
   rw [← hlen] at hput
   rw [hput] at hb ⊢
   generalize Xc ((XJ l).length : Int) = q at *
   simp only [List.length_append, List.length_cons] at hb
   repeat first | refine X0 ?_ | (refine JR ?_; (repeat first | refine Z3 (u := nj 7) (r := n8 7) ?_ (hr := by exact YJ rfl rfl) | refine ZZ (γ := 130) ?_ | refine Z1 ?_ | refine Z0 ?_ | refine ZB ?_ | refine ZC ?_ | refine ZL ?_ | refine Zd ?_ | refine Zl ?_ | refine Zu ?_ | refine ZA (γ := 100) ?_ | refine Z6 ?_ | refine Z9 (hcon := hval) ?_ | refine Z9 (hcon := hpu) ?_); refine JD ?_) | refine JT ?_ | refine JF ?_ | refine X4 ?_ | refine X2 ?_
   refine Xy (fun i : Nat => i ≤ l.length) (fun i => ⟨68, [(1, .ptr 100 0), (3, .own 130 (UInt8.ofNat 7 :: (q ++ XU (l.take i))).length), (4, ai i)], [(100, .box [ai 7, ai n, ai d, X20 s, .d (.sl 5 (XJ l))]), (130, .row 1 ((UInt8.ofNat 7 :: (q ++ XU (l.take i))).map X6))]⟩) (fun i => l.length - i) 0 (by omega)
    (X8 rfl ⟨JL, (by refine AVal.le_of_eq ?_; refine Eq.trans (b := AVal.own 130 (_ + _)) rfl ?_; congr 1; simp only [List.take_zero, XU, List.append_nil, List.length_map, List.length_cons, List.length_nil] <;> omega), JL, trivial⟩ ⟨rfl, ?_, trivial⟩) ?_
   ·refine Eq.trans (b := AObj.row 1 (_ ++ _)) rfl ?_
    simp only [List.take_zero, XU, List.append_nil, List.map_cons, List.cons_append, List.nil_append]; rfl
   intro i hi
   by_cases hlt : i < l.length
   ·obtain ⟨x, hx⟩ := Xu (l := l) hlt
    have hgx := X0W hx
    have htk := X4y hx
    have hle := X3A l (i + 1)
    have hpx := ihv x (List.mem_of_getElem? hx)
    unfold X2g at hpx
    rw [show Ys x = XA x by unfold Ys; rw [hel x (List.mem_of_getElem? hx)]; rfl] at hpx
    rw [htk] at hle
    simp only [List.length_append] at hle
    generalize XU (l.take i) = pre at *
    generalize XA x = px at *
    obtain ⟨k', n', d', s', q'⟩ := x
    simp only [Xv] at hpx
    rw [YO] at hgx
    refine X0 ?_; refine X0 ?_; refine JR ?_; refine Z1 ?_; refine ZB ?_; refine ZC ?_; refine Zd ?_; refine Z8 ?_; refine JD ?_; refine JT ?_; refine X2 ?_; refine X0 ?_; refine X4 ?_
    refine JR ?_; refine Z1 ?_; refine ZB ?_; refine ZC ?_; refine Z1 ?_; refine Zj ?_; refine ZK ?_; refine Z9 (hcon := hpx) ?_; refine Z6 ?_; refine Z0 ?_; refine JD ?_; refine JR ?_; refine Z1 ?_; refine Zb ?_
    refine Z0 ?_; refine JD ?_
    refine ⟨i + 1, by omega, by omega, X8 rfl ⟨JL, (by refine AVal.le_of_eq ?_; refine Eq.trans (b := AVal.own 130 (_ + _)) rfl ?_; congr 1; rw [htk]; simp only [List.length_append, List.length_map, List.length_cons] <;> omega), JL, trivial⟩ ⟨rfl, ?_, trivial⟩⟩
    refine Eq.trans (b := AObj.row 1 (_ ++ _)) rfl ?_
    rw [htk]
    simp only [List.map_append, List.map_cons, List.cons_append, List.append_assoc]
   obtain rfl : i = l.length := by omega
   rw [List.take_length]
   refine Xm (Y0 130 rfl) ?_
   refine Xm (YC 3 130 rfl rfl (by simp)) ?_
   refine X0 ?_; refine X0 ?_; refine JR ?_; refine Z1 ?_; refine ZB ?_; refine ZC ?_; refine Zd ?_; refine Z8 ?_; refine JD ?_; refine JF ?_; refine Xj ?_; refine X0 ?_; refine JR ?_; refine Z1 ?_
   refine Z0 ?_; refine JD ?_
   exact X1 ⟨_, St.le_refl _, ⟨rfl, trivial⟩, X3 _⟩
  by_cases hk8 : k = 8
  ·subst hk8
   have hput : XA (.mk 8 n d s l) = UInt8.ofNat 8 :: (Xc l.length ++ XU l) := by rw [XA]; simp
   have hll : l.length ≤ 64 := by simp at hv; omega
   have hpu := X2p (XJ l).length (by omega)
   rw [← hlen] at hput
   rw [hput] at hb ⊢
   generalize Xc ((XJ l).length : Int) = q at *
   simp only [List.length_append, List.length_cons] at hb
   repeat first | refine X0 ?_ | (refine JR ?_; (repeat first | refine Z3 (u := nj 8) (r := n8 8) ?_ (hr := by exact YJ rfl rfl) | refine ZZ (γ := 130) ?_ | refine Z1 ?_ | refine Z0 ?_ | refine ZB ?_ | refine ZC ?_ | refine ZL ?_ | refine Zd ?_ | refine Zl ?_ | refine Zu ?_ | refine ZA (γ := 100) ?_ | refine Z6 ?_ | refine Z9 (hcon := hval) ?_ | refine Z9 (hcon := hpu) ?_); refine JD ?_) | refine JT ?_ | refine JF ?_ | refine X4 ?_ | refine X2 ?_
   refine Xy (fun i : Nat => i ≤ l.length) (fun i => ⟨68, [(1, .ptr 100 0), (3, .own 130 (UInt8.ofNat 8 :: (q ++ XU (l.take i))).length), (4, ai i)], [(100, .box [ai 8, ai n, ai d, X20 s, .d (.sl 5 (XJ l))]), (130, .row 1 ((UInt8.ofNat 8 :: (q ++ XU (l.take i))).map X6))]⟩) (fun i => l.length - i) 0 (by omega)
    (X8 rfl ⟨JL, (by refine AVal.le_of_eq ?_; refine Eq.trans (b := AVal.own 130 (_ + _)) rfl ?_; congr 1; simp only [List.take_zero, XU, List.append_nil, List.length_map, List.length_cons, List.length_nil] <;> omega), JL, trivial⟩ ⟨rfl, ?_, trivial⟩) ?_
   ·refine Eq.trans (b := AObj.row 1 (_ ++ _)) rfl ?_
    simp only [List.take_zero, XU, List.append_nil, List.map_cons, List.cons_append, List.nil_append]; rfl
   intro i hi
   by_cases hlt : i < l.length
   ·obtain ⟨x, hx⟩ := Xu (l := l) hlt
    have hgx := X0W hx
    have htk := X4y hx
    have hle := X3A l (i + 1)
    have hpx := ihv x (List.mem_of_getElem? hx)
    unfold X2g at hpx
    rw [show Ys x = XA x by unfold Ys; rw [hel x (List.mem_of_getElem? hx)]; rfl] at hpx
    rw [htk] at hle
    simp only [List.length_append] at hle
    generalize XU (l.take i) = pre at *
    generalize XA x = px at *
    obtain ⟨k', n', d', s', q'⟩ := x
    simp only [Xv] at hpx
    rw [YO] at hgx
    refine X0 ?_; refine X0 ?_; refine JR ?_; refine Z1 ?_; refine ZB ?_; refine ZC ?_; refine Zd ?_; refine Z8 ?_; refine JD ?_; refine JT ?_; refine X2 ?_; refine X0 ?_; refine X4 ?_
    refine JR ?_; refine Z1 ?_; refine ZB ?_; refine ZC ?_; refine Z1 ?_; refine Zj ?_; refine ZK ?_; refine Z9 (hcon := hpx) ?_; refine Z6 ?_; refine Z0 ?_; refine JD ?_; refine JR ?_; refine Z1 ?_; refine Zb ?_
    refine Z0 ?_; refine JD ?_
    refine ⟨i + 1, by omega, by omega, X8 rfl ⟨JL, (by refine AVal.le_of_eq ?_; refine Eq.trans (b := AVal.own 130 (_ + _)) rfl ?_; congr 1; rw [htk]; simp only [List.length_append, List.length_map, List.length_cons] <;> omega), JL, trivial⟩ ⟨rfl, ?_, trivial⟩⟩
    refine Eq.trans (b := AObj.row 1 (_ ++ _)) rfl ?_
    rw [htk]
    simp only [List.map_append, List.map_cons, List.cons_append, List.append_assoc]
   obtain rfl : i = l.length := by omega
   rw [List.take_length]
   refine Xm (Y0 130 rfl) ?_
   refine Xm (YC 3 130 rfl rfl (by simp)) ?_
   refine X0 ?_; refine X0 ?_; refine JR ?_; refine Z1 ?_; refine ZB ?_; refine ZC ?_; refine Zd ?_; refine Z8 ?_; refine JD ?_; refine JF ?_; refine Xj ?_; refine X0 ?_; refine JR ?_; refine Z1 ?_
   refine Z0 ?_; refine JD ?_
   exact X1 ⟨_, St.le_refl _, ⟨rfl, trivial⟩, X3 _⟩
  simp [*] at hv
theorem Xfl {k n d : Int} {s : List UInt8} {l : List Val} (hv : X7 8 (.mk k n d s l) = true) : ∀ x ∈ l, (XA x).length ≤ (XA (.mk k n d s l)).length := by
 intro x hx
 have hm := Xbu hx
 by_cases h7 : k = 7
 ·subst h7
  rw [show XA (.mk 7 n d s l) = UInt8.ofNat 7 :: (Xc l.length ++ XU l) by rw [XA]; simp]
  simp only [List.length_cons, List.length_append]; omega
 ·by_cases h8 : k = 8
  ·subst h8
   rw [show XA (.mk 8 n d s l) = UInt8.ofNat 8 :: (Xc l.length ++ XU l) by rw [XA]; simp]
   simp only [List.length_cons, List.length_append]; omega
  ·have : l = [] := by
    rw [X7] at hv
    simp [h7, h8] at hv
    exact hv.1.2
   subst this; simp at hx
theorem Xaw : ∀ v : Val, XY v → (XA v).length ≤ 140737488355328 → X2g v
 | .mk k n d s l => fun hok hb => Xi3 (.mk k n d s l) hok hb fun hv x hx => Xaw x (X1p (by rw [XY] at hok; exact hok.2.2) hx) (Nat.le_trans (Xfl hv x hx) hb)
termination_by v => SizeOf.sizeOf v
decreasing_by
 have h1 := List.sizeOf_lt_of_mem (show x ∈ l from hx)
 simp only [Val.mk.sizeOf_spec]
 omega
end Go.Fw
namespace Go.Fw
open Go Go.Proofs
set_option maxRecDepth 100000
set_option linter.unusedVariables false
set_option linter.unusedSimpArgs false
theorem XgE (r : Rul) : Con Tryz.prog 52 [] [XW r] [] (.d (Xa (XN r))) := by
 have hc := X78 r
 unfold XN
 by_cases h : YW r = 0
 case neg =>
  rw [if_neg h]
  refine X9 (xs := [.d (Xa [])]) Tryz.func52 rfl Tryz.ntmps52 rfl rfl rfl (fun E => ?_)
  generalize YW r = e at *
  obtain ⟨k, n, name, key, src, dst⟩ := r
  simp only [XW] at *
  refine X0 ?_; refine JR ?_; refine ZA (γ := 100) ?_; refine Z0 ?_; refine JD ?_; refine X0 ?_; refine X0 ?_; refine JR ?_; refine ZL ?_; refine Z9 (hcon := hc) ?_; refine Zv ?_; refine JD ?_; refine JT ?_
  refine X0 ?_; refine JR ?_; refine Z0 ?_; refine JD ?_
  exact X1 ⟨_, Xh 2 (y := .d (Xa [])) (AVal.le_nil 1), ⟨rfl, trivial⟩, X3 _⟩
 rw [if_pos h]
 rw [h] at hc
 obtain ⟨hn, ⟨l1, l2, l3, l4⟩, hk⟩ := X29 h
 obtain ⟨k, n, name, key, src, dst⟩ := r
 simp only at hn l1 l2 l3 l4 hk
 obtain ⟨m, rfl⟩ : ∃ m : Nat, k = m := ⟨k.toNat, by omega⟩
 have e8 : n8 (m % 256) = n8 (UInt8.ofNat m).toNat := by rw [UL (by omega), Nat.mod_eq_of_lt (by omega)]
 have p1 := X1b name (by omega)
 have p2 := X1b key (by omega)
 have p3 := X1b src (by omega)
 have p4 := X1b dst (by omega)
 have p5 := X1C n hn
 have q1 := Ug l1
 have q2 := Ug l2
 have q3 := Ug l3
 have q4 := Ug l4
 have q5 := X21 hn
 have hput : UA ⟨m, n, name, key, src, dst⟩ = UInt8.ofNat m :: (Xz name ++ Xz key ++ Xz src ++ Xz dst ++ XP n) := rfl
 rw [hput]
 clear hput h
 generalize Xz name = w0 at *
 generalize Xz key = w1 at *
 generalize Xz src = w2 at *
 generalize Xz dst = w3 at *
 generalize XP n = w4 at *
 simp only [XW] at *
 refine X9 (xs := [.d (Xa (UInt8.ofNat m :: (w0 ++ w1 ++ w2 ++ w3 ++ w4)))]) Tryz.func52 rfl Tryz.ntmps52 rfl rfl rfl (fun E => ?_)
 repeat first | refine X0 ?_ | (refine JR ?_; (repeat first | refine Z3 (u := nj m) (r := n8 (UInt8.ofNat m).toNat) ?_ (hr := by exact by rw [← e8]; exact YJ rfl rfl) | refine ZZ (γ := 130) ?_ | refine Z1 ?_ | refine Z0 ?_ | refine ZB ?_ | refine ZC ?_ | refine ZL ?_ | refine Zv ?_ | refine ZA (γ := 100) ?_ | refine Z6 ?_ | refine Z9 (hcon := hc) ?_ | refine Z9 (hcon := p1) ?_ | refine Z9 (hcon := p2) ?_ | refine Z9 (hcon := p3) ?_ | refine Z9 (hcon := p4) ?_ | refine Z9 (hcon := p5) ?_); refine JD ?_) | refine JF ?_ | refine X2 ?_
 refine Xm (Y0 130 rfl) ?_
 refine Xm (YC 2 130 rfl rfl (by first | rfl | (simp only [List.length_append, List.length_map, List.length_cons, List.length_nil] <;> omega) | fail)) ?_
 exact X1 ⟨_, Xh 2 (y := .d (Xa (UInt8.ofNat m :: (w0 ++ w1 ++ w2 ++ w3 ++ w4)))) (AVal.le_of_eq (by refine Eq.trans (b := AVal.d (.sl 1 (_))) rfl ?_; show _ = AVal.d (.sl 1 ((UInt8.ofNat m :: (w0 ++ w1 ++ w2 ++ w3 ++ w4)).map X6)); simp only [List.map_append, List.map_cons, List.map_nil, List.append_assoc, List.cons_append, List.nil_append] <;> rfl)), ⟨rfl, trivial⟩, X3 _⟩
end Go.Fw
namespace Go.Fw
open Go Go.Proofs
set_option maxRecDepth 100000
set_option linter.unusedVariables false
set_option linter.unusedSimpArgs false
theorem Xh3 (l : List Int) (hl : l.length ≤ 1000) (hx : ∀ x ∈ l, x ≤ 9223372036854775807) : Con Tryz.prog 51 [] [.d (.sl 1 (l.map cI))] [(130, .row 1 ((YH l).map X6))] (.own 130 ((YH l).map X6).length) := by
 refine X9 (xs := [.own 130 ((YH l).map X6).length]) Tryz.func51 rfl Tryz.ntmps51 rfl rfl rfl (fun E => ?_)
 have hlm : (l.map cI).length = l.length := by simp
 refine X0 ?_; refine JR ?_; refine Z0 ?_; refine JD ?_; refine X0 ?_; refine JR ?_; refine Z0 ?_; refine JD ?_; refine X0 ?_; refine X0 ?_; refine JR ?_; refine Z0 ?_; refine JD ?_
 refine X4 ?_
 refine Xm (VR 3 130 1 rfl rfl rfl) ?_
 refine Xy (fun i : Nat => i ≤ l.length) (fun i => ⟨19, [(0, .d (.sl 1 (l.map cI))), (3, .own 130 ((YH (l.take i)).map X6).length), (4, ai i)], [(130, .row 1 ((YH (l.take i)).map X6))]⟩) (fun i => l.length - i) 0 (Nat.zero_le _)
  (X8 rfl JM ⟨rfl, trivial⟩) ?_
 intro i hi
 by_cases hil : i < l.length
 case neg =>
  obtain rfl : i = l.length := by omega
  have hn : ¬ ((l.length : Nat) : Int) < (l.map cI).length := by omega
  rw [List.take_length]
  refine X0 ?_; refine X0 ?_; refine JR ?_; refine Z1 ?_; refine Z1 ?_; refine Zd ?_; refine Z8 ?_; refine JD ?_; refine JF ?_; refine Xj ?_; refine X0 ?_; refine JR ?_; refine Z1 ?_; refine Z0 ?_
  refine JD ?_
  exact X1 ⟨_, St.le_refl _, ⟨rfl, trivial⟩, Xd ⟨rfl, trivial⟩⟩
 have hn : (i : Int) < (l.map cI).length := by omega
 obtain ⟨x, hxx⟩ := Xu (l := l) hil
 have hxc : (l.map cI)[i]? = some (cI x) := XS hxx
 have hc := X2p x (hx x (List.mem_of_getElem? hxx))
 have hlen := X2W (l := l.take i) fun y hy => hx y (List.mem_of_mem_take hy)
 have hlen2 := Uw (hx x (List.mem_of_getElem? hxx))
 have hlt : (l.take i).length ≤ 1000 := by simp; omega
 have hroom : ((YH (l.take i)).map X6).length ≤ 10000 := by rw [List.length_map]; omega
 have hroom2 : ((Xc x).map X6).length ≤ 10 := by rw [List.length_map]; omega
 have hsn := X9z hxx
 generalize YH (l.take i) = u at *
 generalize Xc x = v at *
 refine X0 ?_; refine X0 ?_; refine JR ?_; refine Z1 ?_; refine Z1 ?_; refine Zd ?_; refine Z8 ?_; refine JD ?_; refine JT ?_; refine X2 ?_; refine X0 ?_; refine X4 ?_; refine JR ?_
 refine Z1 ?_; refine Z1 ?_; refine Z1 ?_; refine Zj ?_; refine Zk ?_; refine Z9 (hcon := hc) ?_; refine Z6 ?_; refine Z0 ?_; refine JD ?_; refine JR ?_; refine Z1 ?_; refine Zb ?_; refine Z0 ?_; refine JD ?_
 refine ⟨i + 1, hil, by omega, ?_⟩
 rw [hsn]
 exact X8 rfl ⟨JL, AVal.le_of_eq (by refine Eq.trans (b := AVal.own 130 (_ + _)) rfl ?_; simp only [List.length_append, List.length_map, List.length_cons, List.length_nil]), JL, trivial⟩ ⟨rfl, trivial⟩
theorem XaN (ps : List Prp) (hl : ps.length ≤ 16) (hok : ∀ p ∈ ps, p.key.length ≤ 20 ∧ YN p.v = true) (hst : ∀ p ∈ ps, XY p.v) : Con Tryz.prog 107 [] [.d (.sl 6 (ps.map Xk))] [] (.d (Xa (YT Yd ps))) := by
 refine X9 (xs := [.d (Xa (YT Yd ps))]) Tryz.func107 rfl Tryz.ntmps107 rfl rfl rfl (fun E => ?_)
 have hlm : (ps.map Xk).length = ps.length := by simp
 have hu := X2x ((ps.map Xk).length : Nat) (by simp; omega)
 have hu10 := Uw (n := (ps.length : Nat)) (by omega)
 refine X0 ?_; refine JR ?_; refine Z0 ?_; refine JD ?_; refine X0 ?_; refine JR ?_; refine Z1 ?_; refine Zd ?_; refine Z9 (hcon := hu) ?_; refine Z0 ?_; refine JD ?_; refine X0 ?_; refine X0 ?_
 refine JR ?_; refine Z0 ?_; refine JD ?_; refine X4 ?_
 refine Xy (fun i : Nat => i ≤ ps.length) (fun i => ⟨31, [(0, .d (.sl 6 (ps.map Xk))), (3, .own 130 ((Xc (ps.length : Nat) ++ ((ps.take i).map Yd).flatten).map X6).length), (4, ai i)], [(130, .row 1 ((Xc (ps.length : Nat) ++ ((ps.take i).map Yd).flatten).map X6))]⟩) (fun i => ps.length - i) 0 (Nat.zero_le _)
  (X8 rfl ⟨JL, AVal.le_of_eq (by refine Eq.trans (b := AVal.own 130 _) rfl ?_; simp), JL, trivial⟩ ⟨by refine Eq.trans (b := AObj.row 1 _) rfl ?_; simp, trivial⟩) ?_
 intro i hi
 by_cases hil : i < ps.length
 case neg =>
  obtain rfl : i = ps.length := by omega
  have hn : ¬ ((ps.length : Nat) : Int) < (ps.map Xk).length := by omega
  rw [List.take_length]
  refine X0 ?_; refine X0 ?_; refine JR ?_; refine Z1 ?_; refine Z1 ?_; refine Zd ?_; refine Z8 ?_; refine JD ?_; refine JF ?_; refine Xj ?_; refine X0 ?_; refine JR ?_; refine Z1 ?_; refine Z0 ?_
  refine JD ?_
  refine Xm (Y0 130 rfl) ?_
  refine Xm (YC 2 130 rfl rfl rfl) ?_
  exact X1 ⟨_, St.le_refl _, ⟨rfl, trivial⟩, X3 _⟩
 have hn : (i : Int) < (ps.map Xk).length := by omega
 obtain ⟨x, hxx⟩ := Xu (l := ps) hil
 have hxc : (ps.map Xk)[i]? = some (Xk x) := XS hxx
 obtain ⟨hk, hv⟩ := hok x (List.mem_of_getElem? hxx)
 have hpv := X7B hv
 have hpl := X2A hv
 have hc1 := X1b x.key (by omega)
 have hc2 := Xaw x.v (hst x (List.mem_of_getElem? hxx)) (by omega)
 unfold X2g at hc2
 have hsl := Ug hk
 have hfl := X1h (w := Yd) (k := 141) (l := ps.take i) fun p hp => by
  have hq := hok p (List.mem_of_mem_take hp)
  have h1 := Ug hq.1
  have h2 := X2A hq.2
  unfold Yd
  simp only [List.length_append]
  omega
 have hlt : (ps.take i).length ≤ 16 := by simp; omega
 have hu1 : (Xc (ps.length : Nat) ++ ((ps.take i).map Yd).flatten).length ≤ 10000 := by rw [List.length_append]; omega
 have hroom : ((Xc (ps.length : Nat) ++ ((ps.take i).map Yd).flatten).map X6).length ≤ 10000 := by rw [List.length_map]; exact hu1
 have hsn := X3S (w := Yd) (u := Xc (ps.length : Nat)) hxx
 rw [Xap] at hsn
 have hr1 : ((Xz x.key).map X6).length ≤ 1000 := by rw [List.length_map]; omega
 have hr2 : ((Ys x.v).map X6).length ≤ 1000 := by rw [List.length_map]; omega
 generalize Xc (ps.length : Nat) ++ ((ps.take i).map Yd).flatten = u at *
 generalize Xz x.key = a at *
 generalize Ys x.v = b at *
 obtain ⟨key, ⟨vk, vn, vd, vs, vl⟩⟩ := x
 simp only [Xk, YO, Xv] at hxc hc1 hc2
 clear hxx
 refine X0 ?_; refine X0 ?_; refine JR ?_; refine Z1 ?_; refine Z1 ?_; refine Zd ?_; refine Z8 ?_; refine JD ?_; refine JT ?_; refine X2 ?_; refine X0 ?_; refine X4 ?_; refine X0 ?_
 refine JR ?_; refine Z1 ?_; refine Z1 ?_; refine Z1 ?_; refine Zj ?_; refine ZN ?_; refine Zk ?_; refine Z9 (hcon := hc1) ?_; refine Z6 ?_; refine Z0 ?_; refine JD ?_; refine JR ?_; refine Z1 ?_; refine Z1 ?_
 refine Z1 ?_; refine Zj ?_; refine ZN ?_; refine ZK ?_; refine Z9 (hcon := hc2) ?_; refine Z6 ?_; refine Z0 ?_; refine JD ?_; refine JR ?_; refine Z1 ?_; refine Zb ?_; refine Z0 ?_; refine JD ?_
 refine ⟨i + 1, hil, by omega, ?_⟩
 rw [hsn, ← List.append_assoc]
 exact X8 rfl ⟨JL, AVal.le_of_eq (by refine Eq.trans (b := AVal.own 130 (_ + _)) rfl ?_; simp only [List.length_append, List.length_map, List.length_cons, List.length_nil]), JL, trivial⟩ ⟨rfl, trivial⟩
end Go.Fw
namespace Go.Fw
open Go Go.Proofs
set_option maxRecDepth 100000
set_option linter.unusedVariables false
set_option linter.unusedSimpArgs false
theorem Xdt  : Con Tryz.prog 50 [] [XD Xw] [(130, .row 1 (Xw.map X6))] (.own 130 (Xw.map X6).length) := by
 refine X9 (xs := [.own 130 (Xw.map X6).length]) Tryz.func50 rfl Tryz.ntmps50 rfl rfl rfl (fun E => ?_)
 refine X0 ?_; refine JR ?_; refine Z0 ?_; refine JD ?_; refine X0 ?_; refine JR ?_; refine Z1 ?_; refine Z09 (γ := 130) ?_; refine Z0 ?_; refine JD ?_
 exact X1 ⟨_, St.le_refl _, ⟨rfl, trivial⟩, Xd ⟨rfl, trivial⟩⟩
theorem XbL (u b : List UInt8) (hb : b.length ≤ 65536) (hu : u.length ≤ 1000000000) : Con Tryz.prog 49 [(0, .row 1 (u.map X6))] [.own 0 (u.map X6).length, .d (Xa b)] [(0, .row 1 ((u ++ Y2 b).map X6))] (.own 0 ((u ++ Y2 b).map X6).length) := by
 refine X9 (xs := [.own 0 ((u ++ Y2 b).map X6).length]) Tryz.func49 rfl Tryz.ntmps49 rfl rfl rfl (fun E => ?_)
 have hc := XeL b hb
 have hfl := X5z hb
 have hr1 : (u.map X6).length ≤ 1000000000 := by rw [List.length_map]; omega
 have hr2 : ((Y2 b).map X6).length ≤ 65600 := by rw [List.length_map]; omega
 rw [List.map_append]
 generalize Y2 b = v at *
 refine X0 ?_; refine JR ?_; refine Z0 ?_; refine JD ?_; refine X0 ?_; refine JR ?_; refine Z1 ?_; refine Z1 ?_; refine Z9 (hcon := hc) ?_; refine Z6 ?_; refine Z0 ?_; refine JD ?_
 exact X1 ⟨_, Xh 4 (y := .own 0 (List.map X6 u ++ List.map X6 v).length) (AVal.le_of_eq (by refine Eq.trans (b := AVal.own 0 (_ + _)) rfl ?_; simp only [List.length_append])), ⟨rfl, trivial⟩, Xd ⟨rfl, trivial⟩⟩
theorem X52 (u b : List UInt8) (hb : b.length ≤ 65536) (hu : u.length ≤ 1000000000) : Con Tryz.prog 49 [(130, .row 1 (u.map X6))] [.own 130 (u.map X6).length, .d (Xa b)] [(130, .row 1 ((u ++ Y2 b).map X6))] (.own 130 ((u ++ Y2 b).map X6).length) :=
 UO 0 130 (XbL u b hb hu)
end Go.Fw
namespace Go.Fw
open Go Go.Proofs
set_option maxRecDepth 100000
set_option linter.unusedVariables false
set_option linter.unusedSimpArgs false
theorem Xhd (n : Nod) (hw : NodW n) : Con Tryz.prog 53 [] [Ub n] [] (.d (Xa (Y1 n))) := by
 refine X9 (xs := [.d (Xa (Y1 n))]) Tryz.func53 rfl Tryz.ntmps53 rfl rfl rfl (fun E => ?_)
 obtain ⟨⟨i1, i2⟩, ⟨l1, l2⟩, ⟨p1, p2⟩, st⟩ := hw
 have hnu := Xa8 n
 have hpr := XaN n.props p1 p2 st
 have hplen := (X1n p1 p2).2
 have hrp : ((YT Yd n.props).map X6).length ≤ 3000 := by rw [List.length_map]; omega
 obtain ⟨id, ls, ps⟩ := n
 simp only at *
 have hlm : (ls.map Xn).length = ls.length := by simp
 have c1 := X2x id (by omega)
 have c2 := X2p ((ls.map Xn).length : Nat) (by omega)
 have u1 := Uw (n := id) (by omega)
 have u2 := Uw (n := (ls.length : Nat)) (by omega)
 have u2' := Uw (n := ((ls.map Xn).length : Nat)) (by omega)
 unfold Ub
 simp only
 generalize YT Yd ps = B at *
 generalize hN : Y1 ⟨id, ls, ps⟩ = N at *
 have r1 : ((Xc id).map X6).length ≤ 10 := by rw [List.length_map]; omega
 have r2 : ((Xc ((ls.map Xn).length : Nat)).map X6).length ≤ 10 := by rw [List.length_map]; omega
 refine X0 ?_; refine JR ?_; refine ZA (γ := 100) ?_; refine Z0 ?_; refine JD ?_; refine X0 ?_; refine JR ?_; refine ZB ?_; refine ZC ?_; refine Z9 (hcon := c1) ?_; refine ZB ?_; refine ZC ?_; refine Zd ?_
 refine Z9 (hcon := c2) ?_; refine Z6 ?_; refine Z0 ?_; refine JD ?_; refine X0 ?_; refine X0 ?_; refine JR ?_; refine Z0 ?_; refine JD ?_; refine X4 ?_
 refine Xy (fun i : Nat => i ≤ ls.length) (fun i => ⟨33, [(1, .ptr 100 0), (3, .own 130 (((Xc id ++ Xc (ls.length : Nat)) ++ ((ls.take i).map Xz).flatten).map X6).length), (4, ai i)], [(100, .box [ai id, .d (.sl 1 (ls.map Xn)), .d (.sl 6 (ps.map Xk))]), (130, .row 1 (((Xc id ++ Xc (ls.length : Nat)) ++ ((ls.take i).map Xz).flatten).map X6))]⟩) (fun i => ls.length - i) 0 (Nat.zero_le _)
  (X8 rfl ⟨JL, AVal.le_of_eq (by refine Eq.trans (b := AVal.own 130 (_ + _)) rfl ?_; simp), JL, trivial⟩ ⟨rfl, by refine Eq.trans (b := AObj.row 1 (_ ++ _)) rfl ?_; simp, trivial⟩) ?_
 intro i hi
 have hfl := X9I l2 i l1
 by_cases hil : i < ls.length
 case neg =>
  obtain rfl : i = ls.length := by omega
  have hn : ¬ ((ls.length : Nat) : Int) < (ls.map Xn).length := by omega
  rw [List.take_length] at *
  have hroom : (((Xc id ++ Xc (ls.length : Nat)) ++ (ls.map Xz).flatten).map X6).length ≤ 1000 := by rw [List.length_map, List.length_append, List.length_append]; omega
  generalize (Xc id ++ Xc (ls.length : Nat)) ++ (ls.map Xz).flatten = u at *
  refine X0 ?_; refine X0 ?_; refine JR ?_; refine Z1 ?_; refine ZB ?_; refine ZC ?_; refine Zd ?_; refine Z8 ?_; refine JD ?_; refine JF ?_; refine Xj ?_; refine X0 ?_; refine JR ?_; refine Z1 ?_
  refine ZB ?_; refine ZC ?_; refine Z9 (hcon := hpr) ?_; refine Z6 ?_; refine Z0 ?_; refine JD ?_
  refine Xm (Y0 130 rfl) ?_
  refine Xm (YC 2 130 rfl rfl (by first | rfl | (simp only [List.length_append, List.length_map, List.length_cons, List.length_nil] <;> omega) | fail)) ?_
  exact X1 ⟨_, Xh 2 (y := .d (Xa (N))) (AVal.le_of_eq (by refine Eq.trans (b := AVal.d (.sl 1 (_))) rfl ?_; show _ = AVal.d (.sl 1 ((N).map X6)); rw [hnu] <;> rfl)), ⟨rfl, trivial⟩, X3 _⟩
 have hn : (i : Int) < (ls.map Xn).length := by omega
 obtain ⟨x, hxx⟩ := Xu (l := ls) hil
 have hxc : (ls.map Xn)[i]? = some (Xn x) := XS hxx
 have hx20 := l2 x (List.mem_of_getElem? hxx)
 have hc := X1b x (by omega)
 have hsl := Ug hx20
 have hroom : (((Xc id ++ Xc (ls.length : Nat)) ++ ((ls.take i).map Xz).flatten).map X6).length ≤ 1000 := by rw [List.length_map, List.length_append, List.length_append]; omega
 have hroom2 : ((Xz x).map X6).length ≤ 30 := by rw [List.length_map]; omega
 have hsn := X3S (w := Xz) (u := Xc id ++ Xc (ls.length : Nat)) hxx
 generalize (Xc id ++ Xc (ls.length : Nat)) ++ ((ls.take i).map Xz).flatten = u at *
 generalize Xz x = v at *
 refine X0 ?_; refine X0 ?_; refine JR ?_; refine Z1 ?_; refine ZB ?_; refine ZC ?_; refine Zd ?_; refine Z8 ?_; refine JD ?_; refine JT ?_; refine X2 ?_; refine X0 ?_; refine X4 ?_
 refine JR ?_; refine Z1 ?_; refine ZB ?_; refine ZC ?_; refine Z1 ?_; refine Zj ?_; refine Zk ?_; refine Z9 (hcon := hc) ?_; refine Z6 ?_; refine Z0 ?_; refine JD ?_; refine JR ?_; refine Z1 ?_; refine Zb ?_
 refine Z0 ?_; refine JD ?_
 refine ⟨i + 1, hil, by omega, ?_⟩
 rw [hsn]
 exact X8 rfl ⟨JL, AVal.le_of_eq (by refine Eq.trans (b := AVal.own 130 (_ + _)) rfl ?_; simp only [List.length_append, List.length_map, List.length_cons, List.length_nil]), JL, trivial⟩ ⟨rfl, rfl, trivial⟩
theorem XfG (e : Edg) (hw : EdgW e) : Con Tryz.prog 54 [] [.agg [ai e.id, ai e.src, ai e.dst, XD e.typ, .d (.sl 6 (e.props.map Xk))]] [] (.d (Xa (Yp e))) := by
 refine X9 (xs := [.d (Xa (Yp e))]) Tryz.func54 rfl Tryz.ntmps54 rfl rfl rfl (fun E => ?_)
 obtain ⟨⟨i1, i2⟩, ⟨s1, s2⟩, ⟨d1, d2⟩, y1, ⟨p1, p2⟩, st⟩ := hw
 have hnu := X7D e
 have hpr := XaN e.props p1 p2 st
 have hplen := (X1n p1 p2).2
 have hrp : ((YT Yd e.props).map X6).length ≤ 3000 := by rw [List.length_map]; omega
 obtain ⟨id, src, dst, typ, ps⟩ := e
 simp only at *
 have c1 := X2x id (by omega)
 have c2 := X2p src (by omega)
 have c3 := X2p dst (by omega)
 have c4 := X1b typ (by omega)
 have u1 := Uw (n := id) (by omega)
 have u2 := Uw (n := src) (by omega)
 have u3 := Uw (n := dst) (by omega)
 have u4 := Ug y1
 rw [List.map_append, List.map_append] at hnu
 generalize YT Yd ps = B at *
 generalize hN : Yp ⟨id, src, dst, typ, ps⟩ = N at *
 generalize Xc id = a1 at *
 generalize Xc src = a2 at *
 generalize Xc dst = a3 at *
 generalize Xz typ = a4 at *
 have r1 : (a1.map X6).length ≤ 10 := by rw [List.length_map]; omega
 have r2 : (a2.map X6).length ≤ 10 := by rw [List.length_map]; omega
 have r3 : (a3.map X6).length ≤ 10 := by rw [List.length_map]; omega
 have r4 : (a4.map X6).length ≤ 30 := by rw [List.length_map]; omega
 have r5 : B.length ≤ 3000 := by omega
 refine X0 ?_; refine JR ?_; refine ZA (γ := 100) ?_; refine Z0 ?_; refine JD ?_; refine X0 ?_; refine JR ?_; refine ZB ?_; refine ZC ?_; refine Z9 (hcon := c1) ?_; refine ZB ?_; refine ZC ?_
 refine Z9 (hcon := c2) ?_; refine Z6 ?_; refine Z0 ?_; refine JD ?_; refine X0 ?_; refine JR ?_; refine Z1 ?_; refine ZB ?_; refine ZC ?_; refine Z9 (hcon := c3) ?_; refine Z6 ?_; refine Z0 ?_; refine JD ?_
 refine X0 ?_; refine JR ?_; refine Z1 ?_; refine ZB ?_; refine ZC ?_; refine Z9 (hcon := c4) ?_; refine Z6 ?_; refine Z0 ?_; refine JD ?_; refine X0 ?_; refine JR ?_; refine Z1 ?_; refine ZB ?_; refine ZC ?_
 refine Z9 (hcon := hpr) ?_; refine Z6 ?_; refine Z0 ?_; refine JD ?_
 refine Xm (Y0 130 rfl) ?_
 refine Xm (YC 2 130 rfl rfl (by first | rfl | (simp only [List.length_append, List.length_map, List.length_cons, List.length_nil] <;> omega) | fail)) ?_
 exact X1 ⟨_, Xh 2 (y := .d (Xa (N))) (AVal.le_of_eq (by refine Eq.trans (b := AVal.d (.sl 1 (_))) rfl ?_; show _ = AVal.d (.sl 1 ((N).map X6)); rw [hnu] <;> rfl)), ⟨rfl, trivial⟩, X3 _⟩
end Go.Fw
