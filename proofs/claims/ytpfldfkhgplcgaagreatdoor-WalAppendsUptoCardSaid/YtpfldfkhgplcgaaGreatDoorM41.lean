/- PutValue, the program's and the reference's. -/
import Derived.Test.YtpfldfkhgplcgaaGreatDoorM18
import Derived.Test.YtpfldfkhgplcgaaGreatDoorM40
set_option maxHeartbeats 8000000
namespace Go.Fw
open Go Go.Proofs
set_option maxRecDepth 100000
set_option linter.unusedVariables false
set_option linter.unusedSimpArgs false
theorem X7I : ∀ {l : List Val} {x : Val}, x ∈ l → (Xs x).length ≤ (XX l).length
 | [], x, h => by simp at h
 | v :: r, x, h => by
  simp only [XX, List.length_append]
  rcases List.mem_cons.1 h with rfl | h
  ·omega
  ·have := X7I h; omega
def X1F (v : Val) : Prop := Con Tryz.prog 154 [] [Xo v] [] (.d (Xf (Ym v)))
theorem XdX (v : Val) (hok : YD v) (hb : (Xs v).length ≤ 140737488355328) (ih : X8 8 v = true → ∀ x ∈ v.l, X1F x) : X1F v := by
 have hval := X2V v hok
 refine Xa (xs := [.d (Xf (Ym v))]) Tryz.func154 rfl Tryz.ntmps154 rfl rfl rfl (fun E => ?_)
 obtain ⟨k, n, d, s, l⟩ := v
 simp only [Xo] at hval
 have hlen := Vr l
 simp only [Val.l] at ih
 cases hv : X8 8 (.mk k n d s l) with
 | false =>
  rw [hv] at hval
  rw [show Ym (.mk k n d s l) = [] by unfold Ym; rw [hv]; rfl]
  refine Qlc ?_; refine Z9 (hcon := hval) ?_; refine Zu ?_; exact Qmc
 | true =>
  have hel := X5D hv
  have ihv := ih hv
  rw [hv] at hval
  rw [show Ym (.mk k n d s l) = Xs (.mk k n d s l) by unfold Ym; rw [hv]; rfl]
  rw [X8] at hv
  by_cases hk0 : k = 0
  ·subst hk0
   have hput : Xs (.mk 0 n d s l) = [UInt8.ofNat 0] := by rw [Xs]; simp
   rw [hput] at hb ⊢
   repeat first | refine X0 ?_ | (refine JR ?_; (repeat first | refine Z3 (u := nj 0) (r := n8 0) ?_ (hr := by exact Y6 rfl rfl) | refine ZZ (γ := 130) ?_ | refine Z1 ?_ | refine Z0 ?_ | refine ZB ?_ | refine ZC ?_ | refine ZL ?_ | refine Zl ?_ | refine Zu ?_ | refine ZA (γ := 100) ?_ | refine Z9 (hcon := hval) ?_); refine JD ?_) | refine JF ?_ | refine X5 ?_ | refine X4 ?_
   refine Qef ?_; exact X1 ⟨_, Xb 2 (y := .d (Xf (UInt8.ofNat 0 :: []))) (AVal.le_of_eq (by refine Eq.trans (b := AVal.d (.sl 1 (_))) rfl ?_; show _ = AVal.d (.sl 1 ((UInt8.ofNat 0 :: []).map X6)); simp only [List.map_append, List.map_cons, List.map_nil, List.append_assoc, List.cons_append, List.nil_append]; rfl)), ⟨rfl, trivial⟩, X3 _⟩
  by_cases hk1 : k = 1
  ·subst hk1
   have hput : Xs (.mk 1 n d s l) = UInt8.ofNat 1 :: XS n := by rw [Xs]; simp
   have hn : -9223372036854775808 ≤ n ∧ n ≤ 9223372036854775807 := by simp at hv; omega
   have hpi := X1U n hn
   rw [hput] at hb ⊢
   generalize XS n = q at *
   simp only [List.length_cons] at hb
   refine Qlc ?_; refine Z9 (hcon := hval) ?_; refine Qhb ?_; refine QIa ?_; refine QVd ?_; refine Qc ?_; refine Qzb ?_; refine Qma ?_; refine Qf ?_; refine QHa ?_; refine Z9 (hcon := hpi) ?_; refine Qj ?_; refine Qef ?_; exact X1 ⟨_, Xb 2 (y := .d (Xf (UInt8.ofNat 1 :: q))) (AVal.le_of_eq (by refine Eq.trans (b := AVal.d (.sl 1 (_ ++ _))) rfl ?_; show _ = AVal.d (.sl 1 ((UInt8.ofNat 1 :: q).map X6)); simp only [List.map_append, List.map_cons, List.map_nil, List.append_assoc, List.cons_append, List.nil_append]; rfl)), ⟨rfl, trivial⟩, X3 _⟩
  by_cases hk2 : k = 2
  ·subst hk2
   have hput : Xs (.mk 2 n d s l) = UInt8.ofNat 2 :: XS n := by rw [Xs]; simp
   have hn : -9223372036854775808 ≤ n ∧ n ≤ 9223372036854775807 := by simp at hv; omega
   have hpi := X1U n hn
   rw [hput] at hb ⊢
   generalize XS n = q at *
   simp only [List.length_cons] at hb
   repeat first | refine X0 ?_ | (refine JR ?_; (repeat first | refine Z3 (u := nj 2) (r := n8 2) ?_ (hr := by exact Y6 rfl rfl) | refine ZZ (γ := 130) ?_ | refine Z1 ?_ | refine Z0 ?_ | refine ZB ?_ | refine ZC ?_ | refine ZL ?_ | refine Zl ?_ | refine Zu ?_ | refine ZA (γ := 100) ?_ | refine Z6 ?_ | refine Z9 (hcon := hval) ?_ | refine Z9 (hcon := hpi) ?_); refine JD ?_) | refine JT ?_ | refine JF ?_ | refine X5 ?_ | refine X4 ?_
   refine Qef ?_; exact X1 ⟨_, Xb 2 (y := .d (Xf (UInt8.ofNat 2 :: q))) (AVal.le_of_eq (by refine Eq.trans (b := AVal.d (.sl 1 (_ ++ _))) rfl ?_; show _ = AVal.d (.sl 1 ((UInt8.ofNat 2 :: q).map X6)); simp only [List.map_append, List.map_cons, List.map_nil, List.append_assoc, List.cons_append, List.nil_append]; rfl)), ⟨rfl, trivial⟩, X3 _⟩
  by_cases hk3 : k = 3
  ·subst hk3
   have hput : Xs (.mk 3 n d s l) = UInt8.ofNat 3 :: (XS n ++ XS d) := by rw [Xs]; simp
   have hnd : (-9223372036854775808 ≤ n ∧ n ≤ 9223372036854775807) ∧ -9223372036854775808 ≤ d ∧ d ≤ 9223372036854775807 := by simp [Vc] at hv; omega
   have hpi := X1U n hnd.1
   have hpd := X1U d hnd.2
   rw [hput] at hb ⊢
   generalize XS n = q at *
   generalize XS d = q2 at *
   simp only [List.length_append, List.length_cons] at hb
   repeat first | refine X0 ?_ | (refine JR ?_; (repeat first | refine Z3 (u := nj 3) (r := n8 3) ?_ (hr := by exact Y6 rfl rfl) | refine ZZ (γ := 130) ?_ | refine Z1 ?_ | refine Z0 ?_ | refine ZB ?_ | refine ZC ?_ | refine ZL ?_ | refine Zl ?_ | refine Zu ?_ | refine ZA (γ := 100) ?_ | refine Z6 ?_ | refine Z9 (hcon := hval) ?_ | refine Z9 (hcon := hpi) ?_ | refine Z9 (hcon := hpd) ?_); refine JD ?_) | refine JT ?_ | refine JF ?_ | refine X5 ?_ | refine X4 ?_
   refine Qef ?_; exact X1 ⟨_, Xb 2 (y := .d (Xf (UInt8.ofNat 3 :: (q ++ q2)))) (AVal.le_of_eq (by refine Eq.trans (b := AVal.d (.sl 1 (_ ++ _ ++ _))) rfl ?_; show _ = AVal.d (.sl 1 ((UInt8.ofNat 3 :: (q ++ q2)).map X6)); simp only [List.map_append, List.map_cons, List.map_nil, List.append_assoc, List.cons_append, List.nil_append]; rfl)), ⟨rfl, trivial⟩, X3 _⟩
  by_cases hk4 : k = 4
  ·subst hk4
   have hput : Xs (.mk 4 n d s l) = UInt8.ofNat 4 :: Xw s := by rw [Xs]; simp
   have hs : s.length ≤ 65536 := by simp at hv; omega
   have hpi := X0J s hs
   rw [hput] at hb ⊢
   generalize Xw s = q at *
   simp only [List.length_cons] at hb
   repeat first | refine X0 ?_ | (refine JR ?_; (repeat first | refine Z3 (u := nj 4) (r := n8 4) ?_ (hr := by exact Y6 rfl rfl) | refine ZZ (γ := 130) ?_ | refine Z1 ?_ | refine Z0 ?_ | refine ZB ?_ | refine ZC ?_ | refine ZL ?_ | refine Zl ?_ | refine Zu ?_ | refine ZA (γ := 100) ?_ | refine Z6 ?_ | refine Z9 (hcon := hval) ?_ | refine Z9 (hcon := hpi) ?_); refine JD ?_) | refine JT ?_ | refine JF ?_ | refine X5 ?_ | refine X4 ?_
   refine Qef ?_; exact X1 ⟨_, Xb 2 (y := .d (Xf (UInt8.ofNat 4 :: q))) (AVal.le_of_eq (by refine Eq.trans (b := AVal.d (.sl 1 (_ ++ _))) rfl ?_; show _ = AVal.d (.sl 1 ((UInt8.ofNat 4 :: q).map X6)); simp only [List.map_append, List.map_cons, List.map_nil, List.append_assoc, List.cons_append, List.nil_append]; rfl)), ⟨rfl, trivial⟩, X3 _⟩
  by_cases hk5 : k = 5
  ·subst hk5
   have hput : Xs (.mk 5 n d s l) = UInt8.ofNat 5 :: XS n := by rw [Xs]; simp
   have hn : -9223372036854775808 ≤ n ∧ n ≤ 9223372036854775807 := by simp at hv; omega
   have hpi := X1U n hn
   rw [hput] at hb ⊢
   generalize XS n = q at *
   simp only [List.length_cons] at hb
   repeat first | refine X0 ?_ | (refine JR ?_; (repeat first | refine Z3 (u := nj 5) (r := n8 5) ?_ (hr := by exact Y6 rfl rfl) | refine ZZ (γ := 130) ?_ | refine Z1 ?_ | refine Z0 ?_ | refine ZB ?_ | refine ZC ?_ | refine ZL ?_ | refine Zl ?_ | refine Zu ?_ | refine ZA (γ := 100) ?_ | refine Z6 ?_ | refine Z9 (hcon := hval) ?_ | refine Z9 (hcon := hpi) ?_); refine JD ?_) | refine JT ?_ | refine JF ?_ | refine X5 ?_ | refine X4 ?_
   refine Qef ?_; exact X1 ⟨_, Xb 2 (y := .d (Xf (UInt8.ofNat 5 :: q))) (AVal.le_of_eq (by refine Eq.trans (b := AVal.d (.sl 1 (_ ++ _))) rfl ?_; show _ = AVal.d (.sl 1 ((UInt8.ofNat 5 :: q).map X6)); simp only [List.map_append, List.map_cons, List.map_nil, List.append_assoc, List.cons_append, List.nil_append]; rfl)), ⟨rfl, trivial⟩, X3 _⟩
  by_cases hk6 : k = 6
  ·subst hk6
   have hput : Xs (.mk 6 n d s l) = UInt8.ofNat 6 :: XS n := by rw [Xs]; simp
   have hn : -9223372036854775808 ≤ n ∧ n ≤ 9223372036854775807 := by simp at hv; omega
   have hpi := X1U n hn
   rw [hput] at hb ⊢
   generalize XS n = q at *
   simp only [List.length_cons] at hb
   repeat first | refine X0 ?_ | (refine JR ?_; (repeat first | refine Z3 (u := nj 6) (r := n8 6) ?_ (hr := by exact Y6 rfl rfl) | refine ZZ (γ := 130) ?_ | refine Z1 ?_ | refine Z0 ?_ | refine ZB ?_ | refine ZC ?_ | refine ZL ?_ | refine Zl ?_ | refine Zu ?_ | refine ZA (γ := 100) ?_ | refine Z6 ?_ | refine Z9 (hcon := hval) ?_ | refine Z9 (hcon := hpi) ?_); refine JD ?_) | refine JT ?_ | refine JF ?_ | refine X5 ?_ | refine X4 ?_
   refine Qef ?_; exact X1 ⟨_, Xb 2 (y := .d (Xf (UInt8.ofNat 6 :: q))) (AVal.le_of_eq (by refine Eq.trans (b := AVal.d (.sl 1 (_ ++ _))) rfl ?_; show _ = AVal.d (.sl 1 ((UInt8.ofNat 6 :: q).map X6)); simp only [List.map_append, List.map_cons, List.map_nil, List.append_assoc, List.cons_append, List.nil_append]; rfl)), ⟨rfl, trivial⟩, X3 _⟩
  by_cases hk7 : k = 7
  ·subst hk7
   have hput : Xs (.mk 7 n d s l) = UInt8.ofNat 7 :: (Xh l.length ++ XX l) := by rw [Xs]; simp
   have hll : l.length ≤ 64 := by simp at hv; omega
   have hpu := X22 (XF l).length (by omega)
   rw [← hlen] at hput
   rw [hput] at hb ⊢
   generalize Xh ((XF l).length : Int) = q at *
   simp only [List.length_append, List.length_cons] at hb
   repeat first | refine X0 ?_ | (refine JR ?_; (repeat first | refine Z3 (u := nj 7) (r := n8 7) ?_ (hr := by exact Y6 rfl rfl) | refine ZZ (γ := 130) ?_ | refine Z1 ?_ | refine Z0 ?_ | refine ZB ?_ | refine ZC ?_ | refine ZL ?_ | refine Zd ?_ | refine Zl ?_ | refine Zu ?_ | refine ZA (γ := 100) ?_ | refine Z6 ?_ | refine Z9 (hcon := hval) ?_ | refine Z9 (hcon := hpu) ?_); refine JD ?_) | refine JT ?_ | refine JF ?_ | refine X5 ?_ | refine X4 ?_
   refine Xu (fun i : Nat => i ≤ l.length) (fun i => ⟨68, [(1, .ptr 100 0), (3, .own 130 (UInt8.ofNat 7 :: (q ++ XX (l.take i))).length), (4, ai i)], [(100, .box [ai 7, ai n, ai d, X1J s, .d (.sl 5 (XF l))]), (130, .row 1 ((UInt8.ofNat 7 :: (q ++ XX (l.take i))).map X6))]⟩) (fun i => l.length - i) 0 (by omega)
    (X9 rfl ⟨JL, (by refine AVal.le_of_eq ?_; refine Eq.trans (b := AVal.own 130 (_ + _)) rfl ?_; congr 1; simp only [List.take_zero, XX, List.append_nil, List.length_map, List.length_cons, List.length_nil] <;> omega), JL, trivial⟩ ⟨rfl, ?_, trivial⟩) ?_
   ·refine Qic ?_
    simp only [List.take_zero, XX, List.append_nil, List.map_cons, List.cons_append, List.nil_append]; rfl
   intro i hi
   by_cases hlt : i < l.length
   ·obtain ⟨x, hx⟩ := Xx (l := l) hlt
    have hgx := X1y hx
    have htk := X4Y hx
    have hle := X4M l (i + 1)
    have hpx := ihv x (List.mem_of_getElem? hx)
    unfold X1F at hpx
    rw [show Ym x = Xs x by unfold Ym; rw [hel x (List.mem_of_getElem? hx)]; rfl] at hpx
    rw [htk] at hle
    simp only [List.length_append] at hle
    generalize XX (l.take i) = pre at *
    generalize Xs x = px at *
    obtain ⟨k', n', d', s', q'⟩ := x
    simp only [Xo] at hpx
    rw [V5] at hgx
    refine QWe ?_; refine JR ?_; refine QKa ?_; refine Z1 ?_; refine QVa ?_; refine Z9 (hcon := hpx) ?_; refine Qj ?_; refine Qnb ?_
    refine ⟨i + 1, by omega, by omega, X9 rfl ⟨JL, (by refine AVal.le_of_eq ?_; refine Eq.trans (b := AVal.own 130 (_ + _)) rfl ?_; congr 1; rw [htk]; simp only [List.length_append, List.length_map, List.length_cons] <;> omega), JL, trivial⟩ ⟨rfl, ?_, trivial⟩⟩
    refine Qic ?_
    rw [htk]
    simp only [List.map_append, List.map_cons, List.cons_append, List.append_assoc]
   obtain rfl : i = l.length := by omega
   rw [List.take_length]
   refine QQd ?_; refine Xi (Yc 3 130 rfl rfl (by simp)) ?_; refine QVe ?_; exact QBa
  by_cases hk8 : k = 8
  ·subst hk8
   have hput : Xs (.mk 8 n d s l) = UInt8.ofNat 8 :: (Xh l.length ++ XX l) := by rw [Xs]; simp
   have hll : l.length ≤ 64 := by simp at hv; omega
   have hpu := X22 (XF l).length (by omega)
   rw [← hlen] at hput
   rw [hput] at hb ⊢
   generalize Xh ((XF l).length : Int) = q at *
   simp only [List.length_append, List.length_cons] at hb
   repeat first | refine X0 ?_ | (refine JR ?_; (repeat first | refine Z3 (u := nj 8) (r := n8 8) ?_ (hr := by exact Y6 rfl rfl) | refine ZZ (γ := 130) ?_ | refine Z1 ?_ | refine Z0 ?_ | refine ZB ?_ | refine ZC ?_ | refine ZL ?_ | refine Zd ?_ | refine Zl ?_ | refine Zu ?_ | refine ZA (γ := 100) ?_ | refine Z6 ?_ | refine Z9 (hcon := hval) ?_ | refine Z9 (hcon := hpu) ?_); refine JD ?_) | refine JT ?_ | refine JF ?_ | refine X5 ?_ | refine X4 ?_
   refine Xu (fun i : Nat => i ≤ l.length) (fun i => ⟨68, [(1, .ptr 100 0), (3, .own 130 (UInt8.ofNat 8 :: (q ++ XX (l.take i))).length), (4, ai i)], [(100, .box [ai 8, ai n, ai d, X1J s, .d (.sl 5 (XF l))]), (130, .row 1 ((UInt8.ofNat 8 :: (q ++ XX (l.take i))).map X6))]⟩) (fun i => l.length - i) 0 (by omega)
    (X9 rfl ⟨JL, (by refine AVal.le_of_eq ?_; refine Eq.trans (b := AVal.own 130 (_ + _)) rfl ?_; congr 1; simp only [List.take_zero, XX, List.append_nil, List.length_map, List.length_cons, List.length_nil] <;> omega), JL, trivial⟩ ⟨rfl, ?_, trivial⟩) ?_
   ·refine Qic ?_
    simp only [List.take_zero, XX, List.append_nil, List.map_cons, List.cons_append, List.nil_append]; rfl
   intro i hi
   by_cases hlt : i < l.length
   ·obtain ⟨x, hx⟩ := Xx (l := l) hlt
    have hgx := X1y hx
    have htk := X4Y hx
    have hle := X4M l (i + 1)
    have hpx := ihv x (List.mem_of_getElem? hx)
    unfold X1F at hpx
    rw [show Ym x = Xs x by unfold Ym; rw [hel x (List.mem_of_getElem? hx)]; rfl] at hpx
    rw [htk] at hle
    simp only [List.length_append] at hle
    generalize XX (l.take i) = pre at *
    generalize Xs x = px at *
    obtain ⟨k', n', d', s', q'⟩ := x
    simp only [Xo] at hpx
    rw [V5] at hgx
    refine QWe ?_; refine JR ?_; refine QKa ?_; refine Z1 ?_; refine QVa ?_; refine Z9 (hcon := hpx) ?_; refine Qj ?_; refine Qnb ?_
    refine ⟨i + 1, by omega, by omega, X9 rfl ⟨JL, (by refine AVal.le_of_eq ?_; refine Eq.trans (b := AVal.own 130 (_ + _)) rfl ?_; congr 1; rw [htk]; simp only [List.length_append, List.length_map, List.length_cons] <;> omega), JL, trivial⟩ ⟨rfl, ?_, trivial⟩⟩
    refine Qic ?_
    rw [htk]
    simp only [List.map_append, List.map_cons, List.cons_append, List.append_assoc]
   obtain rfl : i = l.length := by omega
   rw [List.take_length]
   refine QQd ?_; refine Xi (Yc 3 130 rfl rfl (by simp)) ?_; refine QVe ?_; exact QBa
  simp [*] at hv
theorem XdD {k n d : Int} {s : List UInt8} {l : List Val} (hv : X8 8 (.mk k n d s l) = true) : ∀ x ∈ l, (Xs x).length ≤ (Xs (.mk k n d s l)).length := by
 intro x hx
 have hm := X7I hx
 by_cases h7 : k = 7
 ·subst h7
  rw [show Xs (.mk 7 n d s l) = UInt8.ofNat 7 :: (Xh l.length ++ XX l) by rw [Xs]; simp]
  simp only [List.length_cons, List.length_append]; omega
 ·by_cases h8 : k = 8
  ·subst h8
   rw [show Xs (.mk 8 n d s l) = UInt8.ofNat 8 :: (Xh l.length ++ XX l) by rw [Xs]; simp]
   simp only [List.length_cons, List.length_append]; omega
  ·have : l = [] := by
    rw [X8] at hv
    simp [h7, h8] at hv
    exact hv.1.2
   subst this; simp at hx
theorem X5A : ∀ v : Val, YD v → (Xs v).length ≤ 140737488355328 → X1F v
 | .mk k n d s l => fun hok hb => XdX (.mk k n d s l) hok hb fun hv x hx => X5A x (X4F (by rw [YD] at hok; exact hok.2.2) hx) (Nat.le_trans (XdD hv x hx) hb)
termination_by v => SizeOf.sizeOf v
decreasing_by
 have h1 := List.sizeOf_lt_of_mem (show x ∈ l from hx)
 simp only [Val.mk.sizeOf_spec]
 omega
theorem XdO (x y : Int) : Con Tryz.prog 142 [] [ai x, ai y] [] (ai (YL x y)) := by
 refine Xa (xs := [ai (YL x y)]) Tryz.func142 rfl Tryz.ntmps142 rfl rfl rfl (fun E => ?_)
 by_cases h1 : x < y
 ·rw [show YL x y = -1 by simp [YL, h1]]
  refine Qd ?_; refine Qkb ?_; refine Z8 ?_; exact Qea
 by_cases h2 : y < x
 ·rw [show YL x y = 1 by simp [YL, h1, h2]]
  repeat first | refine X0 ?_ | (refine JR ?_; (repeat first | refine Z1 ?_ | refine Z0 ?_ | refine Z8 ?_ | refine Zs ?_); refine JD ?_) | refine JT ?_ | refine JF ?_ | refine X4 ?_
  exact QN
 rw [show YL x y = 0 by simp [YL, h1, h2]]
 repeat first | refine X0 ?_ | (refine JR ?_; (repeat first | refine Z1 ?_ | refine Z0 ?_ | refine Z8 ?_ | refine Zs ?_); refine JD ?_) | refine JF ?_ | refine X4 ?_
 exact QN
theorem Xc3 (b : Bool) : Con Tryz.prog 140 [] [ab b] [] (ai (if b then 2 else 0)) := by
 refine Xa (xs := [ai (if b then 2 else 0)]) Tryz.func140 rfl Tryz.ntmps140 rfl rfl rfl (fun E => ?_)
 cases b with
 | true =>
  refine Qo ?_; exact Qea
 | false =>
  refine Qo ?_; refine Qs ?_; exact Qia
theorem Xd4 {k : Int} (h : k ≠ 0) : 0 < Vs k := by
 unfold Vs
 rw [if_neg h]
 split
 ·omega
 split
 ·omega
 split
 ·omega
 split
 ·omega
 split
 ·omega
 split <;> omega
def X1m (v : Val) : Int := if X8 8 v = false then 1 else YL (Vs v.kind) 0
theorem Xea (v : Val) : decide (X1m v = 0) = V6 v := by
 unfold X1m V6
 cases h : X8 8 v with
 | false => simp
 | true =>
  obtain ⟨k, n, d, s, l⟩ := v
  have hk := X6E h
  simp only [Val.kind, Bool.true_and]
  refine decide_eq_decide.2 ?_
  rw [if_neg (by simp)]
  unfold YL Vs
  constructor
  ·intro h1
   refine Classical.byContradiction fun h0 => ?_
   rw [if_neg h0] at h1
   have hpos : (0 : Int) < (if k = 1 then 1 else if k = 2 ∨ k = 3 then 2 else if k = 4 then 3 else if k = 5 then 4 else if k = 6 then 5 else if k = 8 then 6 else 7) := by
    split
    ·omega
    split
    ·omega
    split
    ·omega
    split
    ·omega
    split
    ·omega
    split <;> omega
   rw [if_neg (by omega), if_pos hpos] at h1
   omega
  ·intro h1
   subst h1
   rfl
theorem Xgi (v : Val) (hok : YD v) : Con Tryz.prog 107 [] [Xo v, Xo zV] [] (ai (X1m v)) := by
 have hv := X2V v hok
 have hz := X2V zV (by simp [YD, X0s])
 rw [show X8 8 zV = true by rw [X8]; simp] at hz
 by_cases hz0 : v = zV
 ·subst hz0
  rw [show X1m zV = 0 by unfold X1m; rw [show X8 8 zV = true by rw [X8]; simp]; rfl]
  exact X5r zV (by simp [YD, X0s])
 refine Xa (xs := [ai (X1m v)]) Tryz.func107 rfl Tryz.ntmps107 rfl rfl rfl (fun E => ?_)
 unfold X1m
 cases h : X8 8 v with
 | false =>
  rw [h] at hv
  rw [if_pos rfl]
  have hy := Xc3 false
  rw [if_neg (by simp)] at hy
  obtain ⟨k, n, d, s, l⟩ := v
  simp only [Xo, XF] at hv hz ⊢
  refine Qnc ?_; refine Qqc ?_; refine ZL ?_; refine Z9 (hcon := hz) ?_; refine QAa ?_; refine Qkb ?_; refine Z00 ?_; refine Qh ?_; refine Qf ?_; refine Z9 (hcon := hy) ?_; refine ZR ?_; exact QO
 | true =>
  rw [h] at hv
  rw [if_neg (by simp)]
  obtain ⟨k, n, d, s, l⟩ := v
  have c1 := X7g k
  have c2 := X7g 0
  rw [show Vs 0 = 0 from rfl] at c2
  have c3 := XdO (Vs k) 0
  simp only [Val.kind]
  have hk0 : k ≠ 0 := fun h1 => by
   obtain ⟨rfl, rfl, rfl, rfl⟩ := Xb6 h h1
   exact hz0 (by rw [h1])
  have hcp := Xd4 hk0
  have hnz : YL (Vs k) 0 ≠ 0 := by
   unfold YL
   rw [if_neg (by omega), if_pos hcp]
   omega
  generalize YL (Vs k) 0 = z at *
  generalize Vs k = c at *
  simp only [Xo, XF] at hv hz ⊢
  repeat first | refine X0 ?_ | (refine JR ?_; (repeat first | refine Z1 ?_ | refine Z0 ?_ | refine ZB ?_ | refine ZC ?_ | refine ZL ?_ | refine Zv ?_ | refine Z00 ?_ | refine Zu ?_ | refine ZA (γ := 100) ?_ | refine ZA (γ := 101) ?_ | refine Z9 (hcon := hv) ?_ | refine Z9 (hcon := hz) ?_ | refine Z9 (hcon := c1) ?_ | refine Z9 (hcon := c2) ?_ | refine Z9 (hcon := c3) ?_); refine JD ?_) | refine JT ?_ | refine JF ?_ | refine X4 ?_
  exact QN
theorem XdE (v : Val) (hok : YD v) : Con Tryz.prog 124 [] [Xo v] [] (ab (V6 v)) := by
 refine Xa (xs := [ab (V6 v)]) Tryz.func124 rfl Tryz.ntmps124 rfl rfl rfl (fun E => ?_)
 have ho := Xgi v hok
 rw [← Xea v]
 generalize X1m v = z at *
 obtain ⟨k, n, d, s, l⟩ := v
 simp only [Xo, XF] at ho ⊢
 refine QGa ?_; refine Qgb ?_; refine Zx ?_; refine Z9 (hcon := ho) ?_; refine Zl ?_; refine Qc ?_; exact QN
theorem Xhx (v : Val) (hok : YD v) : Con Tryz.prog 126 [] [Xo v] [] (ab (X07 v)) := by
 refine Xa (xs := [ab (X07 v)]) Tryz.func126 rfl Tryz.ntmps126 rfl rfl rfl (fun E => ?_)
 have hv := X2V v hok
 unfold X07
 generalize X8 8 v = b at *
 obtain ⟨k, n, d, s, l⟩ := v
 simp only [Xo, Val.kind] at hv ⊢
 unfold X43
 by_cases h1 : k = 1
 ·rw [decide_eq_true (by omega), Bool.true_and]
  cases b with
  | true =>
   refine QGa ?_; refine Qqc ?_; refine Qzc ?_; refine QQa ?_; refine QQa ?_; exact Qta
  | false =>
   exact Qff
 by_cases h2 : k = 2
 ·rw [decide_eq_true (by omega), Bool.true_and]
  cases b with
  | true =>
   refine QGa ?_; refine Qqc ?_; refine Qzc ?_; refine Qzc ?_; refine Zq ?_; refine QQa ?_; exact Qta
  | false =>
   exact Qff
 by_cases h4 : k = 4
 ·rw [decide_eq_true (by omega), Bool.true_and]
  cases b with
  | true =>
   refine QGa ?_; refine Qqc ?_; refine Qzc ?_; refine Qzc ?_; refine QAc ?_; refine Zl ?_; refine Zq ?_; exact Qta
  | false =>
   exact Qff
 rw [decide_eq_false (by omega), Bool.false_and]
 cases b with
 | true =>
  refine QGa ?_; refine Qqc ?_; refine Qzc ?_; refine Qzc ?_; refine QAc ?_; refine Zl ?_; refine Zq ?_; exact Qxc
 | false =>
  exact Qff
end Go.Fw
