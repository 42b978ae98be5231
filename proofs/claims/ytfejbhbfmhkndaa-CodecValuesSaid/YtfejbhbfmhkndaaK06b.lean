/- Reading values by the reference: content. -/
import Derived.Test.YtfejbhbfmhkndaaG3
import Derived.Test.YtfejbhbfmhkndaaK06a
namespace Go.Fw
open Go Go.Proofs
set_option linter.unusedVariables false
set_option linter.unusedSimpArgs false
def ContC (b : List UInt8) (a : Int) (k lists : Int) (r : Val × Int × Int) : Prop :=
  Con Try.prog 57 [] [.d (dBytes b), ai a, ai k, ai lists] [] (.tup [aVal r.1, ai r.2.1, ai r.2.2])
set_option maxHeartbeats 16000000 in
theorem rcontent_of (b : List UInt8) (m k : Nat) (a : Int) (gl gp : Nat → Int → Val × Int × Int) (R : Val × Int × Int) (hm : m ≤ 8) (hb : b.length ≤ 65536) (hk : k ≤ 8)
    (h8 : k = 8 → ∀ R, R = elemsR gl b a 8 → ElemC b a 8 (8 - m) R) (h7 : k = 7 → ∀ R, R = elemsR gp b a 7 → ElemC b a 7 (8 - m) R) (hG : R = contentR gl gp b a k) : ContC b a k (8 - m) R := by
  refine con_of (xs := [aVal R.1, ai R.2.1, ai R.2.2]) Try.func57 rfl Try.ntmps57 rfl rfl rfl (fun E => ?_)
  by_cases hk8 : k = 8
  · subst hk8
    have hcall := h8 rfl R (by rw [hG]; simp [contentR])
    unfold ElemC at hcall
    obtain ⟨⟨xk, xn, xd, xs, xl⟩, xa, xe⟩ := R
    simp only [aVal] at hcall
    rw [show (((8 : Nat) : Int)) = 8 from rfl]
    refine k_s ?_; refine k_49 (γ := 100) ?_; refine k_4 ?_; refine k_4 ?_; refine k_d ?_; refine k_s ?_; refine k_0 ?_; refine k_63 ?_; refine k_49 (γ := 101) ?_; refine k_37 ?_; refine k_d ?_; refine awp_seq ?_; refine k_s ?_; refine k_0 ?_; refine k_d ?_; refine awp_block ?_; refine awp_seq ?_; refine k_s ?_; refine k_5 ?_; refine k_4 ?_; refine k_d ?_; refine k_rf ?_; refine k_s ?_; refine k_5 ?_; refine k_4 ?_; refine k_d ?_; refine k_rf ?_; refine k_s ?_; refine k_5 ?_; refine k_4 ?_; refine k_d ?_; refine k_rf ?_; refine k_r ?_; refine k_5 ?_; refine k_4 ?_; refine k_d ?_; refine k_rf ?_; refine k_s ?_; refine k_5 ?_; refine k_4 ?_; refine k_d ?_; refine k_rf ?_; refine k_s ?_; refine k_5 ?_; refine k_4 ?_; refine k_d ?_; refine k_rf ?_; refine awp_seq ?_; refine k_s ?_; refine k_5 ?_; refine k_4 ?_; refine k_d ?_; refine k_rt ?_; refine awp_skip ?_; refine k_rt ?_; refine awp_seq ?_
    refine k_r ?_; refine k_0 ?_; refine k_0 ?_; refine k_0 ?_; refine k_0 ?_; refine k_60 (hcon := hcall) ?_ (hle := by refine ⟨(by exact AVal.le_refl _), ?_⟩; refine ⟨(by exact AVal.le_refl _), ?_⟩; refine ⟨(by exact AVal.le_refl _), ?_⟩; refine ⟨(by exact AVal.le_refl _), ?_⟩; exact trivial) (hLi := by (repeat (first | exact trivial | refine ⟨rfl, ?_⟩ | fail)) <;> fail) (hnew := by (repeat (first | exact trivial | refine ⟨rfl, ?_⟩ | fail)) <;> fail) (hdead := by (repeat (first | exact trivial | refine ⟨rfl, ?_⟩ | fail)) <;> fail); refine k_36 ?_; refine k_36 ?_; refine k_36 ?_; refine k_37 ?_; refine k_4 ?_; refine k_4 ?_; refine k_d ?_
    exact awp_ret ⟨_, St.le_refl _, ⟨⟨100, 0, _, rfl, rfl, .inr ⟨5, _, rfl, rfl, rfl, rfl⟩⟩, rfl, rfl, trivial⟩, subL_nil _⟩
  by_cases hk7 : k = 7
  · subst hk7
    have hcall := h7 rfl R (by rw [hG]; simp [contentR])
    unfold ElemC at hcall
    obtain ⟨⟨xk, xn, xd, xs, xl⟩, xa, xe⟩ := R
    simp only [aVal] at hcall
    rw [show (((7 : Nat) : Int)) = 7 from rfl]
    refine k_s ?_; refine k_49 (γ := 100) ?_; refine k_4 ?_; refine k_4 ?_; refine k_d ?_; refine k_s ?_; refine k_0 ?_; refine k_63 ?_; refine k_49 (γ := 101) ?_; refine k_37 ?_; refine k_d ?_; refine awp_seq ?_; refine k_s ?_; refine k_0 ?_; refine k_d ?_; refine awp_block ?_; refine awp_seq ?_; refine k_s ?_; refine k_5 ?_; refine k_4 ?_; refine k_d ?_; refine k_rf ?_; refine k_s ?_; refine k_5 ?_; refine k_4 ?_; refine k_d ?_; refine k_rf ?_; refine k_s ?_; refine k_5 ?_; refine k_4 ?_; refine k_d ?_; refine k_rf ?_; refine k_r ?_; refine k_5 ?_; refine k_4 ?_; refine k_d ?_; refine k_rf ?_; refine k_s ?_; refine k_5 ?_; refine k_4 ?_; refine k_d ?_; refine k_rf ?_; refine k_s ?_; refine k_5 ?_; refine k_4 ?_; refine k_d ?_; refine k_rf ?_; refine awp_seq ?_; refine k_s ?_; refine k_5 ?_; refine k_4 ?_; refine k_d ?_; refine k_rf ?_; refine k_r ?_; refine k_5 ?_; refine k_4 ?_; refine k_d ?_
    refine k_rt ?_; refine k_s ?_; refine k_0 ?_; refine k_0 ?_; refine k_0 ?_; refine k_0 ?_; refine k_60 (hcon := hcall) ?_ (hle := by refine ⟨(by exact AVal.le_refl _), ?_⟩; refine ⟨(by exact AVal.le_refl _), ?_⟩; refine ⟨(by exact AVal.le_refl _), ?_⟩; refine ⟨(by exact AVal.le_refl _), ?_⟩; exact trivial) (hLi := by (repeat (first | exact trivial | refine ⟨rfl, ?_⟩ | fail)) <;> fail) (hnew := by (repeat (first | exact trivial | refine ⟨rfl, ?_⟩ | fail)) <;> fail) (hdead := by (repeat (first | exact trivial | refine ⟨rfl, ?_⟩ | fail)) <;> fail); refine k_36 ?_; refine k_36 ?_; refine k_36 ?_; refine k_37 ?_; refine k_4 ?_; refine k_4 ?_; refine k_d ?_
    exact awp_ret ⟨_, St.le_refl _, ⟨⟨100, 0, _, rfl, rfl, .inr ⟨5, _, rfl, rfl, rfl, rfl⟩⟩, rfl, rfl, trivial⟩, subL_nil _⟩
  by_cases hk0 : k = 0
  · subst hk0
    obtain rfl : R = (.mk 0 0 0 [] [], (a : Int), 0) := by rw [hG]; simp [contentR, contentG]
    rw [show (((0 : Nat) : Int)) = 0 from rfl]
    refine k_s ?_; refine k_49 (γ := 100) ?_; refine k_4 ?_; refine k_4 ?_; refine k_d ?_; refine k_s ?_; refine k_0 ?_; refine k_63 ?_; refine k_49 (γ := 101) ?_; refine k_37 ?_; refine k_d ?_; refine awp_seq ?_; refine k_s ?_; refine k_0 ?_; refine k_d ?_; refine awp_block ?_; refine awp_seq ?_; refine k_s ?_; refine k_5 ?_; refine k_4 ?_; refine k_d ?_; refine k_rf ?_; refine k_s ?_; refine k_5 ?_; refine k_4 ?_; refine k_d ?_; refine k_rf ?_; refine k_s ?_; refine k_5 ?_; refine k_4 ?_; refine k_d ?_; refine k_rf ?_; refine k_r ?_; refine k_5 ?_; refine k_4 ?_; refine k_d ?_; refine k_rf ?_; refine k_s ?_; refine k_5 ?_; refine k_4 ?_; refine k_d ?_; refine k_rf ?_; refine k_s ?_; refine k_5 ?_; refine k_4 ?_; refine k_d ?_; refine k_rf ?_; refine awp_seq ?_; refine k_s ?_; refine k_5 ?_; refine k_4 ?_; refine k_d ?_; refine k_rf ?_; refine k_r ?_; refine k_5 ?_; refine k_4 ?_; refine k_d ?_
    refine k_rf ?_; refine awp_skip ?_; refine k_s ?_; refine k_47 ?_; refine k_0 ?_; refine k_37 ?_; refine k_4 ?_; refine k_4 ?_; refine k_d ?_
    exact awp_ret ⟨_, le_box 100 (cs := [ai 0, ai 0, ai 0, .d (.v (.string (baOf []))), ani]) (cs' := [ai 0, ai 0, ai 0, .d (.v (.string (baOf []))), .d (.sl 5 [])]) rfl ⟨AVal.le_refl _, AVal.le_refl _, AVal.le_refl _, AVal.le_refl _, AVal.le_nil 5, trivial⟩ rfl, ⟨⟨100, 0, _, rfl, rfl, .inr ⟨5, _, rfl, rfl, rfl, rfl⟩⟩, rfl, rfl, trivial⟩, subL_nil _⟩
  by_cases hk1 : k = 1
  · subst hk1
    have hn := rint_con b a hb
    rw [show contentR gl gp b a ((1 : Nat) : Int) = (.mk 1 (intS b a).1 0 [] [], (intS b a).2.1, (intS b a).2.2) by simp [contentR, contentG]] at hG
    generalize intS b a = u at *
    obtain ⟨n, a2, e2⟩ := u
    subst hG
    rw [show (((1 : Nat) : Int)) = 1 from rfl]
    try simp only at hn
    refine k_s ?_; refine k_49 (γ := 100) ?_; refine k_4 ?_; refine k_4 ?_; refine k_d ?_; refine k_s ?_; refine k_0 ?_; refine k_63 ?_; refine k_49 (γ := 101) ?_; refine k_37 ?_; refine k_d ?_; refine awp_seq ?_; refine k_s ?_; refine k_0 ?_; refine k_d ?_; refine awp_block ?_; refine awp_seq ?_; refine k_s ?_; refine k_5 ?_; refine k_4 ?_; refine k_d ?_; refine k_rt ?_; refine awp_skip ?_; refine k_rt ?_; refine k_s ?_; refine k_0 ?_; refine k_0 ?_; refine k_60 (hcon := hn) ?_ (hle := by refine ⟨(by exact AVal.le_refl _), ?_⟩; refine ⟨(by exact AVal.le_refl _), ?_⟩; exact trivial) (hLi := by (repeat (first | exact trivial | refine ⟨rfl, ?_⟩ | fail)) <;> fail) (hnew := by (repeat (first | exact trivial | refine ⟨rfl, ?_⟩ | fail)) <;> fail) (hdead := by (repeat (first | exact trivial | refine ⟨rfl, ?_⟩ | fail)) <;> fail); refine k_0 ?_; refine k_36 ?_; refine k_36 ?_; refine k_36 ?_; refine k_4 ?_
    refine k_4 ?_; refine k_4 ?_; refine k_d ?_; refine k_s ?_; refine k_0 ?_; refine k_29 ?_; refine k_37 ?_; refine k_d ?_; refine k_s ?_; refine k_47 ?_; refine k_0 ?_; refine k_0 ?_; refine k_37 ?_; refine k_4 ?_; refine k_4 ?_; refine k_d ?_
    exact awp_ret ⟨_, le_box 100 (cs := [ai 1, ai n, ai 0, .d (.v (.string (baOf []))), ani]) (cs' := [ai 1, ai n, ai 0, .d (.v (.string (baOf []))), .d (.sl 5 [])]) rfl ⟨AVal.le_refl _, AVal.le_refl _, AVal.le_refl _, AVal.le_refl _, AVal.le_nil 5, trivial⟩ rfl, ⟨⟨100, 0, _, rfl, rfl, .inr ⟨5, _, rfl, rfl, rfl, rfl⟩⟩, rfl, rfl, trivial⟩, subL_nil _⟩
  by_cases hk2 : k = 2
  · subst hk2
    have hn := rint_con b a hb
    rw [show contentR gl gp b a ((2 : Nat) : Int) = (.mk 2 (intS b a).1 0 [] [], (intS b a).2.1, (intS b a).2.2) by simp [contentR, contentG]] at hG
    generalize intS b a = u at *
    obtain ⟨n, a2, e2⟩ := u
    subst hG
    rw [show (((2 : Nat) : Int)) = 2 from rfl]
    try simp only at hn
    refine k_s ?_; refine k_49 (γ := 100) ?_; refine k_4 ?_; refine k_4 ?_; refine k_d ?_; refine k_s ?_; refine k_0 ?_; refine k_63 ?_; refine k_49 (γ := 101) ?_; refine k_37 ?_; refine k_d ?_; refine awp_seq ?_; refine k_s ?_; refine k_0 ?_; refine k_d ?_; refine awp_block ?_; refine awp_seq ?_; refine k_s ?_; refine k_5 ?_; refine k_4 ?_; refine k_d ?_; refine k_rf ?_; refine k_s ?_; refine k_5 ?_; refine k_4 ?_; refine k_d ?_; refine k_rt ?_; refine awp_skip ?_; refine k_rt ?_; refine k_s ?_; refine k_0 ?_; refine k_0 ?_; refine k_60 (hcon := hn) ?_ (hle := by refine ⟨(by exact AVal.le_refl _), ?_⟩; refine ⟨(by exact AVal.le_refl _), ?_⟩; exact trivial) (hLi := by (repeat (first | exact trivial | refine ⟨rfl, ?_⟩ | fail)) <;> fail) (hnew := by (repeat (first | exact trivial | refine ⟨rfl, ?_⟩ | fail)) <;> fail) (hdead := by (repeat (first | exact trivial | refine ⟨rfl, ?_⟩ | fail)) <;> fail)
    refine k_0 ?_; refine k_36 ?_; refine k_36 ?_; refine k_36 ?_; refine k_4 ?_; refine k_4 ?_; refine k_4 ?_; refine k_d ?_; refine k_s ?_; refine k_0 ?_; refine k_29 ?_; refine k_37 ?_; refine k_d ?_; refine k_s ?_; refine k_47 ?_; refine k_0 ?_; refine k_0 ?_; refine k_37 ?_; refine k_4 ?_; refine k_4 ?_; refine k_d ?_
    exact awp_ret ⟨_, le_box 100 (cs := [ai 2, ai n, ai 0, .d (.v (.string (baOf []))), ani]) (cs' := [ai 2, ai n, ai 0, .d (.v (.string (baOf []))), .d (.sl 5 [])]) rfl ⟨AVal.le_refl _, AVal.le_refl _, AVal.le_refl _, AVal.le_refl _, AVal.le_nil 5, trivial⟩ rfl, ⟨⟨100, 0, _, rfl, rfl, .inr ⟨5, _, rfl, rfl, rfl, rfl⟩⟩, rfl, rfl, trivial⟩, subL_nil _⟩
  by_cases hk5 : k = 5
  · subst hk5
    have hn := rint_con b a hb
    rw [show contentR gl gp b a ((5 : Nat) : Int) = (.mk 5 (intS b a).1 0 [] [], (intS b a).2.1, (intS b a).2.2) by simp [contentR, contentG]] at hG
    generalize intS b a = u at *
    obtain ⟨n, a2, e2⟩ := u
    subst hG
    rw [show (((5 : Nat) : Int)) = 5 from rfl]
    try simp only at hn
    refine k_s ?_; refine k_49 (γ := 100) ?_; refine k_4 ?_; refine k_4 ?_; refine k_d ?_; refine k_s ?_; refine k_0 ?_; refine k_63 ?_; refine k_49 (γ := 101) ?_; refine k_37 ?_; refine k_d ?_; refine awp_seq ?_; refine k_s ?_; refine k_0 ?_; refine k_d ?_; refine awp_block ?_; refine awp_seq ?_; refine k_s ?_; refine k_5 ?_; refine k_4 ?_; refine k_d ?_; refine k_rf ?_; refine k_s ?_; refine k_5 ?_; refine k_4 ?_; refine k_d ?_; refine k_rf ?_; refine k_s ?_; refine k_5 ?_; refine k_4 ?_; refine k_d ?_; refine k_rt ?_; refine awp_skip ?_; refine k_rt ?_; refine k_s ?_; refine k_0 ?_; refine k_0 ?_; refine k_60 (hcon := hn) ?_ (hle := by refine ⟨(by exact AVal.le_refl _), ?_⟩; refine ⟨(by exact AVal.le_refl _), ?_⟩; exact trivial) (hLi := by (repeat (first | exact trivial | refine ⟨rfl, ?_⟩ | fail)) <;> fail) (hnew := by (repeat (first | exact trivial | refine ⟨rfl, ?_⟩ | fail)) <;> fail) (hdead := by (repeat (first | exact trivial | refine ⟨rfl, ?_⟩ | fail)) <;> fail)
    refine k_0 ?_; refine k_36 ?_; refine k_36 ?_; refine k_36 ?_; refine k_4 ?_; refine k_4 ?_; refine k_4 ?_; refine k_d ?_; refine k_s ?_; refine k_0 ?_; refine k_29 ?_; refine k_37 ?_; refine k_d ?_; refine k_s ?_; refine k_47 ?_; refine k_0 ?_; refine k_0 ?_; refine k_37 ?_; refine k_4 ?_; refine k_4 ?_; refine k_d ?_
    exact awp_ret ⟨_, le_box 100 (cs := [ai 5, ai n, ai 0, .d (.v (.string (baOf []))), ani]) (cs' := [ai 5, ai n, ai 0, .d (.v (.string (baOf []))), .d (.sl 5 [])]) rfl ⟨AVal.le_refl _, AVal.le_refl _, AVal.le_refl _, AVal.le_refl _, AVal.le_nil 5, trivial⟩ rfl, ⟨⟨100, 0, _, rfl, rfl, .inr ⟨5, _, rfl, rfl, rfl, rfl⟩⟩, rfl, rfl, trivial⟩, subL_nil _⟩
  by_cases hk6 : k = 6
  · subst hk6
    have hn := rint_con b a hb
    rw [show contentR gl gp b a ((6 : Nat) : Int) = (.mk 6 (intS b a).1 0 [] [], (intS b a).2.1, (intS b a).2.2) by simp [contentR, contentG]] at hG
    generalize intS b a = u at *
    obtain ⟨n, a2, e2⟩ := u
    subst hG
    rw [show (((6 : Nat) : Int)) = 6 from rfl]
    try simp only at hn
    refine k_s ?_; refine k_49 (γ := 100) ?_; refine k_4 ?_; refine k_4 ?_; refine k_d ?_; refine k_s ?_; refine k_0 ?_; refine k_63 ?_; refine k_49 (γ := 101) ?_; refine k_37 ?_; refine k_d ?_; refine awp_seq ?_; refine k_s ?_; refine k_0 ?_; refine k_d ?_; refine awp_block ?_; refine awp_seq ?_; refine k_s ?_; refine k_5 ?_; refine k_4 ?_; refine k_d ?_; refine k_rf ?_; refine k_s ?_; refine k_5 ?_; refine k_4 ?_; refine k_d ?_; refine k_rf ?_; refine k_s ?_; refine k_5 ?_; refine k_4 ?_; refine k_d ?_; refine k_rf ?_; refine k_r ?_; refine k_5 ?_; refine k_4 ?_; refine k_d ?_; refine k_rt ?_; refine k_s ?_; refine k_0 ?_; refine k_0 ?_; refine k_60 (hcon := hn) ?_ (hle := by refine ⟨(by exact AVal.le_refl _), ?_⟩; refine ⟨(by exact AVal.le_refl _), ?_⟩; exact trivial) (hLi := by (repeat (first | exact trivial | refine ⟨rfl, ?_⟩ | fail)) <;> fail) (hnew := by (repeat (first | exact trivial | refine ⟨rfl, ?_⟩ | fail)) <;> fail) (hdead := by (repeat (first | exact trivial | refine ⟨rfl, ?_⟩ | fail)) <;> fail)
    refine k_0 ?_; refine k_36 ?_; refine k_36 ?_; refine k_36 ?_; refine k_4 ?_; refine k_4 ?_; refine k_4 ?_; refine k_d ?_; refine k_s ?_; refine k_0 ?_; refine k_29 ?_; refine k_37 ?_; refine k_d ?_; refine k_s ?_; refine k_47 ?_; refine k_0 ?_; refine k_0 ?_; refine k_37 ?_; refine k_4 ?_; refine k_4 ?_; refine k_d ?_
    exact awp_ret ⟨_, le_box 100 (cs := [ai 6, ai n, ai 0, .d (.v (.string (baOf []))), ani]) (cs' := [ai 6, ai n, ai 0, .d (.v (.string (baOf []))), .d (.sl 5 [])]) rfl ⟨AVal.le_refl _, AVal.le_refl _, AVal.le_refl _, AVal.le_refl _, AVal.le_nil 5, trivial⟩ rfl, ⟨⟨100, 0, _, rfl, rfl, .inr ⟨5, _, rfl, rfl, rfl, rfl⟩⟩, rfl, rfl, trivial⟩, subL_nil _⟩
  by_cases hk4 : k = 4
  · subst hk4
    have hn := rstr_con b a 100 hb
    rw [show contentR gl gp b a ((4 : Nat) : Int) = (.mk 4 0 0 (strS b a 100).1 [], (strS b a 100).2.1, (strS b a 100).2.2) by simp [contentR, contentG]] at hG
    generalize strS b a 100 = u at *
    obtain ⟨s, a2, e2⟩ := u
    subst hG
    rw [show (((4 : Nat) : Int)) = 4 from rfl]
    try simp only at hn
    refine k_s ?_; refine k_49 (γ := 100) ?_; refine k_4 ?_; refine k_4 ?_; refine k_d ?_; refine k_s ?_; refine k_0 ?_; refine k_63 ?_; refine k_49 (γ := 101) ?_; refine k_37 ?_; refine k_d ?_; refine awp_seq ?_; refine k_s ?_; refine k_0 ?_; refine k_d ?_; refine awp_block ?_; refine awp_seq ?_; refine k_s ?_; refine k_5 ?_; refine k_4 ?_; refine k_d ?_; refine k_rf ?_; refine k_s ?_; refine k_5 ?_; refine k_4 ?_; refine k_d ?_; refine k_rf ?_; refine k_s ?_; refine k_5 ?_; refine k_4 ?_; refine k_d ?_; refine k_rf ?_; refine k_r ?_; refine k_5 ?_; refine k_4 ?_; refine k_d ?_; refine k_rf ?_; refine k_s ?_; refine k_5 ?_; refine k_4 ?_; refine k_d ?_; refine k_rf ?_; refine k_s ?_; refine k_5 ?_; refine k_4 ?_; refine k_d ?_; refine k_rt ?_; refine k_s ?_; refine k_0 ?_; refine k_0 ?_; refine k_60 (hcon := hn) ?_ (hle := by refine ⟨(by exact AVal.le_refl _), ?_⟩; refine ⟨(by exact AVal.le_refl _), ?_⟩; refine ⟨(by exact AVal.le_refl _), ?_⟩; exact trivial) (hLi := by (repeat (first | exact trivial | refine ⟨rfl, ?_⟩ | fail)) <;> fail) (hnew := by (repeat (first | exact trivial | refine ⟨rfl, ?_⟩ | fail)) <;> fail) (hdead := by (repeat (first | exact trivial | refine ⟨rfl, ?_⟩ | fail)) <;> fail)
    refine k_0 ?_; refine k_36 ?_; refine k_36 ?_; refine k_36 ?_; refine k_4 ?_; refine k_4 ?_; refine k_4 ?_; refine k_d ?_; refine k_s ?_; refine k_0 ?_; refine k_29 ?_; refine k_37 ?_; refine k_d ?_; refine k_s ?_; refine k_47 ?_; refine k_0 ?_; refine k_0 ?_; refine k_37 ?_; refine k_4 ?_; refine k_4 ?_; refine k_d ?_
    exact awp_ret ⟨_, le_box 100 (cs := [ai 4, ai 0, ai 0, .d (.v (.string (baOf s))), ani]) (cs' := [ai 4, ai 0, ai 0, .d (.v (.string (baOf s))), .d (.sl 5 [])]) rfl ⟨AVal.le_refl _, AVal.le_refl _, AVal.le_refl _, AVal.le_refl _, AVal.le_nil 5, trivial⟩ rfl, ⟨⟨100, 0, _, rfl, rfl, .inr ⟨5, _, rfl, rfl, rfl, rfl⟩⟩, rfl, rfl, trivial⟩, subL_nil _⟩
  obtain rfl : k = 3 := by omega
  have hn := rint_con b a hb
  have hne := int_end b a
  rw [show contentR gl gp b a ((3 : Nat) : Int) = if (intS b a).2.2 ≠ 0 then (.mk 3 0 0 [] [], (intS b a).2.1, (intS b a).2.2) else (.mk 3 (intS b a).1 (intS b (intS b a).2.1).1 [] [], (intS b (intS b a).2.1).2.1, (intS b (intS b a).2.1).2.2) by simp [contentR, contentG]] at hG
  have hz := int_err0 (b := b) (a := a)
  generalize intS b a = u at *
  obtain ⟨n, a2, e2⟩ := u
  simp only at hn hG hne hz
  rw [show (((3 : Nat) : Int)) = 3 from rfl]
  by_cases he : e2 = 0
  · subst he
    rw [if_neg (by simp)] at hG
    obtain ⟨q, hq1, hq2⟩ := hne rfl
    simp only at hq1
    subst hq1
    have hd := rint_con b q hb
    generalize intS b q = u2 at *
    obtain ⟨d, a3, e3⟩ := u2
    simp only at hd hG
    subst hG
    refine k_s ?_; refine k_49 (γ := 100) ?_; refine k_4 ?_; refine k_4 ?_; refine k_d ?_; refine k_s ?_; refine k_0 ?_; refine k_63 ?_; refine k_49 (γ := 101) ?_; refine k_37 ?_; refine k_d ?_; refine awp_seq ?_; refine k_s ?_; refine k_0 ?_; refine k_d ?_; refine awp_block ?_; refine awp_seq ?_; refine k_s ?_; refine k_5 ?_; refine k_4 ?_; refine k_d ?_; refine k_rf ?_; refine k_s ?_; refine k_5 ?_; refine k_4 ?_; refine k_d ?_; refine k_rf ?_; refine k_s ?_; refine k_5 ?_; refine k_4 ?_; refine k_d ?_; refine k_rf ?_; refine k_r ?_; refine k_5 ?_; refine k_4 ?_; refine k_d ?_; refine k_rf ?_; refine k_s ?_; refine k_5 ?_; refine k_4 ?_; refine k_d ?_; refine k_rt ?_; refine k_s ?_; refine k_0 ?_; refine k_0 ?_; refine k_60 (hcon := hn) ?_ (hle := by refine ⟨(by exact AVal.le_refl _), ?_⟩; refine ⟨(by exact AVal.le_refl _), ?_⟩; exact trivial) (hLi := by (repeat (first | exact trivial | refine ⟨rfl, ?_⟩ | fail)) <;> fail) (hnew := by (repeat (first | exact trivial | refine ⟨rfl, ?_⟩ | fail)) <;> fail) (hdead := by (repeat (first | exact trivial | refine ⟨rfl, ?_⟩ | fail)) <;> fail)
    refine k_0 ?_; refine k_36 ?_; refine k_36 ?_; refine k_36 ?_; refine k_4 ?_; refine k_4 ?_; refine k_4 ?_; refine k_d ?_; refine awp_seq ?_; refine k_s ?_; refine k_0 ?_; refine k_6 ?_; refine k_d ?_; refine k_rf ?_; refine awp_skip ?_; refine k_s ?_; refine k_0 ?_; refine k_0 ?_; refine k_60 (hcon := hd) ?_ (hle := by refine ⟨(by exact AVal.le_refl _), ?_⟩; refine ⟨(by exact AVal.le_refl _), ?_⟩; exact trivial) (hLi := by (repeat (first | exact trivial | refine ⟨rfl, ?_⟩ | fail)) <;> fail) (hnew := by (repeat (first | exact trivial | refine ⟨rfl, ?_⟩ | fail)) <;> fail) (hdead := by (repeat (first | exact trivial | refine ⟨rfl, ?_⟩ | fail)) <;> fail); refine k_0 ?_; refine k_36 ?_; refine k_36 ?_; refine k_36 ?_; refine k_4 ?_; refine k_4 ?_; refine k_4 ?_; refine k_d ?_; refine k_s ?_; refine k_0 ?_; refine k_29 ?_; refine k_37 ?_; refine k_d ?_; refine k_s ?_; refine k_0 ?_; refine k_29 ?_
    refine k_37 ?_; refine k_d ?_; refine k_s ?_; refine k_47 ?_; refine k_0 ?_; refine k_0 ?_; refine k_37 ?_; refine k_4 ?_; refine k_4 ?_; refine k_d ?_
    exact awp_ret ⟨_, le_box 100 (cs := [ai 3, ai n, ai d, .d (.v (.string (baOf []))), ani]) (cs' := [ai 3, ai n, ai d, .d (.v (.string (baOf []))), .d (.sl 5 [])]) rfl ⟨AVal.le_refl _, AVal.le_refl _, AVal.le_refl _, AVal.le_refl _, AVal.le_nil 5, trivial⟩ rfl, ⟨⟨100, 0, _, rfl, rfl, .inr ⟨5, _, rfl, rfl, rfl, rfl⟩⟩, rfl, rfl, trivial⟩, subL_nil _⟩
  · rw [if_pos he] at hG
    obtain rfl := hz he
    subst hG
    refine k_s ?_; refine k_49 (γ := 100) ?_; refine k_4 ?_; refine k_4 ?_; refine k_d ?_; refine k_s ?_; refine k_0 ?_; refine k_63 ?_; refine k_49 (γ := 101) ?_; refine k_37 ?_; refine k_d ?_; refine awp_seq ?_; refine k_s ?_; refine k_0 ?_; refine k_d ?_; refine awp_block ?_; refine awp_seq ?_; refine k_s ?_; refine k_5 ?_; refine k_4 ?_; refine k_d ?_; refine k_rf ?_; refine k_s ?_; refine k_5 ?_; refine k_4 ?_; refine k_d ?_; refine k_rf ?_; refine k_s ?_; refine k_5 ?_; refine k_4 ?_; refine k_d ?_; refine k_rf ?_; refine k_r ?_; refine k_5 ?_; refine k_4 ?_; refine k_d ?_; refine k_rf ?_; refine k_s ?_; refine k_5 ?_; refine k_4 ?_; refine k_d ?_; refine k_rt ?_; refine k_s ?_; refine k_0 ?_; refine k_0 ?_; refine k_60 (hcon := hn) ?_ (hle := by refine ⟨(by exact AVal.le_refl _), ?_⟩; refine ⟨(by exact AVal.le_refl _), ?_⟩; exact trivial) (hLi := by (repeat (first | exact trivial | refine ⟨rfl, ?_⟩ | fail)) <;> fail) (hnew := by (repeat (first | exact trivial | refine ⟨rfl, ?_⟩ | fail)) <;> fail) (hdead := by (repeat (first | exact trivial | refine ⟨rfl, ?_⟩ | fail)) <;> fail)
    refine k_0 ?_; refine k_36 ?_; refine k_36 ?_; refine k_36 ?_; refine k_4 ?_; refine k_4 ?_; refine k_4 ?_; refine k_d ?_; refine awp_seq ?_; refine k_s ?_; refine k_0 ?_; refine k_6 ?_; refine k_d ?_; refine k_ct ?_; refine k_s ?_; refine k_47 ?_; refine k_0 ?_; refine k_37 ?_; refine k_4 ?_; refine k_4 ?_; refine k_d ?_
    exact awp_ret ⟨_, le_box 100 (cs := [ai 3, ai 0, ai 0, .d (.v (.string (baOf []))), ani]) (cs' := [ai 3, ai 0, ai 0, .d (.v (.string (baOf []))), .d (.sl 5 [])]) rfl ⟨AVal.le_refl _, AVal.le_refl _, AVal.le_refl _, AVal.le_refl _, AVal.le_nil 5, trivial⟩ rfl, ⟨⟨100, 0, _, rfl, rfl, .inr ⟨5, _, rfl, rfl, rfl, rfl⟩⟩, rfl, rfl, trivial⟩, subL_nil _⟩
end Go.Fw
