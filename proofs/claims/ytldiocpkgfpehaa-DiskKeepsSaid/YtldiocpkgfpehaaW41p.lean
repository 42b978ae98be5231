/- Valid disks: plain laws. -/
import Derived.Test.YtldiocpkgfpehaaW41a
namespace Go.Fw
open Go Go.Proofs
set_option linter.unusedVariables false
set_option linter.unusedSimpArgs false
abbrev ai' (n : Nat) : Value := .int .i64 n
def okD (D : Disk) (n k : Nat) : Prop := validS D = true ∧ D.sectors.length = n ∧ D.pending.length ≤ k
theorem validS_mk {s : List (List UInt8)} {p : List Wr} {on : Bool} (h1 : 1 ≤ s.length ∧ s.length ≤ 4096) (h2 : on = true ∨ p.length = 0) (h3 : okW s p) : validS ⟨s, p, on⟩ = true := by
  simp only [validS, decide_eq_true_eq]
  exact ⟨h1.1, h1.2, h2, h3.1, h3.2⟩
theorem validS_len {D : Disk} (h : validS D = true) : 1 ≤ D.sectors.length ∧ D.sectors.length ≤ 4096 := by
  simp only [validS, decide_eq_true_eq] at h
  exact ⟨h.1, h.2.1⟩
theorem ok_few {D : Disk} {n k : Nat} (h : okD D n k) (hn : n ≤ 20) (hk : k ≤ 30) : fewL D := by
  have hw := okW_of h.1
  exact ⟨by have := h.2.1; omega, by have := h.2.2; omega, fun s hs => by rw [hw.1 s hs]; omega, fun w hm => by rw [(hw.2 w hm).2.2]; omega⟩
theorem ok_succ {D : Disk} {n k : Nat} (h : okD D n k) : okD D n (k + 1) := ⟨h.1, h.2.1, by have := h.2.2; omega⟩
theorem ok_new {m : Nat} (h1 : 1 ≤ m) (h2 : m ≤ 4096) : okD (newS m).1 m 0 := by
  have e : newS (m : Int) = (⟨List.replicate m zeroS, [], true⟩, 0) := by unfold newS; rw [if_pos (by omega), Int.toNat_natCast]
  rw [e]
  refine ⟨validS_mk (by simpa using ⟨h1, h2⟩) (.inl rfl) ⟨fun s hs => ?_, fun w hw => nomatch hw⟩, by simp, by simp⟩
  rw [(List.mem_replicate.1 hs).2]; rfl
theorem ok_write {D : Disk} {n k : Nat} {a : Int} {b : List UInt8} (h : okD D n k) (he : (writeS D a b).2 = 0) : okD (writeS D a b).1 n (k + 1) := by
  have hw := okW_of h.1
  unfold writeS at he ⊢
  split at he
  · rename_i hu; exact absurd he hu
  rename_i hu
  rw [if_neg hu]
  split at he
  · rename_i hc
    rw [if_pos hc]
    have hu' := usable_ok (by simpa using hu)
    refine ⟨validS_mk (validS_len h.1) (.inl hu'.2) ⟨hw.1, fun w hm => ?_⟩, h.2.1, by simpa using h.2.2⟩
    rcases List.mem_append.1 hm with hm | hm
    · exact hw.2 w hm
    · obtain rfl : w = ⟨a, b⟩ := by simpa using hm
      exact hc
  · simp at he
theorem ok_settle {D : Disk} {n k : Nat} (h : okD D n k) (kv : Nat → Int) (on : Bool) : okD ⟨settleS D kv, [], on⟩ n (k + 1) := by
  have hw := okW_of h.1
  have hl : (settleS D kv).length = D.sectors.length := performK_length _ _ _ _
  exact ⟨validS_mk (by rw [hl]; exact validS_len h.1) (.inr rfl) ⟨performK_ok kv hw _, fun w hm => nomatch hm⟩, hl.trans h.2.1, Nat.zero_le _⟩
theorem ok_sync {D : Disk} {n k : Nat} (h : okD D n k) (he : (syncS D).2 = 0) : okD (syncS D).1 n (k + 1) := by
  unfold syncS at he ⊢
  split at he
  · rename_i hu; exact absurd he hu
  rename_i hu
  rw [if_neg hu]
  exact ok_settle h _ _
theorem ok_crash {D : Disk} {n k : Nat} (h : okD D n k) (keep : List Int) : okD (crashS D keep) n (k + 1) := by
  unfold crashS
  rw [if_pos h.1]
  exact ok_settle h _ _
theorem ok_power {D : Disk} {n k : Nat} (h : okD D n k) : okD (powerS D) n (k + 1) := by
  unfold powerS
  rw [if_pos h.1]
  exact ⟨validS_mk (validS_len h.1) (.inl rfl) (okW_of h.1), h.2.1, by have := h.2.2; exact Nat.le_succ_of_le this⟩
end Go.Fw
