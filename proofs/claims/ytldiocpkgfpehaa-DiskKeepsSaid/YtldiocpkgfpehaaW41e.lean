/- The law about what a write and a crash leave: plain part. -/
import Derived.Test.YtldiocpkgfpehaaW41p
namespace Go.Fw
open Go Go.Proofs
set_option linter.unusedVariables false
set_option linter.unusedSimpArgs false
theorem settle_none {rows : List (List UInt8)} {pend : List Wr} {kv : Nat → Int} (hkv : ∀ k, kv k = 0) : ∀ n, performK rows pend kv n = rows
  | 0 => rfl
  | n + 1 => by
    simp only [performK, settle_none hkv n]
    split
    · rename_i w hw
      simp only [putS, hkv, show clampS 0 = 0 from rfl, List.take_zero, List.nil_append, List.drop_zero]
      apply List.ext_getElem?
      intro i
      by_cases hi : w.at_.toNat = i
      · subst hi
        rw [List.getElem?_set_self']
        cases h : rows[w.at_.toNat]? <;> simp
      · rw [List.getElem?_set_ne hi]
    · rfl
theorem bound_append {pend : List Wr} {w : Wr} {a : Int} {s : List UInt8} : ∀ n, n ≤ pend.length → boundS (pend ++ [w]) a s n = boundS pend a s n
  | 0, _ => rfl
  | n + 1, h => by
    have e := bound_append (pend := pend) (w := w) (a := a) (s := s) n (by omega)
    simp only [boundS, e, List.getElem?_append_left (show n < pend.length by omega)]
theorem bound_last {pend : List Wr} {w : Wr} {a : Int} {s : List UInt8} : boundS (pend ++ [w]) a s (pend ++ [w]).length = if w.at_ = a then w.b else boundS pend a s pend.length := by
  rw [List.length_append, List.length_singleton]
  simp only [boundS, bound_append pend.length (Nat.le_refl _)]
  simp
section
variable {d : Disk} {k j : Nat} {x : UInt8}
abbrev wroteD (d : Disk) (k : Nat) (x : UInt8) : Disk := ⟨d.sectors, d.pending ++ [⟨k, fillS x⟩], true⟩
theorem usable_of (hv : validS d = true) (ho : d.on = true) : usableS d = 0 := by simp [usableS, hv, ho]
theorem wrote_ok (hv : validS d = true) (hk : k < d.sectors.length) : okW (wroteD d k x).sectors (wroteD d k x).pending := by
  have h := okW_of hv
  refine ⟨h.1, fun w hm => ?_⟩
  rcases List.mem_append.1 hm with hm | hm
  · exact h.2 w hm
  · obtain rfl : w = ⟨k, fillS x⟩ := by simpa using hm
    exact ⟨by simp only; omega, by simp only; omega, by simp [fillS]⟩
theorem wrote_valid (hv : validS d = true) (hk : k < d.sectors.length) : validS (wroteD d k x) = true :=
  validS_mk (validS_len hv) (.inl rfl) (wrote_ok hv hk)
theorem wrote_few (hl : fewS d = true) : fewL (wroteD d k x) := by
  simp only [fewS, decide_eq_true_eq] at hl
  refine ⟨by simp only; omega, by simp; omega, fun s hs => by have := hl.2.2.1 s hs; omega, fun w hm => ?_⟩
  rcases List.mem_append.1 hm with hm | hm
  · have := hl.2.2.2 w hm; omega
  · obtain rfl : w = ⟨k, fillS x⟩ := by simpa using hm
    simp [fillS]
theorem wroteS (hv : validS d = true) (ho : d.on = true) (hk : k < d.sectors.length) : writeS d k (fillS x) = (wroteD d k x, 0) := by
  unfold writeS
  rw [if_neg (by rw [usable_of hv ho]; simp), if_pos ⟨by omega, by omega, by simp [fillS]⟩, ho]
theorem readS_at (hv : validS d = true) (ho : d.on = true) {s : List UInt8} (hs : d.sectors[k]? = some s) : readS d k = (boundS d.pending k s d.pending.length, 0) := by
  have hk : k < d.sectors.length := (List.getElem?_eq_some_iff.1 hs).1
  unfold readS
  rw [if_neg (by rw [usable_of hv ho]; simp), if_pos ⟨by omega, by omega⟩, Int.toNat_natCast, hs]; rfl
theorem read_wrote (hv : validS d = true) (hk : k < d.sectors.length) {s : List UInt8} (hs : d.sectors[j]? = some s) :
    readS (wroteD d k x) j = (if (k : Int) = j then fillS x else boundS d.pending j s d.pending.length, 0) := by
  rw [readS_at (d := wroteD d k x) (wrote_valid hv hk) rfl hs]
  simp only [bound_last]
theorem off_empty (hv : validS d = true) (ho : d.on = false) : d.pending = [] := by
  simp only [validS, decide_eq_true_eq, ho] at hv
  rcases hv.2.2.1 with h | h
  · simp at h
  · exact List.eq_nil_of_length_eq_zero h
theorem crash_off (hv : validS d = true) (ho : d.on = false) : crashS d [] = d := by
  have hp := off_empty hv ho
  unfold crashS
  rw [if_pos hv]
  obtain ⟨s, p, on⟩ := d
  simp only at hp ho; subst hp; subst ho
  rfl
abbrev syncD (w : Disk) : Disk := ⟨settleS w (fun _ => 64), [], true⟩
theorem syncS_on (hv : validS d = true) (ho : d.on = true) : syncS d = (syncD d, 0) := by
  unfold syncS
  rw [if_neg (by rw [usable_of hv ho]; simp), ho]
theorem sync_valid (hv : validS d = true) : validS (syncD d) = true := by
  have hw := okW_of hv
  have hl : (settleS d (fun _ => 64)).length = d.sectors.length := performK_length _ _ _ _
  exact validS_mk (by rw [hl]; exact validS_len hv) (.inr rfl) ⟨performK_ok _ hw _, fun w hm => nomatch hm⟩
theorem power_off {s : List (List UInt8)} (h1 : 1 ≤ s.length ∧ s.length ≤ 4096) (h : ∀ x ∈ s, x.length = 64) : powerS ⟨s, [], false⟩ = ⟨s, [], true⟩ := by
  have hv : validS ⟨s, [], false⟩ = true := validS_mk h1 (.inr rfl) ⟨h, fun w hm => nomatch hm⟩
  unfold powerS
  rw [if_pos hv]
theorem crash_all (hv : validS d = true) : crashS d (List.replicate d.pending.length 64) = ⟨settleS d (fun _ => 64), [], false⟩ := by
  unfold crashS
  rw [if_pos hv, settle_whole]
theorem crash_none (hv : validS d = true) : crashS d [] = ⟨d.sectors, [], false⟩ := by
  unfold crashS
  rw [if_pos hv]
  unfold settleS
  rw [settle_none (fun k => by simp [keepS])]
theorem few_sync (hf : fewL d) (hv : validS d = true) (on : Bool) : fewL ⟨settleS d (fun _ => 64), [], on⟩ := by
  have hl : (settleS d (fun _ => 64)).length = d.sectors.length := performK_length _ _ _ _
  exact ⟨by simp only; rw [hl]; exact hf.1, by simp, fun s hs => by rw [performK_ok _ (okW_of hv) _ s hs]; omega, fun w hm => nomatch hm⟩
end
end Go.Fw
