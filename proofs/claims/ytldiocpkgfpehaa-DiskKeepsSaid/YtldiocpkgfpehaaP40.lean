/- The disk in plain Lean: what the operations compute. -/
import Derived.Test.YtldiocpkgfpehaaFwL
namespace Go.Fw
open Go
set_option linter.unusedVariables false

structure Wr where
  at_ : Int
  b : List UInt8
structure Disk where
  sectors : List (List UInt8)
  pending : List Wr
  on : Bool

abbrev cByte (b : UInt8) : List D := [.v (.int .u8 b.toNat)]
abbrev dBytes (l : List UInt8) : D := .sl 1 (l.map cByte)
abbrev cBytes (l : List UInt8) : List D := [dBytes l]
abbrev cWr (w : Wr) : List D := [.v (.int .i64 w.at_), dBytes w.b]
abbrev dSecs (l : List (List UInt8)) : D := .sl 1 (l.map cBytes)
abbrev dPend (l : List Wr) : D := .sl 2 (l.map cWr)
abbrev aDisk (d : Disk) : AVal := .agg [.d (dSecs d.sectors), .d (dPend d.pending), ab d.on]

theorem map_get {α β : Type} {l : List α} {f : α → β} {k : Nat} {x : α} (h : l[k]? = some x) : (l.map f)[k]? = some (f x) := by simp [h]
theorem get_of_lt {α : Type} {l : List α} {k : Nat} (h : k < l.length) : ∃ x, l[k]? = some x := ⟨_, List.getElem?_eq_getElem h⟩

def validS (d : Disk) : Bool :=
  decide (1 ≤ d.sectors.length ∧ d.sectors.length ≤ 4096 ∧ (d.on = true ∨ d.pending.length = 0) ∧ (∀ s ∈ d.sectors, s.length = 64) ∧
    ∀ w ∈ d.pending, 0 ≤ w.at_ ∧ w.at_ < d.sectors.length ∧ w.b.length = 64)
def fewS (d : Disk) : Bool :=
  decide (d.sectors.length ≤ 20 ∧ d.pending.length ≤ 30 ∧ (∀ s ∈ d.sectors, s.length ≤ 200) ∧ ∀ w ∈ d.pending, w.b.length ≤ 200)

theorem all_of_get {α : Type} {l : List α} {p : α → Prop} (h : ∀ (i : Nat) (x : α), l[i]? = some x → p x) : ∀ x ∈ l, p x := by
  intro x hx
  obtain ⟨i, hi⟩ := List.getElem?_of_mem hx
  exact h i x hi
end Go.Fw
