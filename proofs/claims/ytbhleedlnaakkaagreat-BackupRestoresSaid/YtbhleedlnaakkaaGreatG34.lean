/- The check of a record: the program's and the reference's. -/
import Derived.KernelRfl
import Derived.Test.YtbhleedlnaakkaaGreatG25
import Derived.Test.YtbhleedlnaakkaaGreatG33
set_option maxHeartbeats 8000000
namespace Go.Fw
open Go Go.Proofs
set_option maxRecDepth 100000
set_option linter.unusedVariables false
set_option linter.unusedSimpArgs false
theorem Xcx : X2j Tryz.prog 43 = some [.i .i64, .i .i64, .s, .s, .s, .s] := by kernel_rfl
end Go.Fw
namespace Go.Fw
open Go
set_option linter.unusedVariables false
theorem Xf6 : GraHold X0k := ⟨by simp, by simp, by simp, by simp⟩
theorem XhN (b : List UInt8) (hb : b.length ≤ 1073741824) (s : Rd) (hi : RdInv b s) : (U7 b s).1.2.length ≤ 9223372036854775807 := by
 have i1 : RdInv b (X0y b s).2 := by rw [X1x]; exact (X0r X5g X9q hi).1
 have f2 := X0j (b := b) X0E X1z (X0y b s).1.2.2.1.toNat _ i1
 unfold U7
 simp only
 omega
theorem Xc2 (x : Gra × List Rul) (e : Int) : VB x e = (x.1, x.2, 0) ∨ ∃ e', VB x e = (X0k, [], e') := by
 unfold VB
 simp only
 generalize (if e ≠ 0 then e else if Yh x.1 ≠ 0 then Yh x.1 else if Uj x.2 = false then 19 else 0) = e'
 by_cases h : e' = 0
 ·exact .inl (if_neg (by simp [h]))
 ·exact .inr ⟨e', if_pos h⟩
theorem X8t (b : List UInt8) (hb : b.length ≤ 1073741824) : GraHold (YA b).1 ∧ (YA b).2.1.length ≤ 9223372036854775807 := by
 have h1 := X0m b hb
 have h2 := XhN (Vj b) (by have := X6V b; omega) (YL b) (X6D b)
 rw [X8L]
 rcases Xc2 (U7 (Vj b) (YL b)).1 (U7 (Vj b) (YL b)).2.e with q | ⟨e', q⟩
 ·rw [q]; exact ⟨h1, h2⟩
 ·rw [q]; exact ⟨Xf6, by simp⟩
end Go.Fw
namespace Go.Fw
open Go Go.Proofs
set_option maxRecDepth 100000
set_option linter.unusedVariables false
set_option linter.unusedSimpArgs false
theorem Xe6 : ∀ (k : SK) (u : Value), Uv u = some k → X0F u u = true := by
 intro k u h
 cases u <;> simp [Uv] at h <;> simp [X0F]
theorem XhA (us : List Value) (ks : List SK) (h : us.map Uv = ks.map some) : VQ us us = true := by
 induction us generalizing ks with
 | nil => rfl
 | cons u us ih =>
  cases ks with
  | nil => simp at h
  | cons k ks =>
   simp only [List.map_cons, List.cons.injEq] at h
   unfold VQ
   rw [Xe6 k u h.1, ih ks h.2]
   rfl
end Go.Fw
namespace Go.Fw
open Go Go.Proofs
set_option maxRecDepth 100000
set_option linter.unusedVariables false
set_option linter.unusedSimpArgs false
theorem X5m (l : List Rul) (hl : l.length ≤ 9223372036854775807) : Con Tryz.prog 19 [] [.d (.sl 6 (l.map Xp)), .d (.sl 6 (l.map Xp))] [] (ab true) := by
 refine X9 (xs := [ab true]) Tryz.func19 rfl Tryz.ntmps19 rfl rfl rfl (fun E => ?_)
 have hlm : (l.map Xp).length = l.length := by simp
 refine X0 ?_; refine JR ?_; refine Z0 ?_; refine JD ?_; refine X0 ?_; refine X0 ?_; refine JR ?_; refine Z1 ?_; refine Zd ?_; refine Z1 ?_; refine Zd ?_; refine Zv ?_; refine JD ?_; refine JF ?_
 refine X2 ?_; refine X0 ?_; refine X0 ?_; refine JR ?_; refine Z0 ?_; refine JD ?_; refine X4 ?_
 refine Xy (fun i : Nat => i ≤ l.length) (fun i => ⟨26, [(0, .d (.sl 6 (l.map Xp))), (1, .d (.sl 6 (l.map Xp))), (5, ai i)], []⟩) (fun i => l.length - i) 0 (Nat.zero_le _)
  (X8 rfl JM trivial) ?_
 intro i hi
 by_cases hil : i < l.length
 case neg =>
  obtain rfl : i = l.length := by omega
  have hn : ¬ ((l.length : Nat) : Int) < (l.map Xp).length := by omega
  refine X0 ?_; refine X0 ?_; refine JR ?_; refine Z1 ?_; refine Z1 ?_; refine Zd ?_; refine Z8 ?_; refine JD ?_; refine JF ?_; refine Xj ?_; refine X0 ?_; refine JR ?_; refine Z0 ?_; refine JD ?_
  exact X1 ⟨_, St.le_refl _, ⟨rfl, trivial⟩, X3 _⟩
 have hn : (i : Int) < (l.map Xp).length := by omega
 obtain ⟨x, hx⟩ := Xu (l := l) hil
 have hxc : (l.map Xp)[i]? = some (Xp x) := XS hx
 obtain ⟨rk, rn, rname, rkey, rsrc, rdst⟩ := x
 simp only [Xp] at hxc
 clear hx
 have hz := XhA [.int .i64 rk, .int .i64 rn, .string (X5 rname), .string (X5 rkey), .string (X5 rsrc), .string (X5 rdst)] [.i .i64, .i .i64, .s, .s, .s, .s] rfl
 refine X0 ?_; refine X0 ?_; refine JR ?_; refine Z1 ?_; refine Z1 ?_; refine Zd ?_; refine Z8 ?_; refine JD ?_; refine JT ?_; refine X2 ?_; refine X0 ?_; refine X4 ?_; refine X0 ?_
 refine JR ?_; refine Z1 ?_; refine Z1 ?_; refine Zj ?_; refine ZK ?_; refine Z1 ?_; refine Z1 ?_; refine Zj ?_; refine ZK ?_
 refine Z0b (us := [.int .i64 rk, .int .i64 rn, .string (X5 rname), .string (X5 rkey), .string (X5 rsrc), .string (X5 rdst)]) (vs := [.int .i64 rk, .int .i64 rn, .string (X5 rname), .string (X5 rkey), .string (X5 rsrc), .string (X5 rdst)]) (r := true) ?_ (hk := by exact Xcx) (hr := by exact hz)
 refine JD ?_; refine JF ?_; refine X2 ?_; refine JR ?_; refine Z1 ?_; refine Zb ?_; refine Z0 ?_; refine JD ?_
 exact ⟨i + 1, hil, by omega, X8 rfl JM trivial⟩
end Go.Fw
namespace Go.Fw
open Go Go.Proofs
set_option linter.unusedVariables false
theorem XeU : Tryz.prog.cellsOf 5 = 1 := by kernel_rfl
section
variable {H : Type} {enc : TypeId × Value → H} {W : World}
theorem X98 : Opens enc Tryz.prog W 29 (fun _ : List UInt8 => True) (fun l => [Xa l]) :=
 (Xef Tryz.underlying29 XeU (by decide) (XfB Tryz.underlying5)).to id fun _ _ => ⟨trivial, rfl⟩
end
end Go.Fw
