/- make with room. -/
import Derived.Test.YtpfldfkhgplcgaaGreatDoorM08
namespace Go.Fw
open Go
set_option linter.unusedVariables false
section
variable {P : Program} {ops : Array Oper} {draw : Bool} {K : St → Prop} {rest : List Oper} {l : Yb} {S : St}
variable {d : Nat} {ty : TypeId} {pos : String} {aft : Array Edge} {gd : Option (Nat × Bool)}
theorem Xd2 {T : TypeId} {sz bytes n c : Nat} {zs : List Value} (hT : Us P T sz bytes = true) (hz : V0 P T = some zs) (hroom : c * bytes ≤ 2 ^ 48) (hn : c < 2 ^ 63) (hnc : n ≤ c) (k1 k2 : IntKind) (w : World) :
  ∃ e, (Instr.makeSlice T (.int k1 n) (.int k2 c)).run P w = .ok (.slice (some ⟨w.heap.size, 0, none⟩) n c) (w.alloc (.cells (Yw zs c).toArray e)) := by
 obtain ⟨e, i, z, hu, hi, hsz, hbt, hz0, hzs, hz1⟩ := X2S hT
 obtain ⟨e', h1', hze⟩ := X7h hz
 rw [hu] at h1'; cases h1'
 have hzz : z.cells.toList = zs := by
  unfold X0o at hze
  simp [hi, hz0] at hze
  exact hze
 have hw : IntKind.i64.wrap (n : Int) = n := IntWalk.i64_in _ (by omega)
 have hwc : IntKind.i64.wrap (c : Int) = c := IntWalk.i64_in _ (by omega)
 have hnn : ¬ ((n : Int) < 0) := by omega
 have hcc : ¬ ((c : Int) < n) := by omega
 have hc0 : ¬ ((c : Int) < 0) := by omega
 have ha : ∀ k (n : Nat), (asInt (.int k (n : Int))).run P w = .ok (n : Int) w := fun k n => by simp [asInt, asIntOf]
 have hbig : ¬ (281474976710656 < (i.bytes : Int) * (c : Int)) := by
  rw [hbt]
  have : (c * bytes : Nat) ≤ 2 ^ 48 := hroom
  have h2 : ((bytes : Int) * (c : Int)) = ((c * bytes : Nat) : Int) := by rw [Nat.mul_comm]; exact (Int.natCast_mul _ _).symm
  rw [h2]; omega
 have harr : (Array.range (c * sz)).map (fun x => z.cells[x % z.cells.size]!) = (Yw zs c).toArray := by
  apply Array.ext'
  have := X6e z.cells c
  rw [hzs] at this ⊢
  rw [this, hzz]
 refine ⟨e, ?_⟩
 by_cases h0 : c * sz = 0
 ·have hem : (Yw zs c).toArray = #[] := by rw [← harr, h0]; simp [Array.range_zero']
  rw [hem]
  simp [Instr.makeSlice, run_underlying hu, ha, typeInfo, hi, hw, hwc, hcc, hc0, hnn, hbig, sizeOf, hsz, h0, newRow, Array.range_zero']
 ·simp [Instr.makeSlice, run_underlying hu, ha, typeInfo, hi, hw, hwc, hcc, hc0, hnn, hbig, sizeOf, hsz, h0, newRow, zeroValue, hz0, harr]
theorem Xgo {T : TypeId} {sz bytes c γ : Nat} {k1 k2 : IntKind} {x y : Operand} {m m' : Int} {zs : List Value} (hx : S.ev x = .d (.v (.int k1 m))) (hy : S.ev y = .d (.v (.int k2 m'))) (hm : m = (0 : Nat)) (hm' : m' = (c : Nat))
  (hz : V0 P T = some zs) (hB : elB P T = bytes) (hS : zs.length = sz) (hT : Us P T sz bytes = true) (h1 : Um zs = true) (hl : Nat.beq zs.length sz = true) (hroom : c * bytes ≤ 281474976710656) (hn : c < 9223372036854775808) (hdead : S.obj γ = .dead) (hf : S.free γ = true) (hd : Nat.blt d S.n = true) (hg : Xe ops S gd)
  (h : Walk P ops draw K rest ((l.length, ⟨some d, .makeSlice T x y, ty, pos, aft, gd⟩, ⟨Xd ops gd ++ [(x, .d (.v (.int k1 m))), (y, .d (.v (.int k2 m')))], some (d, .own γ 0), [(γ, .dead)], [(γ, .row sz [])], [γ]⟩) :: l) ((S.set d (.own γ 0)).own γ (.row sz []))) :
  Walk P ops draw K (⟨some d, .makeSlice T x y, ty, pos, aft, gd⟩ :: rest) l S := by
 refine XG ⟨[(x, .d (.v (.int k1 m))), (y, .d (.v (.int k2 m')))], some (d, .own γ 0), [(γ, .dead)], [(γ, .row sz [])], [γ]⟩ (X0z rfl fun E S g a w hs hq hl' hn' => ?_) hg ⟨⟨hx, hy, trivial⟩, ⟨hdead, trivial⟩, ⟨hf, trivial⟩, hd⟩ h
 obtain ⟨e, he⟩ := Xd2 (P := P) (n := 0) hT hz (by simpa using hroom) (by simpa using hn) (Nat.zero_le _) k1 k2 w
 have hzl : zs.length = sz := by simpa using hl
 have hs1 := X7m (g := g) h1 c
 have hlen : ∀ x ∈ List.replicate c (zD zs), x.length = sz := fun x hx => by rw [(List.mem_replicate.1 hx).2, X4n, hzl]
 have hl1 := YX hs1
 rw [List.length_map, VD _ hlen, List.length_replicate] at hl1
 have hinv := X53 hs.1 γ hn'.1 hl'.1 (sz := sz) (xs := []) (vs := (Yw zs c).toArray) (e := e) (fr := (0, 0)) (cap := c) (by simp) (by simp [Xm]) (by simp) (by unfold maxLen; omega) (by simp only [List.size_toArray]; omega) (X1w _)
 exact ⟨_, _, _, by simp only [execOp, Sem.run_bind, Yt hq.1, Yt hq.2.1, hm, hm', he]; rfl, X30 (w := w), hinv, X0u hn'.1 hs.2.2.2⟩
end
end Go.Fw
