/- Histories, in plain Lean. -/
import Derived.Test.YtonekjkmnhfjmaaGreatDoorM42
import Derived.Test.YtonekjkmnhfjmaaGreatDoorM47
set_option maxHeartbeats 16000000
namespace Go.Fw
open Go
set_option linter.unusedVariables false
set_option linter.unusedSimpArgs false
def YD (h : Hist) (ts : Int) : Hist := if XI h ts ≠ 0 then X1Z else ⟨ts, atG h ts, h.cs.drop (ts - h.base).toNat⟩
open Go Go.Proofs
set_option maxRecDepth 100000
theorem XbS (xs : List (List D)) (hl : xs.length ≤ 2000000) : Con Tryz.prog 63 [] [.d (.sl 2 xs)] [] (.d (.sl 2 xs)) := by
 refine Xc (xs := [.d (.sl 2 xs)]) Tryz.func63 rfl Tryz.ntmps63 rfl rfl rfl (fun E => ?_)
 refine QTf ?_
 refine X0I rfl (fun h => ?_) (fun _ => ?_)
 ·subst h
  refine QUf ?_; exact ⟨_, XF 2 (AVal.le_nil 2), ⟨rfl, trivial⟩, X3 _⟩
 ·exact QOg
theorem Xbx (h : Hist) (ts : Int) (hf : HistFit h) : Con Tryz.prog 24 [] [Xq h, ai ts] [] (.tup [Xq (YD h ts), ai (XI h ts)]) := by
 refine Xc (xs := [Xq (YD h ts), ai (XI h ts)]) Tryz.func24 rfl Tryz.ntmps24 rfl rfl rfl (fun E => ?_)
 have hk := X02 h ts hf
 unfold YD
 unfold atS at hk
 by_cases c : XI h ts ≠ 0
 ·rw [if_pos c]
  rw [if_pos c] at hk
  clear hf
  generalize XI h ts = e at *
  obtain ⟨base, ⟨ns, es, nn, ne⟩, cs⟩ := h
  simp only [Xq, Xl, List.map_nil] at *
  refine Qpd ?_; refine QXb ?_; refine Z9 (hcon := hk) ?_; refine Qxd ?_; refine QLa ?_; refine Qqd ?_; refine Z1 ?_; refine Qfa ?_
  (show AWP Tryz.prog E _ _ _; refine X1 ?_; exact (show Xd _ _ _ _ _ from ⟨_, Y5 101 (cs' := [ai 0, .d (.sl 3 []), .d (.sl 5 []), ai 0, ai 0, .d (.sl 2 [])]) rfl JM rfl, ⟨⟨101, 0, _, rfl, rfl, .inr ⟨6, _, rfl, rfl, rfl, rfl⟩⟩, rfl, trivial⟩, X3 _⟩))
 rw [if_neg c]
 rw [if_neg c] at hk
 have c : XI h ts = 0 := by simpa using c
 rw [c] at hk ⊢
 obtain ⟨k, k1, k2, k3⟩ := X2g c
 have hb := X2q c
 rw [k2]
 have hcl := (Ux c).1.cl
 have hc := X5H h (Ux c).1 hf
 have hlm := Ue h.cs
 have hsl : (((h.cs.map Xh).take (h.cs.map Xh).length).drop k) = (h.cs.drop k).map Xh := by rw [List.take_length]; simp
 have hcc := XbS ((h.cs.drop k).map Xh) (by rw [List.length_map, List.length_drop]; omega)
 generalize atG h ts = g' at *
 clear hf c k2
 generalize h.cs.drop k = D at *
 obtain ⟨base, ⟨ns, es, nn, ne⟩, cs⟩ := h
 obtain ⟨ns', es', nn', ne'⟩ := g'
 simp only [Xq, Xl] at *
 have hkl : k ≤ (cs.map Xh).length := by omega
 refine Qpd ?_; refine QXb ?_; refine Z9 (hcon := hk) ?_; refine Qxd ?_; refine QKg ?_; refine QWb ?_; refine Z9 (hcon := hc) ?_; refine Qyd ?_; refine Qlb ?_; refine Qd ?_; refine ZL ?_; refine QTa ?_; refine QZa ?_
 (refine Z4 (op := .sub) (r' := .int .i64 (k : Nat)) (u := .int .i64 ts) (v := .int .i64 base) ?_ (hr' := by exact congrArg (Value.int .i64) k1) (hr := by exact XU (by unfold Xw; omega)))
 refine Qfh ?_; refine Z9 (hcon := hcc) ?_; refine Zx ?_; refine Qfa ?_
 (show AWP Tryz.prog E _ _ _; refine X1 ?_; exact (show Xd _ _ _ _ _ from ⟨_, St.le_refl _, ⟨⟨101, 0, _, rfl, rfl, .inr ⟨6, _, rfl, rfl, rfl, rfl⟩⟩, rfl, trivial⟩, X3 _⟩))
end Go.Fw
