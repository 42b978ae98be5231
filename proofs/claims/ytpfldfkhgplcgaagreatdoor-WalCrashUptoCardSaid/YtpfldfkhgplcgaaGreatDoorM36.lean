/- What the laws about a ready log say of it; plain Lean. -/
import Derived.Test.YtpfldfkhgplcgaaGreatDoorM31
import Derived.Test.YtpfldfkhgplcgaaGreatDoorM35
set_option maxHeartbeats 16000000
namespace Go.Fw
open Go
set_option linter.unusedVariables false
set_option linter.unusedSimpArgs false
theorem Log.scan {d : Disk} {f t ep tail : Int} {l : List Rcd} (h : Log d f t ep l tail) (hv : ∀ r ∈ l, (U7 r).length ≤ 60000) : Uk d f t ep = (l, tail, 0) := by
 have hsp : XI d f t ep 0 = 0 := by
  have h1 := h.f0; have h2 := h.ft; have h3 := h.t24; have h4 := h.len; have h5 := h.ep0; have h6 := h.ep1; have h7 := h.tl; have h8 := h.room
  unfold XI
  rw [if_neg (by rw [h.ok.v]; simp), if_neg (by rw [h.ok.on]; simp), if_neg (by omega), if_neg (by omega)]
 have hb := X61 h.ep0 h.ep1 l ((t - f).toNat * 64 - (Xg ep l).length) (fun r hr => ⟨X3i h.ents r hr, hv r hr⟩)
 unfold Uk
 rw [if_neg (by rw [hsp]; simp), h.str, hb, h.tl]
theorem Xbo {l : List Rcd} (h : ∀ r ∈ l, Ux r) : ∀ r ∈ l, (U7 r).length ≤ 60000 := fun r hr => (h r hr).2
open Go Go.Proofs
set_option maxRecDepth 100000
theorem X9E (l m : List Rcd) (hl : l.length ≤ 1000) (hm : m.length ≤ 1000) : Con Tryz.prog 27 [] [.d (.sl 10 (l.map Xq)), .d (.sl 10 (m.map Xq))] [] (.d (.sl 10 ((l ++ m).map Xq))) := by
 refine Xa (xs := [.d (.sl 10 ((l ++ m).map Xq))]) Tryz.func27 rfl Tryz.ntmps27 rfl rfl rfl (fun E => ?_)
 rw [List.map_append]
 have h1 : (l.map Xq).length ≤ 1000 := by simpa using hl
 have h2 : (m.map Xq).length ≤ 1000 := by simpa using hm
 generalize l.map Xq = L at *
 generalize m.map Xq = M at *
 clear hl hm
 refine Qv ?_; refine Zd ?_; refine Z1 ?_; refine Zd ?_; refine Zb ?_; refine Z0r (γ := 130) (c := L.length + M.length) ?_; refine Qc ?_; refine Qi ?_; refine Qj ?_; refine Qi ?_; refine Qj ?_; refine QQd ?_; refine Xi (Yc 4 130 rfl rfl (by simp)) ?_
 (show AWP Tryz.prog E _ _ _; refine X1 ?_; exact (show Xn _ _ _ _ _ from ⟨_, St.le_refl _, ⟨rfl, trivial⟩, X3 _⟩))
end Go.Fw
