/- The violations of a rule. -/
import Derived.Test.YtbhleedlnaakkaaGreatK21
set_option maxHeartbeats 32000000
namespace Go.Fw
open Go Go.Proofs
set_option maxRecDepth 100000
set_option linter.unusedVariables false
set_option linter.unusedSimpArgs false
theorem X7A (k : Int) : Con Tryz.prog 79 [] [ai k] [] (ai (UN k)) := by
 refine Xa (xs := [ai (UN k)]) Tryz.func79 rfl Tryz.ntmps79 rfl rfl rfl (fun E => ?_)
 unfold UN
 by_cases c1 : k = 1
 ·rw [if_pos c1]
  refine X0 ?_; refine JR ?_; refine Z0 ?_; refine JD ?_; refine X0 ?_; refine X0 ?_; refine JR ?_; refine Z1 ?_; refine JD ?_; refine X4 ?_; refine X0 ?_; refine JR ?_; refine Zl ?_
  refine Z0 ?_; refine JD ?_; refine JT ?_; refine X0 ?_; refine JR ?_; refine Z0 ?_; refine JD ?_
  (show AWP Tryz.prog E _ _ _; refine X1 ?_; exact (show Xd _ _ _ _ _ from ⟨_, St.le_refl _, ⟨rfl, trivial⟩, X2 _⟩))
 rw [if_neg c1]
 by_cases c2 : k = 2
 ·rw [if_pos (.inl c2)]
  refine X0 ?_; refine JR ?_; refine Z0 ?_; refine JD ?_; refine X0 ?_; refine X0 ?_; refine JR ?_; refine Z1 ?_; refine JD ?_; refine X4 ?_; refine X0 ?_; refine JR ?_; refine Zl ?_
  refine Z0 ?_; refine JD ?_; refine JF ?_; refine X0 ?_; refine X0 ?_; refine JR ?_; refine Zl ?_; refine Z0 ?_; refine JD ?_; refine JT ?_; refine X3 ?_; refine JT ?_; refine X0 ?_; refine JR ?_
  refine Z0 ?_; refine JD ?_
  (show AWP Tryz.prog E _ _ _; refine X1 ?_; exact (show Xd _ _ _ _ _ from ⟨_, St.le_refl _, ⟨rfl, trivial⟩, X2 _⟩))
 by_cases c4 : k = 4
 ·rw [if_pos (.inr c4)]
  refine X0 ?_; refine JR ?_; refine Z0 ?_; refine JD ?_; refine X0 ?_; refine X0 ?_; refine JR ?_; refine Z1 ?_; refine JD ?_; refine X4 ?_; refine X0 ?_; refine JR ?_; refine Zl ?_
  refine Z0 ?_; refine JD ?_; refine JF ?_; refine X0 ?_; refine X0 ?_; refine JR ?_; refine Zl ?_; refine Z0 ?_; refine JD ?_; refine JF ?_; refine JR ?_; refine Zl ?_; refine Z0 ?_; refine JD ?_; refine JT ?_
  refine X0 ?_; refine JR ?_; refine Z0 ?_; refine JD ?_
  (show AWP Tryz.prog E _ _ _; refine X1 ?_; exact (show Xd _ _ _ _ _ from ⟨_, St.le_refl _, ⟨rfl, trivial⟩, X2 _⟩))
 rw [if_neg (fun h => h.elim c2 c4)]
 by_cases c3 : k = 3
 ·rw [if_pos (.inl c3)]
  refine X0 ?_; refine JR ?_; refine Z0 ?_; refine JD ?_; refine X0 ?_; refine X0 ?_; refine JR ?_; refine Z1 ?_; refine JD ?_; refine X4 ?_; refine X0 ?_; refine JR ?_; refine Zl ?_
  refine Z0 ?_; refine JD ?_; refine JF ?_; refine X0 ?_; refine X0 ?_; refine JR ?_; refine Zl ?_; refine Z0 ?_; refine JD ?_; refine JF ?_; refine JR ?_; refine Zl ?_; refine Z0 ?_; refine JD ?_; refine JF ?_
  refine X0 ?_; refine X0 ?_; refine JR ?_; refine Zl ?_; refine Z0 ?_; refine JD ?_; refine JT ?_; refine X3 ?_; refine JT ?_; refine X0 ?_; refine JR ?_; refine Z0 ?_; refine JD ?_
  (show AWP Tryz.prog E _ _ _; refine X1 ?_; exact (show Xd _ _ _ _ _ from ⟨_, St.le_refl _, ⟨rfl, trivial⟩, X2 _⟩))
 by_cases c5 : k = 5
 ·rw [if_pos (.inr c5)]
  refine X0 ?_; refine JR ?_; refine Z0 ?_; refine JD ?_; refine X0 ?_; refine X0 ?_; refine JR ?_; refine Z1 ?_; refine JD ?_; refine X4 ?_; refine X0 ?_; refine JR ?_; refine Zl ?_
  refine Z0 ?_; refine JD ?_; refine JF ?_; refine X0 ?_; refine X0 ?_; refine JR ?_; refine Zl ?_; refine Z0 ?_; refine JD ?_; refine JF ?_; refine JR ?_; refine Zl ?_; refine Z0 ?_; refine JD ?_; refine JF ?_
  refine X0 ?_; refine X0 ?_; refine JR ?_; refine Zl ?_; refine Z0 ?_; refine JD ?_; refine JF ?_; refine JR ?_; refine Zl ?_; refine Z0 ?_; refine JD ?_; refine JT ?_; refine X0 ?_; refine JR ?_
  refine Z0 ?_; refine JD ?_
  (show AWP Tryz.prog E _ _ _; refine X1 ?_; exact (show Xd _ _ _ _ _ from ⟨_, St.le_refl _, ⟨rfl, trivial⟩, X2 _⟩))
 rw [if_neg (fun h => h.elim c3 c5)]
 by_cases c6 : k = 6
 ·rw [if_pos c6]
  refine X0 ?_; refine JR ?_; refine Z0 ?_; refine JD ?_; refine X0 ?_; refine X0 ?_; refine JR ?_; refine Z1 ?_; refine JD ?_; refine X4 ?_; refine X0 ?_; refine JR ?_; refine Zl ?_
  refine Z0 ?_; refine JD ?_; refine JF ?_; refine X0 ?_; refine X0 ?_; refine JR ?_; refine Zl ?_; refine Z0 ?_; refine JD ?_; refine JF ?_; refine JR ?_; refine Zl ?_; refine Z0 ?_; refine JD ?_; refine JF ?_
  refine X0 ?_; refine X0 ?_; refine JR ?_; refine Zl ?_; refine Z0 ?_; refine JD ?_; refine JF ?_; refine JR ?_; refine Zl ?_; refine Z0 ?_; refine JD ?_; refine JF ?_; refine X0 ?_; refine JR ?_
  refine Zl ?_; refine Z0 ?_; refine JD ?_; refine JT ?_; refine X0 ?_; refine JR ?_; refine Z0 ?_; refine JD ?_
  (show AWP Tryz.prog E _ _ _; refine X1 ?_; exact (show Xd _ _ _ _ _ from ⟨_, St.le_refl _, ⟨rfl, trivial⟩, X2 _⟩))
 rw [if_neg c6]
 by_cases c7 : k = 7
 ·rw [if_pos c7]
  refine X0 ?_; refine JR ?_; refine Z0 ?_; refine JD ?_; refine X0 ?_; refine X0 ?_; refine JR ?_; refine Z1 ?_; refine JD ?_; refine X4 ?_; refine X0 ?_; refine JR ?_; refine Zl ?_
  refine Z0 ?_; refine JD ?_; refine JF ?_; refine X0 ?_; refine X0 ?_; refine JR ?_; refine Zl ?_; refine Z0 ?_; refine JD ?_; refine JF ?_; refine JR ?_; refine Zl ?_; refine Z0 ?_; refine JD ?_; refine JF ?_
  refine X0 ?_; refine X0 ?_; refine JR ?_; refine Zl ?_; refine Z0 ?_; refine JD ?_; refine JF ?_; refine JR ?_; refine Zl ?_; refine Z0 ?_; refine JD ?_; refine JF ?_; refine X0 ?_; refine JR ?_
  refine Zl ?_; refine Z0 ?_; refine JD ?_; refine JF ?_; refine X0 ?_; refine JR ?_; refine Zl ?_; refine Z0 ?_; refine JD ?_; refine JT ?_; refine X0 ?_; refine JR ?_; refine Z0 ?_; refine JD ?_
  (show AWP Tryz.prog E _ _ _; refine X1 ?_; exact (show Xd _ _ _ _ _ from ⟨_, St.le_refl _, ⟨rfl, trivial⟩, X2 _⟩))
 rw [if_neg c7]
 refine X0 ?_; refine JR ?_; refine Z0 ?_; refine JD ?_; refine X0 ?_; refine X0 ?_; refine JR ?_; refine Z1 ?_; refine JD ?_; refine X4 ?_; refine X0 ?_; refine JR ?_; refine Zl ?_
 refine Z0 ?_; refine JD ?_; refine JF ?_; refine X0 ?_; refine X0 ?_; refine JR ?_; refine Zl ?_; refine Z0 ?_; refine JD ?_; refine JF ?_; refine JR ?_; refine Zl ?_; refine Z0 ?_; refine JD ?_; refine JF ?_
 refine X0 ?_; refine X0 ?_; refine JR ?_; refine Zl ?_; refine Z0 ?_; refine JD ?_; refine JF ?_; refine JR ?_; refine Zl ?_; refine Z0 ?_; refine JD ?_; refine JF ?_; refine X0 ?_; refine JR ?_
 refine Zl ?_; refine Z0 ?_; refine JD ?_; refine JF ?_; refine X0 ?_; refine JR ?_; refine Zl ?_; refine Z0 ?_; refine JD ?_; refine JF ?_; refine X3 ?_; refine X0 ?_; refine JR ?_; refine Z0 ?_
 refine JD ?_
 (show AWP Tryz.prog E _ _ _; refine X1 ?_; exact (show Xd _ _ _ _ _ from ⟨_, St.le_refl _, ⟨rfl, trivial⟩, X2 _⟩))
theorem X5g (r : Rul) (g : Gra) (hf : GFit g) : Con Tryz.prog 75 [] [Xv r, Xr g] [] (.d (.sl 2 ((ofV r g).map Xc))) := by
 refine Xa (xs := [.d (.sl 2 ((ofV r g).map Xc))]) Tryz.func75 rfl Tryz.ntmps75 rfl rfl rfl (fun E => ?_)
 have h1 := Xaq r g hf
 have h2 := X7T r g hf
 have h3 := X7z r g hf
 have h4 := X9F r g hf
 unfold ofV X1d
 generalize YN (XU r g.nodes) = l1 at *
 generalize Yy r g.nodes = l2 at *
 generalize YD r g.edges g.nodes = l3 at *
 generalize Xw r g.nodes g.edges = l4 at *
 clear hf
 obtain ⟨ns, es, nn, ne⟩ := g
 obtain ⟨rk, rn, rname, rkey, rsrc, rdst⟩ := r
 simp only [Xv, Xr] at *
 by_cases c1 : rk = 1
 ·rw [if_pos c1]
  refine X0 ?_; refine JR ?_; refine ZA (γ := 100) ?_; refine ZA (γ := 101) ?_; refine Z0 ?_; refine JD ?_; refine X0 ?_; refine X0 ?_; refine JR ?_; refine ZB ?_; refine ZC ?_; refine JD ?_
  refine X4 ?_; refine X0 ?_; refine JR ?_; refine Zl ?_; refine Z0 ?_; refine JD ?_; refine JT ?_; refine X0 ?_; refine JR ?_; refine ZL ?_; refine ZL ?_; refine Z9 (hcon := h1) ?_; refine Z0 ?_
  refine JD ?_
  (show AWP Tryz.prog E _ _ _; refine X1 ?_; exact (show Xd _ _ _ _ _ from ⟨_, St.le_refl _, ⟨rfl, trivial⟩, X2 _⟩))
 rw [if_neg c1]
 by_cases c2 : rk = 2
 ·rw [if_pos (.inl c2)]
  refine X0 ?_; refine JR ?_; refine ZA (γ := 100) ?_; refine ZA (γ := 101) ?_; refine Z0 ?_; refine JD ?_; refine X0 ?_; refine X0 ?_; refine JR ?_; refine ZB ?_; refine ZC ?_; refine JD ?_
  refine X4 ?_; refine X0 ?_; refine JR ?_; refine Zl ?_; refine Z0 ?_; refine JD ?_; refine JF ?_; refine X0 ?_; refine X0 ?_; refine JR ?_; refine Zl ?_; refine Z0 ?_; refine JD ?_; refine JT ?_
  refine X3 ?_; refine JT ?_; refine X0 ?_; refine JR ?_; refine ZL ?_; refine ZL ?_; refine Z9 (hcon := h2) ?_; refine Z0 ?_; refine JD ?_
  (show AWP Tryz.prog E _ _ _; refine X1 ?_; exact (show Xd _ _ _ _ _ from ⟨_, St.le_refl _, ⟨rfl, trivial⟩, X2 _⟩))
 by_cases c3 : rk = 3
 ·rw [if_pos (.inr c3)]
  refine X0 ?_; refine JR ?_; refine ZA (γ := 100) ?_; refine ZA (γ := 101) ?_; refine Z0 ?_; refine JD ?_; refine X0 ?_; refine X0 ?_; refine JR ?_; refine ZB ?_; refine ZC ?_; refine JD ?_
  refine X4 ?_; refine X0 ?_; refine JR ?_; refine Zl ?_; refine Z0 ?_; refine JD ?_; refine JF ?_; refine X0 ?_; refine X0 ?_; refine JR ?_; refine Zl ?_; refine Z0 ?_; refine JD ?_; refine JF ?_
  refine JR ?_; refine Zl ?_; refine Z0 ?_; refine JD ?_; refine JT ?_; refine X0 ?_; refine JR ?_; refine ZL ?_; refine ZL ?_; refine Z9 (hcon := h2) ?_; refine Z0 ?_; refine JD ?_
  (show AWP Tryz.prog E _ _ _; refine X1 ?_; exact (show Xd _ _ _ _ _ from ⟨_, St.le_refl _, ⟨rfl, trivial⟩, X2 _⟩))
 rw [if_neg (fun h => h.elim c2 c3)]
 by_cases c7 : rk = 7
 ·rw [if_pos c7]
  refine X0 ?_; refine JR ?_; refine ZA (γ := 100) ?_; refine ZA (γ := 101) ?_; refine Z0 ?_; refine JD ?_; refine X0 ?_; refine X0 ?_; refine JR ?_; refine ZB ?_; refine ZC ?_; refine JD ?_
  refine X4 ?_; refine X0 ?_; refine JR ?_; refine Zl ?_; refine Z0 ?_; refine JD ?_; refine JF ?_; refine X0 ?_; refine X0 ?_; refine JR ?_; refine Zl ?_; refine Z0 ?_; refine JD ?_; refine JF ?_
  refine JR ?_; refine Zl ?_; refine Z0 ?_; refine JD ?_; refine JF ?_; refine X0 ?_; refine JR ?_; refine Zl ?_; refine Z0 ?_; refine JD ?_; refine JT ?_; refine X0 ?_; refine JR ?_; refine ZL ?_; refine ZL ?_
  refine Z9 (hcon := h3) ?_; refine Z0 ?_; refine JD ?_
  (show AWP Tryz.prog E _ _ _; refine X1 ?_; exact (show Xd _ _ _ _ _ from ⟨_, St.le_refl _, ⟨rfl, trivial⟩, X2 _⟩))
 rw [if_neg c7]
 refine X0 ?_; refine JR ?_; refine ZA (γ := 100) ?_; refine ZA (γ := 101) ?_; refine Z0 ?_; refine JD ?_; refine X0 ?_; refine X0 ?_; refine JR ?_; refine ZB ?_; refine ZC ?_; refine JD ?_
 refine X4 ?_; refine X0 ?_; refine JR ?_; refine Zl ?_; refine Z0 ?_; refine JD ?_; refine JF ?_; refine X0 ?_; refine X0 ?_; refine JR ?_; refine Zl ?_; refine Z0 ?_; refine JD ?_; refine JF ?_
 refine JR ?_; refine Zl ?_; refine Z0 ?_; refine JD ?_; refine JF ?_; refine X0 ?_; refine JR ?_; refine Zl ?_; refine Z0 ?_; refine JD ?_; refine JF ?_; refine X3 ?_; refine X0 ?_; refine JR ?_
 refine ZL ?_; refine ZL ?_; refine Z9 (hcon := h4) ?_; refine Z0 ?_; refine JD ?_
 (show AWP Tryz.prog E _ _ _; refine X1 ?_; exact (show Xd _ _ _ _ _ from ⟨_, St.le_refl _, ⟨rfl, trivial⟩, X2 _⟩))
theorem X0p (r : Rul) (g : Gra) (hg : GraHold g) : Con Tryz.prog 23 [] [Xv r, Xr g] [] (.d (.sl 2 ((ofS r g).map Xc))) := by
 refine Xa (xs := [.d (.sl 2 ((ofS r g).map Xc))]) Tryz.func23 rfl Tryz.ntmps23 rfl rfl rfl (fun E => ?_)
 have h1 := X3T r
 have h2 := X24 g hg
 unfold ofS
 by_cases c1 : Yr r = 0
 case neg =>
  rw [if_pos (.inl c1)]
  generalize Yr r = e1 at *
  clear h2 hg
  obtain ⟨ns, es, nn, ne⟩ := g
  obtain ⟨rk, rn, rname, rkey, rsrc, rdst⟩ := r
  simp only [Xv, Xr, List.map_nil] at *
  refine X0 ?_; refine JR ?_; refine ZA (γ := 100) ?_; refine ZA (γ := 101) ?_; refine Z0 ?_; refine JD ?_; refine X0 ?_; refine X0 ?_; refine JR ?_; refine ZL ?_; refine Z9 (hcon := h1) ?_; refine Zv ?_
  refine Z1 ?_; refine Zo ?_; refine Zo ?_; refine Zo ?_; refine Zn ?_; refine JD ?_; refine JT ?_; refine X0 ?_; refine JR ?_; refine Z0 ?_; refine JD ?_
  (show AWP Tryz.prog E _ _ _; refine X1 ?_; exact (show Xd _ _ _ _ _ from ⟨_, Xi 4 (y := .d (.sl 2 [])) (AVal.le_nil 2), ⟨rfl, trivial⟩, X2 _⟩))
 by_cases c2 : Yc g = 0
 case neg =>
  rw [if_pos (.inr c2)]
  rw [c1] at h1
  generalize Yc g = e2 at *
  clear hg c1
  obtain ⟨ns, es, nn, ne⟩ := g
  obtain ⟨rk, rn, rname, rkey, rsrc, rdst⟩ := r
  simp only [Xv, Xr, List.map_nil] at *
  refine X0 ?_; refine JR ?_; refine ZA (γ := 100) ?_; refine ZA (γ := 101) ?_; refine Z0 ?_; refine JD ?_; refine X0 ?_; refine X0 ?_; refine JR ?_; refine ZL ?_; refine Z9 (hcon := h1) ?_; refine Zv ?_
  refine Z1 ?_; refine ZL ?_; refine Z9 (hcon := h2) ?_; refine Zv ?_; refine Zq ?_; refine JD ?_; refine JT ?_; refine X0 ?_; refine JR ?_; refine Z0 ?_; refine JD ?_
  (show AWP Tryz.prog E _ _ _; refine X1 ?_; exact (show Xd _ _ _ _ _ from ⟨_, Xi 4 (y := .d (.sl 2 [])) (AVal.le_nil 2), ⟨rfl, trivial⟩, X2 _⟩))
 rw [if_neg (fun h => h.elim (fun q => q c1) (fun q => q c2))]
 have hf := X1l c2
 have h3 := X5g r g hf
 generalize ofV r g = l at *
 rw [c1] at h1
 rw [c2] at h2
 clear hg c2 hf
 obtain ⟨ns, es, nn, ne⟩ := g
 obtain ⟨rk, rn, rname, rkey, rsrc, rdst⟩ := r
 clear c1
 simp only [Xv, Xr] at *
 refine X0 ?_; refine JR ?_; refine ZA (γ := 100) ?_; refine ZA (γ := 101) ?_; refine Z0 ?_; refine JD ?_; refine X0 ?_; refine X0 ?_; refine JR ?_; refine ZL ?_; refine Z9 (hcon := h1) ?_; refine Zv ?_
 refine Z1 ?_; refine ZL ?_; refine Z9 (hcon := h2) ?_; refine Zv ?_; refine Zq ?_; refine JD ?_; refine JF ?_; refine X3 ?_; refine X0 ?_; refine JR ?_; refine ZL ?_; refine ZL ?_; refine Z9 (hcon := h3) ?_
 refine Z0 ?_; refine JD ?_
 (show AWP Tryz.prog E _ _ _; refine X1 ?_; exact (show Xd _ _ _ _ _ from ⟨_, St.le_refl _, ⟨rfl, trivial⟩, X2 _⟩))
end Go.Fw
namespace Go.Fw
open Go Go.Proofs
set_option maxRecDepth 100000
set_option linter.unusedVariables false
set_option linter.unusedSimpArgs false
theorem X3m {l : List Nod} {id : Int} {label : List UInt8} (h : (XK l id).isSome = true) : ((XK l id).isSome && (decide (label = []) || XE ((XK l id).getD U0).labels label)) = !UG l id label := by
 unfold UG
 rw [h]
 by_cases q : label = [] <;> simp [q]
theorem X9o (r : Rul) (g : Gra) (hf : GFit g) : Con Tryz.prog 77 [] [Xv r, Xr g] [] (.d (.sl 2 ((Xw r g.nodes g.edges).map Xc))) := by
 refine Xa (xs := [.d (.sl 2 ((Xw r g.nodes g.edges).map Xc))]) Tryz.func77 rfl Tryz.ntmps77 rfl rfl rfl (fun E => ?_)
 obtain ⟨ns, es, nn, ne⟩ := g
 have hbr := fun l hl => X2n r l hl
 have hlk := fun id label => X7D ⟨ns, es, nn, ne⟩ id label (by have := hf.nl; omega) hf.nodes
 obtain ⟨rk, rn, rname, rkey, rsrc, rdst⟩ := r
 have hnl := hf.nl
 have hel := hf.el
 have hfn := hf.nodes
 have hfe := hf.edges
 clear hf
 unfold Xr
 unfold Xr at hlk
 simp only [Xv] at hnl hel hfn hfe hbr hlk ⊢
 generalize hR : (Rul.mk rk rn rname rkey rsrc rdst) = R at *
 have hRn : R.name = rname := by rw [← hR]
 have hRk : R.kind = rk := by rw [← hR]
 have hRm : R.n = rn := by rw [← hR]
 have hRs : R.src = rsrc := by rw [← hR]
 have hRd : R.dst = rdst := by rw [← hR]
 refine X0 ?_; refine JR ?_; refine ZA (γ := 100) ?_; refine ZA (γ := 101) ?_; refine Z0 ?_; refine JD ?_; refine X0 ?_; refine JR ?_; refine Z0 ?_; refine JD ?_; refine X0 ?_; refine X0 ?_
 refine JR ?_; refine Z0 ?_; refine JD ?_; refine X4 ?_
 refine XD (Un 5 130 2 rfl rfl rfl) ?_
 refine Xt (fun i : Nat => i ≤ es.length) (fun i => ⟨59, [(2, .ptr 100 0), (3, .ptr 101 0), (5, .own 130 ((Xw R ns (es.take i)).map Xc).length), (6, ai i)], [(100, .box [ai rk, ai rn, Xn rname, Xn rkey, Xn rsrc, Xn rdst]), (101, .box [.d (.sl 3 (ns.map X8)), .d (.sl 5 (es.map Xg)), ai nn, ai ne]), (130, .row 2 ((Xw R ns (es.take i)).map Xc))]⟩) (fun i => es.length - i) 0 (Nat.zero_le _)
  (X6 rfl JM ⟨rfl, rfl, rfl, trivial⟩) ?_
 intro i hi
 by_cases hil : i < es.length
 case neg =>
  obtain rfl : i = es.length := by omega
  have hn : ¬ ((es.length : Nat) : Int) < (es.map Xg).length := by rw [List.length_map]; omega
  rw [List.take_length]
  refine X0 ?_; refine X0 ?_; refine JR ?_; refine Z1 ?_; refine ZB ?_; refine ZC ?_; refine Zd ?_; refine Z8 ?_; refine JD ?_; refine JF ?_; refine Xp ?_; refine X0 ?_; refine JR ?_; refine Z1 ?_
  refine Z0 ?_; refine JD ?_
  refine XD (U5 130 rfl) ?_
  refine XD (U7 4 130 rfl rfl rfl) ?_
  (show AWP Tryz.prog E _ _ _; refine X1 ?_; exact (show Xd _ _ _ _ _ from ⟨_, St.le_refl _, ⟨rfl, trivial⟩, X2 _⟩))
 have hn : (i : Int) < (es.map Xg).length := by rw [List.length_map]; omega
 obtain ⟨x, hx⟩ := Xm (l := es) hil
 have hxc : (es.map Xg)[i]? = some (Xg x) := Xq hx
 obtain ⟨f1, f2, f3⟩ := hfe x (List.mem_of_getElem? hx)
 have hroom : ((Xw R ns (es.take i)).map Xc).length ≤ 4000 := by
  have := List.length_filter_le (fun e => decide (e.typ = R.name) && Vb R ns e) (es.take i)
  simp only [Xw, List.length_map, List.length_take] at this ⊢
  omega
 have hst : Xw R ns (es.take (i + 1)) = Xw R ns (es.take i) ++ if decide (x.typ = R.name) && Vb R ns x then [(x.id, 0)] else [] := X0G hx
 have h1 := hbr x.props (by omega)
 have h2 := hlk x.src rsrc
 have h3 := hlk x.dst rdst
 unfold Vb at hst
 rw [hRn, hRk, hRs, hRd] at hst
 rw [X3m f2] at h2
 rw [X3m f3] at h3
 generalize UG ns x.src rsrc = b2 at *
 generalize UG ns x.dst rdst = b3 at *
 generalize YK R x.props = b1 at *
 obtain ⟨xid, src, dst, typ, props⟩ := x
 simp only [Xg] at hxc h1 h2 h3 hst
 clear hx hbr hlk hR hRn hRk hRm hRs hRd hfn hfe f1 f2 f3
 by_cases ht : typ = rname
 case neg =>
  have ht' : ¬ typ = rname := ht
  rw [decide_eq_false ht] at hst
  by_cases h6 : rk = 6
  ·cases b2 with
   | true =>
    have hst := hst.trans (show _ = Xw R ns (es.take i) by simp)
    refine X0 ?_; refine X0 ?_; refine JR ?_; refine Z1 ?_; refine ZB ?_; refine ZC ?_; refine Zd ?_; refine Z8 ?_; refine JD ?_; refine JT ?_; refine X3 ?_; refine X0 ?_; refine X4 ?_
    refine X0 ?_; refine JR ?_; refine ZB ?_; refine ZC ?_; refine Z1 ?_; refine Zj ?_; refine ZK ?_; refine Zw (γ := 102) ?_; refine Zy ?_; refine JD ?_; refine X0 ?_; refine JR ?_; refine ZL ?_; refine ZB ?_
    refine ZC ?_; refine Z9 (hcon := h1) ?_; refine Z0 ?_; refine JD ?_; refine X0 ?_; refine X0 ?_; refine JR ?_; refine ZB ?_; refine ZC ?_; refine Zl ?_; refine JD ?_; refine JT ?_; refine JR ?_; refine ZL ?_
    refine ZB ?_; refine ZC ?_; refine ZB ?_; refine ZC ?_; refine Z9 (hcon := h2) ?_; refine Zu ?_; refine Z1 ?_; refine Zo ?_; refine Zo ?_; refine Zo ?_; refine Zo ?_; refine Zo ?_; refine Zo ?_; refine Zo ?_
    refine Zn ?_; refine Z0 ?_; refine JD ?_; refine X0 ?_; refine JR ?_; refine ZB ?_; refine ZC ?_; refine ZB ?_; refine ZC ?_; refine Zr ?_; refine Z1 ?_; refine Zo ?_; refine Zq ?_; refine JD ?_; refine JF ?_
    refine X3 ?_; refine JR ?_; refine Z1 ?_; refine Zb ?_; refine Z0 ?_; refine JD ?_
    refine ⟨i + 1, hil, by omega, ?_⟩
    dsimp only
    rw [hst]
    exact X6 rfl JM ⟨rfl, rfl, rfl, trivial⟩
   | false =>
    cases b3 with
    | true =>
     have hst := hst.trans (show _ = Xw R ns (es.take i) by simp)
     refine X0 ?_; refine X0 ?_; refine JR ?_; refine Z1 ?_; refine ZB ?_; refine ZC ?_; refine Zd ?_; refine Z8 ?_; refine JD ?_; refine JT ?_; refine X3 ?_; refine X0 ?_; refine X4 ?_
     refine X0 ?_; refine JR ?_; refine ZB ?_; refine ZC ?_; refine Z1 ?_; refine Zj ?_; refine ZK ?_; refine Zw (γ := 102) ?_; refine Zy ?_; refine JD ?_; refine X0 ?_; refine JR ?_; refine ZL ?_; refine ZB ?_
     refine ZC ?_; refine Z9 (hcon := h1) ?_; refine Z0 ?_; refine JD ?_; refine X0 ?_; refine X0 ?_; refine JR ?_; refine ZB ?_; refine ZC ?_; refine Zl ?_; refine JD ?_; refine JT ?_; refine JR ?_; refine ZL ?_
     refine ZB ?_; refine ZC ?_; refine ZB ?_; refine ZC ?_; refine Z9 (hcon := h2) ?_; refine Zu ?_; refine Z1 ?_; refine ZL ?_; refine ZB ?_; refine ZC ?_; refine ZB ?_; refine ZC ?_; refine Z9 (hcon := h3) ?_; refine Zu ?_
     refine Zq ?_; refine Z0 ?_; refine JD ?_; refine X0 ?_; refine JR ?_; refine ZB ?_; refine ZC ?_; refine ZB ?_; refine ZC ?_; refine Zr ?_; refine Z1 ?_; refine Zo ?_; refine Zq ?_; refine JD ?_; refine JF ?_
     refine X3 ?_; refine JR ?_; refine Z1 ?_; refine Zb ?_; refine Z0 ?_; refine JD ?_
     refine ⟨i + 1, hil, by omega, ?_⟩
     dsimp only
     rw [hst]
     exact X6 rfl JM ⟨rfl, rfl, rfl, trivial⟩
    | false =>
     have hst := hst.trans (show _ = Xw R ns (es.take i) by simp)
     refine X0 ?_; refine X0 ?_; refine JR ?_; refine Z1 ?_; refine ZB ?_; refine ZC ?_; refine Zd ?_; refine Z8 ?_; refine JD ?_; refine JT ?_; refine X3 ?_; refine X0 ?_; refine X4 ?_
     refine X0 ?_; refine JR ?_; refine ZB ?_; refine ZC ?_; refine Z1 ?_; refine Zj ?_; refine ZK ?_; refine Zw (γ := 102) ?_; refine Zy ?_; refine JD ?_; refine X0 ?_; refine JR ?_; refine ZL ?_; refine ZB ?_
     refine ZC ?_; refine Z9 (hcon := h1) ?_; refine Z0 ?_; refine JD ?_; refine X0 ?_; refine X0 ?_; refine JR ?_; refine ZB ?_; refine ZC ?_; refine Zl ?_; refine JD ?_; refine JT ?_; refine JR ?_; refine ZL ?_
     refine ZB ?_; refine ZC ?_; refine ZB ?_; refine ZC ?_; refine Z9 (hcon := h2) ?_; refine Zu ?_; refine Z1 ?_; refine ZL ?_; refine ZB ?_; refine ZC ?_; refine ZB ?_; refine ZC ?_; refine Z9 (hcon := h3) ?_; refine Zu ?_
     refine Zq ?_; refine Z0 ?_; refine JD ?_; refine X0 ?_; refine JR ?_; refine ZB ?_; refine ZC ?_; refine ZB ?_; refine ZC ?_; refine Zr ?_; refine Z1 ?_; refine Zo ?_; refine Zq ?_; refine JD ?_; refine JF ?_
     refine X3 ?_; refine JR ?_; refine Z1 ?_; refine Zb ?_; refine Z0 ?_; refine JD ?_
     refine ⟨i + 1, hil, by omega, ?_⟩
     dsimp only
     rw [hst]
     exact X6 rfl JM ⟨rfl, rfl, rfl, trivial⟩
  ·cases b1 with
   | true =>
    have hst := hst.trans (show _ = Xw R ns (es.take i) by simp)
    refine X0 ?_; refine X0 ?_; refine JR ?_; refine Z1 ?_; refine ZB ?_; refine ZC ?_; refine Zd ?_; refine Z8 ?_; refine JD ?_; refine JT ?_; refine X3 ?_; refine X0 ?_; refine X4 ?_
    refine X0 ?_; refine JR ?_; refine ZB ?_; refine ZC ?_; refine Z1 ?_; refine Zj ?_; refine ZK ?_; refine Zw (γ := 102) ?_; refine Zy ?_; refine JD ?_; refine X0 ?_; refine JR ?_; refine ZL ?_; refine ZB ?_
    refine ZC ?_; refine Z9 (hcon := h1) ?_; refine Z0 ?_; refine JD ?_; refine X0 ?_; refine X0 ?_; refine JR ?_; refine ZB ?_; refine ZC ?_; refine Zl ?_; refine JD ?_; refine JF ?_; refine X3 ?_
    refine X0 ?_; refine JR ?_; refine ZB ?_; refine ZC ?_; refine ZB ?_; refine ZC ?_; refine Zr ?_; refine Z1 ?_; refine Zo ?_; refine Zq ?_; refine JD ?_; refine JF ?_; refine X3 ?_; refine JR ?_; refine Z1 ?_
    refine Zb ?_; refine Z0 ?_; refine JD ?_
    refine ⟨i + 1, hil, by omega, ?_⟩
    dsimp only
    rw [hst]
    exact X6 rfl JM ⟨rfl, rfl, rfl, trivial⟩
   | false =>
    have hst := hst.trans (show _ = Xw R ns (es.take i) by simp)
    refine X0 ?_; refine X0 ?_; refine JR ?_; refine Z1 ?_; refine ZB ?_; refine ZC ?_; refine Zd ?_; refine Z8 ?_; refine JD ?_; refine JT ?_; refine X3 ?_; refine X0 ?_; refine X4 ?_
    refine X0 ?_; refine JR ?_; refine ZB ?_; refine ZC ?_; refine Z1 ?_; refine Zj ?_; refine ZK ?_; refine Zw (γ := 102) ?_; refine Zy ?_; refine JD ?_; refine X0 ?_; refine JR ?_; refine ZL ?_; refine ZB ?_
    refine ZC ?_; refine Z9 (hcon := h1) ?_; refine Z0 ?_; refine JD ?_; refine X0 ?_; refine X0 ?_; refine JR ?_; refine ZB ?_; refine ZC ?_; refine Zl ?_; refine JD ?_; refine JF ?_; refine X3 ?_
    refine X0 ?_; refine JR ?_; refine ZB ?_; refine ZC ?_; refine ZB ?_; refine ZC ?_; refine Zr ?_; refine Z1 ?_; refine Zo ?_; refine Zq ?_; refine JD ?_; refine JF ?_; refine X3 ?_; refine JR ?_; refine Z1 ?_
    refine Zb ?_; refine Z0 ?_; refine JD ?_
    refine ⟨i + 1, hil, by omega, ?_⟩
    dsimp only
    rw [hst]
    exact X6 rfl JM ⟨rfl, rfl, rfl, trivial⟩
 rw [decide_eq_true ht, Bool.true_and] at hst
 by_cases h6 : rk = 6
 ·rw [if_pos h6] at hst
  cases b2 with
  | true =>
   have hst : Xw R ns (es.take (i + 1)) = Xw R ns (es.take i) ++ [(xid, 0)] := hst.trans (by simp)
   have happ : (Xw R ns (es.take i) ++ [((xid, 0) : Int × Int)]).map Xc = (Xw R ns (es.take i)).map Xc ++ [Xc (xid, 0)] := by simp
   refine X0 ?_; refine X0 ?_; refine JR ?_; refine Z1 ?_; refine ZB ?_; refine ZC ?_; refine Zd ?_; refine Z8 ?_; refine JD ?_; refine JT ?_; refine X3 ?_; refine X0 ?_; refine X4 ?_
   refine X0 ?_; refine JR ?_; refine ZB ?_; refine ZC ?_; refine Z1 ?_; refine Zj ?_; refine ZK ?_; refine Zw (γ := 102) ?_; refine Zy ?_; refine JD ?_; refine X0 ?_; refine JR ?_; refine ZL ?_; refine ZB ?_
   refine ZC ?_; refine Z9 (hcon := h1) ?_; refine Z0 ?_; refine JD ?_; refine X0 ?_; refine X0 ?_; refine JR ?_; refine ZB ?_; refine ZC ?_; refine Zl ?_; refine JD ?_; refine JT ?_; refine JR ?_; refine ZL ?_
   refine ZB ?_; refine ZC ?_; refine ZB ?_; refine ZC ?_; refine Z9 (hcon := h2) ?_; refine Zu ?_; refine Z1 ?_; refine Zo ?_; refine Zo ?_; refine Zo ?_; refine Zo ?_; refine Zo ?_; refine Zo ?_; refine Zo ?_
   refine Zn ?_; refine Z0 ?_; refine JD ?_; refine X0 ?_; refine JR ?_; refine ZB ?_; refine ZC ?_; refine ZB ?_; refine ZC ?_; refine Zr ?_; refine Z1 ?_; refine Z1 ?_; refine Zn ?_; refine JD ?_; refine JT ?_
   refine JR ?_; refine Z1 ?_; refine ZB ?_; refine ZC ?_; refine Zx ?_; refine Z5 ?_; refine Z6 ?_; refine Z0 ?_; refine JD ?_; refine JR ?_; refine Z1 ?_; refine Zb ?_; refine Z0 ?_; refine JD ?_
   refine ⟨i + 1, hil, by omega, ?_⟩
   dsimp only
   rw [hst, happ]
   exact X6 rfl ⟨JL, JL, AVal.le_of_eq (by refine Eq.trans (b := AVal.own 130 (_ + _)) rfl ?_; simp only [List.length_append, List.length_map, List.length_cons, List.length_nil]), JL, trivial⟩ ⟨rfl, rfl, rfl, trivial⟩
  | false =>
   cases b3 with
   | true =>
    have hst : Xw R ns (es.take (i + 1)) = Xw R ns (es.take i) ++ [(xid, 0)] := hst.trans (by simp)
    have happ : (Xw R ns (es.take i) ++ [((xid, 0) : Int × Int)]).map Xc = (Xw R ns (es.take i)).map Xc ++ [Xc (xid, 0)] := by simp
    refine X0 ?_; refine X0 ?_; refine JR ?_; refine Z1 ?_; refine ZB ?_; refine ZC ?_; refine Zd ?_; refine Z8 ?_; refine JD ?_; refine JT ?_; refine X3 ?_; refine X0 ?_; refine X4 ?_
    refine X0 ?_; refine JR ?_; refine ZB ?_; refine ZC ?_; refine Z1 ?_; refine Zj ?_; refine ZK ?_; refine Zw (γ := 102) ?_; refine Zy ?_; refine JD ?_; refine X0 ?_; refine JR ?_; refine ZL ?_; refine ZB ?_
    refine ZC ?_; refine Z9 (hcon := h1) ?_; refine Z0 ?_; refine JD ?_; refine X0 ?_; refine X0 ?_; refine JR ?_; refine ZB ?_; refine ZC ?_; refine Zl ?_; refine JD ?_; refine JT ?_; refine JR ?_; refine ZL ?_
    refine ZB ?_; refine ZC ?_; refine ZB ?_; refine ZC ?_; refine Z9 (hcon := h2) ?_; refine Zu ?_; refine Z1 ?_; refine ZL ?_; refine ZB ?_; refine ZC ?_; refine ZB ?_; refine ZC ?_; refine Z9 (hcon := h3) ?_; refine Zu ?_
    refine Zq ?_; refine Z0 ?_; refine JD ?_; refine X0 ?_; refine JR ?_; refine ZB ?_; refine ZC ?_; refine ZB ?_; refine ZC ?_; refine Zr ?_; refine Z1 ?_; refine Z1 ?_; refine Zn ?_; refine JD ?_; refine JT ?_
    refine JR ?_; refine Z1 ?_; refine ZB ?_; refine ZC ?_; refine Zx ?_; refine Z5 ?_; refine Z6 ?_; refine Z0 ?_; refine JD ?_; refine JR ?_; refine Z1 ?_; refine Zb ?_; refine Z0 ?_; refine JD ?_
    refine ⟨i + 1, hil, by omega, ?_⟩
    dsimp only
    rw [hst, happ]
    exact X6 rfl ⟨JL, JL, AVal.le_of_eq (by refine Eq.trans (b := AVal.own 130 (_ + _)) rfl ?_; simp only [List.length_append, List.length_map, List.length_cons, List.length_nil]), JL, trivial⟩ ⟨rfl, rfl, rfl, trivial⟩
   | false =>
    have hst := hst.trans (show _ = Xw R ns (es.take i) by simp)
    refine X0 ?_; refine X0 ?_; refine JR ?_; refine Z1 ?_; refine ZB ?_; refine ZC ?_; refine Zd ?_; refine Z8 ?_; refine JD ?_; refine JT ?_; refine X3 ?_; refine X0 ?_; refine X4 ?_
    refine X0 ?_; refine JR ?_; refine ZB ?_; refine ZC ?_; refine Z1 ?_; refine Zj ?_; refine ZK ?_; refine Zw (γ := 102) ?_; refine Zy ?_; refine JD ?_; refine X0 ?_; refine JR ?_; refine ZL ?_; refine ZB ?_
    refine ZC ?_; refine Z9 (hcon := h1) ?_; refine Z0 ?_; refine JD ?_; refine X0 ?_; refine X0 ?_; refine JR ?_; refine ZB ?_; refine ZC ?_; refine Zl ?_; refine JD ?_; refine JT ?_; refine JR ?_; refine ZL ?_
    refine ZB ?_; refine ZC ?_; refine ZB ?_; refine ZC ?_; refine Z9 (hcon := h2) ?_; refine Zu ?_; refine Z1 ?_; refine ZL ?_; refine ZB ?_; refine ZC ?_; refine ZB ?_; refine ZC ?_; refine Z9 (hcon := h3) ?_; refine Zu ?_
    refine Zq ?_; refine Z0 ?_; refine JD ?_; refine X0 ?_; refine JR ?_; refine ZB ?_; refine ZC ?_; refine ZB ?_; refine ZC ?_; refine Zr ?_; refine Z1 ?_; refine Z1 ?_; refine Zn ?_; refine JD ?_; refine JF ?_
    refine X3 ?_; refine JR ?_; refine Z1 ?_; refine Zb ?_; refine Z0 ?_; refine JD ?_
    refine ⟨i + 1, hil, by omega, ?_⟩
    dsimp only
    rw [hst]
    exact X6 rfl JM ⟨rfl, rfl, rfl, trivial⟩
 ·rw [if_neg h6] at hst
  cases b1 with
  | true =>
   have hst : Xw R ns (es.take (i + 1)) = Xw R ns (es.take i) ++ [(xid, 0)] := hst.trans (by simp)
   have happ : (Xw R ns (es.take i) ++ [((xid, 0) : Int × Int)]).map Xc = (Xw R ns (es.take i)).map Xc ++ [Xc (xid, 0)] := by simp
   refine X0 ?_; refine X0 ?_; refine JR ?_; refine Z1 ?_; refine ZB ?_; refine ZC ?_; refine Zd ?_; refine Z8 ?_; refine JD ?_; refine JT ?_; refine X3 ?_; refine X0 ?_; refine X4 ?_
   refine X0 ?_; refine JR ?_; refine ZB ?_; refine ZC ?_; refine Z1 ?_; refine Zj ?_; refine ZK ?_; refine Zw (γ := 102) ?_; refine Zy ?_; refine JD ?_; refine X0 ?_; refine JR ?_; refine ZL ?_; refine ZB ?_
   refine ZC ?_; refine Z9 (hcon := h1) ?_; refine Z0 ?_; refine JD ?_; refine X0 ?_; refine X0 ?_; refine JR ?_; refine ZB ?_; refine ZC ?_; refine Zl ?_; refine JD ?_; refine JF ?_; refine X3 ?_
   refine X0 ?_; refine JR ?_; refine ZB ?_; refine ZC ?_; refine ZB ?_; refine ZC ?_; refine Zr ?_; refine Z1 ?_; refine Z1 ?_; refine Zn ?_; refine JD ?_; refine JT ?_; refine JR ?_; refine Z1 ?_; refine ZB ?_
   refine ZC ?_; refine Zx ?_; refine Z5 ?_; refine Z6 ?_; refine Z0 ?_; refine JD ?_; refine JR ?_; refine Z1 ?_; refine Zb ?_; refine Z0 ?_; refine JD ?_
   refine ⟨i + 1, hil, by omega, ?_⟩
   dsimp only
   rw [hst, happ]
   exact X6 rfl ⟨JL, JL, AVal.le_of_eq (by refine Eq.trans (b := AVal.own 130 (_ + _)) rfl ?_; simp only [List.length_append, List.length_map, List.length_cons, List.length_nil]), JL, trivial⟩ ⟨rfl, rfl, rfl, trivial⟩
  | false =>
   have hst := hst.trans (show _ = Xw R ns (es.take i) by simp)
   refine X0 ?_; refine X0 ?_; refine JR ?_; refine Z1 ?_; refine ZB ?_; refine ZC ?_; refine Zd ?_; refine Z8 ?_; refine JD ?_; refine JT ?_; refine X3 ?_; refine X0 ?_; refine X4 ?_
   refine X0 ?_; refine JR ?_; refine ZB ?_; refine ZC ?_; refine Z1 ?_; refine Zj ?_; refine ZK ?_; refine Zw (γ := 102) ?_; refine Zy ?_; refine JD ?_; refine X0 ?_; refine JR ?_; refine ZL ?_; refine ZB ?_
   refine ZC ?_; refine Z9 (hcon := h1) ?_; refine Z0 ?_; refine JD ?_; refine X0 ?_; refine X0 ?_; refine JR ?_; refine ZB ?_; refine ZC ?_; refine Zl ?_; refine JD ?_; refine JF ?_; refine X3 ?_
   refine X0 ?_; refine JR ?_; refine ZB ?_; refine ZC ?_; refine ZB ?_; refine ZC ?_; refine Zr ?_; refine Z1 ?_; refine Z1 ?_; refine Zn ?_; refine JD ?_; refine JF ?_; refine X3 ?_; refine JR ?_; refine Z1 ?_
   refine Zb ?_; refine Z0 ?_; refine JD ?_
   refine ⟨i + 1, hil, by omega, ?_⟩
   dsimp only
   rw [hst]
   exact X6 rfl JM ⟨rfl, rfl, rfl, trivial⟩
end Go.Fw
namespace Go.Fw
open Go Go.Proofs
set_option maxRecDepth 100000
set_option linter.unusedVariables false
set_option linter.unusedSimpArgs false
theorem X8w (r : Rul) (g : Gra) (hf : GFit g) : Con Tryz.prog 78 [] [Xv r, Xr g] [] (.d (.sl 2 ((XS r g.edges g.nodes).map Xc))) := by
 refine Xa (xs := [.d (.sl 2 ((XS r g.edges g.nodes).map Xc))]) Tryz.func78 rfl Tryz.ntmps78 rfl rfl rfl (fun E => ?_)
 obtain ⟨ns, es, nn, ne⟩ := g
 have hbr := fun l hl => X2n r l hl
 obtain ⟨rk, rn, rname, rkey, rsrc, rdst⟩ := r
 have hnl := hf.nl
 have hel := hf.el
 have hfn := hf.nodes
 have hfe := hf.edges
 clear hf
 unfold Xr
 simp only [Xv] at hnl hel hfn hfe hbr ⊢
 generalize hR : (Rul.mk rk rn rname rkey rsrc rdst) = R at *
 have hRn : R.name = rname := by rw [← hR]
 have hRk : R.kind = rk := by rw [← hR]
 have hRm : R.n = rn := by rw [← hR]
 have hRs : R.src = rsrc := by rw [← hR]
 have hRd : R.dst = rdst := by rw [← hR]
 refine X0 ?_; refine JR ?_; refine ZA (γ := 100) ?_; refine ZA (γ := 101) ?_; refine Z0 ?_; refine JD ?_; refine X0 ?_; refine JR ?_; refine Z0 ?_; refine JD ?_; refine X0 ?_; refine X0 ?_
 refine JR ?_; refine Z0 ?_; refine JD ?_; refine X4 ?_
 refine XD (Un 5 130 2 rfl rfl rfl) ?_
 refine Xt (fun i : Nat => i ≤ ns.length) (fun i => ⟨77, [(2, .ptr 100 0), (3, .ptr 101 0), (5, .own 130 ((XS R es (ns.take i)).map Xc).length), (6, ai i)], [(100, .box [ai rk, ai rn, Xn rname, Xn rkey, Xn rsrc, Xn rdst]), (101, .box [.d (.sl 3 (ns.map X8)), .d (.sl 5 (es.map Xg)), ai nn, ai ne]), (130, .row 2 ((XS R es (ns.take i)).map Xc))]⟩) (fun i => ns.length - i) 0 (Nat.zero_le _)
  (X6 rfl JM ⟨rfl, rfl, rfl, trivial⟩) ?_
 intro i hi
 by_cases hil : i < ns.length
 case neg =>
  obtain rfl : i = ns.length := by omega
  have hn : ¬ ((ns.length : Nat) : Int) < (ns.map X8).length := by rw [List.length_map]; omega
  rw [List.take_length]
  refine X0 ?_; refine X0 ?_; refine JR ?_; refine Z1 ?_; refine ZB ?_; refine ZC ?_; refine Zd ?_; refine Z8 ?_; refine JD ?_; refine JF ?_; refine Xp ?_; refine X0 ?_; refine JR ?_; refine Z1 ?_
  refine Z0 ?_; refine JD ?_
  refine XD (U5 130 rfl) ?_
  refine XD (U7 4 130 rfl rfl rfl) ?_
  (show AWP Tryz.prog E _ _ _; refine X1 ?_; exact (show Xd _ _ _ _ _ from ⟨_, St.le_refl _, ⟨rfl, trivial⟩, X2 _⟩))
 have hn : (i : Int) < (ns.map X8).length := by rw [List.length_map]; omega
 obtain ⟨x, hx⟩ := Xm (l := ns) hil
 have hxc : (ns.map X8)[i]? = some (X8 x) := Xq hx
 obtain ⟨f1, f2, f3⟩ := hfn x (List.mem_of_getElem? hx)
 have hroom : ((XS R es (ns.take i)).map Xc).length ≤ 2000 := by
  have := List.length_filter_le (fun n => if R.kind = 7 then decide (R.n < (XY R es n.id : Nat)) else XE n.labels R.name && YK R n.props) (ns.take i)
  simp only [XS, List.length_map, List.length_take] at this ⊢
  omega
 have hst : XS R es (ns.take (i + 1)) = XS R es (ns.take i) ++ if (if R.kind = 7 then decide (R.n < (XY R es x.id : Nat)) else XE x.labels R.name && YK R x.props) = true then [(x.id, 0)] else [] := X0G hx
 have h1 := X1H x rname (by omega)
 have h2 := hbr x.props (by omega)
 rw [hRn, hRk, hRm] at hst
 generalize XE x.labels rname = b1 at *
 generalize YK R x.props = b2 at *
 obtain ⟨xid, labels, props⟩ := x
 simp only [X8] at hxc h1 h2 hst
 clear hx hbr hfn hfe f1 f2 f3
 by_cases h7 : rk = 7
 case neg =>
  clear hR hRn hRk hRm hRs hRd
  rw [if_neg h7] at hst
  cases b1 with
  | false =>
   have hst := hst.trans (show _ = XS R es (ns.take i) by simp)
   refine X0 ?_; refine X0 ?_; refine JR ?_; refine Z1 ?_; refine ZB ?_; refine ZC ?_; refine Zd ?_; refine Z8 ?_; refine JD ?_; refine JT ?_; refine X3 ?_; refine X0 ?_; refine X4 ?_
   refine X0 ?_; refine JR ?_; refine ZB ?_; refine ZC ?_; refine Z1 ?_; refine Zj ?_; refine ZK ?_; refine Zw (γ := 102) ?_; refine Zy ?_; refine JD ?_; refine X0 ?_; refine JR ?_; refine ZL ?_; refine ZB ?_
   refine ZC ?_; refine Z9 (hcon := h1) ?_; refine Z1 ?_; refine Zo ?_; refine Zo ?_; refine Zo ?_; refine Zo ?_; refine Zq ?_; refine Z0 ?_; refine JD ?_; refine X0 ?_; refine X0 ?_; refine JR ?_; refine ZB ?_
   refine ZC ?_; refine Zl ?_; refine JD ?_; refine JF ?_; refine X3 ?_; refine X0 ?_; refine JR ?_; refine Z1 ?_; refine JD ?_; refine JF ?_; refine X3 ?_; refine JR ?_; refine Z1 ?_; refine Zb ?_
   refine Z0 ?_; refine JD ?_
   refine ⟨i + 1, hil, by omega, ?_⟩
   dsimp only
   rw [hst]
   exact X6 rfl JM ⟨rfl, rfl, rfl, trivial⟩
  | true =>
   cases b2 with
   | false =>
    have hst := hst.trans (show _ = XS R es (ns.take i) by simp)
    refine X0 ?_; refine X0 ?_; refine JR ?_; refine Z1 ?_; refine ZB ?_; refine ZC ?_; refine Zd ?_; refine Z8 ?_; refine JD ?_; refine JT ?_; refine X3 ?_; refine X0 ?_; refine X4 ?_
    refine X0 ?_; refine JR ?_; refine ZB ?_; refine ZC ?_; refine Z1 ?_; refine Zj ?_; refine ZK ?_; refine Zw (γ := 102) ?_; refine Zy ?_; refine JD ?_; refine X0 ?_; refine JR ?_; refine ZL ?_; refine ZB ?_
    refine ZC ?_; refine Z9 (hcon := h1) ?_; refine Z1 ?_; refine ZL ?_; refine ZB ?_; refine ZC ?_; refine Z9 (hcon := h2) ?_; refine Zn ?_; refine Z0 ?_; refine JD ?_; refine X0 ?_; refine X0 ?_; refine JR ?_
    refine ZB ?_; refine ZC ?_; refine Zl ?_; refine JD ?_; refine JF ?_; refine X3 ?_; refine X0 ?_; refine JR ?_; refine Z1 ?_; refine JD ?_; refine JF ?_; refine X3 ?_; refine JR ?_; refine Z1 ?_
    refine Zb ?_; refine Z0 ?_; refine JD ?_
    refine ⟨i + 1, hil, by omega, ?_⟩
    dsimp only
    rw [hst]
    exact X6 rfl JM ⟨rfl, rfl, rfl, trivial⟩
   | true =>
    have hst : XS R es (ns.take (i + 1)) = XS R es (ns.take i) ++ [(xid, 0)] := hst.trans (by simp)
    have happ : (XS R es (ns.take i) ++ [((xid, 0) : Int × Int)]).map Xc = (XS R es (ns.take i)).map Xc ++ [Xc (xid, 0)] := by simp
    refine X0 ?_; refine X0 ?_; refine JR ?_; refine Z1 ?_; refine ZB ?_; refine ZC ?_; refine Zd ?_; refine Z8 ?_; refine JD ?_; refine JT ?_; refine X3 ?_; refine X0 ?_; refine X4 ?_
    refine X0 ?_; refine JR ?_; refine ZB ?_; refine ZC ?_; refine Z1 ?_; refine Zj ?_; refine ZK ?_; refine Zw (γ := 102) ?_; refine Zy ?_; refine JD ?_; refine X0 ?_; refine JR ?_; refine ZL ?_; refine ZB ?_
    refine ZC ?_; refine Z9 (hcon := h1) ?_; refine Z1 ?_; refine ZL ?_; refine ZB ?_; refine ZC ?_; refine Z9 (hcon := h2) ?_; refine Zn ?_; refine Z0 ?_; refine JD ?_; refine X0 ?_; refine X0 ?_; refine JR ?_
    refine ZB ?_; refine ZC ?_; refine Zl ?_; refine JD ?_; refine JF ?_; refine X3 ?_; refine X0 ?_; refine JR ?_; refine Z1 ?_; refine JD ?_; refine JT ?_; refine JR ?_; refine Z1 ?_; refine ZB ?_; refine ZC ?_
    refine Zx ?_; refine Z5 ?_; refine Z6 ?_; refine Z0 ?_; refine JD ?_; refine JR ?_; refine Z1 ?_; refine Zb ?_; refine Z0 ?_; refine JD ?_
    refine ⟨i + 1, hil, by omega, ?_⟩
    dsimp only
    rw [hst, happ]
    exact X6 rfl ⟨JL, JL, AVal.le_of_eq (by refine Eq.trans (b := AVal.own 130 (_ + _)) rfl ?_; simp only [List.length_append, List.length_map, List.length_cons, List.length_nil]), JL, trivial⟩ ⟨rfl, rfl, rfl, trivial⟩
 rw [if_pos h7] at hst
 have hzero : XY R (es.take 0) xid = 0 := rfl
 have htot : XY R (es.take es.length) xid = XY R es xid := by rw [List.take_length]
 cases b1 with
 | false =>
  refine X0 ?_; refine X0 ?_; refine JR ?_; refine Z1 ?_; refine ZB ?_; refine ZC ?_; refine Zd ?_; refine Z8 ?_; refine JD ?_; refine JT ?_; refine X3 ?_; refine X0 ?_; refine X4 ?_
  refine X0 ?_; refine JR ?_; refine ZB ?_; refine ZC ?_; refine Z1 ?_; refine Zj ?_; refine ZK ?_; refine Zw (γ := 102) ?_; refine Zy ?_; refine JD ?_; refine X0 ?_; refine JR ?_; refine ZL ?_; refine ZB ?_
  refine ZC ?_; refine Z9 (hcon := h1) ?_; refine Z1 ?_; refine Zo ?_; refine Zo ?_; refine Zo ?_; refine Zo ?_; refine Zq ?_; refine Z0 ?_; refine JD ?_; refine X0 ?_; refine X0 ?_; refine JR ?_; refine ZB ?_
  refine ZC ?_; refine Zl ?_; refine JD ?_; refine JT ?_; refine X0 ?_; refine JR ?_; refine Z0 ?_; refine JD ?_; refine X0 ?_; refine X0 ?_; refine JR ?_; refine Z0 ?_; refine JD ?_; refine X4 ?_
  refine Xt (fun k : Nat => k ≤ es.length) (fun k => ⟨77, [(2, .ptr 100 0), (3, .ptr 101 0), (5, .own 130 ((XS R es (ns.take i)).map Xc).length), (6, ai i), (7, .ptr 102 0), (9, ai (XY R (es.take k) xid : Nat)), (10, ai k)], [(100, .box [ai rk, ai rn, Xn rname, Xn rkey, Xn rsrc, Xn rdst]), (101, .box [.d (.sl 3 (ns.map X8)), .d (.sl 5 (es.map Xg)), ai nn, ai ne]), (102, .box [ai xid, .d (.sl 1 (labels.map Xk)), .d (.sl 6 (props.map Xh))]), (130, .row 2 ((XS R es (ns.take i)).map Xc))]⟩) (fun k => es.length - k) 0 (Nat.zero_le _)
   (X6 rfl JM ⟨rfl, rfl, rfl, rfl, trivial⟩) ?_
  intro k hk
  by_cases hkl : k < es.length
  case pos =>
   have hn2 : (k : Int) < (es.map Xg).length := by rw [List.length_map]; omega
   obtain ⟨y, hy⟩ := Xm (l := es) hkl
   have hyc : (es.map Xg)[k]? = some (Xg y) := Xq hy
   have hcs : XY R (es.take (k + 1)) xid = XY R (es.take k) xid + if decide (y.typ = R.name) && decide (y.src = xid) then 1 else 0 := X25 hy
   have hle := X2L R (es.take k) xid
   rw [List.length_take] at hle
   rw [hRn] at hcs
   obtain ⟨yid, src, dst, typ, yprops⟩ := y
   simp only [Xg] at hyc hcs
   clear hy hst hzero htot hxc hroom hR hRn hRk hRm hRs hRd h1 h2
   by_cases hs : src = xid
   case neg =>
    have hcs := hcs.trans (show _ = XY R (es.take k) xid by simp [hs])
    refine X0 ?_; refine X0 ?_; refine JR ?_; refine Z1 ?_; refine ZB ?_; refine ZC ?_; refine Zd ?_; refine Z8 ?_; refine JD ?_; refine JT ?_; refine X3 ?_; refine X0 ?_; refine X4 ?_
    refine X0 ?_; refine JR ?_; refine ZB ?_; refine ZC ?_; refine Z1 ?_; refine Zj ?_; refine ZN ?_; refine Zk ?_; refine ZB ?_; refine ZC ?_; refine Zl ?_; refine Z1 ?_; refine Zo ?_; refine Zo ?_; refine Zo ?_
    refine Zo ?_; refine Zo ?_; refine Zo ?_; refine Zo ?_; refine Zo ?_; refine Zo ?_; refine Zq ?_; refine JD ?_; refine JF ?_; refine X3 ?_; refine JR ?_; refine Z1 ?_; refine Zb ?_; refine Z0 ?_; refine JD ?_
    refine ⟨k + 1, hkl, by omega, ?_⟩
    dsimp only
    rw [hcs]
    exact X6 rfl JM ⟨rfl, rfl, rfl, rfl, trivial⟩
   by_cases ht : typ = rname
   case neg =>
    have hcs := hcs.trans (show _ = XY R (es.take k) xid by simp [ht])
    refine X0 ?_; refine X0 ?_; refine JR ?_; refine Z1 ?_; refine ZB ?_; refine ZC ?_; refine Zd ?_; refine Z8 ?_; refine JD ?_; refine JT ?_; refine X3 ?_; refine X0 ?_; refine X4 ?_
    refine X0 ?_; refine JR ?_; refine ZB ?_; refine ZC ?_; refine Z1 ?_; refine Zj ?_; refine ZN ?_; refine Zk ?_; refine ZB ?_; refine ZC ?_; refine Zl ?_; refine Z1 ?_; refine ZB ?_; refine ZC ?_; refine Z1 ?_
    refine Zj ?_; refine ZN ?_; refine Zk ?_; refine ZB ?_; refine ZC ?_; refine Zr ?_; refine Zn ?_; refine JD ?_; refine JF ?_; refine X3 ?_; refine JR ?_; refine Z1 ?_; refine Zb ?_; refine Z0 ?_; refine JD ?_
    refine ⟨k + 1, hkl, by omega, ?_⟩
    dsimp only
    rw [hcs]
    exact X6 rfl JM ⟨rfl, rfl, rfl, rfl, trivial⟩
   have hcs := hcs.trans (show _ = XY R (es.take k) xid + 1 by simp [hs, ht])
   refine X0 ?_; refine X0 ?_; refine JR ?_; refine Z1 ?_; refine ZB ?_; refine ZC ?_; refine Zd ?_; refine Z8 ?_; refine JD ?_; refine JT ?_; refine X3 ?_; refine X0 ?_; refine X4 ?_
   refine X0 ?_; refine JR ?_; refine ZB ?_; refine ZC ?_; refine Z1 ?_; refine Zj ?_; refine ZN ?_; refine Zk ?_; refine ZB ?_; refine ZC ?_; refine Zl ?_; refine Z1 ?_; refine ZB ?_; refine ZC ?_; refine Z1 ?_
   refine Zj ?_; refine ZN ?_; refine Zk ?_; refine ZB ?_; refine ZC ?_; refine Zr ?_; refine Zn ?_; refine JD ?_; refine JT ?_; refine JR ?_; refine Z1 ?_; refine Zb ?_; refine Z0 ?_; refine JD ?_; refine JR ?_
   refine Z1 ?_; refine Zb ?_; refine Z0 ?_; refine JD ?_
   refine ⟨k + 1, hkl, by omega, ?_⟩
   dsimp only
   rw [hcs]
   exact X6 rfl JM ⟨rfl, rfl, rfl, rfl, trivial⟩
  obtain rfl : k = es.length := by omega
  have hn2 : ¬ ((es.length : Nat) : Int) < (es.map Xg).length := by rw [List.length_map]; omega
  rw [htot]
  generalize XY R es xid = w at *
  clear hzero htot hR hRn hRk hRm hRs hRd
  by_cases hw : rn < (w : Nat)
  ·rw [decide_eq_true hw] at hst
   have hst : XS R es (ns.take (i + 1)) = XS R es (ns.take i) ++ [(xid, 0)] := hst.trans (by simp)
   have happ : (XS R es (ns.take i) ++ [((xid, 0) : Int × Int)]).map Xc = (XS R es (ns.take i)).map Xc ++ [Xc (xid, 0)] := by simp
   refine X0 ?_; refine X0 ?_; refine JR ?_; refine Z1 ?_; refine ZB ?_; refine ZC ?_; refine Zd ?_; refine Z8 ?_; refine JD ?_; refine JF ?_; refine Xp ?_; refine JR ?_; refine Z1 ?_; refine ZB ?_
   refine ZC ?_; refine Zs ?_; refine Z0 ?_; refine JD ?_; refine X0 ?_; refine JR ?_; refine Z1 ?_; refine JD ?_; refine JT ?_; refine JR ?_; refine Z1 ?_; refine ZB ?_; refine ZC ?_; refine Zx ?_; refine Z5 ?_
   refine Z6 ?_; refine Z0 ?_; refine JD ?_; refine JR ?_; refine Z1 ?_; refine Zb ?_; refine Z0 ?_; refine JD ?_
   refine ⟨i + 1, hil, by omega, ?_⟩
   dsimp only
   rw [hst, happ]
   exact X6 rfl ⟨JL, JL, AVal.le_of_eq (by refine Eq.trans (b := AVal.own 130 (_ + _)) rfl ?_; simp only [List.length_append, List.length_map, List.length_cons, List.length_nil]), JL, trivial⟩ ⟨rfl, rfl, rfl, trivial⟩
  ·rw [decide_eq_false hw] at hst
   have hst := hst.trans (show _ = XS R es (ns.take i) by simp)
   refine X0 ?_; refine X0 ?_; refine JR ?_; refine Z1 ?_; refine ZB ?_; refine ZC ?_; refine Zd ?_; refine Z8 ?_; refine JD ?_; refine JF ?_; refine Xp ?_; refine JR ?_; refine Z1 ?_; refine ZB ?_
   refine ZC ?_; refine Zs ?_; refine Z0 ?_; refine JD ?_; refine X0 ?_; refine JR ?_; refine Z1 ?_; refine JD ?_; refine JF ?_; refine X3 ?_; refine JR ?_; refine Z1 ?_; refine Zb ?_; refine Z0 ?_; refine JD ?_
   refine ⟨i + 1, hil, by omega, ?_⟩
   dsimp only
   rw [hst]
   exact X6 rfl JM ⟨rfl, rfl, rfl, trivial⟩
 | true =>
  refine X0 ?_; refine X0 ?_; refine JR ?_; refine Z1 ?_; refine ZB ?_; refine ZC ?_; refine Zd ?_; refine Z8 ?_; refine JD ?_; refine JT ?_; refine X3 ?_; refine X0 ?_; refine X4 ?_
  refine X0 ?_; refine JR ?_; refine ZB ?_; refine ZC ?_; refine Z1 ?_; refine Zj ?_; refine ZK ?_; refine Zw (γ := 102) ?_; refine Zy ?_; refine JD ?_; refine X0 ?_; refine JR ?_; refine ZL ?_; refine ZB ?_
  refine ZC ?_; refine Z9 (hcon := h1) ?_; refine Z1 ?_; refine ZL ?_; refine ZB ?_; refine ZC ?_; refine Z9 (hcon := h2) ?_; refine Zn ?_; refine Z0 ?_; refine JD ?_; refine X0 ?_; refine X0 ?_; refine JR ?_
  refine ZB ?_; refine ZC ?_; refine Zl ?_; refine JD ?_; refine JT ?_; refine X0 ?_; refine JR ?_; refine Z0 ?_; refine JD ?_; refine X0 ?_; refine X0 ?_; refine JR ?_; refine Z0 ?_; refine JD ?_
  refine X4 ?_
  refine Xt (fun k : Nat => k ≤ es.length) (fun k => ⟨77, [(2, .ptr 100 0), (3, .ptr 101 0), (5, .own 130 ((XS R es (ns.take i)).map Xc).length), (6, ai i), (7, .ptr 102 0), (9, ai (XY R (es.take k) xid : Nat)), (10, ai k)], [(100, .box [ai rk, ai rn, Xn rname, Xn rkey, Xn rsrc, Xn rdst]), (101, .box [.d (.sl 3 (ns.map X8)), .d (.sl 5 (es.map Xg)), ai nn, ai ne]), (102, .box [ai xid, .d (.sl 1 (labels.map Xk)), .d (.sl 6 (props.map Xh))]), (130, .row 2 ((XS R es (ns.take i)).map Xc))]⟩) (fun k => es.length - k) 0 (Nat.zero_le _)
   (X6 rfl JM ⟨rfl, rfl, rfl, rfl, trivial⟩) ?_
  intro k hk
  by_cases hkl : k < es.length
  case pos =>
   have hn2 : (k : Int) < (es.map Xg).length := by rw [List.length_map]; omega
   obtain ⟨y, hy⟩ := Xm (l := es) hkl
   have hyc : (es.map Xg)[k]? = some (Xg y) := Xq hy
   have hcs : XY R (es.take (k + 1)) xid = XY R (es.take k) xid + if decide (y.typ = R.name) && decide (y.src = xid) then 1 else 0 := X25 hy
   have hle := X2L R (es.take k) xid
   rw [List.length_take] at hle
   rw [hRn] at hcs
   obtain ⟨yid, src, dst, typ, yprops⟩ := y
   simp only [Xg] at hyc hcs
   clear hy hst hzero htot hxc hroom hR hRn hRk hRm hRs hRd h1 h2
   by_cases hs : src = xid
   case neg =>
    have hcs := hcs.trans (show _ = XY R (es.take k) xid by simp [hs])
    refine X0 ?_; refine X0 ?_; refine JR ?_; refine Z1 ?_; refine ZB ?_; refine ZC ?_; refine Zd ?_; refine Z8 ?_; refine JD ?_; refine JT ?_; refine X3 ?_; refine X0 ?_; refine X4 ?_
    refine X0 ?_; refine JR ?_; refine ZB ?_; refine ZC ?_; refine Z1 ?_; refine Zj ?_; refine ZN ?_; refine Zk ?_; refine ZB ?_; refine ZC ?_; refine Zl ?_; refine Z1 ?_; refine Zo ?_; refine Zo ?_; refine Zo ?_
    refine Zo ?_; refine Zo ?_; refine Zo ?_; refine Zo ?_; refine Zo ?_; refine Zo ?_; refine Zq ?_; refine JD ?_; refine JF ?_; refine X3 ?_; refine JR ?_; refine Z1 ?_; refine Zb ?_; refine Z0 ?_; refine JD ?_
    refine ⟨k + 1, hkl, by omega, ?_⟩
    dsimp only
    rw [hcs]
    exact X6 rfl JM ⟨rfl, rfl, rfl, rfl, trivial⟩
   by_cases ht : typ = rname
   case neg =>
    have hcs := hcs.trans (show _ = XY R (es.take k) xid by simp [ht])
    refine X0 ?_; refine X0 ?_; refine JR ?_; refine Z1 ?_; refine ZB ?_; refine ZC ?_; refine Zd ?_; refine Z8 ?_; refine JD ?_; refine JT ?_; refine X3 ?_; refine X0 ?_; refine X4 ?_
    refine X0 ?_; refine JR ?_; refine ZB ?_; refine ZC ?_; refine Z1 ?_; refine Zj ?_; refine ZN ?_; refine Zk ?_; refine ZB ?_; refine ZC ?_; refine Zl ?_; refine Z1 ?_; refine ZB ?_; refine ZC ?_; refine Z1 ?_
    refine Zj ?_; refine ZN ?_; refine Zk ?_; refine ZB ?_; refine ZC ?_; refine Zr ?_; refine Zn ?_; refine JD ?_; refine JF ?_; refine X3 ?_; refine JR ?_; refine Z1 ?_; refine Zb ?_; refine Z0 ?_; refine JD ?_
    refine ⟨k + 1, hkl, by omega, ?_⟩
    dsimp only
    rw [hcs]
    exact X6 rfl JM ⟨rfl, rfl, rfl, rfl, trivial⟩
   have hcs := hcs.trans (show _ = XY R (es.take k) xid + 1 by simp [hs, ht])
   refine X0 ?_; refine X0 ?_; refine JR ?_; refine Z1 ?_; refine ZB ?_; refine ZC ?_; refine Zd ?_; refine Z8 ?_; refine JD ?_; refine JT ?_; refine X3 ?_; refine X0 ?_; refine X4 ?_
   refine X0 ?_; refine JR ?_; refine ZB ?_; refine ZC ?_; refine Z1 ?_; refine Zj ?_; refine ZN ?_; refine Zk ?_; refine ZB ?_; refine ZC ?_; refine Zl ?_; refine Z1 ?_; refine ZB ?_; refine ZC ?_; refine Z1 ?_
   refine Zj ?_; refine ZN ?_; refine Zk ?_; refine ZB ?_; refine ZC ?_; refine Zr ?_; refine Zn ?_; refine JD ?_; refine JT ?_; refine JR ?_; refine Z1 ?_; refine Zb ?_; refine Z0 ?_; refine JD ?_; refine JR ?_
   refine Z1 ?_; refine Zb ?_; refine Z0 ?_; refine JD ?_
   refine ⟨k + 1, hkl, by omega, ?_⟩
   dsimp only
   rw [hcs]
   exact X6 rfl JM ⟨rfl, rfl, rfl, rfl, trivial⟩
  obtain rfl : k = es.length := by omega
  have hn2 : ¬ ((es.length : Nat) : Int) < (es.map Xg).length := by rw [List.length_map]; omega
  rw [htot]
  generalize XY R es xid = w at *
  clear hzero htot hR hRn hRk hRm hRs hRd
  by_cases hw : rn < (w : Nat)
  ·rw [decide_eq_true hw] at hst
   have hst : XS R es (ns.take (i + 1)) = XS R es (ns.take i) ++ [(xid, 0)] := hst.trans (by simp)
   have happ : (XS R es (ns.take i) ++ [((xid, 0) : Int × Int)]).map Xc = (XS R es (ns.take i)).map Xc ++ [Xc (xid, 0)] := by simp
   refine X0 ?_; refine X0 ?_; refine JR ?_; refine Z1 ?_; refine ZB ?_; refine ZC ?_; refine Zd ?_; refine Z8 ?_; refine JD ?_; refine JF ?_; refine Xp ?_; refine JR ?_; refine Z1 ?_; refine ZB ?_
   refine ZC ?_; refine Zs ?_; refine Z0 ?_; refine JD ?_; refine X0 ?_; refine JR ?_; refine Z1 ?_; refine JD ?_; refine JT ?_; refine JR ?_; refine Z1 ?_; refine ZB ?_; refine ZC ?_; refine Zx ?_; refine Z5 ?_
   refine Z6 ?_; refine Z0 ?_; refine JD ?_; refine JR ?_; refine Z1 ?_; refine Zb ?_; refine Z0 ?_; refine JD ?_
   refine ⟨i + 1, hil, by omega, ?_⟩
   dsimp only
   rw [hst, happ]
   exact X6 rfl ⟨JL, JL, AVal.le_of_eq (by refine Eq.trans (b := AVal.own 130 (_ + _)) rfl ?_; simp only [List.length_append, List.length_map, List.length_cons, List.length_nil]), JL, trivial⟩ ⟨rfl, rfl, rfl, trivial⟩
  ·rw [decide_eq_false hw] at hst
   have hst := hst.trans (show _ = XS R es (ns.take i) by simp)
   refine X0 ?_; refine X0 ?_; refine JR ?_; refine Z1 ?_; refine ZB ?_; refine ZC ?_; refine Zd ?_; refine Z8 ?_; refine JD ?_; refine JF ?_; refine Xp ?_; refine JR ?_; refine Z1 ?_; refine ZB ?_
   refine ZC ?_; refine Zs ?_; refine Z0 ?_; refine JD ?_; refine X0 ?_; refine JR ?_; refine Z1 ?_; refine JD ?_; refine JF ?_; refine X3 ?_; refine JR ?_; refine Z1 ?_; refine Zb ?_; refine Z0 ?_; refine JD ?_
   refine ⟨i + 1, hil, by omega, ?_⟩
   dsimp only
   rw [hst]
   exact X6 rfl JM ⟨rfl, rfl, rfl, trivial⟩
end Go.Fw
