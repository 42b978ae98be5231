/- Records compared with themselves; the law about reading. -/
import Derived.KernelRfl
import Derived.Test.YtbhleedlnaakkaaGreatK22
import Derived.Test.YtbhleedlnaakkaaGreatK23
import Derived.Test.YtbhleedlnaakkaaGreatK24
set_option maxHeartbeats 32000000
namespace Go.Fw
open Go Go.Proofs
set_option maxRecDepth 100000
set_option linter.unusedVariables false
set_option linter.unusedSimpArgs false
theorem X8y : ∀ (k : SK) (u : Value), Y3 u = some k → UX u u = true := by
 intro k u h
 cases u <;> simp [Y3] at h <;> simp [UX]
theorem VW (us : List Value) (ks : List SK) (h : us.map Y3 = ks.map some) : YO us us = true := by
 induction us generalizing ks with
 | nil => rfl
 | cons u us ih =>
  cases ks with
  | nil => simp at h
  | cons k ks =>
   simp only [List.map_cons, List.cons.injEq] at h
   unfold YO
   rw [X8y k u h.1, ih ks h.2]
   rfl
end Go.Fw
namespace Go.Fw
open Go Go.Proofs
set_option maxRecDepth 100000
set_option linter.unusedVariables false
set_option linter.unusedSimpArgs false
theorem X3p (r : Rul) (g : Gra) (hg : GraHold g) : Con Tryz.prog 24 [] [Xv r, Xr g] [] (.d (.sl 2 ((ofS r g).map Xc))) := by
 refine Xa (xs := [.d (.sl 2 ((ofS r g).map Xc))]) Tryz.func24 rfl Tryz.ntmps24 rfl rfl rfl (fun E => ?_)
 have h1 := X5n r
 have h2 := X9x g hg
 unfold ofS
 by_cases c1 : Yr r = 0
 case neg =>
  rw [if_pos (.inl c1)]
  generalize Yr r = e1 at *
  clear h2 hg
  obtain ⟨ns, es, nn, ne⟩ := g
  obtain ⟨rk, rn, rname, rkey, rsrc, rdst⟩ := r
  simp only [Xv, Xr, List.map_nil] at *
  refine X0 ?_; refine JR ?_; refine ZA (γ := 100) ?_; refine ZA (γ := 101) ?_; refine Z0 ?_; refine JD ?_; refine X0 ?_; refine X0 ?_; refine JR ?_; refine ZL ?_; refine Z9 (hcon := h1) ?_; refine Zv ?_
  refine Z1 ?_; refine Zo ?_; refine Zo ?_; refine Zo ?_; refine Zn ?_; refine JD ?_; refine JT ?_; refine X0 ?_; refine JR ?_; refine Z0 ?_; refine JD ?_
  (show AWP Tryz.prog E _ _ _; refine X1 ?_; exact (show Xd _ _ _ _ _ from ⟨_, Xi 4 (y := .d (.sl 2 [])) (AVal.le_nil 2), ⟨rfl, trivial⟩, X2 _⟩))
 by_cases c2 : Yc g = 0
 case neg =>
  rw [if_pos (.inr c2)]
  rw [c1] at h1
  generalize Yc g = e2 at *
  clear hg c1
  obtain ⟨ns, es, nn, ne⟩ := g
  obtain ⟨rk, rn, rname, rkey, rsrc, rdst⟩ := r
  simp only [Xv, Xr, List.map_nil] at *
  refine X0 ?_; refine JR ?_; refine ZA (γ := 100) ?_; refine ZA (γ := 101) ?_; refine Z0 ?_; refine JD ?_; refine X0 ?_; refine X0 ?_; refine JR ?_; refine ZL ?_; refine Z9 (hcon := h1) ?_; refine Zv ?_
  refine Z1 ?_; refine ZL ?_; refine Z9 (hcon := h2) ?_; refine Zv ?_; refine Zq ?_; refine JD ?_; refine JT ?_; refine X0 ?_; refine JR ?_; refine Z0 ?_; refine JD ?_
  (show AWP Tryz.prog E _ _ _; refine X1 ?_; exact (show Xd _ _ _ _ _ from ⟨_, Xi 4 (y := .d (.sl 2 [])) (AVal.le_nil 2), ⟨rfl, trivial⟩, X2 _⟩))
 rw [if_neg (fun h => h.elim (fun q => q c1) (fun q => q c2))]
 have hf := X1l c2
 have hk := X8k c1
 have h3 := X9N r g hf
 have h4 := X9o r g hf
 have h5 := X8w r g hf
 rw [X0I] at h3
 rw [c1] at h1
 rw [c2] at h2
 clear hg c2 hf
 unfold ofV X1d
 by_cases k1 : r.kind = 1
 ·rw [if_pos k1]
  generalize YN (XU r g.nodes) = l at *
  clear h4 h5 c1
  obtain ⟨ns, es, nn, ne⟩ := g
  obtain ⟨rk, rn, rname, rkey, rsrc, rdst⟩ := r
  simp only [Xv, Xr] at *
  refine X0 ?_; refine JR ?_; refine ZA (γ := 100) ?_; refine ZA (γ := 101) ?_; refine Z0 ?_; refine JD ?_; refine X0 ?_; refine X0 ?_; refine JR ?_; refine ZL ?_; refine Z9 (hcon := h1) ?_; refine Zv ?_
  refine Z1 ?_; refine ZL ?_; refine Z9 (hcon := h2) ?_; refine Zv ?_; refine Zq ?_; refine JD ?_; refine JF ?_; refine X3 ?_; refine X0 ?_; refine X0 ?_; refine JR ?_; refine ZB ?_; refine ZC ?_
  refine JD ?_; refine X4 ?_; refine X0 ?_; refine JR ?_; refine Zl ?_; refine Z0 ?_; refine JD ?_; refine JT ?_; refine X0 ?_; refine JR ?_; refine ZL ?_; refine ZL ?_; refine Z9 (hcon := h3) ?_
  refine Z0 ?_; refine JD ?_
  (show AWP Tryz.prog E _ _ _; refine X1 ?_; exact (show Xd _ _ _ _ _ from ⟨_, St.le_refl _, ⟨rfl, trivial⟩, X2 _⟩))
 rw [if_neg k1]
 by_cases k7 : r.kind = 7
 ·rw [if_neg (by omega), if_pos k7]
  rw [Xat k7] at h5
  generalize YD r g.edges g.nodes = l at *
  clear h3 h4 c1
  obtain ⟨ns, es, nn, ne⟩ := g
  obtain ⟨rk, rn, rname, rkey, rsrc, rdst⟩ := r
  simp only [Xv, Xr] at *
  have z4 : ¬ rk = 4 := by omega
  have z5 : ¬ rk = 5 := by omega
  have z6 : ¬ rk = 6 := by omega
  refine X0 ?_; refine JR ?_; refine ZA (γ := 100) ?_; refine ZA (γ := 101) ?_; refine Z0 ?_; refine JD ?_; refine X0 ?_; refine X0 ?_; refine JR ?_; refine ZL ?_; refine Z9 (hcon := h1) ?_; refine Zv ?_
  refine Z1 ?_; refine ZL ?_; refine Z9 (hcon := h2) ?_; refine Zv ?_; refine Zq ?_; refine JD ?_; refine JF ?_; refine X3 ?_; refine X0 ?_; refine X0 ?_; refine JR ?_; refine ZB ?_; refine ZC ?_
  refine JD ?_; refine X4 ?_; refine X0 ?_; refine JR ?_; refine Zl ?_; refine Z0 ?_; refine JD ?_; refine JF ?_; refine X0 ?_; refine X0 ?_; refine JR ?_; refine Zl ?_; refine Z0 ?_; refine JD ?_
  refine JF ?_; refine X0 ?_; refine JR ?_; refine Zl ?_; refine Z0 ?_; refine JD ?_; refine JF ?_; refine JR ?_; refine Zl ?_; refine Z0 ?_; refine JD ?_; refine JF ?_; refine X3 ?_; refine X0 ?_
  refine JR ?_; refine ZL ?_; refine ZL ?_; refine Z9 (hcon := h5) ?_; refine Z0 ?_; refine JD ?_
  (show AWP Tryz.prog E _ _ _; refine X1 ?_; exact (show Xd _ _ _ _ _ from ⟨_, St.le_refl _, ⟨rfl, trivial⟩, X2 _⟩))
 by_cases k2 : r.kind = 2 ∨ r.kind = 3
 ·rw [if_pos k2]
  rw [X7q k7] at h5
  generalize Yy r g.nodes = l at *
  clear h3 h4 c1
  obtain ⟨ns, es, nn, ne⟩ := g
  obtain ⟨rk, rn, rname, rkey, rsrc, rdst⟩ := r
  simp only [Xv, Xr] at *
  have z4 : ¬ rk = 4 := by omega
  have z5 : ¬ rk = 5 := by omega
  have z6 : ¬ rk = 6 := by omega
  refine X0 ?_; refine JR ?_; refine ZA (γ := 100) ?_; refine ZA (γ := 101) ?_; refine Z0 ?_; refine JD ?_; refine X0 ?_; refine X0 ?_; refine JR ?_; refine ZL ?_; refine Z9 (hcon := h1) ?_; refine Zv ?_
  refine Z1 ?_; refine ZL ?_; refine Z9 (hcon := h2) ?_; refine Zv ?_; refine Zq ?_; refine JD ?_; refine JF ?_; refine X3 ?_; refine X0 ?_; refine X0 ?_; refine JR ?_; refine ZB ?_; refine ZC ?_
  refine JD ?_; refine X4 ?_; refine X0 ?_; refine JR ?_; refine Zl ?_; refine Z0 ?_; refine JD ?_; refine JF ?_; refine X0 ?_; refine X0 ?_; refine JR ?_; refine Zl ?_; refine Z0 ?_; refine JD ?_
  refine JF ?_; refine X0 ?_; refine JR ?_; refine Zl ?_; refine Z0 ?_; refine JD ?_; refine JF ?_; refine JR ?_; refine Zl ?_; refine Z0 ?_; refine JD ?_; refine JF ?_; refine X3 ?_; refine X0 ?_
  refine JR ?_; refine ZL ?_; refine ZL ?_; refine Z9 (hcon := h5) ?_; refine Z0 ?_; refine JD ?_
  (show AWP Tryz.prog E _ _ _; refine X1 ?_; exact (show Xd _ _ _ _ _ from ⟨_, St.le_refl _, ⟨rfl, trivial⟩, X2 _⟩))
 rw [if_neg k2, if_neg k7]
 generalize Xw r g.nodes g.edges = l at *
 clear h3 h5 c1
 obtain ⟨ns, es, nn, ne⟩ := g
 obtain ⟨rk, rn, rname, rkey, rsrc, rdst⟩ := r
 simp only [Xv, Xr] at *
 by_cases z4 : rk = 4
 ·refine X0 ?_; refine JR ?_; refine ZA (γ := 100) ?_; refine ZA (γ := 101) ?_; refine Z0 ?_; refine JD ?_; refine X0 ?_; refine X0 ?_; refine JR ?_; refine ZL ?_; refine Z9 (hcon := h1) ?_; refine Zv ?_
  refine Z1 ?_; refine ZL ?_; refine Z9 (hcon := h2) ?_; refine Zv ?_; refine Zq ?_; refine JD ?_; refine JF ?_; refine X3 ?_; refine X0 ?_; refine X0 ?_; refine JR ?_; refine ZB ?_; refine ZC ?_
  refine JD ?_; refine X4 ?_; refine X0 ?_; refine JR ?_; refine Zl ?_; refine Z0 ?_; refine JD ?_; refine JF ?_; refine X0 ?_; refine X0 ?_; refine JR ?_; refine Zl ?_; refine Z0 ?_; refine JD ?_
  refine JT ?_; refine X3 ?_; refine JT ?_; refine X0 ?_; refine JR ?_; refine ZL ?_; refine ZL ?_; refine Z9 (hcon := h4) ?_; refine Z0 ?_; refine JD ?_
  (show AWP Tryz.prog E _ _ _; refine X1 ?_; exact (show Xd _ _ _ _ _ from ⟨_, St.le_refl _, ⟨rfl, trivial⟩, X2 _⟩))
 by_cases z5 : rk = 5
 ·refine X0 ?_; refine JR ?_; refine ZA (γ := 100) ?_; refine ZA (γ := 101) ?_; refine Z0 ?_; refine JD ?_; refine X0 ?_; refine X0 ?_; refine JR ?_; refine ZL ?_; refine Z9 (hcon := h1) ?_; refine Zv ?_
  refine Z1 ?_; refine ZL ?_; refine Z9 (hcon := h2) ?_; refine Zv ?_; refine Zq ?_; refine JD ?_; refine JF ?_; refine X3 ?_; refine X0 ?_; refine X0 ?_; refine JR ?_; refine ZB ?_; refine ZC ?_
  refine JD ?_; refine X4 ?_; refine X0 ?_; refine JR ?_; refine Zl ?_; refine Z0 ?_; refine JD ?_; refine JF ?_; refine X0 ?_; refine X0 ?_; refine JR ?_; refine Zl ?_; refine Z0 ?_; refine JD ?_
  refine JF ?_; refine X0 ?_; refine JR ?_; refine Zl ?_; refine Z0 ?_; refine JD ?_; refine JT ?_; refine X3 ?_; refine JT ?_; refine X0 ?_; refine JR ?_; refine ZL ?_; refine ZL ?_
  refine Z9 (hcon := h4) ?_; refine Z0 ?_; refine JD ?_
  (show AWP Tryz.prog E _ _ _; refine X1 ?_; exact (show Xd _ _ _ _ _ from ⟨_, St.le_refl _, ⟨rfl, trivial⟩, X2 _⟩))
 have z6 : rk = 6 := by omega
 refine X0 ?_; refine JR ?_; refine ZA (γ := 100) ?_; refine ZA (γ := 101) ?_; refine Z0 ?_; refine JD ?_; refine X0 ?_; refine X0 ?_; refine JR ?_; refine ZL ?_; refine Z9 (hcon := h1) ?_; refine Zv ?_
 refine Z1 ?_; refine ZL ?_; refine Z9 (hcon := h2) ?_; refine Zv ?_; refine Zq ?_; refine JD ?_; refine JF ?_; refine X3 ?_; refine X0 ?_; refine X0 ?_; refine JR ?_; refine ZB ?_; refine ZC ?_
 refine JD ?_; refine X4 ?_; refine X0 ?_; refine JR ?_; refine Zl ?_; refine Z0 ?_; refine JD ?_; refine JF ?_; refine X0 ?_; refine X0 ?_; refine JR ?_; refine Zl ?_; refine Z0 ?_; refine JD ?_
 refine JF ?_; refine X0 ?_; refine JR ?_; refine Zl ?_; refine Z0 ?_; refine JD ?_; refine JF ?_; refine JR ?_; refine Zl ?_; refine Z0 ?_; refine JD ?_; refine JT ?_; refine X0 ?_; refine JR ?_; refine ZL ?_
 refine ZL ?_; refine Z9 (hcon := h4) ?_; refine Z0 ?_; refine JD ?_
 (show AWP Tryz.prog E _ _ _; refine X1 ?_; exact (show Xd _ _ _ _ _ from ⟨_, St.le_refl _, ⟨rfl, trivial⟩, X2 _⟩))
theorem X1y : UC Tryz.prog 69 = some [.i .i64, .i .i64] := by kernel_rfl
theorem X3c : UC Tryz.prog 110 = some [.i .i64, .i .i64, .i .i64] := by kernel_rfl
end Go.Fw
namespace Go.Fw
open Go Go.Proofs
set_option maxRecDepth 100000
set_option linter.unusedVariables false
set_option linter.unusedSimpArgs false
theorem X4v {acc rest tot : List Vio} (h : acc ++ rest = tot) (hl : tot.length ≤ 160000000) : (acc.map XG).length ≤ 160000000 := by
 have := congrArg List.length h
 simp only [List.length_append] at this
 rw [List.length_map]
 omega
theorem X2a (s : List Rul) (g : Gra) (hg : GraHold g) (hs : s.length ≤ 9223372036854775807) : Con Tryz.prog 26 [] [.d (.sl 6 (s.map Xo)), Xr g] [] (.d (.sl 3 ((Y7 s g).map XG))) := by
 refine Xa (xs := [.d (.sl 3 ((Y7 s g).map XG))]) Tryz.func26 rfl Tryz.ntmps26 rfl rfl rfl (fun E => ?_)
 have hv := X6X s hs
 have hc := X24 g hg
 cases hsv : YY s with
 | false =>
  rw [hsv] at hv
  rw [show Y7 s g = [] from if_pos (.inl hsv)]
  clear hc hg
  obtain ⟨ns, es, nn, ne⟩ := g
  simp only [Xr, List.map_nil] at *
  refine X0 ?_; refine JR ?_; refine ZA (γ := 100) ?_; refine Z0 ?_; refine JD ?_; refine X0 ?_; refine X0 ?_; refine JR ?_; refine Z1 ?_; refine Z9 (hcon := hv) ?_; refine Zu ?_; refine Z1 ?_; refine Zo ?_
  refine Zo ?_; refine Zo ?_; refine Zn ?_; refine JD ?_; refine JT ?_; refine X0 ?_; refine JR ?_; refine Z0 ?_; refine JD ?_
  (show AWP Tryz.prog E _ _ _; refine X1 ?_; exact (show Xd _ _ _ _ _ from ⟨_, Xi 4 (y := .d (.sl 3 [])) (AVal.le_nil 3), ⟨rfl, trivial⟩, X2 _⟩))
 | true =>
 rw [hsv] at hv
 by_cases c2 : Yc g = 0
 case neg =>
  rw [show Y7 s g = [] from if_pos (.inr c2)]
  generalize Yc g = e2 at *
  clear hg
  obtain ⟨ns, es, nn, ne⟩ := g
  simp only [Xr, List.map_nil] at *
  refine X0 ?_; refine JR ?_; refine ZA (γ := 100) ?_; refine Z0 ?_; refine JD ?_; refine X0 ?_; refine X0 ?_; refine JR ?_; refine Z1 ?_; refine Z9 (hcon := hv) ?_; refine Zu ?_; refine Z1 ?_; refine ZL ?_
  refine Z9 (hcon := hc) ?_; refine Zv ?_; refine Zq ?_; refine JD ?_; refine JT ?_; refine X0 ?_; refine JR ?_; refine Z0 ?_; refine JD ?_
  (show AWP Tryz.prog E _ _ _; refine X1 ?_; exact (show Xd _ _ _ _ _ from ⟨_, Xi 4 (y := .d (.sl 3 [])) (AVal.le_nil 3), ⟨rfl, trivial⟩, X2 _⟩))
 have hf := X1l c2
 have hof := fun r => X5g r g hf
 rw [c2] at hc
 have hmax := X2h (s := s) (g := g)
 have hlen := (X17 hsv).1
 have hT := X6M hsv c2
 generalize Y7 s g = T at *
 have hpl : ∀ r : Rul, (ofV r g).length ≤ 4000000 := fun r => X4A hf
 generalize hF : (fun r : Rul => ofV r g) = F at *
 have hFr : ∀ r, ofV r g = F r := fun r => by rw [← hF]
 simp only [hFr] at hof hpl
 clear hF hFr hg c2 hf hsv
 obtain ⟨ns, es, nn, ne⟩ := g
 simp only [Xr] at *
 have hsm : (s.map Xo).length = s.length := by simp
 refine X0 ?_; refine JR ?_; refine ZA (γ := 100) ?_; refine Z0 ?_; refine JD ?_; refine X0 ?_; refine X0 ?_; refine JR ?_; refine Z1 ?_; refine Z9 (hcon := hv) ?_; refine Zu ?_; refine Z1 ?_; refine ZL ?_
 refine Z9 (hcon := hc) ?_; refine Zv ?_; refine Zq ?_; refine JD ?_; refine JF ?_; refine X3 ?_; refine X0 ?_; refine JR ?_; refine Z0 ?_; refine JD ?_; refine X0 ?_; refine X0 ?_; refine JR ?_
 refine Z1 ?_; refine Zd ?_; refine Z1 ?_; refine JD ?_; refine X4 ?_
 clear hv hc
 refine XD (Un 5 130 3 rfl rfl rfl) ?_
 refine Xt (ι := Nat × List Vio) (fun q => q.1 ≤ s.length ∧ q.2 ++ Y0 F q.1 (s.drop q.1) = T) (fun q => ⟨45, [(3, .ptr 100 0), (5, .own 130 (q.2.map XG).length), (18, .d (.sl 6 (s.map Xo))), (19, ai (s.map Xo).length), (20, ai q.1)], [(100, .box [.d (.sl 3 (ns.map X8)), .d (.sl 5 (es.map Xg)), ai nn, ai ne]), (130, .row 3 (q.2.map XG))]⟩) (fun q => s.length - q.1) (0, []) ⟨Nat.zero_le _, by rw [hT]; rfl⟩
  (X6 rfl JM ⟨rfl, rfl, trivial⟩) ?_
 rintro ⟨i, acc⟩ ⟨hi, hg⟩
 simp only at hi hg
 by_cases hil : i < s.length
 case neg =>
  rw [List.drop_of_length_le (by omega), Y0, List.append_nil] at hg
  have hn : ¬ (i : Int) < (s.map Xo).length := by omega
  refine X0 ?_; refine JR ?_; refine Z8 ?_; refine JD ?_; refine X0 ?_; refine JF ?_; refine Xp ?_; refine X0 ?_; refine JR ?_; refine Z1 ?_; refine Z0 ?_; refine JD ?_
  rw [← hg]
  clear hT hg
  refine XD (U5 130 rfl) ?_
  refine XD (U7 4 130 rfl rfl rfl) ?_
  (show AWP Tryz.prog E _ _ _; refine X1 ?_; exact (show Xd _ _ _ _ _ from ⟨_, St.le_refl _, ⟨rfl, trivial⟩, X2 _⟩))
 have hn : (i : Int) < (s.map Xo).length := by omega
 obtain ⟨x, hx⟩ := Xm (l := s) hil
 have hxc : (s.map Xo)[i]? = some (Xo x) := Xq hx
 rw [X49 hx] at hg
 have hox := hof x
 have hLl := hpl x
 generalize hTL : Y0 F (i + 1) (s.drop (i + 1)) = TL at *
 generalize F x = L at *
 obtain ⟨rk, rn, rname, rkey, rsrc, rdst⟩ := x
 simp only [Xv, Xo] at hox hxc
 clear hx hof hT
 refine X0 ?_; refine JR ?_; refine Z8 ?_; refine JD ?_; refine X0 ?_; refine JT ?_; refine X3 ?_; refine X0 ?_; refine X4 ?_; refine X0 ?_; refine JR ?_; refine Z1 ?_; refine Zj ?_
 refine ZK ?_; refine Zw (γ := 101) ?_; refine Z0 ?_; refine Zy ?_; refine JD ?_; refine X0 ?_; refine JR ?_; refine ZL ?_; refine ZL ?_; refine Z9 (hcon := hox) ?_; refine Zd ?_; refine Z1 ?_; refine JD ?_
 refine X4 ?_
 refine Xt (ι := Nat × List Vio) (fun q => q.1 ≤ L.length ∧ q.2 ++ (V7 i (L.drop q.1) ++ TL) = T) (fun q => ⟨45, [(3, .ptr 100 0), (5, .own 130 (q.2.map XG).length), (6, ai i), (18, .d (.sl 6 (s.map Xo))), (19, ai (s.map Xo).length), (20, ai i), (27, .d (.sl 2 (L.map Xc))), (28, ai (L.map Xc).length), (29, ai q.1)], [(100, .box [.d (.sl 3 (ns.map X8)), .d (.sl 5 (es.map Xg)), ai nn, ai ne]), (130, .row 3 (q.2.map XG))]⟩) (fun q => L.length - q.1) (0, acc) ⟨Nat.zero_le _, by simpa using hg⟩
  (X6 rfl JM ⟨rfl, rfl, trivial⟩) ?_
 clear hg
 rintro ⟨k, acc2⟩ ⟨hk, hg⟩
 simp only at hk hg
 have hroom := X4v hg hmax
 have hLm : (L.map Xc).length = L.length := by simp
 by_cases hkl : k < L.length
 case neg =>
  rw [List.drop_of_length_le (by omega)] at hg
  have hg : acc2 ++ TL = T := hg
  have hn2 : ¬ (k : Int) < (L.map Xc).length := by omega
  refine X0 ?_; refine JR ?_; refine Z8 ?_; refine JD ?_; refine X0 ?_; refine JF ?_; refine Xp ?_; refine JR ?_; refine Zb ?_; refine Z1 ?_; refine JD ?_
  exact ⟨(i + 1, acc2), ⟨by show i + 1 ≤ s.length; omega, by show acc2 ++ Y0 F (i + 1) (s.drop (i + 1)) = T; rw [hTL]; exact hg⟩, by show s.length - (i + 1) < s.length - i; omega, X6 rfl JM ⟨rfl, rfl, trivial⟩⟩
 have hn2 : (k : Int) < (L.map Xc).length := by omega
 obtain ⟨p, hp⟩ := Xm (l := L) hkl
 have hpc : (L.map Xc)[k]? = some (Xc p) := Xq hp
 rw [X4c hp] at hg
 obtain ⟨pa, pb⟩ := p
 simp only [Xc] at hpc hg
 clear hp hxc hox
 have happ : (acc2 ++ [(⟨(i : Nat), pa, pb⟩ : Vio)]).map XG = acc2.map XG ++ [XG ⟨(i : Nat), pa, pb⟩] := by simp
 refine X0 ?_; refine JR ?_; refine Z8 ?_; refine JD ?_; refine X0 ?_; refine JT ?_; refine X3 ?_; refine X0 ?_; refine X4 ?_; refine X0 ?_; refine JR ?_; refine Zj ?_; refine ZK ?_
 refine Zw (γ := 101) ?_; refine Zy ?_; refine JD ?_; refine JR ?_; refine Z1 ?_; refine Z1 ?_; refine Z0k (n := 2) (sz := 1) (k := 0) ?_; refine ZC ?_; refine Z0k (n := 2) (sz := 1) (k := 1) ?_; refine ZC ?_
 refine Zx ?_; refine Z5 ?_; refine Z6 ?_; refine Z0 ?_; refine JD ?_; refine JR ?_; refine Zb ?_; refine Z1 ?_; refine JD ?_
 refine ⟨(k + 1, acc2 ++ [⟨(i : Nat), pa, pb⟩]), ⟨by show k + 1 ≤ L.length; omega, by simpa using hg⟩, by show L.length - (k + 1) < L.length - k; omega, ?_⟩
 dsimp only
 rw [happ]
 exact X6 rfl ⟨JL, AVal.le_of_eq (by refine Eq.trans (b := AVal.own 130 (_ + _)) rfl ?_; simp only [List.length_append, List.length_map, List.length_cons, List.length_nil]), JL, JL, JL, JL, JL, JL, JL, trivial⟩ ⟨rfl, rfl, trivial⟩
theorem X3s (s : List Rul) (g : Gra) (hg : GraHold g) (hs : s.length ≤ 9223372036854775807) : Con Tryz.prog 28 [] [.d (.sl 6 (s.map Xo)), Xr g] [] (ai (UP s g)) := by
 refine Xa (xs := [ai (UP s g)]) Tryz.func28 rfl Tryz.ntmps28 rfl rfl rfl (fun E => ?_)
 have ha := X2a s g hg hs
 cases hl : Y7 s g with
 | nil =>
  rw [X3W hl]
  rw [hl] at ha
  clear hg
  obtain ⟨ns, es, nn, ne⟩ := g
  simp only [Xr, List.map_nil] at *
  refine X0 ?_; refine JR ?_; refine ZA (γ := 100) ?_; refine Z0 ?_; refine JD ?_; refine X0 ?_; refine JR ?_; refine Z1 ?_; refine ZL ?_; refine Z9 (hcon := ha) ?_; refine Z0 ?_; refine JD ?_; refine X0 ?_
  refine X0 ?_; refine JR ?_; refine Z1 ?_; refine Zd ?_; refine Zl ?_; refine JD ?_; refine JT ?_; refine X0 ?_; refine JR ?_; refine Z0 ?_; refine JD ?_
  (show AWP Tryz.prog E _ _ _; refine X1 ?_; exact (show Xd _ _ _ _ _ from ⟨_, St.le_refl _, ⟨rfl, trivial⟩, X2 _⟩))
 | cons v r =>
  obtain ⟨k, x, e, hk, hfi⟩ := X5z hl
  rw [hfi]
  rw [hl] at ha
  have hfa := X7A x.kind
  have hxc : (s.map Xo)[k]? = some (Xo x) := Xq hk
  have hkl : k < (s.map Xo).length := (List.getElem?_eq_some_iff.1 hxc).1
  generalize UN x.kind = z at *
  obtain ⟨va, vb, vc⟩ := v
  simp only at e
  subst e
  obtain ⟨rk, rn, rname, rkey, rsrc, rdst⟩ := x
  clear hg hl hk hfi
  obtain ⟨ns, es, nn, ne⟩ := g
  simp only [Xr, List.map_cons, XG, Xo] at *
  have h0 : (([.v (.int .i64 (k : Nat)), .v (.int .i64 vb), .v (.int .i64 vc)] : List D) :: r.map XG)[0]? = some [.v (.int .i64 (k : Nat)), .v (.int .i64 vb), .v (.int .i64 vc)] := rfl
  have hne : ¬ ((([.v (.int .i64 (k : Nat)), .v (.int .i64 vb), .v (.int .i64 vc)] : List D) :: r.map XG).length : Int) = 0 := by simp only [List.length_cons]; omega
  generalize hR : ([.v (.int .i64 (k : Nat)), .v (.int .i64 vb), .v (.int .i64 vc)] : List D) :: r.map XG = R at *
  refine X0 ?_; refine JR ?_; refine ZA (γ := 100) ?_; refine Z0 ?_; refine JD ?_; refine X0 ?_; refine JR ?_; refine Z1 ?_; refine ZL ?_; refine Z9 (hcon := ha) ?_; refine Z0 ?_; refine JD ?_; refine X0 ?_
  refine X0 ?_; refine JR ?_; refine Z1 ?_; refine Zd ?_; refine Zl ?_; refine JD ?_; refine JF ?_; refine X3 ?_; refine X0 ?_; refine JR ?_; refine Z1 ?_; refine Z1 ?_; refine Zj ?_; refine ZN ?_
  refine Zk ?_; refine Zj ?_; refine ZN ?_; refine Zk ?_; refine Z9 (hcon := hfa) ?_; refine Z0 ?_; refine JD ?_
  (show AWP Tryz.prog E _ _ _; refine X1 ?_; exact (show Xd _ _ _ _ _ from ⟨_, St.le_refl _, ⟨rfl, trivial⟩, X2 _⟩))
end Go.Fw
namespace Go.Fw
open Go Go.Proofs
set_option maxRecDepth 100000
set_option linter.unusedVariables false
set_option linter.unusedSimpArgs false
def exK : List Prp := [⟨[107], .mk 2 5 0 [] []⟩]
def Yn : Gra := ⟨[⟨1, [[65]], exK⟩, ⟨2, [[65], [66]], exK⟩], [⟨1, 1, 2, [84], []⟩], 3, 2⟩
theorem X02 : GraHold Yn := ⟨by decide, by decide, by
 intro n hn
 have hn : n = ⟨1, [[65]], exK⟩ ∨ n = ⟨2, [[65], [66]], exK⟩ := by simpa [Yn] using hn
 rcases hn with rfl | rfl
 ·refine ⟨by decide, by simp, by decide, ?_⟩
  intro p hp
  obtain rfl : p = ⟨[107], .mk 2 5 0 [] []⟩ := by simpa [exK] using hp
  exact ⟨by decide, by simp [Yq, UR]⟩
 ·refine ⟨by decide, by simp, by decide, ?_⟩
  intro p hp
  obtain rfl : p = ⟨[107], .mk 2 5 0 [] []⟩ := by simpa [exK] using hp
  exact ⟨by decide, by simp [Yq, UR]⟩, by
 intro e he
 obtain rfl : e = ⟨1, 1, 2, [84], []⟩ := by simpa [Yn] using he
 exact ⟨by decide, by decide, by simp⟩⟩
abbrev exU : Rul := ⟨1, 0, [65], [107], [], []⟩
theorem X9Z : ofS exU Yn = [(1, 2)] := by kernel_rfl
theorem Xaa : ofS ⟨6, 0, [84], [], [66], []⟩ Yn = [(1, 0)] := by kernel_rfl
theorem X79 : ofS ⟨6, 0, [84], [], [65], []⟩ Yn = [] := by kernel_rfl
theorem X8N : ofS ⟨7, 0, [84], [], [], []⟩ Yn = [(1, 0)] := by kernel_rfl
theorem X72 : Y7 [exU] Yn = [⟨0, 1, 2⟩] := by kernel_rfl
theorem X9R : UP [exU] Yn = 13 := by kernel_rfl
def X1C (n : Nod) : Bool := decide (n.labels.length ≤ 20 ∧ n.props.length ≤ 20)
def X1q (e : Edg) : Bool := decide (e.props.length ≤ 20)
def X0M (g : Gra) : Bool := if 60 < g.nodes.length ∨ 100 < g.edges.length then false else g.nodes.all X1C && g.edges.all X1q
theorem X94 : Con Tryz.prog 73 [] [] [] (Xr Yn) := by
 refine Xa (xs := [Xr Yn]) Tryz.func73 rfl Tryz.ntmps73 rfl rfl rfl (fun E => ?_)
 simp only [Xr, Yn, exK, X8, Xg, Xh, Yd, Xk, XW, List.map_cons, List.map_nil]
 refine X0 ?_; refine JR ?_; refine Zw (γ := 100) ?_; refine JD ?_; refine X0 ?_; refine JR ?_; refine Zx ?_; refine Zx ?_; refine Z5 ?_; refine Z0 ?_; refine JD ?_; refine X0 ?_
 refine XD (Xi 1 (y := .d (.sl 6 [[.v (.string (X7 [107])), .v (.int .i64 2), .v (.int .i64 5), .v (.int .i64 0), .v (.string (X7 [])), .sl 5 []]])) (AVal.le_d (X3J (X3Z (UA (V0 _) (UA (V0 _) (UA (V0 _) (UA (V0 _) (UA (V0 _) (UA (X4g 5) X3D)))))) rfl (X5m 6))))) ?_
 refine JR ?_; refine Z5 ?_; refine Z1 ?_; refine Zx ?_; refine Z5 ?_; refine Z1 ?_; refine Zx ?_; refine Z5 ?_; refine Z0 ?_; refine JD ?_; refine X0 ?_; refine JR ?_; refine Z1 ?_; refine Zx ?_; refine Z5 ?_
 refine Zx ?_; refine Zy ?_; refine JD ?_
 exact X1 ⟨_, X03 100 (cs' := [.d (.sl 3 [[.v (.int .i64 1), .sl 1 [[.v (.string (X7 [65]))]], .sl 6 [[.v (.string (X7 [107])), .v (.int .i64 2), .v (.int .i64 5), .v (.int .i64 0), .v (.string (X7 [])), .sl 5 []]]], [.v (.int .i64 2), .sl 1 [[.v (.string (X7 [65]))], [.v (.string (X7 [66]))]], .sl 6 [[.v (.string (X7 [107])), .v (.int .i64 2), .v (.int .i64 5), .v (.int .i64 0), .v (.string (X7 [])), .sl 5 []]]]]), .d (.sl 5 [[.v (.int .i64 1), .v (.int .i64 1), .v (.int .i64 2), .v (.string (X7 [84])), .sl 6 []]]), ai 3, ai 2]) rfl ⟨AVal.le_refl _, AVal.le_d (X3J (X3Z (UA (V0 _) (UA (V0 _) (UA (V0 _) (UA (V0 _) (UA (X4g 6) X3D))))) rfl (X5m 5))), AVal.le_refl _, AVal.le_refl _, trivial⟩ rfl, ⟨⟨100, 0, _, rfl, rfl, .inr ⟨4, _, rfl, rfl, rfl, rfl⟩⟩, trivial⟩, X2 _⟩
end Go.Fw
namespace Go.Fw
open Go Go.Proofs
set_option maxRecDepth 100000
set_option linter.unusedVariables false
set_option linter.unusedSimpArgs false
theorem X4J : Con Tryz.prog 21 [] [] [] (ab true) := by
 refine Xa (xs := [ab true]) Tryz.func21 rfl Tryz.ntmps21 rfl rfl rfl (fun E => ?_)
 have h0 := X94
 have h1 := X0p exU Yn X02
 have h2 := X0p ⟨6, 0, [84], [], [66], []⟩ Yn X02
 have h3 := X0p ⟨6, 0, [84], [], [65], []⟩ Yn X02
 have h4 := X0p ⟨7, 0, [84], [], [], []⟩ Yn X02
 have h5 := X2a [exU] Yn X02 (by simp)
 have h6 := X3s [exU] Yn X02 (by simp)
 rw [X9Z] at h1
 rw [Xaa] at h2
 rw [X79] at h3
 rw [X8N] at h4
 rw [X72] at h5
 rw [X9R] at h6
 simp only [Xr, Xv, Xc, XG, Xo, List.map_cons, List.map_nil] at h0 h1 h2 h3 h4 h5 h6
 generalize Yn.nodes.map X8 = X at *
 generalize Yn.edges.map Xg = Y at *
 generalize Yn.nn = nn at *
 generalize Yn.ne = ne at *
 refine X0 ?_; refine JR ?_; refine Z0 ?_; refine JD ?_; refine X0 ?_; refine JR ?_; refine Zx ?_; refine Zw (γ := 100) ?_; refine Zy ?_; refine JD ?_; refine X0 ?_; refine JR ?_; refine ZL ?_
 refine Z9 (hcon := h0) ?_; refine Z9 (hcon := h1) ?_; refine Z0 ?_; refine JD ?_; refine X0 ?_
 refine JR ?_; refine Zx ?_; refine Z9 (hcon := h0) ?_; refine Z9 (hcon := h2) ?_; refine Z0 ?_; refine JD ?_; refine X0 ?_
 refine JR ?_; refine Zx ?_; refine Z9 (hcon := h0) ?_; refine Z9 (hcon := h3) ?_; refine Z0 ?_; refine JD ?_; refine X0 ?_
 refine JR ?_; refine Zx ?_; refine Z9 (hcon := h0) ?_; refine Z9 (hcon := h4) ?_; refine Z0 ?_; refine JD ?_; refine X0 ?_
 refine JR ?_; refine ZL ?_; refine Z5 ?_; refine Z9 (hcon := h0) ?_; refine Z9 (hcon := h5) ?_; refine Z0 ?_; refine JD ?_; refine X0 ?_
 clear h1 h2 h3 h4 h5
 refine XD (X6 (n := 82) (τ := [(1, .ptr 100 0), (2, .d (.sl 2 [[.v (.int .i64 1), .v (.int .i64 2)]])), (3, .d (.sl 2 [[.v (.int .i64 1), .v (.int .i64 0)]])), (4, .d (.sl 2 [])), (5, .d (.sl 2 [[.v (.int .i64 1), .v (.int .i64 0)]])), (6, .d (.sl 3 [[.v (.int .i64 0), .v (.int .i64 1), .v (.int .i64 2)]]))]) (L := [(100, .box [ai 1, ai 0, Xn [65], Xn [107], Xn [], Xn []])]) rfl JM ⟨rfl, trivial⟩) ?_
 refine JR ?_; refine Z1 ?_; refine Zd ?_; refine Zl ?_; refine Z1 ?_; refine Z1 ?_; refine Zj ?_; refine ZK ?_; refine Zx ?_
 refine Z07 (us := [.int .i64 1, .int .i64 2]) (vs := [.int .i64 1, .int .i64 2]) (r := true) ?_ (hk := by exact X1y) (hr := by exact VW [.int .i64 1, .int .i64 2] [.i .i64, .i .i64] rfl); refine Zn ?_
 refine Z1 ?_; refine Z1 ?_; refine Zd ?_; refine Zl ?_; refine Zn ?_; refine Z1 ?_; refine Z1 ?_; refine Zj ?_; refine ZK ?_; refine Zx ?_
 refine Z07 (us := [.int .i64 1, .int .i64 0]) (vs := [.int .i64 1, .int .i64 0]) (r := true) ?_ (hk := by exact X1y) (hr := by exact VW [.int .i64 1, .int .i64 0] [.i .i64, .i .i64] rfl); refine Zn ?_
 refine Z1 ?_; refine Z1 ?_; refine Zd ?_; refine Zl ?_; refine Zn ?_; refine Z1 ?_; refine Z1 ?_; refine Zd ?_; refine Zl ?_; refine Zn ?_; refine Z1 ?_; refine Z1 ?_; refine Zj ?_; refine ZK ?_; refine Zx ?_
 refine Z07 (us := [.int .i64 1, .int .i64 0]) (vs := [.int .i64 1, .int .i64 0]) (r := true) ?_ (hk := by exact X1y) (hr := by exact VW [.int .i64 1, .int .i64 0] [.i .i64, .i .i64] rfl); refine Zn ?_
 refine Z1 ?_; refine Z1 ?_; refine Zd ?_; refine Zl ?_; refine Zn ?_; refine Z1 ?_; refine Z1 ?_; refine Zj ?_; refine ZK ?_; refine Zx ?_
 refine Z07 (us := [.int .i64 0, .int .i64 1, .int .i64 2]) (vs := [.int .i64 0, .int .i64 1, .int .i64 2]) (r := true) ?_ (hk := by exact X3c) (hr := by exact VW [.int .i64 0, .int .i64 1, .int .i64 2] [.i .i64, .i .i64, .i .i64] rfl)
 refine Zn ?_; refine Z1 ?_; refine ZL ?_; refine Z5 ?_; refine Z9 (hcon := h0) ?_; refine Z9 (hcon := h6) ?_; refine Zl ?_; refine Zn ?_; refine Z0 ?_
 refine .done (fun _ => by kernel_rfl) ?_
 skip
 exact X1 ⟨_, St.le_refl _, ⟨rfl, trivial⟩, X2 _⟩
end Go.Fw
namespace Go.Fw
open Go Go.Proofs
set_option maxRecDepth 100000
set_option linter.unusedVariables false
set_option linter.unusedSimpArgs false
theorem X4R (g : Gra) (hg : GraHold g) : Con Tryz.prog 20 [] [Xr g] [] (ab (X0M g)) := by
 refine Xa (xs := [ab (X0M g)]) Tryz.func20 rfl Tryz.ntmps20 rfl rfl rfl (fun E => ?_)
 have hh1 := hg.nl
 have hh2 := hg.el
 clear hg
 obtain ⟨ns, es, nn, ne⟩ := g
 simp only [Xr] at hh1 hh2 ⊢
 have hln : (ns.map X8).length = ns.length := by simp
 have hle : (es.map Xg).length = es.length := by simp
 unfold X0M
 simp only
 by_cases c1 : 60 < ns.length
 ·rw [if_pos (.inl c1)]
  have c1' : (60 : Int) < (ns.map X8).length := by omega
  refine X0 ?_; refine JR ?_; refine ZA (γ := 100) ?_; refine Z0 ?_; refine JD ?_; refine X0 ?_; refine X0 ?_; refine JR ?_; refine ZB ?_; refine ZC ?_; refine Zd ?_; refine Zs ?_; refine Z1 ?_; refine Zo ?_
  refine Zo ?_; refine Zo ?_; refine Zo ?_; refine Zn ?_; refine JD ?_; refine JT ?_; refine X0 ?_; refine JR ?_; refine Z0 ?_; refine JD ?_
  (show AWP Tryz.prog E _ _ _; refine X1 ?_; exact (show Xd _ _ _ _ _ from ⟨_, St.le_refl _, ⟨rfl, trivial⟩, X2 _⟩))
 have c1' : ¬ (60 : Int) < (ns.map X8).length := by omega
 by_cases c2 : 100 < es.length
 ·rw [if_pos (.inr c2)]
  have c2' : (100 : Int) < (es.map Xg).length := by omega
  refine X0 ?_; refine JR ?_; refine ZA (γ := 100) ?_; refine Z0 ?_; refine JD ?_; refine X0 ?_; refine X0 ?_; refine JR ?_; refine ZB ?_; refine ZC ?_; refine Zd ?_; refine Zs ?_; refine Z1 ?_; refine ZB ?_
  refine ZC ?_; refine Zd ?_; refine Zs ?_; refine Zq ?_; refine JD ?_; refine JT ?_; refine X0 ?_; refine JR ?_; refine Z0 ?_; refine JD ?_
  (show AWP Tryz.prog E _ _ _; refine X1 ?_; exact (show Xd _ _ _ _ _ from ⟨_, St.le_refl _, ⟨rfl, trivial⟩, X2 _⟩))
 have c2' : ¬ (100 : Int) < (es.map Xg).length := by omega
 rw [if_neg (fun h => h.elim c1 c2)]
 generalize hFN : ns.all X1C = FN
 generalize hFE : es.all X1q = FE
 refine X0 ?_; refine JR ?_; refine ZA (γ := 100) ?_; refine Z0 ?_; refine JD ?_; refine X0 ?_; refine X0 ?_; refine JR ?_; refine ZB ?_; refine ZC ?_; refine Zd ?_; refine Zs ?_; refine Z1 ?_; refine ZB ?_
 refine ZC ?_; refine Zd ?_; refine Zs ?_; refine Zq ?_; refine JD ?_; refine JF ?_; refine X3 ?_; refine X0 ?_; refine X0 ?_; refine JR ?_; refine Z0 ?_; refine JD ?_; refine X4 ?_
 clear c1' c2'
 refine Xt (fun i : Nat => i ≤ ns.length ∧ (ns.drop i).all X1C = FN) (fun i => ⟨55, [(1, .ptr 100 0), (3, ai i)], [(100, .box [.d (.sl 3 (ns.map X8)), .d (.sl 5 (es.map Xg)), ai nn, ai ne])]⟩) (fun i => ns.length - i) 0 ⟨Nat.zero_le _, by simpa using hFN⟩
  (X6 rfl JM ⟨rfl, trivial⟩) ?_
 rintro i ⟨hi, hg⟩
 by_cases hil : i < ns.length
 case pos =>
  have hn : (i : Int) < (ns.map X8).length := by omega
  obtain ⟨x, hx⟩ := Xm (l := ns) hil
  have hxc : (ns.map X8)[i]? = some (X8 x) := Xq hx
  rw [X2U hx] at hg
  obtain ⟨xid, labels, props⟩ := x
  have hlm1 : (labels.map Xk).length = labels.length := by simp
  have hlm2 : (props.map Xh).length = props.length := by simp
  simp only [X8] at hxc
  unfold X1C at hg
  simp only at hg
  clear hx hFN
  by_cases d1 : 20 < labels.length
  ·have d1' : (20 : Int) < (labels.map Xk).length := by omega
   obtain rfl : FN = false := by rw [← hg, decide_eq_false (fun h => by omega)]; rfl
   rw [Bool.false_and]
   clear hg
   refine X0 ?_; refine X0 ?_; refine JR ?_; refine Z1 ?_; refine ZB ?_; refine ZC ?_; refine Zd ?_; refine Z8 ?_; refine JD ?_; refine JT ?_; refine X3 ?_; refine X0 ?_; refine X4 ?_
   refine X0 ?_; refine JR ?_; refine ZB ?_; refine ZC ?_; refine Z1 ?_; refine Zj ?_; refine ZN ?_; refine Zk ?_; refine Zd ?_; refine Zs ?_; refine Z1 ?_; refine Zo ?_; refine Zo ?_; refine Zo ?_; refine Zo ?_
   refine Zo ?_; refine Zo ?_; refine Zo ?_; refine Zo ?_; refine Zn ?_; refine JD ?_; refine JT ?_; refine X0 ?_; refine JR ?_; refine Z0 ?_; refine JD ?_
   (show AWP Tryz.prog E _ _ _; refine X1 ?_; exact (show Xd _ _ _ _ _ from ⟨_, St.le_refl _, ⟨rfl, trivial⟩, X2 _⟩))
  have d1' : ¬ (20 : Int) < (labels.map Xk).length := by omega
  by_cases d2 : 20 < props.length
  ·have d2' : (20 : Int) < (props.map Xh).length := by omega
   obtain rfl : FN = false := by rw [← hg, decide_eq_false (fun h => by omega)]; rfl
   rw [Bool.false_and]
   clear hg
   refine X0 ?_; refine X0 ?_; refine JR ?_; refine Z1 ?_; refine ZB ?_; refine ZC ?_; refine Zd ?_; refine Z8 ?_; refine JD ?_; refine JT ?_; refine X3 ?_; refine X0 ?_; refine X4 ?_
   refine X0 ?_; refine JR ?_; refine ZB ?_; refine ZC ?_; refine Z1 ?_; refine Zj ?_; refine ZN ?_; refine Zk ?_; refine Zd ?_; refine Zs ?_; refine Z1 ?_; refine ZB ?_; refine ZC ?_; refine Z1 ?_; refine Zj ?_
   refine ZN ?_; refine Zk ?_; refine Zd ?_; refine Zs ?_; refine Zq ?_; refine JD ?_; refine JT ?_; refine X0 ?_; refine JR ?_; refine Z0 ?_; refine JD ?_
   (show AWP Tryz.prog E _ _ _; refine X1 ?_; exact (show Xd _ _ _ _ _ from ⟨_, St.le_refl _, ⟨rfl, trivial⟩, X2 _⟩))
  have d2' : ¬ (20 : Int) < (props.map Xh).length := by omega
  rw [decide_eq_true ⟨by omega, by omega⟩, Bool.true_and] at hg
  refine X0 ?_; refine X0 ?_; refine JR ?_; refine Z1 ?_; refine ZB ?_; refine ZC ?_; refine Zd ?_; refine Z8 ?_; refine JD ?_; refine JT ?_; refine X3 ?_; refine X0 ?_; refine X4 ?_
  refine X0 ?_; refine JR ?_; refine ZB ?_; refine ZC ?_; refine Z1 ?_; refine Zj ?_; refine ZN ?_; refine Zk ?_; refine Zd ?_; refine Zs ?_; refine Z1 ?_; refine ZB ?_; refine ZC ?_; refine Z1 ?_; refine Zj ?_
  refine ZN ?_; refine Zk ?_; refine Zd ?_; refine Zs ?_; refine Zq ?_; refine JD ?_; refine JF ?_; refine X3 ?_; refine JR ?_; refine Z1 ?_; refine Zb ?_; refine Z0 ?_; refine JD ?_
  exact ⟨i + 1, ⟨by omega, hg⟩, by omega, X6 rfl JM ⟨rfl, trivial⟩⟩
 rw [List.drop_of_length_le (by omega), List.all_nil] at hg
 subst hg
 rw [Bool.true_and]
 have hn : ¬ (i : Int) < (ns.map X8).length := by omega
 refine X0 ?_; refine X0 ?_; refine JR ?_; refine Z1 ?_; refine ZB ?_; refine ZC ?_; refine Zd ?_; refine Z8 ?_; refine JD ?_; refine JF ?_; refine Xp ?_; refine X0 ?_; refine X0 ?_; refine JR ?_
 refine Z0 ?_; refine JD ?_; refine X4 ?_
 clear hn hFN hi hil
 refine Xt (fun i : Nat => i ≤ es.length ∧ (es.drop i).all X1q = FE) (fun i => ⟨55, [(1, .ptr 100 0), (4, ai i)], [(100, .box [.d (.sl 3 (ns.map X8)), .d (.sl 5 (es.map Xg)), ai nn, ai ne])]⟩) (fun i => es.length - i) 0 ⟨Nat.zero_le _, by simpa using hFE⟩
  (X6 rfl JM ⟨rfl, trivial⟩) ?_
 clear i
 rintro i ⟨hi, hg⟩
 by_cases hil : i < es.length
 case neg =>
  rw [List.drop_of_length_le (by omega), List.all_nil] at hg
  subst hg
  have hn : ¬ (i : Int) < (es.map Xg).length := by omega
  refine X0 ?_; refine X0 ?_; refine JR ?_; refine Z1 ?_; refine ZB ?_; refine ZC ?_; refine Zd ?_; refine Z8 ?_; refine JD ?_; refine JF ?_; refine Xp ?_; refine X0 ?_; refine JR ?_; refine Z0 ?_
  refine JD ?_
  (show AWP Tryz.prog E _ _ _; refine X1 ?_; exact (show Xd _ _ _ _ _ from ⟨_, St.le_refl _, ⟨rfl, trivial⟩, X2 _⟩))
 have hn : (i : Int) < (es.map Xg).length := by omega
 obtain ⟨x, hx⟩ := Xm (l := es) hil
 have hxc : (es.map Xg)[i]? = some (Xg x) := Xq hx
 rw [X2U hx] at hg
 obtain ⟨xid, src, dst, typ, props⟩ := x
 have hlm2 : (props.map Xh).length = props.length := by simp
 simp only [Xg] at hxc
 unfold X1q at hg
 simp only at hg
 clear hx hFE
 by_cases d2 : 20 < props.length
 ·have d2' : (20 : Int) < (props.map Xh).length := by omega
  obtain rfl : FE = false := by rw [← hg, decide_eq_false (fun h => by omega)]; rfl
  clear hg
  refine X0 ?_; refine X0 ?_; refine JR ?_; refine Z1 ?_; refine ZB ?_; refine ZC ?_; refine Zd ?_; refine Z8 ?_; refine JD ?_; refine JT ?_; refine X3 ?_; refine X0 ?_; refine X4 ?_
  refine X0 ?_; refine JR ?_; refine ZB ?_; refine ZC ?_; refine Z1 ?_; refine Zj ?_; refine ZN ?_; refine Zk ?_; refine Zd ?_; refine Zs ?_; refine JD ?_; refine JT ?_; refine X0 ?_; refine JR ?_; refine Z0 ?_
  refine JD ?_
  (show AWP Tryz.prog E _ _ _; refine X1 ?_; exact (show Xd _ _ _ _ _ from ⟨_, St.le_refl _, ⟨rfl, trivial⟩, X2 _⟩))
 have d2' : ¬ (20 : Int) < (props.map Xh).length := by omega
 rw [decide_eq_true (by omega), Bool.true_and] at hg
 refine X0 ?_; refine X0 ?_; refine JR ?_; refine Z1 ?_; refine ZB ?_; refine ZC ?_; refine Zd ?_; refine Z8 ?_; refine JD ?_; refine JT ?_; refine X3 ?_; refine X0 ?_; refine X4 ?_
 refine X0 ?_; refine JR ?_; refine ZB ?_; refine ZC ?_; refine Z1 ?_; refine Zj ?_; refine ZN ?_; refine Zk ?_; refine Zd ?_; refine Zs ?_; refine JD ?_; refine JF ?_; refine X3 ?_; refine JR ?_; refine Z1 ?_
 refine Zb ?_; refine Z0 ?_; refine JD ?_
 exact ⟨i + 1, ⟨by omega, hg⟩, by omega, X6 rfl JM ⟨rfl, trivial⟩⟩
end Go.Fw
namespace Go.Fw
open Go Go.Proofs
set_option linter.unusedVariables false
set_option linter.unusedSimpArgs false
theorem UJ : Tryz.prog.cellsOf 3 = 1 := by kernel_rfl
theorem Vl : Tryz.prog.cellsOf 9 = 1 := by kernel_rfl
theorem X7S : Tryz.prog.cellsOf 57 = 1 := by kernel_rfl
theorem X2x : Tryz.prog.cellsOf 59 = 5 := by kernel_rfl
theorem X35 : Tryz.prog.cellsOf 43 = 6 := by kernel_rfl
def X3C (r : Rul) : List D := [.v (.int .i64 r.kind), .v (.int .i64 r.n), .v (.string (X7 r.name)), .v (.string (X7 r.key)), .v (.string (X7 r.src)), .v (.string (X7 r.dst))]
section
variable {H : Type} {enc : TypeId × Value → H} {W : World}
theorem X3d : ∀ n, OpensN enc Tryz.prog W n 59 Yq Yd
 | 0 => ⟨fun cs x hx => by simp [DataW.trod] at hx⟩
 | n + 1 =>
  (X8f Tryz.underlying59 X2x (fun m hm =>
   X0L rfl UJ ((UD Tryz.underlying3).at m) (X0L rfl UJ ((UD Tryz.underlying3).at m) (X0L rfl UJ ((UD Tryz.underlying3).at m)
    (X0L rfl Vl ((Vd Tryz.underlying9).at m)
     (X0L rfl X7S (VU (p := Yq) (f := Yd) Tryz.underlying57 X2x (by decide) (fun m' hm' => X3d m')) X7V)))))).to
   (fun r => .mk r.1 r.2.1 r.2.2.1 r.2.2.2.1 r.2.2.2.2.1) fun r h => ⟨by rw [Yq]; exact ⟨h.2.2.2.1, h.2.2.2.2.1.2, X3X h.2.2.2.2.1.1⟩, by rw [Yd, X0Z]; rfl⟩
termination_by n => n
decreasing_by omega
theorem X9K : Opens enc Tryz.prog W 59 Yq Yd := X00 X3d
theorem X5b : Opens enc Tryz.prog W 43 (fun _ : Rul => True) X3C :=
 (X0o Tryz.underlying43 X35
  (YA rfl UJ (UD Tryz.underlying3) (YA rfl UJ (UD Tryz.underlying3)
   (YA rfl Vl (Vd Tryz.underlying9) (YA rfl Vl (Vd Tryz.underlying9) (YA rfl Vl (Vd Tryz.underlying9) (YA rfl Vl (Vd Tryz.underlying9) X0N))))))).to
  (fun r => ⟨r.1, r.2.1, r.2.2.1, r.2.2.2.1, r.2.2.2.2.1, r.2.2.2.2.2.1⟩) fun r h => ⟨trivial, rfl⟩
end
end Go.Fw
namespace Go.Fw
open Go Go.Proofs
set_option linter.unusedVariables false
set_option linter.unusedSimpArgs false
theorem X88 : Tryz.prog.cellsOf 63 = 1 := by kernel_rfl
theorem X4f : Tryz.prog.cellsOf 64 = 1 := by kernel_rfl
theorem X83 : Tryz.prog.cellsOf 22 = 1 := by kernel_rfl
theorem X7i : Tryz.prog.cellsOf 23 = 1 := by kernel_rfl
theorem X5u : Tryz.prog.cellsOf 80 = 6 := by kernel_rfl
theorem X3k : Tryz.prog.cellsOf 66 = 3 := by kernel_rfl
theorem X4a : Tryz.prog.cellsOf 77 = 5 := by kernel_rfl
theorem Xas : Tryz.prog.cellsOf 25 = 4 := by kernel_rfl
def X48 (g : Gra) : List D := [.sl 3 (g.nodes.map X8), .sl 5 (g.edges.map Xg), .v (.int .i64 g.nn), .v (.int .i64 g.ne)]
theorem X6l (g : Gra) : Xr g = .agg ((X48 g).map .d) := rfl
section
variable {H : Type} {enc : TypeId × Value → H} {W : World}
theorem X7Q : Opens enc Tryz.prog W 80 VN Xh :=
 (X0o Tryz.underlying80 X5u
  (YA rfl Vl (Vd Tryz.underlying9) (YA rfl X2x X9K X0N))).to
  (fun r => ⟨r.1, r.2.1⟩) fun r h => ⟨⟨h.1, h.2.1⟩, by
   obtain ⟨k, v, u⟩ := r
   cases v
   simp [Xh, Yd]⟩
theorem X37 : Opens enc Tryz.prog W 64 (fun l : List Prp => (∀ c ∈ l, VN c) ∧ l.length ≤ 9223372036854775807) (fun l => [.sl 6 (l.map Xh)]) :=
 X00 fun n => VU Tryz.underlying64 X5u (by decide) fun m _ => X7Q.at m
theorem X7G : Opens enc Tryz.prog W 63 (fun l : List (List UInt8) => (∀ c ∈ l, c.length ≤ 9223372036854775807) ∧ l.length ≤ 9223372036854775807) (fun l => [.sl 1 (l.map Xk)]) :=
 X00 fun n => VU Tryz.underlying63 Vl (by decide) fun m _ => (Vd Tryz.underlying9).at m
theorem X9G : Opens enc Tryz.prog W 66 X0P X8 :=
 (X0o Tryz.underlying66 X3k
  (YA rfl UJ (UD Tryz.underlying3) (YA rfl X88 X7G (YA rfl X4f X37 X0N)))).to
  (fun r => ⟨r.1, r.2.1, r.2.2.1⟩) fun r h => ⟨⟨h.2.1.2, h.2.1.1, h.2.2.1.2, h.2.2.1.1⟩, rfl⟩
theorem X7h : Opens enc Tryz.prog W 77 X1i Xg :=
 (X0o Tryz.underlying77 X4a
  (YA rfl UJ (UD Tryz.underlying3) (YA rfl UJ (UD Tryz.underlying3) (YA rfl UJ (UD Tryz.underlying3)
   (YA rfl Vl (Vd Tryz.underlying9) (YA rfl X4f X37 X0N)))))).to
  (fun r => ⟨r.1, r.2.1, r.2.2.1, r.2.2.2.1, r.2.2.2.2.1⟩) fun r h => ⟨⟨h.2.2.2.1, h.2.2.2.2.1.2, h.2.2.2.2.1.1⟩, rfl⟩
theorem X9A : Opens enc Tryz.prog W 22 (fun l : List Nod => (∀ c ∈ l, X0P c) ∧ l.length ≤ 9223372036854775807) (fun l => [.sl 3 (l.map X8)]) :=
 X00 fun n => VU Tryz.underlying22 X3k (by decide) fun m _ => X9G.at m
theorem X96 : Opens enc Tryz.prog W 23 (fun l : List Edg => (∀ c ∈ l, X1i c) ∧ l.length ≤ 9223372036854775807) (fun l => [.sl 5 (l.map Xg)]) :=
 X00 fun n => VU Tryz.underlying23 X4a (by decide) fun m _ => X7h.at m
theorem X3n : Opens enc Tryz.prog W 25 GraHold X48 :=
 (X0o Tryz.underlying25 Xas
  (YA rfl X83 X9A (YA rfl X7i X96 (YA rfl UJ (UD Tryz.underlying3) (YA rfl UJ (UD Tryz.underlying3) X0N))))).to
  (fun r => ⟨r.1, r.2.1, r.2.2.1, r.2.2.2.1⟩) fun r h => ⟨⟨h.1.2, h.2.1.2, h.1.1, h.2.1.1⟩, rfl⟩
end
end Go.Fw
