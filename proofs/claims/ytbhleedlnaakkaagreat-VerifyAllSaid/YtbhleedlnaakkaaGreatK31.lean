/- The violations of a rule. -/
import Derived.Test.YtbhleedlnaakkaaGreatK25
import Derived.Test.YtbhleedlnaakkaaGreatK30
set_option maxHeartbeats 32000000
namespace Go.Fw
open Go Go.Proofs
set_option maxRecDepth 100000
set_option linter.unusedVariables false
set_option linter.unusedSimpArgs false
theorem X74 (k : Int) : Con Tryz.prog 80 [] [ai k] [] (ai (UN k)) := by
 refine Xa (xs := [ai (UN k)]) Tryz.func80 rfl Tryz.ntmps80 rfl rfl rfl (fun E => ?_)
 unfold UN
 by_cases c1 : k = 1
 ·rw [if_pos c1]
  refine X0 ?_; refine JR ?_; refine Z0 ?_; refine JD ?_; refine X0 ?_; refine X0 ?_; refine JR ?_; refine Z1 ?_; refine JD ?_; refine X4 ?_; refine X0 ?_; refine JR ?_; refine Zl ?_
  refine Z0 ?_; refine JD ?_; refine JT ?_; refine X0 ?_; refine JR ?_; refine Z0 ?_; refine JD ?_
  (show AWP Tryz.prog E _ _ _; refine X1 ?_; exact (show Xd _ _ _ _ _ from ⟨_, St.le_refl _, ⟨rfl, trivial⟩, X2 _⟩))
 rw [if_neg c1]
 by_cases c2 : k = 2
 ·rw [if_pos (.inl c2)]
  refine X0 ?_; refine JR ?_; refine Z0 ?_; refine JD ?_; refine X0 ?_; refine X0 ?_; refine JR ?_; refine Z1 ?_; refine JD ?_; refine X4 ?_; refine X0 ?_; refine JR ?_; refine Zl ?_
  refine Z0 ?_; refine JD ?_; refine JF ?_; refine X0 ?_; refine X0 ?_; refine JR ?_; refine Zl ?_; refine Z0 ?_; refine JD ?_; refine JT ?_; refine X3 ?_; refine JT ?_; refine X0 ?_; refine JR ?_
  refine Z0 ?_; refine JD ?_
  (show AWP Tryz.prog E _ _ _; refine X1 ?_; exact (show Xd _ _ _ _ _ from ⟨_, St.le_refl _, ⟨rfl, trivial⟩, X2 _⟩))
 by_cases c4 : k = 4
 ·rw [if_pos (.inr c4)]
  refine X0 ?_; refine JR ?_; refine Z0 ?_; refine JD ?_; refine X0 ?_; refine X0 ?_; refine JR ?_; refine Z1 ?_; refine JD ?_; refine X4 ?_; refine X0 ?_; refine JR ?_; refine Zl ?_
  refine Z0 ?_; refine JD ?_; refine JF ?_; refine X0 ?_; refine X0 ?_; refine JR ?_; refine Zl ?_; refine Z0 ?_; refine JD ?_; refine JF ?_; refine JR ?_; refine Zl ?_; refine Z0 ?_; refine JD ?_; refine JT ?_
  refine X0 ?_; refine JR ?_; refine Z0 ?_; refine JD ?_
  (show AWP Tryz.prog E _ _ _; refine X1 ?_; exact (show Xd _ _ _ _ _ from ⟨_, St.le_refl _, ⟨rfl, trivial⟩, X2 _⟩))
 rw [if_neg (fun h => h.elim c2 c4)]
 by_cases c3 : k = 3
 ·rw [if_pos (.inl c3)]
  refine X0 ?_; refine JR ?_; refine Z0 ?_; refine JD ?_; refine X0 ?_; refine X0 ?_; refine JR ?_; refine Z1 ?_; refine JD ?_; refine X4 ?_; refine X0 ?_; refine JR ?_; refine Zl ?_
  refine Z0 ?_; refine JD ?_; refine JF ?_; refine X0 ?_; refine X0 ?_; refine JR ?_; refine Zl ?_; refine Z0 ?_; refine JD ?_; refine JF ?_; refine JR ?_; refine Zl ?_; refine Z0 ?_; refine JD ?_; refine JF ?_
  refine X0 ?_; refine X0 ?_; refine JR ?_; refine Zl ?_; refine Z0 ?_; refine JD ?_; refine JT ?_; refine X3 ?_; refine JT ?_; refine X0 ?_; refine JR ?_; refine Z0 ?_; refine JD ?_
  (show AWP Tryz.prog E _ _ _; refine X1 ?_; exact (show Xd _ _ _ _ _ from ⟨_, St.le_refl _, ⟨rfl, trivial⟩, X2 _⟩))
 by_cases c5 : k = 5
 ·rw [if_pos (.inr c5)]
  refine X0 ?_; refine JR ?_; refine Z0 ?_; refine JD ?_; refine X0 ?_; refine X0 ?_; refine JR ?_; refine Z1 ?_; refine JD ?_; refine X4 ?_; refine X0 ?_; refine JR ?_; refine Zl ?_
  refine Z0 ?_; refine JD ?_; refine JF ?_; refine X0 ?_; refine X0 ?_; refine JR ?_; refine Zl ?_; refine Z0 ?_; refine JD ?_; refine JF ?_; refine JR ?_; refine Zl ?_; refine Z0 ?_; refine JD ?_; refine JF ?_
  refine X0 ?_; refine X0 ?_; refine JR ?_; refine Zl ?_; refine Z0 ?_; refine JD ?_; refine JF ?_; refine JR ?_; refine Zl ?_; refine Z0 ?_; refine JD ?_; refine JT ?_; refine X0 ?_; refine JR ?_
  refine Z0 ?_; refine JD ?_
  (show AWP Tryz.prog E _ _ _; refine X1 ?_; exact (show Xd _ _ _ _ _ from ⟨_, St.le_refl _, ⟨rfl, trivial⟩, X2 _⟩))
 rw [if_neg (fun h => h.elim c3 c5)]
 by_cases c6 : k = 6
 ·rw [if_pos c6]
  refine X0 ?_; refine JR ?_; refine Z0 ?_; refine JD ?_; refine X0 ?_; refine X0 ?_; refine JR ?_; refine Z1 ?_; refine JD ?_; refine X4 ?_; refine X0 ?_; refine JR ?_; refine Zl ?_
  refine Z0 ?_; refine JD ?_; refine JF ?_; refine X0 ?_; refine X0 ?_; refine JR ?_; refine Zl ?_; refine Z0 ?_; refine JD ?_; refine JF ?_; refine JR ?_; refine Zl ?_; refine Z0 ?_; refine JD ?_; refine JF ?_
  refine X0 ?_; refine X0 ?_; refine JR ?_; refine Zl ?_; refine Z0 ?_; refine JD ?_; refine JF ?_; refine JR ?_; refine Zl ?_; refine Z0 ?_; refine JD ?_; refine JF ?_; refine X0 ?_; refine JR ?_
  refine Zl ?_; refine Z0 ?_; refine JD ?_; refine JT ?_; refine X0 ?_; refine JR ?_; refine Z0 ?_; refine JD ?_
  (show AWP Tryz.prog E _ _ _; refine X1 ?_; exact (show Xd _ _ _ _ _ from ⟨_, St.le_refl _, ⟨rfl, trivial⟩, X2 _⟩))
 rw [if_neg c6]
 by_cases c7 : k = 7
 ·rw [if_pos c7]
  refine X0 ?_; refine JR ?_; refine Z0 ?_; refine JD ?_; refine X0 ?_; refine X0 ?_; refine JR ?_; refine Z1 ?_; refine JD ?_; refine X4 ?_; refine X0 ?_; refine JR ?_; refine Zl ?_
  refine Z0 ?_; refine JD ?_; refine JF ?_; refine X0 ?_; refine X0 ?_; refine JR ?_; refine Zl ?_; refine Z0 ?_; refine JD ?_; refine JF ?_; refine JR ?_; refine Zl ?_; refine Z0 ?_; refine JD ?_; refine JF ?_
  refine X0 ?_; refine X0 ?_; refine JR ?_; refine Zl ?_; refine Z0 ?_; refine JD ?_; refine JF ?_; refine JR ?_; refine Zl ?_; refine Z0 ?_; refine JD ?_; refine JF ?_; refine X0 ?_; refine JR ?_
  refine Zl ?_; refine Z0 ?_; refine JD ?_; refine JF ?_; refine X0 ?_; refine JR ?_; refine Zl ?_; refine Z0 ?_; refine JD ?_; refine JT ?_; refine X0 ?_; refine JR ?_; refine Z0 ?_; refine JD ?_
  (show AWP Tryz.prog E _ _ _; refine X1 ?_; exact (show Xd _ _ _ _ _ from ⟨_, St.le_refl _, ⟨rfl, trivial⟩, X2 _⟩))
 rw [if_neg c7]
 refine X0 ?_; refine JR ?_; refine Z0 ?_; refine JD ?_; refine X0 ?_; refine X0 ?_; refine JR ?_; refine Z1 ?_; refine JD ?_; refine X4 ?_; refine X0 ?_; refine JR ?_; refine Zl ?_
 refine Z0 ?_; refine JD ?_; refine JF ?_; refine X0 ?_; refine X0 ?_; refine JR ?_; refine Zl ?_; refine Z0 ?_; refine JD ?_; refine JF ?_; refine JR ?_; refine Zl ?_; refine Z0 ?_; refine JD ?_; refine JF ?_
 refine X0 ?_; refine X0 ?_; refine JR ?_; refine Zl ?_; refine Z0 ?_; refine JD ?_; refine JF ?_; refine JR ?_; refine Zl ?_; refine Z0 ?_; refine JD ?_; refine JF ?_; refine X0 ?_; refine JR ?_
 refine Zl ?_; refine Z0 ?_; refine JD ?_; refine JF ?_; refine X0 ?_; refine JR ?_; refine Zl ?_; refine Z0 ?_; refine JD ?_; refine JF ?_; refine X3 ?_; refine X0 ?_; refine JR ?_; refine Z0 ?_
 refine JD ?_
 (show AWP Tryz.prog E _ _ _; refine X1 ?_; exact (show Xd _ _ _ _ _ from ⟨_, St.le_refl _, ⟨rfl, trivial⟩, X2 _⟩))
end Go.Fw
namespace Go.Fw
open Go Go.Proofs
set_option maxRecDepth 100000
set_option linter.unusedVariables false
set_option linter.unusedSimpArgs false
theorem X9S (l : List Vio) (hl : l.length ≤ 9223372036854775807) : Con Tryz.prog 25 [] [.d (.sl 3 (l.map XG)), .d (.sl 3 (l.map XG))] [] (ab true) := by
 refine Xa (xs := [ab true]) Tryz.func25 rfl Tryz.ntmps25 rfl rfl rfl (fun E => ?_)
 have hlm : (l.map XG).length = l.length := by simp
 refine X0 ?_; refine JR ?_; refine Z0 ?_; refine JD ?_; refine X0 ?_; refine X0 ?_; refine JR ?_; refine Z1 ?_; refine Zd ?_; refine Z1 ?_; refine Zd ?_; refine Zv ?_; refine JD ?_; refine JF ?_
 refine X3 ?_; refine X0 ?_; refine X0 ?_; refine JR ?_; refine Z0 ?_; refine JD ?_; refine X4 ?_
 refine Xt (fun i : Nat => i ≤ l.length) (fun i => ⟨26, [(0, .d (.sl 3 (l.map XG))), (1, .d (.sl 3 (l.map XG))), (5, ai i)], []⟩) (fun i => l.length - i) 0 (Nat.zero_le _)
  (X6 rfl JM trivial) ?_
 intro i hi
 by_cases hil : i < l.length
 case neg =>
  obtain rfl : i = l.length := by omega
  have hn : ¬ ((l.length : Nat) : Int) < (l.map XG).length := by omega
  refine X0 ?_; refine X0 ?_; refine JR ?_; refine Z1 ?_; refine Z1 ?_; refine Zd ?_; refine Z8 ?_; refine JD ?_; refine JF ?_; refine Xp ?_; refine X0 ?_; refine JR ?_; refine Z0 ?_; refine JD ?_
  exact X1 ⟨_, St.le_refl _, ⟨rfl, trivial⟩, X2 _⟩
 have hn : (i : Int) < (l.map XG).length := by omega
 obtain ⟨x, hx⟩ := Xm (l := l) hil
 have hxc : (l.map XG)[i]? = some (XG x) := Xq hx
 obtain ⟨x1, x2, x3⟩ := x
 simp only [XG] at hxc
 clear hx
 have hz := VW [.int .i64 x1, .int .i64 x2, .int .i64 x3] [.i .i64, .i .i64, .i .i64] rfl
 refine X0 ?_; refine X0 ?_; refine JR ?_; refine Z1 ?_; refine Z1 ?_; refine Zd ?_; refine Z8 ?_; refine JD ?_; refine JT ?_; refine X3 ?_; refine X0 ?_; refine X4 ?_; refine X0 ?_
 refine JR ?_; refine Z1 ?_; refine Z1 ?_; refine Zj ?_; refine ZK ?_; refine Z1 ?_; refine Z1 ?_; refine Zj ?_; refine ZK ?_
 refine Z0j (us := [.int .i64 x1, .int .i64 x2, .int .i64 x3]) (vs := [.int .i64 x1, .int .i64 x2, .int .i64 x3]) (r := true) ?_ (hk := by exact X3c) (hr := by exact hz); refine JD ?_; refine JF ?_; refine X3 ?_
 refine JR ?_; refine Z1 ?_; refine Zb ?_; refine Z0 ?_; refine JD ?_
 exact ⟨i + 1, hil, by omega, X6 rfl JM trivial⟩
end Go.Fw
namespace Go.Fw
open Go Go.Proofs
set_option maxRecDepth 100000
set_option linter.unusedVariables false
set_option linter.unusedSimpArgs false
theorem X5d (s : List Rul) (g : Gra) (hg : GraHold g) (hs : s.length ≤ 9223372036854775807) : Con Tryz.prog 27 [] [.d (.sl 6 (s.map Xo)), Xr g] [] (.d (.sl 3 ((Y7 s g).map XG))) := by
 refine Xa (xs := [.d (.sl 3 ((Y7 s g).map XG))]) Tryz.func27 rfl Tryz.ntmps27 rfl rfl rfl (fun E => ?_)
 have hv := X8J s hs
 have hc := X24 g hg
 cases hsv : YY s with
 | false =>
  rw [hsv] at hv
  rw [show Y7 s g = [] from if_pos (.inl hsv)]
  clear hc hg
  obtain ⟨ns, es, nn, ne⟩ := g
  simp only [Xr, List.map_nil] at *
  refine X0 ?_; refine JR ?_; refine ZA (γ := 100) ?_; refine Z0 ?_; refine JD ?_; refine X0 ?_; refine X0 ?_; refine JR ?_; refine Z1 ?_; refine Z9 (hcon := hv) ?_; refine Zu ?_; refine JD ?_; refine JT ?_
  refine X0 ?_; refine JR ?_; refine Z0 ?_; refine JD ?_
  (show AWP Tryz.prog E _ _ _; refine X1 ?_; exact (show Xd _ _ _ _ _ from ⟨_, Xi 4 (y := .d (.sl 3 [])) (AVal.le_nil 3), ⟨rfl, trivial⟩, X2 _⟩))
 | true =>
 rw [hsv] at hv
 have hof := fun r => X3p r g hg
 clear hc
 have hmax := X2h (s := s) (g := g)
 have hlen := (X17 hsv).1
 have hT := X2S (g := g) hsv
 generalize Y7 s g = T at *
 have hpl : ∀ r : Rul, (ofS r g).length ≤ 4000000 := fun r => X2M
 generalize hF : (fun r : Rul => ofS r g) = F at *
 have hFr : ∀ r, ofS r g = F r := fun r => by rw [← hF]
 simp only [hFr] at hof hpl
 clear hF hFr hg hsv
 obtain ⟨ns, es, nn, ne⟩ := g
 simp only [Xr] at *
 have hsm : (s.map Xo).length = s.length := by simp
 refine X0 ?_; refine JR ?_; refine ZA (γ := 100) ?_; refine Z0 ?_; refine JD ?_; refine X0 ?_; refine X0 ?_; refine JR ?_; refine Z1 ?_; refine Z9 (hcon := hv) ?_; refine Zu ?_; refine JD ?_; refine JF ?_
 refine X3 ?_; refine X0 ?_; refine JR ?_; refine Z0 ?_; refine JD ?_; refine X0 ?_; refine X0 ?_; refine JR ?_; refine Z0 ?_; refine JD ?_; refine X4 ?_
 clear hv
 refine XD (Un 5 130 3 rfl rfl rfl) ?_
 refine Xt (ι := Nat × List Vio) (fun q => q.1 ≤ s.length ∧ q.2 ++ Y0 F q.1 (s.drop q.1) = T) (fun q => ⟨46, [(0, .d (.sl 6 (s.map Xo))), (3, .ptr 100 0), (5, .own 130 (q.2.map XG).length), (6, ai q.1)], [(100, .box [.d (.sl 3 (ns.map X8)), .d (.sl 5 (es.map Xg)), ai nn, ai ne]), (130, .row 3 (q.2.map XG))]⟩) (fun q => s.length - q.1) (0, []) ⟨Nat.zero_le _, by rw [hT]; rfl⟩
  (X6 rfl JM ⟨rfl, rfl, trivial⟩) ?_
 rintro ⟨i, acc⟩ ⟨hi, hg⟩
 simp only at hi hg
 by_cases hil : i < s.length
 case neg =>
  rw [List.drop_of_length_le (by omega), Y0, List.append_nil] at hg
  have hn : ¬ (i : Int) < (s.map Xo).length := by omega
  refine X0 ?_; refine X0 ?_; refine JR ?_; refine Z1 ?_; refine Z1 ?_; refine Zd ?_; refine Z8 ?_; refine JD ?_; refine JF ?_; refine Xp ?_; refine X0 ?_; refine JR ?_; refine Z1 ?_; refine Z0 ?_
  refine JD ?_
  rw [← hg]
  clear hT hg
  refine XD (U5 130 rfl) ?_
  refine XD (U7 4 130 rfl rfl rfl) ?_
  (show AWP Tryz.prog E _ _ _; refine X1 ?_; exact (show Xd _ _ _ _ _ from ⟨_, St.le_refl _, ⟨rfl, trivial⟩, X2 _⟩))
 have hn : (i : Int) < (s.map Xo).length := by omega
 obtain ⟨x, hx⟩ := Xm (l := s) hil
 have hxc : (s.map Xo)[i]? = some (Xo x) := Xq hx
 rw [X49 hx] at hg
 have hox := hof x
 have hLl := hpl x
 generalize hTL : Y0 F (i + 1) (s.drop (i + 1)) = TL at *
 generalize F x = L at *
 obtain ⟨rk, rn, rname, rkey, rsrc, rdst⟩ := x
 simp only [Xv, Xo] at hox hxc
 clear hx hof hT
 refine X0 ?_; refine X0 ?_; refine JR ?_; refine Z1 ?_; refine Z1 ?_; refine Zd ?_; refine Z8 ?_; refine JD ?_; refine JT ?_; refine X3 ?_; refine X0 ?_; refine X4 ?_; refine X0 ?_
 refine JR ?_; refine Z1 ?_; refine Z1 ?_; refine Zj ?_; refine ZK ?_; refine ZL ?_; refine Z9 (hcon := hox) ?_; refine Z0 ?_; refine JD ?_; refine X0 ?_; refine JR ?_; refine Z0 ?_; refine JD ?_; refine X4 ?_
 refine Xt (ι := Nat × List Vio) (fun q => q.1 ≤ L.length ∧ q.2 ++ (V7 i (L.drop q.1) ++ TL) = T) (fun q => ⟨46, [(0, .d (.sl 6 (s.map Xo))), (3, .ptr 100 0), (5, .own 130 (q.2.map XG).length), (6, ai i), (7, .d (.sl 2 (L.map Xc))), (8, ai q.1)], [(100, .box [.d (.sl 3 (ns.map X8)), .d (.sl 5 (es.map Xg)), ai nn, ai ne]), (130, .row 3 (q.2.map XG))]⟩) (fun q => L.length - q.1) (0, acc) ⟨Nat.zero_le _, by simpa using hg⟩
  (X6 rfl JM ⟨rfl, rfl, trivial⟩) ?_
 clear hg
 rintro ⟨k, acc2⟩ ⟨hk, hg⟩
 simp only at hk hg
 have hroom := X4v hg hmax
 have hLm : (L.map Xc).length = L.length := by simp
 by_cases hkl : k < L.length
 case neg =>
  rw [List.drop_of_length_le (by omega)] at hg
  have hg : acc2 ++ TL = T := hg
  have hn2 : ¬ (k : Int) < (L.map Xc).length := by omega
  refine X0 ?_; refine X0 ?_; refine JR ?_; refine Z1 ?_; refine Z1 ?_; refine Zd ?_; refine Z8 ?_; refine JD ?_; refine JF ?_; refine Xp ?_; refine JR ?_; refine Z1 ?_; refine Zb ?_; refine Z0 ?_
  refine JD ?_
  exact ⟨(i + 1, acc2), ⟨by show i + 1 ≤ s.length; omega, by show acc2 ++ Y0 F (i + 1) (s.drop (i + 1)) = T; rw [hTL]; exact hg⟩, by show s.length - (i + 1) < s.length - i; omega, X6 rfl JM ⟨rfl, rfl, trivial⟩⟩
 have hn2 : (k : Int) < (L.map Xc).length := by omega
 obtain ⟨p, hp⟩ := Xm (l := L) hkl
 have hpc : (L.map Xc)[k]? = some (Xc p) := Xq hp
 rw [X4c hp] at hg
 obtain ⟨pa, pb⟩ := p
 simp only [Xc] at hpc hg
 clear hp hxc hox
 have happ : (acc2 ++ [(⟨(i : Nat), pa, pb⟩ : Vio)]).map XG = acc2.map XG ++ [XG ⟨(i : Nat), pa, pb⟩] := by simp
 refine X0 ?_; refine X0 ?_; refine JR ?_; refine Z1 ?_; refine Z1 ?_; refine Zd ?_; refine Z8 ?_; refine JD ?_; refine JT ?_; refine X3 ?_; refine X0 ?_; refine X4 ?_; refine JR ?_
 refine Z1 ?_; refine Z1 ?_; refine Z1 ?_; refine Z1 ?_; refine Zj ?_; refine Z0l (n := 2) (sz := 1) (k := 0) ?_; refine Zk ?_; refine Z1 ?_; refine Z1 ?_; refine Zj ?_; refine Z0l (n := 2) (sz := 1) (k := 1) ?_
 refine Zk ?_; refine Zx ?_; refine Z5 ?_; refine Z6 ?_; refine Z0 ?_; refine JD ?_; refine JR ?_; refine Z1 ?_; refine Zb ?_; refine Z0 ?_; refine JD ?_
 refine ⟨(k + 1, acc2 ++ [⟨(i : Nat), pa, pb⟩]), ⟨by show k + 1 ≤ L.length; omega, by simpa using hg⟩, by show L.length - (k + 1) < L.length - k; omega, ?_⟩
 dsimp only
 rw [happ]
 exact X6 rfl ⟨JL, JL, AVal.le_of_eq (by refine Eq.trans (b := AVal.own 130 (_ + _)) rfl ?_; simp only [List.length_append, List.length_map, List.length_cons, List.length_nil]), JL, JL, JL, trivial⟩ ⟨rfl, rfl, trivial⟩
theorem X8z (s : List Rul) (g : Gra) (hg : GraHold g) (hs : s.length ≤ 9223372036854775807) : Con Tryz.prog 29 [] [.d (.sl 6 (s.map Xo)), Xr g] [] (ai (UP s g)) := by
 refine Xa (xs := [ai (UP s g)]) Tryz.func29 rfl Tryz.ntmps29 rfl rfl rfl (fun E => ?_)
 have ha := X5d s g hg hs
 cases hl : Y7 s g with
 | nil =>
  rw [X3W hl]
  rw [hl] at ha
  clear hg
  obtain ⟨ns, es, nn, ne⟩ := g
  simp only [Xr, List.map_nil] at *
  refine X0 ?_; refine JR ?_; refine ZA (γ := 100) ?_; refine Z0 ?_; refine JD ?_; refine X0 ?_; refine JR ?_; refine Z1 ?_; refine ZL ?_; refine Z9 (hcon := ha) ?_; refine Z0 ?_; refine JD ?_; refine X0 ?_
  refine X0 ?_; refine JR ?_; refine Z1 ?_; refine Zd ?_; refine Zl ?_; refine JD ?_; refine JT ?_; refine X0 ?_; refine JR ?_; refine Z0 ?_; refine JD ?_
  (show AWP Tryz.prog E _ _ _; refine X1 ?_; exact (show Xd _ _ _ _ _ from ⟨_, St.le_refl _, ⟨rfl, trivial⟩, X2 _⟩))
 | cons v r =>
  obtain ⟨k, x, e, hk, hfi⟩ := X5z hl
  rw [hfi]
  rw [hl] at ha
  have hfa := X74 x.kind
  have hxc : (s.map Xo)[k]? = some (Xo x) := Xq hk
  have hkl : k < (s.map Xo).length := (List.getElem?_eq_some_iff.1 hxc).1
  generalize UN x.kind = z at *
  obtain ⟨va, vb, vc⟩ := v
  simp only at e
  subst e
  obtain ⟨rk, rn, rname, rkey, rsrc, rdst⟩ := x
  clear hg hl hk hfi
  obtain ⟨ns, es, nn, ne⟩ := g
  simp only [Xr, List.map_cons, XG, Xo] at *
  have h0 : (([.v (.int .i64 (k : Nat)), .v (.int .i64 vb), .v (.int .i64 vc)] : List D) :: r.map XG)[0]? = some [.v (.int .i64 (k : Nat)), .v (.int .i64 vb), .v (.int .i64 vc)] := rfl
  have hne : ¬ ((([.v (.int .i64 (k : Nat)), .v (.int .i64 vb), .v (.int .i64 vc)] : List D) :: r.map XG).length : Int) = 0 := by simp only [List.length_cons]; omega
  generalize hR : ([.v (.int .i64 (k : Nat)), .v (.int .i64 vb), .v (.int .i64 vc)] : List D) :: r.map XG = R at *
  refine X0 ?_; refine JR ?_; refine ZA (γ := 100) ?_; refine Z0 ?_; refine JD ?_; refine X0 ?_; refine JR ?_; refine Z1 ?_; refine ZL ?_; refine Z9 (hcon := ha) ?_; refine Z0 ?_; refine JD ?_; refine X0 ?_
  refine X0 ?_; refine JR ?_; refine Z1 ?_; refine Zd ?_; refine Zl ?_; refine JD ?_; refine JF ?_; refine X3 ?_; refine X0 ?_; refine JR ?_; refine Z1 ?_; refine Z1 ?_; refine Zj ?_; refine ZN ?_
  refine Zk ?_; refine Zj ?_; refine ZN ?_; refine Zk ?_; refine Z9 (hcon := hfa) ?_; refine Z0 ?_; refine JD ?_
  (show AWP Tryz.prog E _ _ _; refine X1 ?_; exact (show Xd _ _ _ _ _ from ⟨_, St.le_refl _, ⟨rfl, trivial⟩, X2 _⟩))
end Go.Fw
namespace Go.Fw
open Go Go.Proofs
set_option maxRecDepth 100000
set_option linter.unusedVariables false
set_option linter.unusedSimpArgs false
theorem X8W (s : List Rul) (g : Gra) (hg : GraHold g) (hs : s.length ≤ 9223372036854775807) : Con Tryz.prog 8 [] [.d (.sl 6 (s.map Xo)), Xr g] [] (ab true) := by
 refine Xa (xs := [ab true]) Tryz.func8 rfl Tryz.ntmps8 rfl rfl rfl (fun E => ?_)
 have ha := X4J
 have hsm : (s.map Xo).length = s.length := by simp
 have hfw := X4R g hg
 have h1 := X2a s g hg hs
 have h2 := X5d s g hg hs
 have h4 := X3s s g hg hs
 have h5 := X8z s g hg hs
 have hlen := X2h (s := s) (g := g)
 have h3 := X9S (Y7 s g) (by omega)
 generalize X0M g = fw at *
 generalize Y7 s g = l at *
 generalize UP s g = z at *
 clear hg hlen
 obtain ⟨ns, es, nn, ne⟩ := g
 simp only [Xr] at *
 have hz : z = z := rfl
 cases fw with
 | false =>
  refine X0 ?_; refine JR ?_; refine ZA (γ := 100) ?_; refine Z0 ?_; refine JD ?_; refine X0 ?_; refine X0 ?_; refine JR ?_; refine ZL ?_; refine Z9 (hcon := hfw) ?_; refine Zu ?_; refine Z1 ?_; refine Zo ?_
  refine Zo ?_; refine Zo ?_; refine Zn ?_; refine JD ?_; refine JT ?_; refine X0 ?_; refine JR ?_; refine Z9 (hcon := ha) ?_; refine Z0 ?_; refine JD ?_
  (show AWP Tryz.prog E _ _ _; refine X1 ?_; exact (show Xd _ _ _ _ _ from ⟨_, St.le_refl _, ⟨rfl, trivial⟩, X2 _⟩))
 | true =>
  by_cases c1 : 60 < s.length
  ·have c1' : (60 : Int) < (s.map Xo).length := by omega
   refine X0 ?_; refine JR ?_; refine ZA (γ := 100) ?_; refine Z0 ?_; refine JD ?_; refine X0 ?_; refine X0 ?_; refine JR ?_; refine ZL ?_; refine Z9 (hcon := hfw) ?_; refine Zu ?_; refine Z1 ?_; refine Z1 ?_
   refine Zd ?_; refine Zs ?_; refine Zq ?_; refine JD ?_; refine JT ?_; refine X0 ?_; refine JR ?_; refine Z9 (hcon := ha) ?_; refine Z0 ?_; refine JD ?_
   (show AWP Tryz.prog E _ _ _; refine X1 ?_; exact (show Xd _ _ _ _ _ from ⟨_, St.le_refl _, ⟨rfl, trivial⟩, X2 _⟩))
  have c1' : ¬ (60 : Int) < (s.map Xo).length := by omega
  refine X0 ?_; refine JR ?_; refine ZA (γ := 100) ?_; refine Z0 ?_; refine JD ?_; refine X0 ?_; refine X0 ?_; refine JR ?_; refine ZL ?_; refine Z9 (hcon := hfw) ?_; refine Zu ?_; refine Z1 ?_; refine Z1 ?_
  refine Zd ?_; refine Zs ?_; refine Zq ?_; refine JD ?_; refine JF ?_; refine X3 ?_; refine X0 ?_; refine JR ?_; refine Z1 ?_; refine ZL ?_; refine Z9 (hcon := h1) ?_; refine Z1 ?_; refine ZL ?_
  refine Z9 (hcon := h2) ?_; refine Z9 (hcon := h3) ?_; refine Z1 ?_; refine Z1 ?_; refine ZL ?_; refine Z9 (hcon := h4) ?_; refine Z1 ?_; refine ZL ?_; refine Z9 (hcon := h5) ?_; refine Zl ?_; refine Zn ?_; refine Z1 ?_
  refine Z9 (hcon := ha) ?_; refine Zn ?_; refine Z0 ?_; refine JD ?_
  (show AWP Tryz.prog E _ _ _; refine X1 ?_; exact (show Xd _ _ _ _ _ from ⟨_, St.le_refl _, ⟨rfl, trivial⟩, X2 _⟩))
end Go.Fw
namespace Go.Fw
open Go Go.Proofs
set_option linter.unusedVariables false
set_option linter.unusedSimpArgs false
section
variable {H : Type} {enc : TypeId × Value → H} {W : World}
theorem X7H : Opens enc Tryz.prog W 43 (fun _ : Rul => True) Xo := X5b
theorem X8e : Opens enc Tryz.prog W 26 (fun l : List Rul => (∀ c ∈ l, True) ∧ l.length ≤ 9223372036854775807) (fun l => [.sl 6 (l.map Xo)]) :=
 X00 fun n => VU Tryz.underlying26 X35 (by decide) fun m _ => X7H.at m
end
end Go.Fw
