/- The reference's step and all steps. -/
import Derived.Test.YtonekjkmnhfjmaaGreatDoorK45
set_option maxHeartbeats 16000000
namespace Go.Fw
open Go Go.Proofs
set_option maxRecDepth 100000
set_option linter.unusedVariables false
set_option linter.unusedSimpArgs false
theorem Xek (g : Gra) (c : Chg) (hg : GV g) (hv : Ym c.v) : Con Tryz.prog 67 [] [Xj g, Xu c] [] (.tup [Xj (XW g c).1, ai (XW g c).2]) := by
 refine Xc (xs := [Xj (XW g c).1, ai (XW g c).2]) Tryz.func67 rfl Tryz.ntmps67 rfl rfl rfl (fun E => ?_)
 have hk := Xfa c hv
 unfold XW
 by_cases hc : YZ c ≠ 0
 ·rw [if_pos hc]
  generalize YZ c = e at *
  obtain ⟨op, id, src, dst, name, ⟨vk, vn, vd, vs, vl⟩⟩ := c
  obtain ⟨ns, es, nn, ne⟩ := g
  simp only [Xj, Xu, Y1, List.map_nil] at *
  refine Qfh ?_; refine Qb ?_; refine QZd ?_; refine Qxi ?_; refine QCa ?_
  (show AWP Tryz.prog E _ _ _; refine X1 ?_; exact (show Xd _ _ _ _ _ from ⟨_, YU 102 (cs' := [.d (.sl 3 []), .d (.sl 5 []), ai 0, ai 0]) rfl JM rfl, ⟨⟨102, 0, _, rfl, rfl, .inr ⟨4, _, rfl, rfl, rfl, rfl⟩⟩, rfl, trivial⟩, X3 _⟩))
 rw [if_neg hc]
 have hc : YZ c = 0 := by simpa using hc
 rw [hc] at hk
 obtain ⟨⟨o1, o8⟩, hid, -, -⟩ := X46 hc
 have hfit : ∀ n ∈ g.nodes, X1n n := fun n hn => by
  have hp := (hg.nodes n hn).2.2
  have h1 := hp.ll
  have h2 := hp.pl
  exact ⟨by omega, by omega, hp.pv⟩
 have hl1 := hg.nl
 have hl2 := hg.el
 have hN := fun k => Xaa g k (by omega) hfit
 have hE := Xis g c.id (by omega)
 have hgN : ∀ k, Yc g.nodes k = YS g.nodes k := fun _ => rfl
 have hgE : X0B g.edges c.id = Uw g.edges c.id := rfl
 simp only [hgN] at hN
 rw [hgE] at hE
 have hN1 := hN c.id
 have hN2 := hN c.src
 have hN3 := hN c.dst
 have hpn := XaA g ⟨c.id, [], []⟩ (by omega) (by show 0 ≤ c.id; omega) (by show c.id ≤ 1000000; omega)
 have hpe := X8N g ⟨c.id, c.src, c.dst, c.name, []⟩ (by omega) (by show 0 ≤ c.id; omega) (by show c.id ≤ 1000000; omega)
 have hon := fun n hn => Xd3 g c n hg hn hv hid
 have hoe := fun n hn => XcI g c n hg hn hv hid
 have hlm1 : (g.nodes.map X9).length = g.nodes.length := by simp
 have hlm2 : (g.edges.map Xf).length = g.edges.length := by simp
 clear hN hfit hgN hgE hc hv
 unfold Uk
 rw [X3r, X7l, X3r, X3r]
 clear hg
 by_cases h1 : c.op = 1
 ·rw [if_pos h1]
  clear hon hoe hpe hN2 hN3
  cases hn1 : YS g.nodes c.id with
  | some n =>
   rw [hn1] at hN1
   simp only [Option.isSome_some, Option.getD_some, if_true] at hN1 ⊢
   clear hpn
   obtain ⟨nid, nl, np⟩ := n
   generalize (Uw g.edges c.id).isSome = eb at *
   generalize (Uw g.edges c.id).getD X19 = ed at *
   obtain ⟨op, id, src, dst, name, ⟨vk, vn, vd, vs, vl⟩⟩ := c
   obtain ⟨ns, es, nn, ne⟩ := g
   obtain ⟨did, dsrc, ddst, dtyp, dps⟩ := ed
   simp only [Xj, Xu, Y1, Yo, Uj, List.map_nil] at *
   refine Qyi ?_; refine Qzc ?_; refine Qh ?_; refine Qpe ?_
   (show AWP Tryz.prog E _ _ _; refine X1 ?_; exact (show Xd _ _ _ _ _ from ⟨_, YU 102 (cs' := [.d (.sl 3 []), .d (.sl 5 []), ai 0, ai 0]) rfl JM rfl, ⟨⟨102, 0, _, rfl, rfl, .inr ⟨4, _, rfl, rfl, rfl, rfl⟩⟩, rfl, trivial⟩, X3 _⟩))
  | none =>
   rw [hn1] at hN1
   simp only [Option.isSome_none, Option.getD_none, Bool.false_eq_true, if_false] at hN1 ⊢
   generalize (Uw g.edges c.id).isSome = eb at *
   generalize (Uw g.edges c.id).getD X19 = ed at *
   obtain ⟨did, dsrc, ddst, dtyp, dps⟩ := ed
   by_cases h2 : 2000 ≤ g.nodes.length
   ·rw [if_pos h2]
    have h2' : (2000 : Int) ≤ (g.nodes.map X9).length := by omega
    clear hpn
    obtain ⟨op, id, src, dst, name, ⟨vk, vn, vd, vs, vl⟩⟩ := c
    obtain ⟨ns, es, nn, ne⟩ := g
    simp only [Xj, Xu, Y1, Yo, Ub, Uj, List.map_nil] at *
    refine Qyi ?_; refine Qzc ?_; refine Qh ?_; refine Qye ?_; refine Z3 ?_; refine Zm ?_; refine Qpe ?_
    (show AWP Tryz.prog E _ _ _; refine X1 ?_; exact (show Xd _ _ _ _ _ from ⟨_, YU 102 (cs' := [.d (.sl 3 []), .d (.sl 5 []), ai 0, ai 0]) rfl JM rfl, ⟨⟨102, 0, _, rfl, rfl, .inr ⟨4, _, rfl, rfl, rfl, rfl⟩⟩, rfl, trivial⟩, X3 _⟩))
   ·rw [if_neg h2]
    have h2' : ¬ (2000 : Int) ≤ (g.nodes.map X9).length := by omega
    generalize Ui g ⟨c.id, [], []⟩ = g' at *
    obtain ⟨op, id, src, dst, name, ⟨vk, vn, vd, vs, vl⟩⟩ := c
    obtain ⟨ns, es, nn, ne⟩ := g
    obtain ⟨ns', es', nn', ne'⟩ := g'
    simp only [Xj, Xu, Y1, Yo, Ub, Uj, List.map_nil] at *
    refine Qyi ?_; refine Qzc ?_; refine Qh ?_; refine Qye ?_; refine Z3 ?_; refine Zm ?_; refine Qj ?_; refine QEh ?_; refine ZJ ?_; refine Zr (hcon := hpn) ?_; refine QCa ?_
    (show AWP Tryz.prog E _ _ _; refine X1 ?_; exact (show Xd _ _ _ _ _ from ⟨_, St.le_refl _, ⟨⟨102, 0, _, rfl, rfl, .inr ⟨4, _, rfl, rfl, rfl, rfl⟩⟩, rfl, trivial⟩, X3 _⟩))
 rw [if_neg h1]
 by_cases h6 : c.op = 6
 ·rw [if_pos h6]
  clear hon hoe hpn
  generalize (YS g.nodes c.id).isSome = nb at *
  generalize (YS g.nodes c.id).getD Ub = nd at *
  generalize (YS g.nodes c.src).getD Ub = sd at *
  generalize (YS g.nodes c.dst).getD Ub = dd at *
  generalize (YS g.nodes c.src).isSome = sb at *
  generalize (YS g.nodes c.dst).isSome = db at *
  generalize (Uw g.edges c.id).isSome = eb at *
  generalize (Uw g.edges c.id).getD X19 = ed at *
  obtain ⟨did, dsrc, ddst, dtyp, dps⟩ := ed
  obtain ⟨nid, nl, np⟩ := nd
  obtain ⟨sid, sl, sp⟩ := sd
  obtain ⟨tid, tl, tp⟩ := dd
  cases eb with
  | true =>
   simp only [if_true]
   clear hpe
   obtain ⟨op, id, src, dst, name, ⟨vk, vn, vd, vs, vl⟩⟩ := c
   obtain ⟨ns, es, nn, ne⟩ := g
   simp only [Xj, Xu, Y1, Yo, Uj, List.map_nil] at *
   refine Qzi ?_; refine Qpe ?_
   (show AWP Tryz.prog E _ _ _; refine X1 ?_; exact (show Xd _ _ _ _ _ from ⟨_, YU 102 (cs' := [.d (.sl 3 []), .d (.sl 5 []), ai 0, ai 0]) rfl JM rfl, ⟨⟨102, 0, _, rfl, rfl, .inr ⟨4, _, rfl, rfl, rfl, rfl⟩⟩, rfl, trivial⟩, X3 _⟩))
  | false =>
   simp only [Bool.false_eq_true, if_false]
   by_cases hsd : sb = false ∨ db = false
   ·rw [if_pos hsd]
    clear hpe
    obtain ⟨op, id, src, dst, name, ⟨vk, vn, vd, vs, vl⟩⟩ := c
    obtain ⟨ns, es, nn, ne⟩ := g
    simp only [Xj, Xu, Y1, Yo, Uj, List.map_nil] at *
    cases sb with
    | false =>
     refine Qzi ?_; refine Qj ?_; refine Qwe ?_; refine QJ ?_; refine ZB ?_; refine Qpe ?_
     (show AWP Tryz.prog E _ _ _; refine X1 ?_; exact (show Xd _ _ _ _ _ from ⟨_, YU 102 (cs' := [.d (.sl 3 []), .d (.sl 5 []), ai 0, ai 0]) rfl JM rfl, ⟨⟨102, 0, _, rfl, rfl, .inr ⟨4, _, rfl, rfl, rfl, rfl⟩⟩, rfl, trivial⟩, X3 _⟩))
    | true =>
     obtain rfl : db = false := by simpa using hsd
     refine Qzi ?_; refine Qj ?_; refine Qwe ?_; refine Qq ?_; refine Zd ?_; refine ZE ?_; refine Qpe ?_
     (show AWP Tryz.prog E _ _ _; refine X1 ?_; exact (show Xd _ _ _ _ _ from ⟨_, YU 102 (cs' := [.d (.sl 3 []), .d (.sl 5 []), ai 0, ai 0]) rfl JM rfl, ⟨⟨102, 0, _, rfl, rfl, .inr ⟨4, _, rfl, rfl, rfl, rfl⟩⟩, rfl, trivial⟩, X3 _⟩))
   rw [if_neg hsd]
   obtain ⟨rfl, rfl⟩ : sb = true ∧ db = true := by simpa [not_or] using hsd
   by_cases h4 : 4000 ≤ g.edges.length
   ·rw [if_pos h4]
    have h4' : (4000 : Int) ≤ (g.edges.map Xf).length := by omega
    clear hpe
    obtain ⟨op, id, src, dst, name, ⟨vk, vn, vd, vs, vl⟩⟩ := c
    obtain ⟨ns, es, nn, ne⟩ := g
    simp only [Xj, Xu, Y1, Yo, Uj, List.map_nil] at *
    refine Qzi ?_; refine Qj ?_; refine Qwe ?_; refine Qq ?_; refine Zd ?_; refine Qxc ?_; refine Z3 ?_; refine Zm ?_; refine Qpe ?_
    (show AWP Tryz.prog E _ _ _; refine X1 ?_; exact (show Xd _ _ _ _ _ from ⟨_, YU 102 (cs' := [.d (.sl 3 []), .d (.sl 5 []), ai 0, ai 0]) rfl JM rfl, ⟨⟨102, 0, _, rfl, rfl, .inr ⟨4, _, rfl, rfl, rfl, rfl⟩⟩, rfl, trivial⟩, X3 _⟩))
   rw [if_neg h4]
   have h4' : ¬ (4000 : Int) ≤ (g.edges.map Xf).length := by omega
   generalize Vs g ⟨c.id, c.src, c.dst, c.name, []⟩ = g' at *
   obtain ⟨op, id, src, dst, name, ⟨vk, vn, vd, vs, vl⟩⟩ := c
   obtain ⟨ns, es, nn, ne⟩ := g
   obtain ⟨ns', es', nn', ne'⟩ := g'
   simp only [Xj, Xu, Y1, Yo, Uj, List.map_nil] at *
   refine Qzi ?_; refine Qj ?_; refine Qwe ?_; refine Qq ?_; refine Zd ?_; refine Qxc ?_; refine Z3 ?_; refine Zm ?_; refine Qj ?_; refine QEh ?_; refine Qke ?_; refine QIb ?_; refine ZJ ?_; refine Zr (hcon := hpe) ?_; refine QCa ?_
   (show AWP Tryz.prog E _ _ _; refine X1 ?_; exact (show Xd _ _ _ _ _ from ⟨_, St.le_refl _, ⟨⟨102, 0, _, rfl, rfl, .inr ⟨4, _, rfl, rfl, rfl, rfl⟩⟩, rfl, trivial⟩, X3 _⟩))
 rw [if_neg h6]
 clear hpn hpe hN2 hN3
 by_cases h7 : c.op = 7 ∨ c.op = 8
 ·rw [if_pos h7]
  clear hon
  generalize (YS g.nodes c.id).isSome = nb at *
  generalize (YS g.nodes c.id).getD Ub = nd at *
  obtain ⟨nid, nl, np⟩ := nd
  cases he : Uw g.edges c.id with
  | none =>
   rw [he] at hE
   simp only [Option.isSome_none, Option.getD_none] at hE ⊢
   clear hoe
   obtain ⟨op, id, src, dst, name, ⟨vk, vn, vd, vs, vl⟩⟩ := c
   obtain ⟨ns, es, nn, ne⟩ := g
   simp only [Xj, Xu, Y1, Yo, Uj, X19, List.map_nil] at *
   rcases h7 with rfl | rfl
   ·refine Qyi ?_; refine QGc ?_; refine QAa ?_; refine Qwe ?_; refine Qpe ?_
    (show AWP Tryz.prog E _ _ _; refine X1 ?_; exact (show Xd _ _ _ _ _ from ⟨_, YU 102 (cs' := [.d (.sl 3 []), .d (.sl 5 []), ai 0, ai 0]) rfl JM rfl, ⟨⟨102, 0, _, rfl, rfl, .inr ⟨4, _, rfl, rfl, rfl, rfl⟩⟩, rfl, trivial⟩, X3 _⟩))
   ·refine Qyi ?_; refine QGc ?_; refine QLa ?_; refine Qwe ?_; refine Qpe ?_
    (show AWP Tryz.prog E _ _ _; refine X1 ?_; exact (show Xd _ _ _ _ _ from ⟨_, YU 102 (cs' := [.d (.sl 3 []), .d (.sl 5 []), ai 0, ai 0]) rfl JM rfl, ⟨⟨102, 0, _, rfl, rfl, .inr ⟨4, _, rfl, rfl, rfl, rfl⟩⟩, rfl, trivial⟩, X3 _⟩))
  | some e =>
   rw [he] at hE
   simp only [Option.isSome_some, Option.getD_some] at hE ⊢
   replace hoe := hoe e he
   generalize X0o g c e = g' at *
   obtain ⟨op, id, src, dst, name, ⟨vk, vn, vd, vs, vl⟩⟩ := c
   obtain ⟨ns, es, nn, ne⟩ := g
   obtain ⟨⟨ns', es', nn', ne'⟩, ee⟩ := g'
   obtain ⟨did, dsrc, ddst, dtyp, dps⟩ := e
   simp only [Xj, Xu, Y1, Yo, Uj, List.map_nil] at *
   rcases h7 with rfl | rfl
   ·refine Qyi ?_; refine QGc ?_; refine QAa ?_; refine Qhh ?_; refine Qne ?_; refine ZX ?_; refine Zr (hcon := hoe) ?_; refine ZR ?_; refine ZR ?_; refine QCa ?_
    (show AWP Tryz.prog E _ _ _; refine X1 ?_; exact (show Xd _ _ _ _ _ from ⟨_, St.le_refl _, ⟨⟨102, 0, _, rfl, rfl, .inr ⟨4, _, rfl, rfl, rfl, rfl⟩⟩, rfl, trivial⟩, X3 _⟩))
   ·refine Qyi ?_; refine QGc ?_; refine QLa ?_; refine Qhh ?_; refine Qne ?_; refine ZX ?_; refine Zr (hcon := hoe) ?_; refine ZR ?_; refine ZR ?_; refine QCa ?_
    (show AWP Tryz.prog E _ _ _; refine X1 ?_; exact (show Xd _ _ _ _ _ from ⟨_, St.le_refl _, ⟨⟨102, 0, _, rfl, rfl, .inr ⟨4, _, rfl, rfl, rfl, rfl⟩⟩, rfl, trivial⟩, X3 _⟩))
 rw [if_neg h7]
 have h70 : ¬ c.op = 7 := fun h => h7 (.inl h)
 have h80 : ¬ c.op = 8 := fun h => h7 (.inr h)
 clear hoe
 generalize (Uw g.edges c.id).isSome = eb at *
 generalize (Uw g.edges c.id).getD X19 = ed at *
 obtain ⟨did, dsrc, ddst, dtyp, dps⟩ := ed
 cases hn1 : YS g.nodes c.id with
 | none =>
  rw [hn1] at hN1
  simp only [Option.isSome_none, Option.getD_none] at hN1 ⊢
  clear hon
  obtain ⟨op, id, src, dst, name, ⟨vk, vn, vd, vs, vl⟩⟩ := c
  obtain ⟨ns, es, nn, ne⟩ := g
  simp only [Xj, Xu, Y1, Yo, Uj, Ub, List.map_nil] at *
  refine Qyi ?_; refine QGc ?_; refine QMa ?_; refine X2 ?_; refine Qwe ?_; refine Qpe ?_
  (show AWP Tryz.prog E _ _ _; refine X1 ?_; exact (show Xd _ _ _ _ _ from ⟨_, YU 102 (cs' := [.d (.sl 3 []), .d (.sl 5 []), ai 0, ai 0]) rfl JM rfl, ⟨⟨102, 0, _, rfl, rfl, .inr ⟨4, _, rfl, rfl, rfl, rfl⟩⟩, rfl, trivial⟩, X3 _⟩))
 | some n =>
  rw [hn1] at hN1
  simp only [Option.isSome_some, Option.getD_some] at hN1 ⊢
  replace hon := hon n hn1
  generalize X0G g c n = g' at *
  obtain ⟨op, id, src, dst, name, ⟨vk, vn, vd, vs, vl⟩⟩ := c
  obtain ⟨ns, es, nn, ne⟩ := g
  obtain ⟨⟨ns', es', nn', ne'⟩, ee⟩ := g'
  obtain ⟨nid, nl, np⟩ := n
  simp only [Xj, Xu, Y1, Yo, Uj, List.map_nil] at *
  refine Qyi ?_; refine QGc ?_; refine QMa ?_; refine X2 ?_; refine Qhh ?_; refine Qne ?_; refine ZX ?_; refine Zr (hcon := hon) ?_; refine ZR ?_; refine ZR ?_; refine QCa ?_
  (show AWP Tryz.prog E _ _ _; refine X1 ?_; exact (show Xd _ _ _ _ _ from ⟨_, St.le_refl _, ⟨⟨102, 0, _, rfl, rfl, .inr ⟨4, _, rfl, rfl, rfl, rfl⟩⟩, rfl, trivial⟩, X3 _⟩))
theorem X8I {g : Gra} {l : List Chg} {i : Nat} {c : Chg} (h : l[i]? = some c) : V5 g i (l.drop i) = if (XW g c).2 ≠ 0 then (YK, i, (XW g c).2) else V5 (XW g c).1 (i + 1) (l.drop (i + 1)) := by
 obtain ⟨hl, h⟩ := List.getElem?_eq_some_iff.1 h
 rw [List.drop_eq_getElem_cons hl, h, V5]
theorem Xa9 {g : Gra} {l : List Chg} {i : Nat} (h : l.length ≤ i) : V5 g i (l.drop i) = (g, i, 0) := by
 rw [List.drop_of_length_le h]; rfl
theorem Xee (g : Gra) (l : List Chg) (hg : GraHold g) (hl : l.length ≤ 9223372036854775807) (hok : ∀ c ∈ l, X6K c) : Con Tryz.prog 28 [] [Xj g, .d (.sl 10 (l.map YI))] [] (.tup [Xj (Y7 g l).1, ai (Y7 g l).2.1, ai (Y7 g l).2.2]) := by
 refine Xc (xs := [Xj (Y7 g l).1, ai (Y7 g l).2.1, ai (Y7 g l).2.2]) Tryz.func28 rfl Tryz.ntmps28 rfl rfl rfl (fun E => ?_)
 have hk := Xbm g hg
 have hlm : (l.map YI).length = l.length := by simp
 unfold Y7
 by_cases hc : Yh g ≠ 0
 ·rw [if_pos hc]
  clear hg
  generalize Yh g = e at *
  obtain ⟨ns, es, nn, ne⟩ := g
  simp only [Xj, List.map_nil] at *
  refine Qoe ?_; refine QBb ?_; refine QZd ?_; refine Qxi ?_; refine ZK ?_; refine QBb ?_
  (show AWP Tryz.prog E _ _ _; refine X1 ?_; exact (show Xd _ _ _ _ _ from ⟨_, YU 101 (cs' := [.d (.sl 3 []), .d (.sl 5 []), ai 0, ai 0]) rfl JM rfl, ⟨⟨101, 0, _, rfl, rfl, .inr ⟨4, _, rfl, rfl, rfl, rfl⟩⟩, rfl, rfl, trivial⟩, X3 _⟩))
 rw [if_neg hc]
 have hc : Yh g = 0 := by simpa using hc
 rw [hc] at hk
 have hv := X5x.1 hc
 clear hc hg
 generalize hR : V5 g 0 l = R
 obtain ⟨ns, es, nn, ne⟩ := g
 simp only [Xj] at hk ⊢
 refine Qoe ?_; refine QBb ?_; refine QZd ?_; refine Qve ?_; refine QZa ?_
 clear hk
 refine Xz (ι := Nat × Gra) (fun q => q.1 ≤ l.length ∧ GV q.2 ∧ V5 q.2 q.1 (l.drop q.1) = R) (fun q => ⟨41, [(1, .d (.sl 10 (l.map YI))), (2, .ptr 100 0), (4, .ptr 101 0), (8, ai q.1)], [(100, .box [.d (.sl 3 (q.2.nodes.map X9)), .d (.sl 5 (q.2.edges.map Xf)), ai q.2.nn, ai q.2.ne]), (101, .box [ani, ani, ai 0, ai 0])]⟩) (fun q => l.length - q.1) (0, ⟨ns, es, nn, ne⟩) ⟨Nat.zero_le _, hv, by simpa using hR⟩
  (X6 rfl JM ⟨rfl, rfl, trivial⟩) ?_
 rintro ⟨i, g⟩ ⟨hi, hg, hr⟩
 simp only at hi hg hr
 clear hv hR
 by_cases hil : i < l.length
 case neg =>
  have hn : ¬ (i : Int) < (l.map YI).length := by omega
  rw [Xa9 (by omega)] at hr
  obtain rfl : i = l.length := by omega
  subst hr
  obtain ⟨ns, es, nn, ne⟩ := g
  simp only
  rw [← hlm]
  refine Qgd ?_; refine QTc ?_; refine Z1 ?_; refine Z3 ?_; refine ZK ?_; refine QBb ?_
  (show AWP Tryz.prog E _ _ _; refine X1 ?_; exact (show Xd _ _ _ _ _ from ⟨_, St.le_refl _, ⟨⟨101, 0, _, rfl, rfl, .inr ⟨4, _, rfl, rfl, rfl, rfl⟩⟩, rfl, rfl, trivial⟩, X3 _⟩))
 have hn : (i : Int) < (l.map YI).length := by omega
 obtain ⟨x, hx⟩ := Xs (l := l) hil
 have hxc : (l.map YI)[i]? = some (YI x) := Xx hx
 have hs := Xek g x hg (hok x (List.mem_of_getElem? hx)).2
 rw [X8I hx] at hr
 by_cases hq : (XW g x).2 ≠ 0
 ·rw [if_pos hq] at hr
  subst hr
  clear hx hg
  generalize (XW g x).2 = e at *
  generalize (XW g x).1 = g' at *
  obtain ⟨op, id, src, dst, name, ⟨vk, vn, vd, vs, vl⟩⟩ := x
  obtain ⟨ns, es, nn, ne⟩ := g
  obtain ⟨ns', es', nn', ne'⟩ := g'
  simp only [Xj, Xu, Y1, YI, List.map_nil] at *
  refine QZc ?_; refine QTc ?_; refine Qq ?_; refine Qdc ?_; refine Zr (hcon := hs) ?_; refine Qze ?_; refine Qh ?_; refine ZH ?_; refine Qm ?_; refine QBa ?_; refine Qq ?_; refine ZK ?_; refine QBb ?_
  (show AWP Tryz.prog E _ _ _; refine X1 ?_; exact (show Xd _ _ _ _ _ from ⟨_, YU 101 (cs' := [.d (.sl 3 []), .d (.sl 5 []), ai 0, ai 0]) rfl JM rfl, ⟨⟨101, 0, _, rfl, rfl, .inr ⟨4, _, rfl, rfl, rfl, rfl⟩⟩, rfl, rfl, trivial⟩, X3 _⟩))
 rw [if_neg hq] at hr
 have hq : (XW g x).2 = 0 := by simpa using hq
 have hg' := X6o hg hq
 rw [hq] at hs
 clear hx hg
 generalize (XW g x).1 = g' at *
 obtain ⟨op, id, src, dst, name, ⟨vk, vn, vd, vs, vl⟩⟩ := x
 obtain ⟨ns, es, nn, ne⟩ := g
 obtain ⟨ns', es', nn', ne'⟩ := g'
 simp only [Xj, Xu, Y1, YI, List.map_nil] at *
 refine QZc ?_; refine QTc ?_; refine Qq ?_; refine Qdc ?_; refine Zr (hcon := hs) ?_; refine Qze ?_; refine Qh ?_; refine QOd ?_; refine JR ?_; refine ZX ?_; refine Qec ?_; refine Qgb ?_; exact ⟨(i + 1, ⟨ns', es', nn', ne'⟩), ⟨by simp only; omega, hg', hr⟩, by simp only; omega, X6 rfl JM ⟨rfl, rfl, trivial⟩⟩
end Go.Fw
