/- The reference's step and all steps. -/
import Derived.Test.YtonekjkmnhfjmaaGreatDoorM39
set_option maxHeartbeats 16000000
namespace Go.Fw
open Go Go.Proofs
set_option maxRecDepth 100000
set_option linter.unusedVariables false
set_option linter.unusedSimpArgs false
theorem Xex (g : Gra) (c : Chg) (hg : GV g) (hv : Y3 c.v) : Con Tryz.prog 67 [] [Xl g, Xs c] [] (.tup [Xl (XS g c).1, ai (XS g c).2]) := by
 refine Xc (xs := [Xl (XS g c).1, ai (XS g c).2]) Tryz.func67 rfl Tryz.ntmps67 rfl rfl rfl (fun E => ?_)
 have hk := Xcm c hv
 unfold XS
 by_cases hc : YF c ≠ 0
 ·rw [if_pos hc]
  generalize YF c = e at *
  obtain ⟨op, id, src, dst, name, ⟨vk, vn, vd, vs, vl⟩⟩ := c
  obtain ⟨ns, es, nn, ne⟩ := g
  simp only [Xl, Xs, XY, List.map_nil] at *
  refine QZc ?_; refine Zw (γ := 102) ?_; refine Qb ?_; refine QEg ?_; refine QFg ?_
  (show AWP Tryz.prog E _ _ _; refine X1 ?_; exact (show Xd _ _ _ _ _ from ⟨_, Y5 102 (cs' := [.d (.sl 3 []), .d (.sl 5 []), ai 0, ai 0]) rfl JM rfl, ⟨⟨102, 0, _, rfl, rfl, .inr ⟨4, _, rfl, rfl, rfl, rfl⟩⟩, rfl, trivial⟩, X3 _⟩))
 rw [if_neg hc]
 have hc : YF c = 0 := by simpa using hc
 rw [hc] at hk
 obtain ⟨⟨o1, o8⟩, hid, -, -⟩ := X3z hc
 have hfit : ∀ n ∈ g.nodes, X3W n := fun n hn => by
  have hp := (hg.nodes n hn).2.2
  have h1 := hp.ll
  have h2 := hp.pl
  exact ⟨by omega, by omega, hp.pv⟩
 have hl1 := hg.nl
 have hl2 := hg.el
 have hN := fun k => X51 g k (by omega) hfit
 have hE := Xe9 g c.id (by omega)
 have hgN : ∀ k, YN g.nodes k = YJ g.nodes k := fun _ => rfl
 have hgE : X0y g.edges c.id = Ua g.edges c.id := rfl
 simp only [hgN] at hN
 rw [hgE] at hE
 have hN1 := hN c.id
 have hN2 := hN c.src
 have hN3 := hN c.dst
 have hpn := X8v g ⟨c.id, [], []⟩ (by omega) (by show 0 ≤ c.id; omega) (by show c.id ≤ 1000000; omega)
 have hpe := X8T g ⟨c.id, c.src, c.dst, c.name, []⟩ (by omega) (by show 0 ≤ c.id; omega) (by show c.id ≤ 1000000; omega)
 have hon := fun n hn => XhE g c n hg hn hv hid
 have hoe := fun n hn => Xhv g c n hg hn hv hid
 have hlm1 : (g.nodes.map X9).length = g.nodes.length := by simp
 have hlm2 : (g.edges.map Xe).length = g.edges.length := by simp
 clear hN hfit hgN hgE hc hv
 unfold U3
 rw [X2G, X6v, X2G, X2G]
 clear hg
 by_cases h1 : c.op = 1
 ·rw [if_pos h1]
  clear hon hoe hpe hN2 hN3
  cases hn1 : YJ g.nodes c.id with
  | some n =>
   rw [hn1] at hN1
   simp only [Option.isSome_some, Option.getD_some, if_true] at hN1 ⊢
   clear hpn
   obtain ⟨nid, nl, np⟩ := n
   generalize (Ua g.edges c.id).isSome = eb at *
   generalize (Ua g.edges c.id).getD X1b = ed at *
   obtain ⟨op, id, src, dst, name, ⟨vk, vn, vd, vs, vl⟩⟩ := c
   obtain ⟨ns, es, nn, ne⟩ := g
   obtain ⟨did, dsrc, ddst, dtyp, dps⟩ := ed
   simp only [Xl, Xs, XY, Y9, U0, List.map_nil] at *
   refine QHg ?_; refine QFb ?_; refine Qt ?_; refine Qrd ?_
   (show AWP Tryz.prog E _ _ _; refine X1 ?_; exact (show Xd _ _ _ _ _ from ⟨_, Y5 102 (cs' := [.d (.sl 3 []), .d (.sl 5 []), ai 0, ai 0]) rfl JM rfl, ⟨⟨102, 0, _, rfl, rfl, .inr ⟨4, _, rfl, rfl, rfl, rfl⟩⟩, rfl, trivial⟩, X3 _⟩))
  | none =>
   rw [hn1] at hN1
   simp only [Option.isSome_none, Option.getD_none, Bool.false_eq_true, if_false] at hN1 ⊢
   generalize (Ua g.edges c.id).isSome = eb at *
   generalize (Ua g.edges c.id).getD X1b = ed at *
   obtain ⟨did, dsrc, ddst, dtyp, dps⟩ := ed
   by_cases h2 : 2000 ≤ g.nodes.length
   ·rw [if_pos h2]
    have h2' : (2000 : Int) ≤ (g.nodes.map X9).length := by omega
    clear hpn
    obtain ⟨op, id, src, dst, name, ⟨vk, vn, vd, vs, vl⟩⟩ := c
    obtain ⟨ns, es, nn, ne⟩ := g
    simp only [Xl, Xs, XY, Y9, UA, U0, List.map_nil] at *
    refine QHg ?_; refine QFb ?_; refine Qt ?_; refine Qtd ?_; refine Zd ?_; refine Z2 ?_; refine Qrd ?_
    (show AWP Tryz.prog E _ _ _; refine X1 ?_; exact (show Xd _ _ _ _ _ from ⟨_, Y5 102 (cs' := [.d (.sl 3 []), .d (.sl 5 []), ai 0, ai 0]) rfl JM rfl, ⟨⟨102, 0, _, rfl, rfl, .inr ⟨4, _, rfl, rfl, rfl, rfl⟩⟩, rfl, trivial⟩, X3 _⟩))
   ·rw [if_neg h2]
    have h2' : ¬ (2000 : Int) ≤ (g.nodes.map X9).length := by omega
    generalize U1 g ⟨c.id, [], []⟩ = g' at *
    obtain ⟨op, id, src, dst, name, ⟨vk, vn, vd, vs, vl⟩⟩ := c
    obtain ⟨ns, es, nn, ne⟩ := g
    obtain ⟨ns', es', nn', ne'⟩ := g'
    simp only [Xl, Xs, XY, Y9, UA, U0, List.map_nil] at *
    refine QHg ?_; refine QFb ?_; refine Qt ?_; refine Qtd ?_; refine QBg ?_; refine Qqg ?_; refine Zx ?_; refine Z9 (hcon := hpn) ?_; refine Qfa ?_
    (show AWP Tryz.prog E _ _ _; refine X1 ?_; exact (show Xd _ _ _ _ _ from ⟨_, St.le_refl _, ⟨⟨102, 0, _, rfl, rfl, .inr ⟨4, _, rfl, rfl, rfl, rfl⟩⟩, rfl, trivial⟩, X3 _⟩))
 rw [if_neg h1]
 by_cases h6 : c.op = 6
 ·rw [if_pos h6]
  clear hon hoe hpn
  generalize (YJ g.nodes c.id).isSome = nb at *
  generalize (YJ g.nodes c.id).getD UA = nd at *
  generalize (YJ g.nodes c.src).getD UA = sd at *
  generalize (YJ g.nodes c.dst).getD UA = dd at *
  generalize (YJ g.nodes c.src).isSome = sb at *
  generalize (YJ g.nodes c.dst).isSome = db at *
  generalize (Ua g.edges c.id).isSome = eb at *
  generalize (Ua g.edges c.id).getD X1b = ed at *
  obtain ⟨did, dsrc, ddst, dtyp, dps⟩ := ed
  obtain ⟨nid, nl, np⟩ := nd
  obtain ⟨sid, sl, sp⟩ := sd
  obtain ⟨tid, tl, tp⟩ := dd
  cases eb with
  | true =>
   simp only [if_true]
   clear hpe
   obtain ⟨op, id, src, dst, name, ⟨vk, vn, vd, vs, vl⟩⟩ := c
   obtain ⟨ns, es, nn, ne⟩ := g
   simp only [Xl, Xs, XY, Y9, U0, List.map_nil] at *
   refine QIg ?_; refine Qrd ?_
   (show AWP Tryz.prog E _ _ _; refine X1 ?_; exact (show Xd _ _ _ _ _ from ⟨_, Y5 102 (cs' := [.d (.sl 3 []), .d (.sl 5 []), ai 0, ai 0]) rfl JM rfl, ⟨⟨102, 0, _, rfl, rfl, .inr ⟨4, _, rfl, rfl, rfl, rfl⟩⟩, rfl, trivial⟩, X3 _⟩))
  | false =>
   simp only [Bool.false_eq_true, if_false]
   by_cases hsd : sb = false ∨ db = false
   ·rw [if_pos hsd]
    clear hpe
    obtain ⟨op, id, src, dst, name, ⟨vk, vn, vd, vs, vl⟩⟩ := c
    obtain ⟨ns, es, nn, ne⟩ := g
    simp only [Xl, Xs, XY, Y9, U0, List.map_nil] at *
    cases sb with
    | false =>
     refine QIg ?_; refine QH ?_; refine Qvd ?_; refine Qi ?_; refine Zn ?_; refine Qrd ?_
     (show AWP Tryz.prog E _ _ _; refine X1 ?_; exact (show Xd _ _ _ _ _ from ⟨_, Y5 102 (cs' := [.d (.sl 3 []), .d (.sl 5 []), ai 0, ai 0]) rfl JM rfl, ⟨⟨102, 0, _, rfl, rfl, .inr ⟨4, _, rfl, rfl, rfl, rfl⟩⟩, rfl, trivial⟩, X3 _⟩))
    | true =>
     obtain rfl : db = false := by simpa using hsd
     refine QIg ?_; refine QH ?_; refine Qcg ?_; refine Zu ?_; refine Zq ?_; refine Qrd ?_
     (show AWP Tryz.prog E _ _ _; refine X1 ?_; exact (show Xd _ _ _ _ _ from ⟨_, Y5 102 (cs' := [.d (.sl 3 []), .d (.sl 5 []), ai 0, ai 0]) rfl JM rfl, ⟨⟨102, 0, _, rfl, rfl, .inr ⟨4, _, rfl, rfl, rfl, rfl⟩⟩, rfl, trivial⟩, X3 _⟩))
   rw [if_neg hsd]
   obtain ⟨rfl, rfl⟩ : sb = true ∧ db = true := by simpa [not_or] using hsd
   by_cases h4 : 4000 ≤ g.edges.length
   ·rw [if_pos h4]
    have h4' : (4000 : Int) ≤ (g.edges.map Xe).length := by omega
    clear hpe
    obtain ⟨op, id, src, dst, name, ⟨vk, vn, vd, vs, vl⟩⟩ := c
    obtain ⟨ns, es, nn, ne⟩ := g
    simp only [Xl, Xs, XY, Y9, U0, List.map_nil] at *
    refine QIg ?_; refine QH ?_; refine Qcg ?_; refine Zu ?_; refine QDb ?_; refine Zd ?_; refine Z2 ?_; refine Qrd ?_
    (show AWP Tryz.prog E _ _ _; refine X1 ?_; exact (show Xd _ _ _ _ _ from ⟨_, Y5 102 (cs' := [.d (.sl 3 []), .d (.sl 5 []), ai 0, ai 0]) rfl JM rfl, ⟨⟨102, 0, _, rfl, rfl, .inr ⟨4, _, rfl, rfl, rfl, rfl⟩⟩, rfl, trivial⟩, X3 _⟩))
   rw [if_neg h4]
   have h4' : ¬ (4000 : Int) ≤ (g.edges.map Xe).length := by omega
   generalize V5 g ⟨c.id, c.src, c.dst, c.name, []⟩ = g' at *
   obtain ⟨op, id, src, dst, name, ⟨vk, vn, vd, vs, vl⟩⟩ := c
   obtain ⟨ns, es, nn, ne⟩ := g
   obtain ⟨ns', es', nn', ne'⟩ := g'
   simp only [Xl, Xs, XY, Y9, U0, List.map_nil] at *
   refine QIg ?_; refine QH ?_; refine Qcg ?_; refine Zu ?_; refine QDb ?_; refine QBg ?_; refine Qqg ?_; refine Qkd ?_; refine QTa ?_; refine Zx ?_; refine Z9 (hcon := hpe) ?_; refine Qfa ?_
   (show AWP Tryz.prog E _ _ _; refine X1 ?_; exact (show Xd _ _ _ _ _ from ⟨_, St.le_refl _, ⟨⟨102, 0, _, rfl, rfl, .inr ⟨4, _, rfl, rfl, rfl, rfl⟩⟩, rfl, trivial⟩, X3 _⟩))
 rw [if_neg h6]
 clear hpn hpe hN2 hN3
 by_cases h7 : c.op = 7 ∨ c.op = 8
 ·rw [if_pos h7]
  clear hon
  generalize (YJ g.nodes c.id).isSome = nb at *
  generalize (YJ g.nodes c.id).getD UA = nd at *
  obtain ⟨nid, nl, np⟩ := nd
  cases he : Ua g.edges c.id with
  | none =>
   rw [he] at hE
   simp only [Option.isSome_none, Option.getD_none] at hE ⊢
   clear hoe
   obtain ⟨op, id, src, dst, name, ⟨vk, vn, vd, vs, vl⟩⟩ := c
   obtain ⟨ns, es, nn, ne⟩ := g
   simp only [Xl, Xs, XY, Y9, U0, X1b, List.map_nil] at *
   rcases h7 with rfl | rfl
   ·refine QHg ?_; refine QNb ?_; refine Qea ?_; refine Qvd ?_; refine Qrd ?_
    (show AWP Tryz.prog E _ _ _; refine X1 ?_; exact (show Xd _ _ _ _ _ from ⟨_, Y5 102 (cs' := [.d (.sl 3 []), .d (.sl 5 []), ai 0, ai 0]) rfl JM rfl, ⟨⟨102, 0, _, rfl, rfl, .inr ⟨4, _, rfl, rfl, rfl, rfl⟩⟩, rfl, trivial⟩, X3 _⟩))
   ·refine QHg ?_; refine QNb ?_; refine Qla ?_; refine Qvd ?_; refine Qrd ?_
    (show AWP Tryz.prog E _ _ _; refine X1 ?_; exact (show Xd _ _ _ _ _ from ⟨_, Y5 102 (cs' := [.d (.sl 3 []), .d (.sl 5 []), ai 0, ai 0]) rfl JM rfl, ⟨⟨102, 0, _, rfl, rfl, .inr ⟨4, _, rfl, rfl, rfl, rfl⟩⟩, rfl, trivial⟩, X3 _⟩))
  | some e =>
   rw [he] at hE
   simp only [Option.isSome_some, Option.getD_some] at hE ⊢
   replace hoe := hoe e he
   generalize X0j g c e = g' at *
   obtain ⟨op, id, src, dst, name, ⟨vk, vn, vd, vs, vl⟩⟩ := c
   obtain ⟨ns, es, nn, ne⟩ := g
   obtain ⟨⟨ns', es', nn', ne'⟩, ee⟩ := g'
   obtain ⟨did, dsrc, ddst, dtyp, dps⟩ := e
   simp only [Xl, Xs, XY, Y9, U0, List.map_nil] at *
   rcases h7 with rfl | rfl
   ·refine QHg ?_; refine QNb ?_; refine Qea ?_; refine Qeg ?_; refine Qnd ?_; refine ZL ?_; refine Z9 (hcon := hoe) ?_; refine ZF ?_; refine ZF ?_; refine Qfa ?_
    (show AWP Tryz.prog E _ _ _; refine X1 ?_; exact (show Xd _ _ _ _ _ from ⟨_, St.le_refl _, ⟨⟨102, 0, _, rfl, rfl, .inr ⟨4, _, rfl, rfl, rfl, rfl⟩⟩, rfl, trivial⟩, X3 _⟩))
   ·refine QHg ?_; refine QNb ?_; refine Qla ?_; refine Qeg ?_; refine Qnd ?_; refine ZL ?_; refine Z9 (hcon := hoe) ?_; refine ZF ?_; refine ZF ?_; refine Qfa ?_
    (show AWP Tryz.prog E _ _ _; refine X1 ?_; exact (show Xd _ _ _ _ _ from ⟨_, St.le_refl _, ⟨⟨102, 0, _, rfl, rfl, .inr ⟨4, _, rfl, rfl, rfl, rfl⟩⟩, rfl, trivial⟩, X3 _⟩))
 rw [if_neg h7]
 have h70 : ¬ c.op = 7 := fun h => h7 (.inl h)
 have h80 : ¬ c.op = 8 := fun h => h7 (.inr h)
 clear hoe
 generalize (Ua g.edges c.id).isSome = eb at *
 generalize (Ua g.edges c.id).getD X1b = ed at *
 obtain ⟨did, dsrc, ddst, dtyp, dps⟩ := ed
 cases hn1 : YJ g.nodes c.id with
 | none =>
  rw [hn1] at hN1
  simp only [Option.isSome_none, Option.getD_none] at hN1 ⊢
  clear hon
  obtain ⟨op, id, src, dst, name, ⟨vk, vn, vd, vs, vl⟩⟩ := c
  obtain ⟨ns, es, nn, ne⟩ := g
  simp only [Xl, Xs, XY, Y9, U0, UA, List.map_nil] at *
  refine QHg ?_; refine QNb ?_; refine Qma ?_; refine X2 ?_; refine Qvd ?_; refine Qrd ?_
  (show AWP Tryz.prog E _ _ _; refine X1 ?_; exact (show Xd _ _ _ _ _ from ⟨_, Y5 102 (cs' := [.d (.sl 3 []), .d (.sl 5 []), ai 0, ai 0]) rfl JM rfl, ⟨⟨102, 0, _, rfl, rfl, .inr ⟨4, _, rfl, rfl, rfl, rfl⟩⟩, rfl, trivial⟩, X3 _⟩))
 | some n =>
  rw [hn1] at hN1
  simp only [Option.isSome_some, Option.getD_some] at hN1 ⊢
  replace hon := hon n hn1
  generalize X0k g c n = g' at *
  obtain ⟨op, id, src, dst, name, ⟨vk, vn, vd, vs, vl⟩⟩ := c
  obtain ⟨ns, es, nn, ne⟩ := g
  obtain ⟨⟨ns', es', nn', ne'⟩, ee⟩ := g'
  obtain ⟨nid, nl, np⟩ := n
  simp only [Xl, Xs, XY, Y9, U0, List.map_nil] at *
  refine QHg ?_; refine QNb ?_; refine Qma ?_; refine X2 ?_; refine Qeg ?_; refine Qnd ?_; refine ZL ?_; refine Z9 (hcon := hon) ?_; refine ZF ?_; refine ZF ?_; refine Qfa ?_
  (show AWP Tryz.prog E _ _ _; refine X1 ?_; exact (show Xd _ _ _ _ _ from ⟨_, St.le_refl _, ⟨⟨102, 0, _, rfl, rfl, .inr ⟨4, _, rfl, rfl, rfl, rfl⟩⟩, rfl, trivial⟩, X3 _⟩))
theorem X8m {g : Gra} {l : List Chg} {i : Nat} {c : Chg} (h : l[i]? = some c) : Yf g i (l.drop i) = if (XS g c).2 ≠ 0 then (Ya, i, (XS g c).2) else Yf (XS g c).1 (i + 1) (l.drop (i + 1)) := by
 obtain ⟨hl, h⟩ := List.getElem?_eq_some_iff.1 h
 rw [List.drop_eq_getElem_cons hl, h, Yf]
theorem Xbb {g : Gra} {l : List Chg} {i : Nat} (h : l.length ≤ i) : Yf g i (l.drop i) = (g, i, 0) := by
 rw [List.drop_of_length_le h]; rfl
theorem X3p (g : Gra) (l : List Chg) (hg : GraHold g) (hl : l.length ≤ 9223372036854775807) (hok : ∀ c ∈ l, X2F c) : Con Tryz.prog 28 [] [Xl g, .d (.sl 10 (l.map XL))] [] (.tup [Xl (Xo g l).1, ai (Xo g l).2.1, ai (Xo g l).2.2]) := by
 refine Xc (xs := [Xl (Xo g l).1, ai (Xo g l).2.1, ai (Xo g l).2.2]) Tryz.func28 rfl Tryz.ntmps28 rfl rfl rfl (fun E => ?_)
 have hk := X9l g hg
 have hlm : (l.map XL).length = l.length := by simp
 unfold Xo
 by_cases hc : Yj g ≠ 0
 ·rw [if_pos hc]
  clear hg
  generalize Yj g = e at *
  obtain ⟨ns, es, nn, ne⟩ := g
  simp only [Xl, List.map_nil] at *
  refine Qod ?_; refine QKa ?_; refine QEg ?_; refine Qgd ?_; refine Qqd ?_; refine Z1 ?_; refine QJg ?_
  (show AWP Tryz.prog E _ _ _; refine X1 ?_; exact (show Xd _ _ _ _ _ from ⟨_, Y5 101 (cs' := [.d (.sl 3 []), .d (.sl 5 []), ai 0, ai 0]) rfl JM rfl, ⟨⟨101, 0, _, rfl, rfl, .inr ⟨4, _, rfl, rfl, rfl, rfl⟩⟩, rfl, rfl, trivial⟩, X3 _⟩))
 rw [if_neg hc]
 have hc : Yj g = 0 := by simpa using hc
 rw [hc] at hk
 have hv := X2P.1 hc
 clear hc hg
 generalize hR : Yf g 0 l = R
 obtain ⟨ns, es, nn, ne⟩ := g
 simp only [Xl] at hk ⊢
 refine Qod ?_; refine QKa ?_; refine QGg ?_; refine Qua ?_
 clear hk
 refine Xz (ι := Nat × Gra) (fun q => q.1 ≤ l.length ∧ GV q.2 ∧ Yf q.2 q.1 (l.drop q.1) = R) (fun q => ⟨41, [(1, .d (.sl 10 (l.map XL))), (2, .ptr 100 0), (4, .ptr 101 0), (8, ai q.1)], [(100, .box [.d (.sl 3 (q.2.nodes.map X9)), .d (.sl 5 (q.2.edges.map Xe)), ai q.2.nn, ai q.2.ne]), (101, .box [ani, ani, ai 0, ai 0])]⟩) (fun q => l.length - q.1) (0, ⟨ns, es, nn, ne⟩) ⟨Nat.zero_le _, hv, by simpa using hR⟩
  (X7 rfl JM ⟨rfl, rfl, trivial⟩) ?_
 rintro ⟨i, g⟩ ⟨hi, hg, hr⟩
 simp only at hi hg hr
 clear hv hR
 by_cases hil : i < l.length
 case neg =>
  have hn : ¬ (i : Int) < (l.map XL).length := by omega
  rw [Xbb (by omega)] at hr
  obtain rfl : i = l.length := by omega
  subst hr
  obtain ⟨ns, es, nn, ne⟩ := g
  simp only
  rw [← hlm]
  refine Qlc ?_; refine QXb ?_; refine Zd ?_; refine QJg ?_
  (show AWP Tryz.prog E _ _ _; refine X1 ?_; exact (show Xd _ _ _ _ _ from ⟨_, St.le_refl _, ⟨⟨101, 0, _, rfl, rfl, .inr ⟨4, _, rfl, rfl, rfl, rfl⟩⟩, rfl, rfl, trivial⟩, X3 _⟩))
 have hn : (i : Int) < (l.map XL).length := by omega
 obtain ⟨x, hx⟩ := Xu (l := l) hil
 have hxc : (l.map XL)[i]? = some (XL x) := XD hx
 have hs := Xex g x hg (hok x (List.mem_of_getElem? hx)).2
 rw [X8m hx] at hr
 by_cases hq : (XS g x).2 ≠ 0
 ·rw [if_pos hq] at hr
  subst hr
  clear hx hg
  generalize (XS g x).2 = e at *
  generalize (XS g x).1 = g' at *
  obtain ⟨op, id, src, dst, name, ⟨vk, vn, vd, vs, vl⟩⟩ := x
  obtain ⟨ns, es, nn, ne⟩ := g
  obtain ⟨ns', es', nn', ne'⟩ := g'
  simp only [Xl, Xs, XY, XL, List.map_nil] at *
  refine Qcc ?_; refine QWb ?_; refine Qud ?_; refine Z9 (hcon := hs) ?_; refine Qxd ?_; refine QLa ?_; refine Qqd ?_; refine Qf ?_; refine QJg ?_
  (show AWP Tryz.prog E _ _ _; refine X1 ?_; exact (show Xd _ _ _ _ _ from ⟨_, Y5 101 (cs' := [.d (.sl 3 []), .d (.sl 5 []), ai 0, ai 0]) rfl JM rfl, ⟨⟨101, 0, _, rfl, rfl, .inr ⟨4, _, rfl, rfl, rfl, rfl⟩⟩, rfl, rfl, trivial⟩, X3 _⟩))
 rw [if_neg hq] at hr
 have hq : (XS g x).2 = 0 := by simpa using hq
 have hg' := X6z hg hq
 rw [hq] at hs
 clear hx hg
 generalize (XS g x).1 = g' at *
 obtain ⟨op, id, src, dst, name, ⟨vk, vn, vd, vs, vl⟩⟩ := x
 obtain ⟨ns, es, nn, ne⟩ := g
 obtain ⟨ns', es', nn', ne'⟩ := g'
 simp only [Xl, Xs, XY, XL, List.map_nil] at *
 refine Qcc ?_; refine QWb ?_; refine Qud ?_; refine Z9 (hcon := hs) ?_; refine Qxd ?_; refine QKg ?_; refine QLg ?_; refine QBa ?_; exact QMg
end Go.Fw
