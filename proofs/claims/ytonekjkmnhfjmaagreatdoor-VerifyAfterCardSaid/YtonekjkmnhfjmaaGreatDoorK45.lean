/- What the reference does with a node or an edge that is there. -/
import Derived.Test.YtonekjkmnhfjmaaGreatDoorK44
set_option maxHeartbeats 16000000
namespace Go.Fw
open Go Go.Proofs
set_option maxRecDepth 100000
set_option linter.unusedVariables false
set_option linter.unusedSimpArgs false
theorem Xeu (g : Gra) (id : Int) (hl : g.edges.length ≤ 100000) : Con Tryz.prog 176 [] [Xj g, ai id] [] (ab (UQ g.edges id)) := by
 refine Xc (xs := [ab (UQ g.edges id)]) Tryz.func176 rfl Tryz.ntmps176 rfl rfl rfl (fun E => ?_)
 have h := Xin g id hl
 have hu := XgD g.edges id
 have hm : ((UV id [] g.edges).map cAD).length = (UV id [] g.edges).length := by simp
 generalize UV id [] g.edges = A at *
 generalize UQ g.edges id = u at *
 obtain ⟨ns, es, nn, ne⟩ := g
 unfold Xj at *
 simp only at h ⊢
 refine QWc ?_; refine Z1 ?_; refine Zr (hcon := h) ?_; refine QZb ?_; refine Qb ?_
 have e : decide ((0 : Int) < ((A.map cAD).length : Nat)) = u := by rw [← hu]; exact decide_eq_decide.2 (by omega)
 (show AWP Tryz.prog E _ _ _; refine X1 ?_; exact (show Xd _ _ _ _ _ from ⟨_, St.le_refl _, ⟨congrArg ab e, trivial⟩, X3 _⟩))
theorem Xd3 (g : Gra) (c : Chg) (n : Nod) (hg : GV g) (hn : YS g.nodes c.id = some n) (hv : Ym c.v) (hid : 1 ≤ c.id ∧ c.id ≤ 1000000) : Con Tryz.prog 116 [] [Xj g, Xu c, Yo n] [] (.tup [Xj (X0G g c n).1, ai (X0G g c n).2]) := by
 refine Xc (xs := [Xj (X0G g c n).1, ai (X0G g c n).2]) Tryz.func116 rfl Tryz.ntmps116 rfl rfl rfl (fun E => ?_)
 have hl1 := hg.nl
 have hl2 := hg.el
 obtain ⟨hnm, hni⟩ := X0X hn
 have hpv := (hg.nodes n hnm).2.2
 have hll := hpv.ll
 have hpl := hpv.pl
 have hlb := X3u n c.name (by omega)
 rw [XiL] at hlb
 have hus := Xeu g c.id (by omega)
 have hps := Xic n.labels c.name (by omega) hpv.lr
 have hwo := Xhs n.labels c.name (by omega)
 have hsp := X8u n.props c.name c.v (by omega) hv
 have hpn : ∀ ls ps, Con Tryz.prog 113 [] [Xj g, .agg [ai n.id, .d (.sl 1 (ls.map Xa)), .d (.sl 6 (ps.map X7))]] [] (Xj (Ui g ⟨n.id, ls, ps⟩)) := fun ls ps => XaA g ⟨n.id, ls, ps⟩ (by omega) (by show 0 ≤ n.id; omega) (by show n.id ≤ 1000000; omega)
 have hlm1 : (n.labels.map Xa).length = n.labels.length := by simp
 clear hg hn hnm hv hpv
 unfold X0G
 obtain ⟨op, id, src, dst, name, ⟨vk, vn, vd, vs, vl⟩⟩ := c
 obtain ⟨nid, nl, np⟩ := n
 simp only [Xu, Y1, Yo, Xm] at *
 subst hni
 generalize Xl XB nl name = hs at *
 generalize XP np name (.mk vk vn vd vs vl) = sp at *
 generalize Yp ltS XB nl name [name] = ls3 at *
 generalize YH XB nl name = ls4 at *
 have hp3 := hpn ls3 np
 have hp4 := hpn ls4 np
 have hp5 := hpn nl sp
 clear hpn
 by_cases h2 : op = 2
 ·subst h2
  rw [if_pos rfl]
  cases hu : UQ g.edges nid with
  | true =>
   rw [if_pos rfl]
   rw [hu] at hus
   obtain ⟨ns, es, nn, ne⟩ := g
   simp only [Xj, List.map_nil] at *
   refine Qti ?_; refine Qzc ?_; refine X0 ?_; refine QEh ?_; refine Zr (hcon := hus) ?_; refine Qpe ?_
   (show AWP Tryz.prog E _ _ _; refine X1 ?_; exact (show Xd _ _ _ _ _ from ⟨_, YU 103 (cs' := [.d (.sl 3 []), .d (.sl 5 []), ai 0, ai 0]) rfl JM rfl, ⟨⟨103, 0, _, rfl, rfl, .inr ⟨4, _, rfl, rfl, rfl, rfl⟩⟩, rfl, trivial⟩, X3 _⟩))
  | false =>
   rw [if_neg (by simp)]
   rw [hu] at hus
   obtain ⟨ns, es, nn, ne⟩ := g
   simp only [Xj] at *
   have hRl := X6c (key := Nod.id) ns nid
   generalize hR : YH Nod.id ns nid = R at *
   have hlm : (ns.map X9).length = ns.length := by simp
   refine Qti ?_; refine Qzc ?_; refine X0 ?_; refine QEh ?_; refine Zr (hcon := hus) ?_; refine Qj ?_; refine QXc ?_; refine Xk (U1 9 130 3 rfl rfl rfl) ?_
   refine Xz (ι := Nat × List Nod) (fun q => q.1 ≤ ns.length ∧ q.2 ++ YH Nod.id (ns.drop q.1) nid = R) (fun q => ⟨103, [(3, .ptr 100 0), (4, .ptr 101 0), (5, .ptr 102 0), (6, .ptr 103 0), (9, .own 130 (q.2.map X9).length), (10, ai q.1)], [(100, .box [.d (.sl 3 (ns.map X9)), .d (.sl 5 (es.map Xf)), ai nn, ai ne]), (101, .box [ai 2, ai nid, ai src, ai dst, .d (.v (.string (X5 name))), ai vk, ai vn, ai vd, .d (.v (.string (X5 vs))), .d (.sl 5 (XG vl))]), (102, .box [ai nid, .d (.sl 1 (nl.map Xa)), .d (.sl 6 (np.map X7))]), (103, .box [ani, ani, ai 0, ai 0]), (130, .row 3 (q.2.map X9))]⟩) (fun q => ns.length - q.1) (0, []) ⟨Nat.zero_le _, by simpa using hR⟩
    (X6 rfl JM ⟨rfl, rfl, rfl, rfl, rfl, trivial⟩) ?_
   rintro ⟨i, out⟩ ⟨hi, hg⟩
   simp only at hi hg
   by_cases hil : i < ns.length
   case neg =>
    have hn : ¬ (i : Int) < (ns.map X9).length := by omega
    rw [List.drop_of_length_le (by omega), show YH Nod.id ([] : List Nod) nid = [] from rfl, List.append_nil] at hg
    subst hg
    refine Qgh ?_; refine X0 ?_; refine Xk (Yt 130 rfl) ?_; refine Xk (Ys 9 130 rfl rfl (by simp)) ?_; refine Qfb ?_; refine Qqg ?_; refine QTc ?_; refine QCa ?_
    (show AWP Tryz.prog E _ _ _; refine X1 ?_; exact (show Xd _ _ _ _ _ from ⟨_, St.le_refl _, ⟨⟨103, 0, _, rfl, rfl, .inr ⟨4, _, rfl, rfl, rfl, rfl⟩⟩, rfl, trivial⟩, X3 _⟩))
   have hn : (i : Int) < (ns.map X9).length := by omega
   obtain ⟨x, hx⟩ := Xs (l := ns) hil
   have hxc : (ns.map X9)[i]? = some (X9 x) := Xx hx
   rw [X71 hx] at hg
   have hrm := X2l hg
   have hroom : (out.map X9).length ≤ 100000 := by rw [List.length_map]; omega
   obtain ⟨xid, xl, xp⟩ := x
   simp only [X9] at hxc
   clear hx
   by_cases hq : xid = nid
   ·subst hq
    rw [if_pos rfl, List.nil_append] at hg
    refine Qzh ?_; refine QIb ?_; refine QOd ?_; refine Qgb ?_; exact Qui
   ·rw [if_neg (show ¬ Nod.id _ = nid from hq), ← List.append_assoc] at hg
    have hap : (out ++ [(⟨xid, xl, xp⟩ : Nod)]).map X9 = out.map X9 ++ [[.v (.int .i64 xid), .sl 1 (xl.map Xa), .sl 6 (xp.map X7)]] := by simp [X9]
    refine Qzh ?_; refine Qmh ?_
    refine ⟨(i + 1, out ++ [_]), ⟨by simp only; omega, hg⟩, by simp only; omega, ?_⟩
    dsimp only
    rw [hap]
    exact Qvi
 rw [if_neg h2]
 by_cases h3 : op = 3
 ·subst h3
  rw [if_pos rfl]
  cases hs with
  | true =>
   rw [if_pos rfl]
   obtain ⟨ns, es, nn, ne⟩ := g
   simp only [Xj, List.map_nil] at *
   refine Qti ?_; refine QBc ?_; refine Qh ?_; refine Qpe ?_
   (show AWP Tryz.prog E _ _ _; refine X1 ?_; exact (show Xd _ _ _ _ _ from ⟨_, YU 103 (cs' := [.d (.sl 3 []), .d (.sl 5 []), ai 0, ai 0]) rfl JM rfl, ⟨⟨103, 0, _, rfl, rfl, .inr ⟨4, _, rfl, rfl, rfl, rfl⟩⟩, rfl, trivial⟩, X3 _⟩))
  | false =>
   rw [if_neg (by simp)]
   replace hps := hps rfl
   by_cases h8 : 8 ≤ nl.length
   ·rw [if_pos h8]
    have h8' : (8 : Int) ≤ (nl.map Xa).length := by omega
    obtain ⟨ns, es, nn, ne⟩ := g
    simp only [Xj, List.map_nil] at *
    refine Qti ?_; refine QBc ?_; refine Qh ?_; refine Qye ?_; refine Z3 ?_; refine Zm ?_; refine Qpe ?_
    (show AWP Tryz.prog E _ _ _; refine X1 ?_; exact (show Xd _ _ _ _ _ from ⟨_, YU 103 (cs' := [.d (.sl 3 []), .d (.sl 5 []), ai 0, ai 0]) rfl JM rfl, ⟨⟨103, 0, _, rfl, rfl, .inr ⟨4, _, rfl, rfl, rfl, rfl⟩⟩, rfl, trivial⟩, X3 _⟩))
   ·rw [if_neg h8]
    have h8' : ¬ (8 : Int) ≤ (nl.map Xa).length := by omega
    generalize Ui g ⟨nid, ls3, np⟩ = g' at *
    obtain ⟨ns, es, nn, ne⟩ := g
    obtain ⟨ns', es', nn', ne'⟩ := g'
    simp only [Xj] at *
    refine Qti ?_; refine QBc ?_; refine Qh ?_; refine Qye ?_; refine Z3 ?_; refine Zm ?_; refine Qj ?_; refine Qje ?_; refine Zr (hcon := hps) ?_; refine Qqg ?_; refine Qne ?_; refine Zr (hcon := hp3) ?_; refine QCa ?_
    (show AWP Tryz.prog E _ _ _; refine X1 ?_; exact (show Xd _ _ _ _ _ from ⟨_, St.le_refl _, ⟨⟨103, 0, _, rfl, rfl, .inr ⟨4, _, rfl, rfl, rfl, rfl⟩⟩, rfl, trivial⟩, X3 _⟩))
 rw [if_neg h3]
 by_cases h4 : op = 4
 ·subst h4
  rw [if_pos rfl]
  cases hs with
  | false =>
   rw [if_pos rfl]
   obtain ⟨ns, es, nn, ne⟩ := g
   simp only [Xj, List.map_nil] at *
   refine Qti ?_; refine QGc ?_; refine Qza ?_; refine Qwe ?_; refine Qpe ?_
   (show AWP Tryz.prog E _ _ _; refine X1 ?_; exact (show Xd _ _ _ _ _ from ⟨_, YU 103 (cs' := [.d (.sl 3 []), .d (.sl 5 []), ai 0, ai 0]) rfl JM rfl, ⟨⟨103, 0, _, rfl, rfl, .inr ⟨4, _, rfl, rfl, rfl, rfl⟩⟩, rfl, trivial⟩, X3 _⟩))
  | true =>
   rw [if_neg (by simp)]
   generalize Ui g ⟨nid, ls4, np⟩ = g' at *
   obtain ⟨ns, es, nn, ne⟩ := g
   obtain ⟨ns', es', nn', ne'⟩ := g'
   simp only [Xj] at *
   refine Qti ?_; refine QGc ?_; refine Qza ?_; refine Qhh ?_; refine Qje ?_; refine Zr (hcon := hwo) ?_; refine Qqg ?_; refine Qne ?_; refine Zr (hcon := hp4) ?_; refine QCa ?_
   (show AWP Tryz.prog E _ _ _; refine X1 ?_; exact (show Xd _ _ _ _ _ from ⟨_, St.le_refl _, ⟨⟨103, 0, _, rfl, rfl, .inr ⟨4, _, rfl, rfl, rfl, rfl⟩⟩, rfl, trivial⟩, X3 _⟩))
 rw [if_neg h4]
 by_cases h5 : 16 < sp.length
 ·rw [if_pos h5]
  rw [decide_eq_false (show ¬ sp.length ≤ 16 by omega)] at hsp
  obtain ⟨ns, es, nn, ne⟩ := g
  simp only [Xj, List.map_nil] at *
  refine Qti ?_; refine QIc ?_; refine X2 ?_; refine Qwi ?_; refine Qwe ?_; refine Qpe ?_
  (show AWP Tryz.prog E _ _ _; refine X1 ?_; exact (show Xd _ _ _ _ _ from ⟨_, YU 103 (cs' := [.d (.sl 3 []), .d (.sl 5 []), ai 0, ai 0]) rfl JM rfl, ⟨⟨103, 0, _, rfl, rfl, .inr ⟨4, _, rfl, rfl, rfl, rfl⟩⟩, rfl, trivial⟩, X3 _⟩))
 rw [if_neg h5]
 rw [decide_eq_true (show sp.length ≤ 16 by omega)] at hsp
 generalize Ui g ⟨nid, nl, sp⟩ = g' at *
 obtain ⟨ns, es, nn, ne⟩ := g
 obtain ⟨ns', es', nn', ne'⟩ := g'
 simp only [Xj] at *
 refine Qti ?_; refine QIc ?_; refine X2 ?_; refine Qwi ?_; refine Qhh ?_; refine Qd ?_; refine Qqg ?_; refine Qne ?_; refine Zr (hcon := hp5) ?_; refine QCa ?_
 (show AWP Tryz.prog E _ _ _; refine X1 ?_; exact (show Xd _ _ _ _ _ from ⟨_, St.le_refl _, ⟨⟨103, 0, _, rfl, rfl, .inr ⟨4, _, rfl, rfl, rfl, rfl⟩⟩, rfl, trivial⟩, X3 _⟩))
theorem XcI (g : Gra) (c : Chg) (n : Edg) (hg : GV g) (hn : Uw g.edges c.id = some n) (hv : Ym c.v) (hid : 1 ≤ c.id ∧ c.id ≤ 1000000) : Con Tryz.prog 115 [] [Xj g, Xu c, Uj n] [] (.tup [Xj (X0o g c n).1, ai (X0o g c n).2]) := by
 refine Xc (xs := [Xj (X0o g c n).1, ai (X0o g c n).2]) Tryz.func115 rfl Tryz.ntmps115 rfl rfl rfl (fun E => ?_)
 have hl2 := hg.el
 obtain ⟨hnm, hni⟩ := X4n hn
 have hpl := (hg.edges n hnm).2.2.2.2.2.pl
 have hsp := X8u n.props c.name c.v (by omega) hv
 have hp5 := X8N g ⟨n.id, n.src, n.dst, n.typ, XP n.props c.name c.v⟩ (by omega) (by show 0 ≤ n.id; omega) (by show n.id ≤ 1000000; omega)
 clear hg hn hnm hv
 unfold X0o
 obtain ⟨op, id, src, dst, name, ⟨vk, vn, vd, vs, vl⟩⟩ := c
 obtain ⟨nid, nsr, nds, nt, np⟩ := n
 simp only [Xu, Y1, Uj, Xm] at *
 subst hni
 generalize XP np name (.mk vk vn vd vs vl) = sp at *
 by_cases h8 : op = 8
 ·subst h8
  rw [if_pos rfl]
  by_cases h5 : 16 < sp.length
  ·rw [if_pos h5]
   rw [decide_eq_false (show ¬ sp.length ≤ 16 by omega)] at hsp
   obtain ⟨ns, es, nn, ne⟩ := g
   simp only [Xj, List.map_nil] at *
   refine Qsi ?_; refine Qre ?_; refine Qm ?_; refine Qwi ?_; refine Qwe ?_; refine Qpe ?_
   (show AWP Tryz.prog E _ _ _; refine X1 ?_; exact (show Xd _ _ _ _ _ from ⟨_, YU 103 (cs' := [.d (.sl 3 []), .d (.sl 5 []), ai 0, ai 0]) rfl JM rfl, ⟨⟨103, 0, _, rfl, rfl, .inr ⟨4, _, rfl, rfl, rfl, rfl⟩⟩, rfl, trivial⟩, X3 _⟩))
  rw [if_neg h5]
  rw [decide_eq_true (show sp.length ≤ 16 by omega)] at hsp
  generalize Vs g ⟨nid, nsr, nds, nt, sp⟩ = g' at *
  obtain ⟨ns, es, nn, ne⟩ := g
  obtain ⟨ns', es', nn', ne'⟩ := g'
  simp only [Xj] at *
  refine Qsi ?_; refine Qre ?_; refine Qm ?_; refine Qwi ?_; refine Qhh ?_; refine Qd ?_; refine Qqg ?_; refine Qne ?_; refine Zr (hcon := hp5) ?_; refine QCa ?_
  (show AWP Tryz.prog E _ _ _; refine X1 ?_; exact (show Xd _ _ _ _ _ from ⟨_, St.le_refl _, ⟨⟨103, 0, _, rfl, rfl, .inr ⟨4, _, rfl, rfl, rfl, rfl⟩⟩, rfl, trivial⟩, X3 _⟩))
 rw [if_neg h8]
 obtain ⟨ns, es, nn, ne⟩ := g
 simp only [Xj] at *
 have hRl := X6c (key := Edg.id) es nid
 generalize hR : YH Edg.id es nid = R at *
 have hlm : (es.map Xf).length = es.length := by simp
 refine Qsi ?_; refine Qse ?_; refine QXc ?_; refine Xk (U1 10 130 5 rfl rfl rfl) ?_
 refine Xz (ι := Nat × List Edg) (fun q => q.1 ≤ es.length ∧ q.2 ++ YH Edg.id (es.drop q.1) nid = R) (fun q => ⟨60, [(3, .ptr 100 0), (4, .ptr 101 0), (5, .ptr 102 0), (6, .ptr 103 0), (10, .own 130 (q.2.map Xf).length), (11, ai q.1)], [(100, .box [.d (.sl 3 (ns.map X9)), .d (.sl 5 (es.map Xf)), ai nn, ai ne]), (101, .box [ai op, ai nid, ai src, ai dst, .d (.v (.string (X5 name))), ai vk, ai vn, ai vd, .d (.v (.string (X5 vs))), .d (.sl 5 (XG vl))]), (102, .box [ai nid, ai nsr, ai nds, .d (.v (.string (X5 nt))), .d (.sl 6 (np.map X7))]), (103, .box [ani, ani, ai 0, ai 0]), (130, .row 5 (q.2.map Xf))]⟩) (fun q => es.length - q.1) (0, []) ⟨Nat.zero_le _, by simpa using hR⟩
  (X6 rfl JM ⟨rfl, rfl, rfl, rfl, rfl, trivial⟩) ?_
 rintro ⟨i, out⟩ ⟨hi, hg⟩
 simp only at hi hg
 by_cases hil : i < es.length
 case neg =>
  have hn : ¬ (i : Int) < (es.map Xf).length := by omega
  rw [List.drop_of_length_le (by omega), show YH Edg.id ([] : List Edg) nid = [] from rfl, List.append_nil] at hg
  subst hg
  refine Qgh ?_; refine X0 ?_; refine Xk (Yt 130 rfl) ?_; refine Xk (Ys 10 130 rfl rfl (by simp)) ?_; refine Qfb ?_; refine Qqg ?_; refine QTc ?_; refine QCa ?_
  (show AWP Tryz.prog E _ _ _; refine X1 ?_; exact (show Xd _ _ _ _ _ from ⟨_, St.le_refl _, ⟨⟨103, 0, _, rfl, rfl, .inr ⟨4, _, rfl, rfl, rfl, rfl⟩⟩, rfl, trivial⟩, X3 _⟩))
 have hn : (i : Int) < (es.map Xf).length := by omega
 obtain ⟨x, hx⟩ := Xs (l := es) hil
 have hxc : (es.map Xf)[i]? = some (Xf x) := Xx hx
 rw [X71 hx] at hg
 have hrm := X2l hg
 have hroom : (out.map Xf).length ≤ 100000 := by rw [List.length_map]; omega
 obtain ⟨xid, xs, xd, xt, xp⟩ := x
 simp only [Xf] at hxc
 clear hx
 by_cases hq : xid = nid
 ·subst hq
  rw [if_pos rfl, List.nil_append] at hg
  refine Qzh ?_; refine QIb ?_; refine QOd ?_; refine Qgb ?_; exact Qui
 ·rw [if_neg (show ¬ Edg.id _ = nid from hq), ← List.append_assoc] at hg
  have hap : (out ++ [(⟨xid, xs, xd, xt, xp⟩ : Edg)]).map Xf = out.map Xf ++ [[.v (.int .i64 xid), .v (.int .i64 xs), .v (.int .i64 xd), .v (.string (X5 xt)), .sl 6 (xp.map X7)]] := by simp [Xf]
  refine Qzh ?_; refine Qmh ?_
  refine ⟨(i + 1, out ++ [_]), ⟨by simp only; omega, hg⟩, by simp only; omega, ?_⟩
  dsimp only
  rw [hap]
  exact Qvi
open Go
theorem X9D {ls : List (List UInt8)} {ps : List Prp} (h : PV ls ps) : ls.length ≤ 9223372036854775807 ∧ (∀ s ∈ ls, s.length ≤ 9223372036854775807) ∧ ps.length ≤ 9223372036854775807 ∧ ∀ p ∈ ps, X1y p := by
 have h1 := h.ll
 have h2 := h.pl
 refine ⟨by omega, fun s hs => by have := X1F (h.ln s hs); omega, by omega, fun p hp => ⟨by have := X1F (h.pn p hp); omega, X6a (h.pv p hp)⟩⟩
theorem Xf4 {g : Gra} (h : GV g) : GraHold g := by
 have h1 := h.nl
 have h2 := h.el
 refine ⟨by omega, by omega, fun n hn => X9D (h.nodes n hn).2.2, fun e he => ?_⟩
 obtain ⟨_, _, _, _, q, r⟩ := h.edges e he
 obtain ⟨_, _, r3, r4⟩ := X9D r
 exact ⟨by have := X1F q; omega, r3, r4⟩
theorem Xcx : GraHold YK := ⟨by simp, by simp, by simp, by simp⟩
theorem Xhd {g : Gra} {l : List Chg} (hz : (Y7 g l).2.2 ≠ 0 → (Y7 g l).1 = YK) : GraHold (Y7 g l).1 := by
 by_cases q : (Y7 g l).2.2 = 0
 ·exact Xf4 (Xdn q)
 ·rw [hz q]; exact Xcx
theorem X9H : ∀ (l : List Chg) (g : Gra) (k : Nat), (V5 g k l).2.2 ≠ 0 → (V5 g k l).1 = YK
 | [], g, k, h => by simp [V5] at h
 | c :: r, g, k, h => by
  rw [V5] at h ⊢
  by_cases q : (XW g c).2 ≠ 0
  ·rw [if_pos q]
  ·rw [if_neg q] at h ⊢
   exact X9H r _ _ h
theorem Xii {g : Gra} {l : List Chg} (h : (Y7 g l).2.2 ≠ 0) : (Y7 g l).1 = YK := by
 unfold Y7 at h ⊢
 by_cases q : Yh g ≠ 0
 ·rw [if_pos q]
 ·rw [if_neg q] at h ⊢
  exact X9H l g 0 h
theorem X7L (g : Gra) (l : List Chg) : GraHold (Y7 g l).1 := Xhd Xii
end Go.Fw
