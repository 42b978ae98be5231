/- What the reference does with a node or an edge that is there. -/
import Derived.Test.YtonekjkmnhfjmaaGreatDoorM38
set_option maxHeartbeats 16000000
namespace Go.Fw
open Go Go.Proofs
set_option maxRecDepth 100000
set_option linter.unusedVariables false
set_option linter.unusedSimpArgs false
theorem Xfc (g : Gra) (id : Int) (hl : g.edges.length ≤ 100000) : Con Tryz.prog 176 [] [Xl g, ai id] [] (ab (UG g.edges id)) := by
 refine Xc (xs := [ab (UG g.edges id)]) Tryz.func176 rfl Tryz.ntmps176 rfl rfl rfl (fun E => ?_)
 have h := Xfb g id hl
 have hu := XgN g.edges id
 have hm : ((Uz id [] g.edges).map cAD).length = (Uz id [] g.edges).length := by simp
 generalize Uz id [] g.edges = A at *
 generalize UG g.edges id = u at *
 obtain ⟨ns, es, nn, ne⟩ := g
 unfold Xl at *
 simp only at h ⊢
 refine QSa ?_; refine QXb ?_; refine Z9 (hcon := h) ?_; refine Qgb ?_; refine Qb ?_
 have e : decide ((0 : Int) < ((A.map cAD).length : Nat)) = u := by rw [← hu]; exact decide_eq_decide.2 (by omega)
 (show AWP Tryz.prog E _ _ _; refine X1 ?_; exact (show Xd _ _ _ _ _ from ⟨_, St.le_refl _, ⟨congrArg ab e, trivial⟩, X3 _⟩))
theorem XhE (g : Gra) (c : Chg) (n : Nod) (hg : GV g) (hn : YJ g.nodes c.id = some n) (hv : Y3 c.v) (hid : 1 ≤ c.id ∧ c.id ≤ 1000000) : Con Tryz.prog 116 [] [Xl g, Xs c, Y9 n] [] (.tup [Xl (X0k g c n).1, ai (X0k g c n).2]) := by
 refine Xc (xs := [Xl (X0k g c n).1, ai (X0k g c n).2]) Tryz.func116 rfl Tryz.ntmps116 rfl rfl rfl (fun E => ?_)
 have hl1 := hg.nl
 have hl2 := hg.el
 obtain ⟨hnm, hni⟩ := X0R hn
 have hpv := (hg.nodes n hnm).2.2
 have hll := hpv.ll
 have hpl := hpv.pl
 have hlb := Xe1 n c.name (by omega)
 rw [Xdt] at hlb
 have hus := Xfc g c.id (by omega)
 have hps := XgW n.labels c.name (by omega) hpv.lr
 have hwo := XeT n.labels c.name (by omega)
 have hsp := X8p n.props c.name c.v (by omega) hv
 have hpn : ∀ ls ps, Con Tryz.prog 113 [] [Xl g, .agg [ai n.id, .d (.sl 1 (ls.map Xb)), .d (.sl 6 (ps.map X6))]] [] (Xl (U1 g ⟨n.id, ls, ps⟩)) := fun ls ps => X8v g ⟨n.id, ls, ps⟩ (by omega) (by show 0 ≤ n.id; omega) (by show n.id ≤ 1000000; omega)
 have hlm1 : (n.labels.map Xb).length = n.labels.length := by simp
 clear hg hn hnm hv hpv
 unfold X0k
 obtain ⟨op, id, src, dst, name, ⟨vk, vn, vd, vs, vl⟩⟩ := c
 obtain ⟨nid, nl, np⟩ := n
 simp only [Xs, XY, Y9, XG] at *
 subst hni
 generalize Xn XC nl name = hs at *
 generalize XV np name (.mk vk vn vd vs vl) = sp at *
 generalize Yh ltS XC nl name [name] = ls3 at *
 generalize Yx XC nl name = ls4 at *
 have hp3 := hpn ls3 np
 have hp4 := hpn ls4 np
 have hp5 := hpn nl sp
 clear hpn
 by_cases h2 : op = 2
 ·subst h2
  rw [if_pos rfl]
  cases hu : UG g.edges nid with
  | true =>
   rw [if_pos rfl]
   rw [hu] at hus
   obtain ⟨ns, es, nn, ne⟩ := g
   simp only [Xl, List.map_nil] at *
   refine Qyg ?_; refine QFb ?_; refine Qbd ?_; refine QTa ?_; refine Z9 (hcon := hus) ?_; refine Qrd ?_
   (show AWP Tryz.prog E _ _ _; refine X1 ?_; exact (show Xd _ _ _ _ _ from ⟨_, Y5 103 (cs' := [.d (.sl 3 []), .d (.sl 5 []), ai 0, ai 0]) rfl JM rfl, ⟨⟨103, 0, _, rfl, rfl, .inr ⟨4, _, rfl, rfl, rfl, rfl⟩⟩, rfl, trivial⟩, X3 _⟩))
  | false =>
   rw [if_neg (by simp)]
   rw [hu] at hus
   obtain ⟨ns, es, nn, ne⟩ := g
   simp only [Xl] at *
   have hRl := X67 (key := Nod.id) ns nid
   generalize hR : Yx Nod.id ns nid = R at *
   have hlm : (ns.map X9).length = ns.length := by simp
   refine Qyg ?_; refine QFb ?_; refine Qbd ?_; refine QTa ?_; refine Z9 (hcon := hus) ?_; refine QH ?_; refine Qac ?_; refine Xm (YX 9 130 3 rfl rfl rfl) ?_
   refine Xz (ι := Nat × List Nod) (fun q => q.1 ≤ ns.length ∧ q.2 ++ Yx Nod.id (ns.drop q.1) nid = R) (fun q => ⟨103, [(3, .ptr 100 0), (4, .ptr 101 0), (5, .ptr 102 0), (6, .ptr 103 0), (9, .own 130 (q.2.map X9).length), (10, ai q.1)], [(100, .box [.d (.sl 3 (ns.map X9)), .d (.sl 5 (es.map Xe)), ai nn, ai ne]), (101, .box [ai 2, ai nid, ai src, ai dst, .d (.v (.string (X5 name))), ai vk, ai vn, ai vd, .d (.v (.string (X5 vs))), .d (.sl 5 (Xx vl))]), (102, .box [ai nid, .d (.sl 1 (nl.map Xb)), .d (.sl 6 (np.map X6))]), (103, .box [ani, ani, ai 0, ai 0]), (130, .row 3 (q.2.map X9))]⟩) (fun q => ns.length - q.1) (0, []) ⟨Nat.zero_le _, by simpa using hR⟩
    (X7 rfl JM ⟨rfl, rfl, rfl, rfl, rfl, trivial⟩) ?_
   rintro ⟨i, out⟩ ⟨hi, hg⟩
   simp only at hi hg
   by_cases hil : i < ns.length
   case neg =>
    have hn : ¬ (i : Int) < (ns.map X9).length := by omega
    rw [List.drop_of_length_le (by omega), show Yx Nod.id ([] : List Nod) nid = [] from rfl, List.append_nil] at hg
    subst hg
    refine Qgf ?_; refine X0 ?_; refine QId ?_; refine Xm (Yq 9 130 rfl rfl (by simp)) ?_; refine QAa ?_; refine QCf ?_; refine QWb ?_; refine Qfa ?_
    (show AWP Tryz.prog E _ _ _; refine X1 ?_; exact (show Xd _ _ _ _ _ from ⟨_, St.le_refl _, ⟨⟨103, 0, _, rfl, rfl, .inr ⟨4, _, rfl, rfl, rfl, rfl⟩⟩, rfl, trivial⟩, X3 _⟩))
   have hn : (i : Int) < (ns.map X9).length := by omega
   obtain ⟨x, hx⟩ := Xu (l := ns) hil
   have hxc : (ns.map X9)[i]? = some (X9 x) := XD hx
   rw [X6q hx] at hg
   have hrm := X0q hg
   have hroom : (out.map X9).length ≤ 100000 := by rw [List.length_map]; omega
   obtain ⟨xid, xl, xp⟩ := x
   simp only [X9] at hxc
   clear hx
   by_cases hq : xid = nid
   ·subst hq
    rw [if_pos rfl, List.nil_append] at hg
    refine Qif ?_; refine Qhg ?_; exact Qzg
   ·rw [if_neg (show ¬ Nod.id _ = nid from hq), ← List.append_assoc] at hg
    have hap : (out ++ [(⟨xid, xl, xp⟩ : Nod)]).map X9 = out.map X9 ++ [[.v (.int .i64 xid), .sl 1 (xl.map Xb), .sl 6 (xp.map X6)]] := by simp [X9]
    refine Qif ?_; refine Qjg ?_
    refine ⟨(i + 1, out ++ [_]), ⟨by simp only; omega, hg⟩, by simp only; omega, ?_⟩
    dsimp only
    rw [hap]
    exact QAg
 rw [if_neg h2]
 by_cases h3 : op = 3
 ·subst h3
  rw [if_pos rfl]
  cases hs with
  | true =>
   rw [if_pos rfl]
   obtain ⟨ns, es, nn, ne⟩ := g
   simp only [Xl, List.map_nil] at *
   refine Qyg ?_; refine QHb ?_; refine Qt ?_; refine Qrd ?_
   (show AWP Tryz.prog E _ _ _; refine X1 ?_; exact (show Xd _ _ _ _ _ from ⟨_, Y5 103 (cs' := [.d (.sl 3 []), .d (.sl 5 []), ai 0, ai 0]) rfl JM rfl, ⟨⟨103, 0, _, rfl, rfl, .inr ⟨4, _, rfl, rfl, rfl, rfl⟩⟩, rfl, trivial⟩, X3 _⟩))
  | false =>
   rw [if_neg (by simp)]
   replace hps := hps rfl
   by_cases h8 : 8 ≤ nl.length
   ·rw [if_pos h8]
    have h8' : (8 : Int) ≤ (nl.map Xb).length := by omega
    obtain ⟨ns, es, nn, ne⟩ := g
    simp only [Xl, List.map_nil] at *
    refine Qyg ?_; refine QHb ?_; refine Qt ?_; refine Qtd ?_; refine Zd ?_; refine Z2 ?_; refine Qrd ?_
    (show AWP Tryz.prog E _ _ _; refine X1 ?_; exact (show Xd _ _ _ _ _ from ⟨_, Y5 103 (cs' := [.d (.sl 3 []), .d (.sl 5 []), ai 0, ai 0]) rfl JM rfl, ⟨⟨103, 0, _, rfl, rfl, .inr ⟨4, _, rfl, rfl, rfl, rfl⟩⟩, rfl, trivial⟩, X3 _⟩))
   ·rw [if_neg h8]
    have h8' : ¬ (8 : Int) ≤ (nl.map Xb).length := by omega
    generalize U1 g ⟨nid, ls3, np⟩ = g' at *
    obtain ⟨ns, es, nn, ne⟩ := g
    obtain ⟨ns', es', nn', ne'⟩ := g'
    simp only [Xl] at *
    refine Qyg ?_; refine QHb ?_; refine Qt ?_; refine Qtd ?_; refine QBg ?_; refine Qjd ?_; refine Z9 (hcon := hps) ?_; refine QCf ?_; refine Qnd ?_; refine Z9 (hcon := hp3) ?_; refine Qfa ?_
    (show AWP Tryz.prog E _ _ _; refine X1 ?_; exact (show Xd _ _ _ _ _ from ⟨_, St.le_refl _, ⟨⟨103, 0, _, rfl, rfl, .inr ⟨4, _, rfl, rfl, rfl, rfl⟩⟩, rfl, trivial⟩, X3 _⟩))
 rw [if_neg h3]
 by_cases h4 : op = 4
 ·subst h4
  rw [if_pos rfl]
  cases hs with
  | false =>
   rw [if_pos rfl]
   obtain ⟨ns, es, nn, ne⟩ := g
   simp only [Xl, List.map_nil] at *
   refine Qyg ?_; refine QNb ?_; refine Qia ?_; refine Qvd ?_; refine Qrd ?_
   (show AWP Tryz.prog E _ _ _; refine X1 ?_; exact (show Xd _ _ _ _ _ from ⟨_, Y5 103 (cs' := [.d (.sl 3 []), .d (.sl 5 []), ai 0, ai 0]) rfl JM rfl, ⟨⟨103, 0, _, rfl, rfl, .inr ⟨4, _, rfl, rfl, rfl, rfl⟩⟩, rfl, trivial⟩, X3 _⟩))
  | true =>
   rw [if_neg (by simp)]
   generalize U1 g ⟨nid, ls4, np⟩ = g' at *
   obtain ⟨ns, es, nn, ne⟩ := g
   obtain ⟨ns', es', nn', ne'⟩ := g'
   simp only [Xl] at *
   refine Qyg ?_; refine QNb ?_; refine Qia ?_; refine Qeg ?_; refine Qjd ?_; refine Z9 (hcon := hwo) ?_; refine QCf ?_; refine Qnd ?_; refine Z9 (hcon := hp4) ?_; refine Qfa ?_
   (show AWP Tryz.prog E _ _ _; refine X1 ?_; exact (show Xd _ _ _ _ _ from ⟨_, St.le_refl _, ⟨⟨103, 0, _, rfl, rfl, .inr ⟨4, _, rfl, rfl, rfl, rfl⟩⟩, rfl, trivial⟩, X3 _⟩))
 rw [if_neg h4]
 by_cases h5 : 16 < sp.length
 ·rw [if_pos h5]
  rw [decide_eq_false (show ¬ sp.length ≤ 16 by omega)] at hsp
  obtain ⟨ns, es, nn, ne⟩ := g
  simp only [Xl, List.map_nil] at *
  refine Qyg ?_; refine QNb ?_; refine Qja ?_; refine X2 ?_; refine QCg ?_; refine Qvd ?_; refine Qrd ?_
  (show AWP Tryz.prog E _ _ _; refine X1 ?_; exact (show Xd _ _ _ _ _ from ⟨_, Y5 103 (cs' := [.d (.sl 3 []), .d (.sl 5 []), ai 0, ai 0]) rfl JM rfl, ⟨⟨103, 0, _, rfl, rfl, .inr ⟨4, _, rfl, rfl, rfl, rfl⟩⟩, rfl, trivial⟩, X3 _⟩))
 rw [if_neg h5]
 rw [decide_eq_true (show sp.length ≤ 16 by omega)] at hsp
 generalize U1 g ⟨nid, nl, sp⟩ = g' at *
 obtain ⟨ns, es, nn, ne⟩ := g
 obtain ⟨ns', es', nn', ne'⟩ := g'
 simp only [Xl] at *
 refine Qyg ?_; refine QNb ?_; refine Qja ?_; refine X2 ?_; refine QCg ?_; refine Qeg ?_; refine Qd ?_; refine QCf ?_; refine Qnd ?_; refine Z9 (hcon := hp5) ?_; refine Qfa ?_
 (show AWP Tryz.prog E _ _ _; refine X1 ?_; exact (show Xd _ _ _ _ _ from ⟨_, St.le_refl _, ⟨⟨103, 0, _, rfl, rfl, .inr ⟨4, _, rfl, rfl, rfl, rfl⟩⟩, rfl, trivial⟩, X3 _⟩))
theorem Xhv (g : Gra) (c : Chg) (n : Edg) (hg : GV g) (hn : Ua g.edges c.id = some n) (hv : Y3 c.v) (hid : 1 ≤ c.id ∧ c.id ≤ 1000000) : Con Tryz.prog 115 [] [Xl g, Xs c, U0 n] [] (.tup [Xl (X0j g c n).1, ai (X0j g c n).2]) := by
 refine Xc (xs := [Xl (X0j g c n).1, ai (X0j g c n).2]) Tryz.func115 rfl Tryz.ntmps115 rfl rfl rfl (fun E => ?_)
 have hl2 := hg.el
 obtain ⟨hnm, hni⟩ := X54 hn
 have hpl := (hg.edges n hnm).2.2.2.2.2.pl
 have hsp := X8p n.props c.name c.v (by omega) hv
 have hp5 := X8T g ⟨n.id, n.src, n.dst, n.typ, XV n.props c.name c.v⟩ (by omega) (by show 0 ≤ n.id; omega) (by show n.id ≤ 1000000; omega)
 clear hg hn hnm hv
 unfold X0j
 obtain ⟨op, id, src, dst, name, ⟨vk, vn, vd, vs, vl⟩⟩ := c
 obtain ⟨nid, nsr, nds, nt, np⟩ := n
 simp only [Xs, XY, U0, XG] at *
 subst hni
 generalize XV np name (.mk vk vn vd vs vl) = sp at *
 by_cases h8 : op = 8
 ·subst h8
  rw [if_pos rfl]
  by_cases h5 : 16 < sp.length
  ·rw [if_pos h5]
   rw [decide_eq_false (show ¬ sp.length ≤ 16 by omega)] at hsp
   obtain ⟨ns, es, nn, ne⟩ := g
   simp only [Xl, List.map_nil] at *
   refine QDg ?_; refine Zl ?_; refine Qx ?_; refine QCg ?_; refine Qvd ?_; refine Qrd ?_
   (show AWP Tryz.prog E _ _ _; refine X1 ?_; exact (show Xd _ _ _ _ _ from ⟨_, Y5 103 (cs' := [.d (.sl 3 []), .d (.sl 5 []), ai 0, ai 0]) rfl JM rfl, ⟨⟨103, 0, _, rfl, rfl, .inr ⟨4, _, rfl, rfl, rfl, rfl⟩⟩, rfl, trivial⟩, X3 _⟩))
  rw [if_neg h5]
  rw [decide_eq_true (show sp.length ≤ 16 by omega)] at hsp
  generalize V5 g ⟨nid, nsr, nds, nt, sp⟩ = g' at *
  obtain ⟨ns, es, nn, ne⟩ := g
  obtain ⟨ns', es', nn', ne'⟩ := g'
  simp only [Xl] at *
  refine QDg ?_; refine Zl ?_; refine Qx ?_; refine QCg ?_; refine Qeg ?_; refine Qd ?_; refine QCf ?_; refine Qnd ?_; refine Z9 (hcon := hp5) ?_; refine Qfa ?_
  (show AWP Tryz.prog E _ _ _; refine X1 ?_; exact (show Xd _ _ _ _ _ from ⟨_, St.le_refl _, ⟨⟨103, 0, _, rfl, rfl, .inr ⟨4, _, rfl, rfl, rfl, rfl⟩⟩, rfl, trivial⟩, X3 _⟩))
 rw [if_neg h8]
 obtain ⟨ns, es, nn, ne⟩ := g
 simp only [Xl] at *
 have hRl := X67 (key := Edg.id) es nid
 generalize hR : Yx Edg.id es nid = R at *
 have hlm : (es.map Xe).length = es.length := by simp
 refine QDg ?_; refine Qdc ?_; refine Qac ?_; refine Xm (YX 10 130 5 rfl rfl rfl) ?_
 refine Xz (ι := Nat × List Edg) (fun q => q.1 ≤ es.length ∧ q.2 ++ Yx Edg.id (es.drop q.1) nid = R) (fun q => ⟨60, [(3, .ptr 100 0), (4, .ptr 101 0), (5, .ptr 102 0), (6, .ptr 103 0), (10, .own 130 (q.2.map Xe).length), (11, ai q.1)], [(100, .box [.d (.sl 3 (ns.map X9)), .d (.sl 5 (es.map Xe)), ai nn, ai ne]), (101, .box [ai op, ai nid, ai src, ai dst, .d (.v (.string (X5 name))), ai vk, ai vn, ai vd, .d (.v (.string (X5 vs))), .d (.sl 5 (Xx vl))]), (102, .box [ai nid, ai nsr, ai nds, .d (.v (.string (X5 nt))), .d (.sl 6 (np.map X6))]), (103, .box [ani, ani, ai 0, ai 0]), (130, .row 5 (q.2.map Xe))]⟩) (fun q => es.length - q.1) (0, []) ⟨Nat.zero_le _, by simpa using hR⟩
  (X7 rfl JM ⟨rfl, rfl, rfl, rfl, rfl, trivial⟩) ?_
 rintro ⟨i, out⟩ ⟨hi, hg⟩
 simp only at hi hg
 by_cases hil : i < es.length
 case neg =>
  have hn : ¬ (i : Int) < (es.map Xe).length := by omega
  rw [List.drop_of_length_le (by omega), show Yx Edg.id ([] : List Edg) nid = [] from rfl, List.append_nil] at hg
  subst hg
  refine Qgf ?_; refine X0 ?_; refine QId ?_; refine Xm (Yq 10 130 rfl rfl (by simp)) ?_; refine QAa ?_; refine QCf ?_; refine QWb ?_; refine Qfa ?_
  (show AWP Tryz.prog E _ _ _; refine X1 ?_; exact (show Xd _ _ _ _ _ from ⟨_, St.le_refl _, ⟨⟨103, 0, _, rfl, rfl, .inr ⟨4, _, rfl, rfl, rfl, rfl⟩⟩, rfl, trivial⟩, X3 _⟩))
 have hn : (i : Int) < (es.map Xe).length := by omega
 obtain ⟨x, hx⟩ := Xu (l := es) hil
 have hxc : (es.map Xe)[i]? = some (Xe x) := XD hx
 rw [X6q hx] at hg
 have hrm := X0q hg
 have hroom : (out.map Xe).length ≤ 100000 := by rw [List.length_map]; omega
 obtain ⟨xid, xs, xd, xt, xp⟩ := x
 simp only [Xe] at hxc
 clear hx
 by_cases hq : xid = nid
 ·subst hq
  rw [if_pos rfl, List.nil_append] at hg
  refine Qif ?_; refine Qhg ?_; exact Qzg
 ·rw [if_neg (show ¬ Edg.id _ = nid from hq), ← List.append_assoc] at hg
  have hap : (out ++ [(⟨xid, xs, xd, xt, xp⟩ : Edg)]).map Xe = out.map Xe ++ [[.v (.int .i64 xid), .v (.int .i64 xs), .v (.int .i64 xd), .v (.string (X5 xt)), .sl 6 (xp.map X6)]] := by simp [Xe]
  refine Qif ?_; refine Qjg ?_
  refine ⟨(i + 1, out ++ [_]), ⟨by simp only; omega, hg⟩, by simp only; omega, ?_⟩
  dsimp only
  rw [hap]
  exact QAg
end Go.Fw
