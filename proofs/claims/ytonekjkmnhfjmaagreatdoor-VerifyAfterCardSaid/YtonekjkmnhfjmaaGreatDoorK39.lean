/- Nodes looked up; their copies. -/
import Derived.Test.YtonekjkmnhfjmaaGreatDoorK38
set_option maxHeartbeats 32000000
namespace Go.Fw
open Go Go.Proofs
set_option maxRecDepth 100000
set_option linter.unusedVariables false
set_option linter.unusedSimpArgs false
theorem Xg1 (xs : List (List D)) (hl : xs.length ≤ 100000) : Con Tryz.prog 118 [] [.d (.sl 1 xs)] [] (.d (.sl 1 xs)) := by
 refine Xc (xs := [.d (.sl 1 xs)]) Tryz.func118 rfl Tryz.ntmps118 rfl rfl rfl (fun E => ?_)
 refine QGg ?_
 refine X1S rfl (fun h => ?_) (fun _ => ?_)
 ·subst h
  refine Qc ?_; refine X1 ?_; exact ⟨_, Xr 2 (AVal.le_nil 1), ⟨rfl, trivial⟩, X3 _⟩
 ·refine QHg ?_; exact ⟨_, St.le_trans (Yt 100 rfl) (Ys 2 100 rfl rfl (by simp)), ⟨rfl, trivial⟩, X3 _⟩
theorem XeC (xs : List (List D)) (hl : xs.length ≤ 100000) : Con Tryz.prog 248 [] [.d (.sl 5 xs)] [] (.d (.sl 5 xs)) := by
 refine Xc (xs := [.d (.sl 5 xs)]) Tryz.func248 rfl Tryz.ntmps248 rfl rfl rfl (fun E => ?_)
 refine QGg ?_
 refine X1S rfl (fun h => ?_) (fun _ => ?_)
 ·subst h
  refine Qc ?_; refine X1 ?_; exact ⟨_, Xr 2 (AVal.le_nil 5), ⟨rfl, trivial⟩, X3 _⟩
 ·refine QHg ?_; exact ⟨_, St.le_trans (Yt 100 rfl) (Ys 2 100 rfl rfl (by simp)), ⟨rfl, trivial⟩, X3 _⟩
theorem Xcc (xs : List (List D)) (hl : xs.length ≤ 100000) : Con Tryz.prog 164 [] [.d (.sl 6 xs)] [(130, .row 6 xs)] (.own 130 xs.length) := by
 have h : Con Tryz.prog 164 [] [.d (.sl 6 xs)] [(100, .row 6 xs)] (.own 100 xs.length) := by
  refine Xc (xs := [.own 100 xs.length]) Tryz.func164 rfl Tryz.ntmps164 rfl rfl rfl (fun E => ?_)
  refine QGg ?_
  refine X1S rfl (fun h => ?_) (fun _ => ?_)
  ·subst h
   refine Qc ?_; refine X1 ?_; exact ⟨_, U1 2 100 6 rfl rfl rfl, ⟨rfl, trivial⟩, XX ⟨rfl, trivial⟩⟩
  ·refine QHg ?_
   refine ⟨_, St.le_refl _, ⟨?_, trivial⟩, XX ⟨rfl, trivial⟩⟩
   simp only [X1E]; simp [St.get, St.set, St.own, Xb]
 exact YP 100 130 h
theorem XhZ (k n d : Int) (s : List UInt8) : Con Tryz.prog 186 [] [.agg [ai k, ai n, ai d, XC s, .d (.sl 5 [])]] [] (.agg [ai k, ai n, ai d, XC s, .d (.sl 5 [])]) := by
 refine Xc (xs := [.agg [ai k, ai n, ai d, XC s, .d (.sl 5 [])]]) Tryz.func186 rfl Tryz.ntmps186 rfl rfl rfl (fun E => ?_)
 have hc := XeC [] (by simp)
 refine Qoe ?_; refine JD ?_; refine QJb ?_; refine Qte ?_; refine Qqg ?_; refine Qmc ?_; refine Qcc ?_
 refine Xz (ι := Unit) (fun _ => True) (fun _ => ⟨26, [(1, .ptr 100 0), (2, .ptr 101 0), (10, ai 0), (11, ai 0)], [(100, .box [ai k, ai n, ai d, XC s, .d (.sl 5 [])]), (101, .box [ai 0, ai 0, ai 0, XC [], ani])]⟩) (fun _ => 0) () trivial
  (X6 rfl JM ⟨rfl, rfl, trivial⟩) ?_
 rintro _ _
 have hn : ¬ (0 : Int) < 0 := by omega
 refine Qka ?_; refine QTc ?_; refine Qec ?_
 (show AWP Tryz.prog E _ _ _; refine X1 ?_; exact (show Xd _ _ _ _ _ from ⟨_, St.le_refl _, ⟨⟨101, 0, _, rfl, rfl, .inr ⟨5, _, rfl, rfl, rfl, rfl⟩⟩, trivial⟩, X3 _⟩))
theorem Xel (l : List Prp) (hl : l.length ≤ 1000) (hp : ∀ p ∈ l, XV p.v = true) : Con Tryz.prog 119 [] [.d (.sl 6 (l.map X7))] [] (.d (.sl 6 (l.map X7))) := by
 refine Xc (xs := [.d (.sl 6 (l.map X7))]) Tryz.func119 rfl Tryz.ntmps119 rfl rfl rfl (fun E => ?_)
 have hlm : (l.map X7).length = l.length := by simp
 have hc := Xcc (l.map X7) (by omega)
 refine QB ?_; refine Qte ?_; refine Qi ?_; refine Z5 ?_; refine Qia ?_
 clear hc
 refine Xz (fun i : Nat => i ≤ l.length) (fun i => ⟨24, [(3, .own 130 (l.map X7).length), (8, ai (l.map X7).length), (9, ai i)], [(130, .row 6 (l.map X7))]⟩) (fun i => l.length - i) 0 (Nat.zero_le _)
  (X6 rfl JM ⟨rfl, trivial⟩) ?_
 intro i hi
 by_cases hil : i < l.length
 case neg =>
  have hn : ¬ (i : Int) < (l.map X7).length := by omega
  refine Qka ?_; refine Qtf ?_; refine Xk (Ys 2 130 rfl rfl rfl) ?_
  (show AWP Tryz.prog E _ _ _; refine X1 ?_; exact (show Xd _ _ _ _ _ from ⟨_, St.le_refl _, ⟨rfl, trivial⟩, X3 _⟩))
 have hn : (i : Int) < (l.map X7).length := by omega
 have hilm : i < (l.map X7).length := by omega
 have h0 : 0 < (l.map X7).length := by omega
 obtain ⟨x, hx⟩ := Xs (l := l) hil
 have hxc : (l.map X7)[i]? = some (X7 x) := Xx hx
 have hpv := hp x (List.mem_of_getElem? hx)
 have hall : ∀ r ∈ l.map X7, r.length = 6 := by
  intro r hr
  obtain ⟨p, _, rfl⟩ := List.mem_map.1 hr
  obtain ⟨pk, ⟨pvk, pvn, pvd, pvs, pvl⟩⟩ := p
  rfl
 have hpart := X3S hall hxc (o := 1) (q := 5) (by omega)
 have hroom : i * 6 + 1 + 5 ≤ (l.map X7).length * 6 := by omega
 obtain ⟨key, ⟨vk, vn, vd, vs, vl⟩⟩ := x
 obtain ⟨_, _, _, rfl, _⟩ := X0Z hpv
 have hys : ((l.map X7).flatten.drop (i * 6 + 1)).take 5 = [.v (.int .i64 vk), .v (.int .i64 vn), .v (.int .i64 vd), .v (.string (X5 vs)), .sl 5 []] := by
  rw [hpart]
  simp [X7, Y5, XG]
 have hcv := XhZ vk vn vd vs
 clear hx hxc hpart hall hpv hp
 generalize l.map X7 = L at *
 refine Qna ?_; refine Qb ?_; refine Qz ?_; refine Qq ?_; refine Z0l ?_; refine Z0A ?_; refine Z0m (q := 5) (ys := [.v (.int .i64 vk), .v (.int .i64 vn), .v (.int .i64 vd), .v (.string (X5 vs)), .sl 5 []]) ?_ (hb := by exact hroom) (hys := by exact hys); refine Zr (hcon := hcv) ?_; refine Z0l ?_; refine Z0A ?_; refine Z0B (q := 5) (ys := [.v (.int .i64 vk), .v (.int .i64 vn), .v (.int .i64 vd), .v (.string (X5 vs)), .sl 5 []]) ?_ (hb := by exact hroom) (hys := by exact hys); refine JD ?_; refine Qsa ?_; exact ⟨i + 1, hil, by omega, X6 rfl JM ⟨rfl, trivial⟩⟩
theorem XdS (g : Gra) (id : Int) (hl : g.nodes.length ≤ 9223372036854775807) (hh : ∀ n ∈ g.nodes, X1n n) : Con Tryz.prog 69 [] [Xj g, ai id] [] (.tup [Yo ((Yc g.nodes id).getD Ub), ab (Yc g.nodes id).isSome]) := by
 refine Xc (xs := [Yo ((Yc g.nodes id).getD Ub), ab (Yc g.nodes id).isSome]) Tryz.func69 rfl Tryz.ntmps69 rfl rfl rfl (fun E => ?_)
 obtain ⟨ns, es, nn, ne⟩ := g
 unfold Xj
 simp only at hl hh ⊢
 generalize hG : Yc ns id = G
 refine Qoe ?_; refine Qb ?_; refine Qmc ?_; refine Qcc ?_
 refine Xz (fun i : Nat => i ≤ ns.length ∧ Yc (ns.drop i) id = G) (fun i => ⟨29, [(1, ai id), (2, .ptr 100 0), (4, .ptr 101 0), (9, .d (.sl 3 (ns.map X9))), (10, ai (ns.map X9).length), (11, ai i)], [(100, .box [.d (.sl 3 (ns.map X9)), .d (.sl 5 (es.map Xf)), ai nn, ai ne]), (101, .box [ai 0, ani, ani])]⟩) (fun i => ns.length - i) 0 ⟨Nat.zero_le _, by simpa using hG⟩
  (X6 rfl JM ⟨rfl, rfl, trivial⟩) ?_
 rintro i ⟨hi, hg⟩
 by_cases hil : i < ns.length
 case neg =>
  have hn : ¬ (i : Int) < (ns.map X9).length := by rw [List.length_map]; omega
  rw [List.drop_of_length_le (by omega)] at hg
  have hg : none = G := hg
  subst hg
  simp only [Option.getD_none, Option.isSome_none, Ub, Yo, List.map_nil]
  refine Qka ?_; refine QDa ?_
  (show AWP Tryz.prog E _ _ _; refine X1 ?_; exact (show Xd _ _ _ _ _ from ⟨_, YU 101 (cs' := [ai 0, .d (.sl 1 []), .d (.sl 6 [])]) rfl JM rfl, ⟨⟨101, 0, _, rfl, rfl, .inr ⟨3, _, rfl, rfl, rfl, rfl⟩⟩, rfl, trivial⟩, X3 _⟩))
 have hn : (i : Int) < (ns.map X9).length := by rw [List.length_map]; omega
 obtain ⟨x, hx⟩ := Xs (l := ns) hil
 have hxc : (ns.map X9)[i]? = some (X9 x) := Xx hx
 rw [X9V hx] at hg
 obtain ⟨f1, f2, f3⟩ := hh x (List.mem_of_getElem? hx)
 obtain ⟨xid, labels, props⟩ := x
 simp only [X9] at hxc hg f1 f2 f3
 clear hx
 by_cases hq : xid = id
 ·rw [if_pos hq] at hg
  subst hg
  subst hq
  simp only [Option.getD_some, Option.isSome_some, Yo]
  have hc1 := Xg1 (labels.map Xa) (by rw [List.length_map]; omega)
  have hc2 := Xel props f2 f3
  clear hh f1 f2 f3
  refine Qyh ?_; refine Qic ?_; refine Z4 ?_; refine Qv ?_; refine QIb ?_; refine Zr (hcon := hc1) ?_; refine QIb ?_; refine Zr (hcon := hc2) ?_; refine ZJ ?_; refine QCa ?_
  (show AWP Tryz.prog E _ _ _; refine X1 ?_; exact (show Xd _ _ _ _ _ from ⟨_, St.le_refl _, ⟨⟨101, 0, _, rfl, rfl, .inr ⟨3, _, rfl, rfl, rfl, rfl⟩⟩, rfl, trivial⟩, X3 _⟩))
 rw [if_neg hq] at hg
 refine Qyh ?_; refine Qic ?_; refine Qk ?_; refine Qsa ?_; exact ⟨i + 1, ⟨by omega, hg⟩, by omega, X6 rfl JM ⟨rfl, rfl, trivial⟩⟩
theorem Xaa (g : Gra) (id : Int) (hl : g.nodes.length ≤ 9223372036854775807) (hh : ∀ n ∈ g.nodes, X1n n) : Con Tryz.prog 36 [] [Xj g, ai id] [] (.tup [Yo ((Yc g.nodes id).getD Ub), ab (Yc g.nodes id).isSome]) := by
 refine Xc (xs := [Yo ((Yc g.nodes id).getD Ub), ab (Yc g.nodes id).isSome]) Tryz.func36 rfl Tryz.ntmps36 rfl rfl rfl (fun E => ?_)
 obtain ⟨ns, es, nn, ne⟩ := g
 unfold Xj
 simp only at hl hh ⊢
 generalize hG : Yc ns id = G
 refine Qoe ?_; refine Qb ?_; refine QZa ?_
 refine Xz (fun i : Nat => i ≤ ns.length ∧ Yc (ns.drop i) id = G) (fun i => ⟨28, [(1, ai id), (2, .ptr 100 0), (4, .ptr 101 0), (6, ai i)], [(100, .box [.d (.sl 3 (ns.map X9)), .d (.sl 5 (es.map Xf)), ai nn, ai ne]), (101, .box [ai 0, ani, ani])]⟩) (fun i => ns.length - i) 0 ⟨Nat.zero_le _, by simpa using hG⟩
  (X6 rfl JM ⟨rfl, rfl, trivial⟩) ?_
 rintro i ⟨hi, hg⟩
 by_cases hil : i < ns.length
 case neg =>
  have hn : ¬ (i : Int) < (ns.map X9).length := by rw [List.length_map]; omega
  rw [List.drop_of_length_le (by omega)] at hg
  have hg : none = G := hg
  subst hg
  simp only [Option.getD_none, Option.isSome_none, Ub, Yo, List.map_nil]
  refine Qgh ?_; refine QDa ?_
  (show AWP Tryz.prog E _ _ _; refine X1 ?_; exact (show Xd _ _ _ _ _ from ⟨_, YU 101 (cs' := [ai 0, .d (.sl 1 []), .d (.sl 6 [])]) rfl JM rfl, ⟨⟨101, 0, _, rfl, rfl, .inr ⟨3, _, rfl, rfl, rfl, rfl⟩⟩, rfl, trivial⟩, X3 _⟩))
 have hn : (i : Int) < (ns.map X9).length := by rw [List.length_map]; omega
 obtain ⟨x, hx⟩ := Xs (l := ns) hil
 have hxc : (ns.map X9)[i]? = some (X9 x) := Xx hx
 rw [X9V hx] at hg
 obtain ⟨f1, f2, f3⟩ := hh x (List.mem_of_getElem? hx)
 obtain ⟨xid, labels, props⟩ := x
 simp only [X9] at hxc hg f1 f2 f3
 clear hx
 by_cases hq : xid = id
 ·rw [if_pos hq] at hg
  subst hg
  subst hq
  simp only [Option.getD_some, Option.isSome_some, Yo]
  clear hh f1 f2 f3
  refine QAh ?_
  (show AWP Tryz.prog E _ _ _; refine X1 ?_; exact (show Xd _ _ _ _ _ from ⟨_, St.le_refl _, ⟨⟨101, 0, _, rfl, rfl, .inr ⟨3, _, rfl, rfl, rfl, rfl⟩⟩, rfl, trivial⟩, X3 _⟩))
 rw [if_neg hq] at hg
 exact QBh
theorem XcF (g : Gra) (id : Int) (label : List UInt8) (hl : g.nodes.length ≤ 9223372036854775807) (hh : ∀ n ∈ g.nodes, X1n n) : Con Tryz.prog 253 [] [Xj g, ai id, XC label] [] (ab (X06 g.nodes id label)) := by
 refine Xc (xs := [ab (X06 g.nodes id label)]) Tryz.func253 rfl Tryz.ntmps253 rfl rfl rfl (fun E => ?_)
 have hc := XdS g id hl hh
 have hfit : ((Yc g.nodes id).getD Ub).labels.length ≤ 9223372036854775807 := by
  cases hna : Yc g.nodes id with
  | none => simp
  | some n => have := (hh n (List.mem_of_find?_eq_some hna)).1; simp only [Option.getD_some]; omega
 have hd := X6O ((Yc g.nodes id).getD Ub) label hfit
 unfold X06
 generalize (Yc g.nodes id).getD Ub = n at *
 generalize (Yc g.nodes id).isSome = b at *
 generalize Y6 n.labels label = q at *
 clear hfit hh hl
 obtain ⟨ns, es, nn, ne⟩ := g
 obtain ⟨nid, nl, np⟩ := n
 unfold Xj Yo at *
 simp only at *
 by_cases hq : label = []
 ·have hq' : ¬ label ≠ [] := fun h => h hq
  rw [decide_eq_false hq', Bool.false_and]
  refine QCh ?_; refine ZK ?_; refine QC ?_; refine ZY ?_; refine QW ?_; refine QN ?_
  (show AWP Tryz.prog E _ _ _; refine X1 ?_; exact (show Xd _ _ _ _ _ from ⟨_, St.le_refl _, ⟨rfl, trivial⟩, X3 _⟩))
 ·have hq' : label ≠ [] := hq
  rw [decide_eq_true hq', Bool.true_and]
  refine QCh ?_; refine ZK ?_; refine QC ?_; refine ZY ?_; refine Qjc ?_; refine Z1 ?_; refine Zr (hcon := hd) ?_; refine Zd ?_; refine QPa ?_
  (show AWP Tryz.prog E _ _ _; refine X1 ?_; exact (show Xd _ _ _ _ _ from ⟨_, St.le_refl _, ⟨rfl, trivial⟩, X3 _⟩))
theorem Xhg (g : Gra) (id : Int) (label : List UInt8) (hl : g.nodes.length ≤ 9223372036854775807) (hh : ∀ n ∈ g.nodes, X1n n) : Con Tryz.prog 263 [] [Xj g, ai id, XC label] [] (ab ((Yc g.nodes id).isSome && (decide (label = []) || Y6 ((Yc g.nodes id).getD Ub).labels label))) := by
 refine Xc (xs := [ab ((Yc g.nodes id).isSome && (decide (label = []) || Y6 ((Yc g.nodes id).getD Ub).labels label))]) Tryz.func263 rfl Tryz.ntmps263 rfl rfl rfl (fun E => ?_)
 have hc := Xaa g id hl hh
 have hfit : ((Yc g.nodes id).getD Ub).labels.length ≤ 9223372036854775807 := by
  cases hna : Yc g.nodes id with
  | none => simp
  | some n => have := (hh n (List.mem_of_find?_eq_some hna)).1; simp only [Option.getD_some]; omega
 have hd := X3u ((Yc g.nodes id).getD Ub) label hfit
 generalize (Yc g.nodes id).getD Ub = n at *
 generalize (Yc g.nodes id).isSome = b at *
 generalize Y6 n.labels label = q at *
 clear hfit hh hl
 obtain ⟨ns, es, nn, ne⟩ := g
 obtain ⟨nid, nl, np⟩ := n
 unfold Xj Yo at *
 simp only at *
 cases b with
 | false =>
  refine QCh ?_; refine ZK ?_; refine QC ?_; refine QJ ?_; refine ZC ?_; refine Qpc ?_; refine QSb ?_
  (show AWP Tryz.prog E _ _ _; refine X1 ?_; exact (show Xd _ _ _ _ _ from ⟨_, St.le_refl _, ⟨rfl, trivial⟩, X3 _⟩))
 | true =>
  by_cases hq : label = []
  ·rw [decide_eq_true hq]
   refine QCh ?_; refine ZK ?_; refine QPd ?_; refine ZF ?_; refine QV ?_; refine QPa ?_
   (show AWP Tryz.prog E _ _ _; refine X1 ?_; exact (show Xd _ _ _ _ _ from ⟨_, St.le_refl _, ⟨rfl, trivial⟩, X3 _⟩))
  ·rw [decide_eq_false hq]
   refine QCh ?_; refine ZK ?_; refine QPd ?_; refine ZF ?_; refine Qjc ?_; refine Z1 ?_; refine Zr (hcon := hd) ?_; refine ZE ?_; refine QPa ?_
   (show AWP Tryz.prog E _ _ _; refine X1 ?_; exact (show Xd _ _ _ _ _ from ⟨_, St.le_refl _, ⟨rfl, trivial⟩, X3 _⟩))
open Go
theorem X4B : ∀ {l : List Prp} {key : List UInt8} {v : Val}, Yf l key = some v → ∃ p ∈ l, p.v = v
 | [], _, _, h => by simp [Yf] at h
 | p :: r, key, v, h => by
  rw [Yf] at h
  split at h
  ·exact ⟨p, by simp, by simpa using h⟩
  ·obtain ⟨q, hq, e⟩ := X4B h
   exact ⟨q, by simp [hq], e⟩
structure GFit (g : Gra) : Prop where
 nl : g.nodes.length ≤ 2000
 el : g.edges.length ≤ 4000
 nodes : ∀ n ∈ g.nodes, X1n n
 edges : ∀ e ∈ g.edges, e.props.length ≤ 1000 ∧ (Yc g.nodes e.src).isSome = true ∧ (Yc g.nodes e.dst).isSome = true
theorem Xar {l : List Nod} {n : Int} (h : Y3 l n = true) : (Yc l n).isSome = true := by
 unfold Y3 at h
 unfold Yc
 rw [List.find?_isSome]
 rw [List.any_eq_true] at h
 exact h
theorem X4b {g : Gra} (h : Yh g = 0) : GFit g := by
 have G := Xf3 h
 unfold Yh at h
 by_cases c1 : 2000 < g.nodes.length ∨ 4000 < g.edges.length
 ·rw [if_pos c1] at h; simp at h
 rw [if_neg c1] at h
 by_cases c2 : g.nn < 1 ∨ 1000001 < g.nn ∨ g.ne < 1 ∨ 1000001 < g.ne
 ·rw [if_pos c2] at h; simp at h
 rw [if_neg c2] at h
 by_cases c3 : YW g.nn none g.nodes ≠ 0
 ·rw [if_pos c3] at h; exact absurd h c3
 rw [if_neg c3] at h
 have c3 : YW g.nn none g.nodes = 0 := by simpa using c3
 have hn := X6C _ _ c3
 have he := X5L _ _ h
 refine ⟨by omega, by omega, fun n q => ?_, fun e q => ?_⟩
 ·obtain ⟨h1, h2, h3⟩ := hn n q
  obtain ⟨⟨p1, p2⟩, p3, p4⟩ := X56 h3
  exact ⟨by omega, by omega, fun p hp => (p4 p hp).2⟩
 ·obtain ⟨h1, h2, h3, h4, h5, h6⟩ := he e q
  obtain ⟨_, p3, p4⟩ := X56 h6
  exact ⟨by omega, Xar h3, Xar h4⟩
theorem XcL {r : Rul} {n : Nod} {v : Val} (hn : X1n n) (h : U8 r n = some v) : XV v = true := by
 unfold U8 at h
 cases hp : Yf n.props r.key with
 | none => rw [hp] at h; simp at h
 | some w =>
  rw [hp] at h
  simp only at h
  split at h
  ·cases h
   obtain ⟨p, hp2, rfl⟩ := X4B hp
   exact hn.2.2 p hp2
  ·simp at h
theorem Xgt {r : Rul} {l : List Nod} (hn : ∀ n ∈ l, X1n n) : ∀ h ∈ YD r l, XV h.2 = true := by
 intro h hh
 unfold YD at hh
 rw [List.mem_filterMap] at hh
 obtain ⟨n, hm, e⟩ := hh
 cases ho : U8 r n with
 | none => rw [ho] at e; simp at e
 | some v => rw [ho] at e; simp at e; subst e; exact XcL (hn n hm) ho
theorem X6a {v : Val} (h : XV v = true) : Ym v := by
 obtain ⟨k, n, d, s, l⟩ := v
 obtain ⟨_, _, _, rfl, _, _, p7, _⟩ := X0Z h
 rw [Ym]
 exact ⟨by omega, by simp, by simp [VW]⟩
def X1Q (o : Option Val) (b : Bool) : Option Val := match o with
 | some v => if b then some v else none
 | none => none
theorem Xb2 (r : Rul) (n : Nod) : U8 r n = X1Q (Yf n.props r.key) (Y6 n.labels r.name) := by
 unfold U8 X1Q
 cases Yf n.props r.key <;> rfl
def eqO (a b : Option Val) : Bool := match a, b with
 | some v, some w => eqV v w
 | _, _ => false
def UZ (r : Rul) (a : Nod) (l : List Nod) : List (Int × Int) := l.filterMap fun b => match U8 r a, U8 r b with
 | some v, some w => if eqV v w then some (a.id, b.id) else none
 | _, _ => none
def Vx (r : Rul) : List Nod → List (Int × Int)
 | [] => []
 | a :: l => UZ r a l ++ Vx r l
def X1N (a : Int × Val) (l : List (Int × Val)) : List (Int × Int) := (l.filter fun b => eqV a.2 b.2).map fun b => (a.1, b.1)
theorem XbU (r : Rul) (a : Nod) (v : Val) (h : U8 r a = some v) : ∀ l : List Nod, UZ r a l = X1N (a.id, v) (YD r l)
 | [] => rfl
 | b :: l => by
  have ih := XbU r a v h l
  unfold UZ YD X1N at *
  rw [List.filterMap_cons, List.filterMap_cons, h]
  rw [h] at ih
  cases hb : U8 r b with
  | none => simpa using ih
  | some w =>
   simp only [Option.map_some, List.filter_cons]
   cases he : eqV v w <;> simpa [he] using ih
theorem Xfv (r : Rul) (a : Nod) (h : U8 r a = none) (l : List Nod) : UZ r a l = [] := by
 unfold UZ
 rw [h]
 induction l with
 | nil => rfl
 | cons b l ih => simp
theorem X2Y (r : Rul) : ∀ l : List Nod, Vx r l = UN (YD r l)
 | [] => rfl
 | a :: l => by
  rw [Vx, X2Y r l]
  cases h : U8 r a with
  | none =>
   rw [Xfv r a h]
   unfold YD
   rw [List.filterMap_cons, h]
   rfl
  | some v =>
   rw [XbU r a v h]
   have : YD r (a :: l) = (a.id, v) :: YD r l := by unfold YD; rw [List.filterMap_cons, h]; rfl
   rw [this, UN]
   rfl
theorem XeJ {l : List (Int × Val)} {i : Nat} {a : Int × Val} (h : l[i]? = some a) : UN (l.drop i) = X1N a (l.drop (i + 1)) ++ UN (l.drop (i + 1)) := by
 obtain ⟨hi, rfl⟩ := List.getElem?_eq_some_iff.1 h
 rw [List.drop_eq_getElem_cons hi, UN]
 rfl
theorem Xhe {a b : Int × Val} {l : List (Int × Val)} {i : Nat} (h : l[i]? = some b) : X1N a (l.drop i) = (if eqV a.2 b.2 then [(a.1, b.1)] else []) ++ X1N a (l.drop (i + 1)) := by
 obtain ⟨hi, rfl⟩ := List.getElem?_eq_some_iff.1 h
 unfold X1N
 rw [List.drop_eq_getElem_cons hi, List.filter_cons]
 split <;> rfl
theorem Xe9 {r : Rul} {l : List Nod} {i : Nat} {a : Nod} (h : l[i]? = some a) : Vx r (l.drop i) = UZ r a (l.drop (i + 1)) ++ Vx r (l.drop (i + 1)) := by
 obtain ⟨hi, rfl⟩ := List.getElem?_eq_some_iff.1 h
 rw [List.drop_eq_getElem_cons hi, Vx]
def X4e (r : Rul) (a b : Nod) : Bool := match U8 r a, U8 r b with
 | some v, some w => eqV v w
 | _, _ => false
theorem Xif {r : Rul} {a b : Nod} {l : List Nod} {i : Nat} (h : l[i]? = some b) : UZ r a (l.drop i) = (if X4e r a b then [(a.id, b.id)] else []) ++ UZ r a (l.drop (i + 1)) := by
 obtain ⟨hi, rfl⟩ := List.getElem?_eq_some_iff.1 h
 unfold UZ X4e
 rw [List.drop_eq_getElem_cons hi, List.filterMap_cons]
 cases U8 r a with
 | none => rfl
 | some v =>
  cases U8 r l[i] with
  | none => rfl
  | some w =>
   simp only
   by_cases he : eqV v w = true
   ·rw [if_pos he, if_pos he]; rfl
   ·rw [if_neg he, if_neg he]; rfl
theorem Xck (r : Rul) (a b : Nod) : X4e r a b = eqO (U8 r a) (U8 r b) := by
 unfold X4e eqO
 cases U8 r a with
 | none => rfl
 | some v => cases U8 r b <;> rfl
theorem X5q {r : Rul} {l : List Nod} (h : l.length ≤ 2000) : (Vx r l).length ≤ 4000000 := by
 rw [X2Y]
 have h1 := Xb5 (YD r l)
 have h2 := X75 r l
 have : (YD r l).length * (YD r l).length ≤ 2000 * 2000 := Nat.mul_le_mul (by omega) (by omega)
 omega
def Yw (h : Int × Val) : List D := .v (.int .i64 h.1) :: Y5 h.2
theorem Xc0 {r : Rul} {l : List Nod} {i : Nat} {n : Nod} (h : l[i]? = some n) : YD r (l.take (i + 1)) = YD r (l.take i) ++ ((U8 r n).map fun v => (n.id, v)).toList := Xdx h
theorem X6T (r : Rul) (l : List Edg) (id : Int) : YL r l id ≤ l.length := List.countP_le_length
theorem Xhv {r : Rul} (h : Ut r = 0) : 1 ≤ r.kind ∧ r.kind ≤ 7 := by
 unfold Ut at h
 by_cases c : decide (1 ≤ r.kind ∧ r.kind ≤ 7) = false ∨ XbP r = false
 ·rw [if_pos c] at h; simp at h
 ·by_cases d : 1 ≤ r.kind ∧ r.kind ≤ 7
  ·exact d
  ·exact absurd (.inl (by simpa using d)) c
theorem X8W {r : Rul} {g : Gra} (hf : GFit g) : (ofV r g).length ≤ 4000000 := by
 have h1 := hf.nl
 have h2 := hf.el
 unfold ofV
 split
 ·rw [← X2Y]; exact X5q h1
 ·split
  ·have := List.length_filter_le (fun n => Y6 n.labels r.name && UT r n.props) g.nodes
   simp only [Uz, List.length_map]
   omega
  ·split
   ·have := List.length_filter_le (fun n => decide (r.n < (YL r g.edges n.id : Nat))) g.nodes
    simp only [X3K, UK, List.length_map]
    omega
   ·have := List.length_filter_le (fun e => decide (e.typ = r.name) && X1r r g.nodes e) g.edges
    simp only [XR, List.length_map]
    omega
def X13 (i : Nat) (l : List (Int × Int)) : List Vio := l.map fun p => ⟨(i : Nat), p.1, p.2⟩
def YN (f : Rul → List (Int × Int)) : Nat → List Rul → List Vio
 | _, [] => []
 | i, r :: s => X13 i (f r) ++ YN f (i + 1) s
theorem X5R (g : Gra) : ∀ (i : Nat) (s : List Rul), X57 g i s = YN (fun r => ofV r g) i s
 | _, [] => rfl
 | i, r :: s => by rw [X57, YN, X5R g (i + 1) s]; rfl
theorem X8J {f : Rul → List (Int × Int)} {s : List Rul} {i : Nat} {r : Rul} (h : s[i]? = some r) : YN f i (s.drop i) = X13 i (f r) ++ YN f (i + 1) (s.drop (i + 1)) := by
 obtain ⟨hi, rfl⟩ := List.getElem?_eq_some_iff.1 h
 rw [List.drop_eq_getElem_cons hi, YN]
theorem X9z {f : Rul → List (Int × Int)} (h : ∀ r, (f r).length ≤ 4000000) : ∀ (i : Nat) (s : List Rul), (YN f i s).length ≤ s.length * 4000000
 | _, [] => by simp [YN]
 | i, r :: s => by
  have h1 := h r
  have h2 := X9z h (i + 1) s
  rw [YN, List.length_append, X13, List.length_map, List.length_cons, Nat.add_mul]
  omega
theorem X8R {i k : Nat} {l : List (Int × Int)} {p : Int × Int} (h : l[k]? = some p) : X13 i (l.drop k) = ⟨(i : Nat), p.1, p.2⟩ :: X13 i (l.drop (k + 1)) := by
 obtain ⟨hk, rfl⟩ := List.getElem?_eq_some_iff.1 h
 unfold X13
 rw [List.drop_eq_getElem_cons hk, List.map_cons]
theorem X9w {f : Rul → List (Int × Int)} : ∀ (i : Nat) (s : List Rul), ∀ v ∈ YN f i s, ∃ (k : Nat) (r : Rul), v.rule = ((i + k : Nat) : Int) ∧ s[k]? = some r
 | _, [], v, h => by simp [YN] at h
 | i, r :: s, v, h => by
  rw [YN, List.mem_append] at h
  rcases h with h | h
  ·unfold X13 at h
   rw [List.mem_map] at h
   obtain ⟨p, _, rfl⟩ := h
   exact ⟨0, r, rfl, rfl⟩
  ·obtain ⟨k, r', e, hk⟩ := X9w (i + 1) s v h
   exact ⟨k + 1, r', by rw [e]; congr 1; omega, by simpa using hk⟩
theorem X9s {f h : Rul → List (Int × Int)} : ∀ (i : Nat) (s : List Rul), (∀ r ∈ s, f r = h r) → YN f i s = YN h i s
 | _, [], _ => rfl
 | i, r :: s, q => by rw [YN, YN, q r (by simp), X9s (i + 1) s fun r hr => q r (by simp [hr])]
theorem X8L : ∀ (i : Nat) (s : List Rul), YN (fun _ => []) i s = []
 | _, [] => rfl
 | i, r :: s => by rw [YN, X8L (i + 1) s]; rfl
theorem X7T {r : Rul} {g : Gra} : (ofS r g).length ≤ 4000000 := by
 unfold ofS
 split
 ·simp
 ·rename_i h
  exact X8W (X4b (by
   by_cases q : Yh g = 0
   ·exact q
   ·exact absurd (.inr q) h))
theorem X72 {s : List Rul} {g : Gra} (h : Ve s = true) : U4 s g = YN (fun r => ofS r g) 0 s := by
 unfold U4
 by_cases q : Yh g = 0
 ·rw [if_neg (by simp [h, q]), X5R]
  refine X9s 0 s fun r hr => ?_
  have := ((X4A h).2 r hr).1
  unfold ofS
  rw [if_neg (by simp [this, q])]
 ·rw [if_pos (.inr q)]
  have : (fun r => ofS r g) = fun _ => [] := by
   funext r
   unfold ofS
   rw [if_pos (.inr q)]
  rw [this, X8L]
theorem Xhj {s : List Rul} {g : Gra} (h : Ve s = true) (q : Yh g = 0) : U4 s g = YN (fun r => ofV r g) 0 s := by
 unfold U4
 rw [if_neg (by simp [h, q]), X5R]
theorem XhQ {s : List Rul} {g : Gra} {v : Vio} {r : List Vio} (h : U4 s g = v :: r) : ∃ (k : Nat) (x : Rul), v.rule = (k : Nat) ∧ s[k]? = some x ∧ X1H s g = X2t x.kind := by
 have hm : v ∈ U4 s g := by rw [h]; simp
 have hs : Ve s = true := by
  cases hs : Ve s with
  | true => rfl
  | false => unfold U4 at hm; rw [if_pos (.inl hs)] at hm; simp at hm
 rw [X72 hs] at hm
 obtain ⟨k, x, e, hk⟩ := X9w 0 s v hm
 rw [Nat.zero_add] at e
 refine ⟨k, x, e, hk, ?_⟩
 unfold X1H
 rw [h]
 simp only
 rw [e, Int.toNat_natCast, hk]
theorem Xg4 {s : List Rul} {g : Gra} (h : U4 s g = []) : X1H s g = 0 := by unfold X1H; rw [h]
theorem X7h {s : List Rul} {g : Gra} : (U4 s g).length ≤ 160000000 := by
 cases hs : Ve s with
 | false => unfold U4; rw [if_pos (.inl hs)]; simp
 | true =>
  rw [X72 hs]
  have h1 := X9z (f := fun r => ofS r g) (fun r => X7T) 0 s
  have h2 := (X4A hs).1
  have : s.length * 4000000 ≤ 40 * 4000000 := Nat.mul_le_mul_right _ h2
  omega
theorem Xch (r : Rul) (g : Gra) (hf : GFit g) : Con Tryz.prog 190 [] [XU r, Xj g] [] (.d (.sl 2 ((Uz r g.nodes).map Xo))) := by
 refine Xc (xs := [.d (.sl 2 ((Uz r g.nodes).map Xo))]) Tryz.func190 rfl Tryz.ntmps190 rfl rfl rfl (fun E => ?_)
 obtain ⟨ns, es, nn, ne⟩ := g
 have hbr := fun l hl => X5d r l hl
 obtain ⟨rk, rn, rname, rkey, rsrc, rdst⟩ := r
 have hnl := hf.nl
 have hfn := hf.nodes
 clear hf
 unfold Xj
 simp only [XU] at hnl hfn hbr ⊢
 generalize hR : (Rul.mk rk rn rname rkey rsrc rdst) = R at *
 have hRn : R.name = rname := by rw [← hR]
 refine QYd ?_; refine Qc ?_; refine Qmc ?_; refine Qcc ?_; refine Xk (U1 5 130 2 rfl rfl rfl) ?_
 refine Xz (fun i : Nat => i ≤ ns.length) (fun i => ⟨33, [(2, .ptr 100 0), (3, .ptr 101 0), (5, .own 130 ((Uz R (ns.take i)).map Xo).length), (9, .d (.sl 3 (ns.map X9))), (10, ai (ns.map X9).length), (11, ai i)], [(100, .box [ai rk, ai rn, XC rname, XC rkey, XC rsrc, XC rdst]), (101, .box [.d (.sl 3 (ns.map X9)), .d (.sl 5 (es.map Xf)), ai nn, ai ne]), (130, .row 2 ((Uz R (ns.take i)).map Xo))]⟩) (fun i => ns.length - i) 0 (Nat.zero_le _)
  (X6 rfl JM ⟨rfl, rfl, rfl, trivial⟩) ?_
 intro i hi
 by_cases hil : i < ns.length
 case neg =>
  obtain rfl : i = ns.length := by omega
  have hn : ¬ ((ns.length : Nat) : Int) < (ns.map X9).length := by rw [List.length_map]; omega
  rw [List.take_length]
  refine QDh ?_
  (show AWP Tryz.prog E _ _ _; refine X1 ?_; exact (show Xd _ _ _ _ _ from ⟨_, St.le_refl _, ⟨rfl, trivial⟩, X3 _⟩))
 have hn : (i : Int) < (ns.map X9).length := by rw [List.length_map]; omega
 obtain ⟨x, hx⟩ := Xs (l := ns) hil
 have hxc : (ns.map X9)[i]? = some (X9 x) := Xx hx
 obtain ⟨f1, f2, f3⟩ := hfn x (List.mem_of_getElem? hx)
 have hroom : ((Uz R (ns.take i)).map Xo).length ≤ 2000 := by
  have := List.length_filter_le (fun n => Y6 n.labels R.name && UT R n.props) (ns.take i)
  simp only [Uz, List.length_map, List.length_take] at this ⊢
  omega
 have hst : Uz R (ns.take (i + 1)) = Uz R (ns.take i) ++ if Y6 x.labels R.name && UT R x.props then [(x.id, 0)] else [] := X39 hx
 have h1 := X6O x rname (by omega)
 have h2 := hbr x.props (by omega)
 rw [hRn] at hst
 generalize Y6 x.labels rname = b1 at *
 generalize UT R x.props = b2 at *
 obtain ⟨xid, labels, props⟩ := x
 simp only [X9] at hxc h1 h2 hst
 clear hx hbr hR hRn hfn f1 f2 f3
 cases b1 with
 | false =>
  have hst := hst.trans (show _ = Uz R (ns.take i) by simp)
  refine Qyh ?_; refine QEh ?_; refine QAb ?_; refine QW ?_; refine Qga ?_; refine Qsa ?_
  refine ⟨i + 1, hil, by omega, ?_⟩
  dsimp only
  rw [hst]
  exact QFh
 | true =>
  cases b2 with
  | false =>
   have hst := hst.trans (show _ = Uz R (ns.take i) by simp)
   refine Qyh ?_; refine QEh ?_; refine QAb ?_; refine QGh ?_; refine Qwa ?_
   refine ⟨i + 1, hil, by omega, ?_⟩
   dsimp only
   rw [hst]
   exact QFh
  | true =>
   have hst : Uz R (ns.take (i + 1)) = Uz R (ns.take i) ++ [(xid, 0)] := hst
   have happ : (Uz R (ns.take i) ++ [(xid, (0 : Int))]).map Xo = (Uz R (ns.take i)).map Xo ++ [Xo (xid, 0)] := by simp
   refine Qyh ?_; refine QEh ?_; refine QAb ?_; refine QGh ?_; refine QHh ?_; refine ZJ ?_; refine Qvf ?_
   refine ⟨i + 1, hil, by omega, ?_⟩
   dsimp only
   rw [hst, happ]
   exact QIh
theorem Xd6 (r : Rul) (g : Gra) (hf : GFit g) : Con Tryz.prog 192 [] [XU r, Xj g] [] (.d (.sl 2 ((XR r g.nodes g.edges).map Xo))) := by
 refine Xc (xs := [.d (.sl 2 ((XR r g.nodes g.edges).map Xo))]) Tryz.func192 rfl Tryz.ntmps192 rfl rfl rfl (fun E => ?_)
 obtain ⟨ns, es, nn, ne⟩ := g
 have hbr := fun l hl => X5d r l hl
 have hlk := fun id label => XcF ⟨ns, es, nn, ne⟩ id label (by have := hf.nl; omega) hf.nodes
 obtain ⟨rk, rn, rname, rkey, rsrc, rdst⟩ := r
 have hnl := hf.nl
 have hel := hf.el
 have hfn := hf.nodes
 have hfe := hf.edges
 clear hf
 unfold Xj
 unfold Xj at hlk
 simp only [XU] at hnl hel hfn hfe hbr hlk ⊢
 generalize hR : (Rul.mk rk rn rname rkey rsrc rdst) = R at *
 have hRn : R.name = rname := by rw [← hR]
 have hRk : R.kind = rk := by rw [← hR]
 have hRm : R.n = rn := by rw [← hR]
 have hRs : R.src = rsrc := by rw [← hR]
 have hRd : R.dst = rdst := by rw [← hR]
 refine QYd ?_; refine Qc ?_; refine Qmc ?_; refine Qcc ?_; refine Xk (U1 5 130 2 rfl rfl rfl) ?_
 refine Xz (fun i : Nat => i ≤ es.length) (fun i => ⟨51, [(2, .ptr 100 0), (3, .ptr 101 0), (5, .own 130 ((XR R ns (es.take i)).map Xo).length), (10, .d (.sl 5 (es.map Xf))), (11, ai (es.map Xf).length), (12, ai i)], [(100, .box [ai rk, ai rn, XC rname, XC rkey, XC rsrc, XC rdst]), (101, .box [.d (.sl 3 (ns.map X9)), .d (.sl 5 (es.map Xf)), ai nn, ai ne]), (130, .row 2 ((XR R ns (es.take i)).map Xo))]⟩) (fun i => es.length - i) 0 (Nat.zero_le _)
  (X6 rfl JM ⟨rfl, rfl, rfl, trivial⟩) ?_
 intro i hi
 by_cases hil : i < es.length
 case neg =>
  obtain rfl : i = es.length := by omega
  have hn : ¬ ((es.length : Nat) : Int) < (es.map Xf).length := by rw [List.length_map]; omega
  rw [List.take_length]
  refine QDh ?_
  (show AWP Tryz.prog E _ _ _; refine X1 ?_; exact (show Xd _ _ _ _ _ from ⟨_, St.le_refl _, ⟨rfl, trivial⟩, X3 _⟩))
 have hn : (i : Int) < (es.map Xf).length := by rw [List.length_map]; omega
 obtain ⟨x, hx⟩ := Xs (l := es) hil
 have hxc : (es.map Xf)[i]? = some (Xf x) := Xx hx
 obtain ⟨f1, f2, f3⟩ := hfe x (List.mem_of_getElem? hx)
 have hroom : ((XR R ns (es.take i)).map Xo).length ≤ 4000 := by
  have := List.length_filter_le (fun e => decide (e.typ = R.name) && X1r R ns e) (es.take i)
  simp only [XR, List.length_map, List.length_take] at this ⊢
  omega
 have hst : XR R ns (es.take (i + 1)) = XR R ns (es.take i) ++ if decide (x.typ = R.name) && X1r R ns x then [(x.id, 0)] else [] := X39 hx
 have h1 := hbr x.props (by omega)
 have h2 := hlk x.src rsrc
 have h3 := hlk x.dst rdst
 unfold X1r at hst
 rw [hRn, hRk, hRs, hRd] at hst
 generalize X06 ns x.src rsrc = b2 at *
 generalize X06 ns x.dst rdst = b3 at *
 generalize UT R x.props = b1 at *
 obtain ⟨xid, src, dst, typ, props⟩ := x
 simp only [Xf] at hxc h1 h2 h3 hst
 clear hx hbr hlk hR hRn hRk hRm hRs hRd hfn hfe f1 f2 f3
 by_cases ht : typ = rname
 case neg =>
  have ht' : ¬ typ = rname := ht
  rw [decide_eq_false ht] at hst
  have hst := hst.trans (show _ = XR R ns (es.take i) by simp)
  refine Qyh ?_; refine Que ?_; refine ZY ?_; refine Qm ?_; refine Xq ?_; refine Qsa ?_
  refine ⟨i + 1, hil, by omega, ?_⟩
  dsimp only
  rw [hst]
  exact QFh
 rw [decide_eq_true ht, Bool.true_and] at hst
 by_cases h6 : rk = 6
 ·rw [if_pos h6] at hst
  cases b2 with
  | true =>
   have hst : XR R ns (es.take (i + 1)) = XR R ns (es.take i) ++ [(xid, 0)] := hst.trans (by simp)
   have happ : (XR R ns (es.take i) ++ [((xid, 0) : Int × Int)]).map Xo = (XR R ns (es.take i)).map Xo ++ [Xo (xid, 0)] := by simp
   refine QKh ?_; refine QMb ?_; refine ZB ?_; refine QC ?_; refine QHh ?_; refine ZJ ?_; refine Qvf ?_
   refine ⟨i + 1, hil, by omega, ?_⟩
   dsimp only
   rw [hst, happ]
   exact QIh
  | false =>
   cases b3 with
   | true =>
    have hst : XR R ns (es.take (i + 1)) = XR R ns (es.take i) ++ [(xid, 0)] := hst.trans (by simp)
    have happ : (XR R ns (es.take i) ++ [((xid, 0) : Int × Int)]).map Xo = (XR R ns (es.take i)).map Xo ++ [Xo (xid, 0)] := by simp
    refine QKh ?_; refine Qjc ?_; refine Qke ?_; refine Zr (hcon := h3) ?_; refine ZE ?_; refine QC ?_; refine QHh ?_; refine ZJ ?_; refine Qvf ?_
    refine ⟨i + 1, hil, by omega, ?_⟩
    dsimp only
    rw [hst, happ]
    exact QIh
   | false =>
    have hst := hst.trans (show _ = XR R ns (es.take i) by simp)
    refine QKh ?_; refine Qjc ?_; refine Qke ?_; refine Zr (hcon := h3) ?_; refine ZE ?_; refine QC ?_; refine Qwa ?_
    refine ⟨i + 1, hil, by omega, ?_⟩
    dsimp only
    rw [hst]
    exact QFh
 ·rw [if_neg h6] at hst
  cases b1 with
  | true =>
   have hst : XR R ns (es.take (i + 1)) = XR R ns (es.take i) ++ [(xid, 0)] := hst.trans (by simp)
   have happ : (XR R ns (es.take i) ++ [((xid, 0) : Int × Int)]).map Xo = (XR R ns (es.take i)).map Xo ++ [Xo (xid, 0)] := by simp
   refine QJh ?_; refine Qre ?_; refine JD ?_; refine JF ?_; refine JR ?_; refine ZX ?_; refine QIb ?_; refine QAb ?_; refine QC ?_; refine QHh ?_; refine ZJ ?_; refine Qvf ?_
   refine ⟨i + 1, hil, by omega, ?_⟩
   dsimp only
   rw [hst, happ]
   exact QIh
  | false =>
   have hst := hst.trans (show _ = XR R ns (es.take i) by simp)
   refine QJh ?_; refine Qre ?_; refine JD ?_; refine JF ?_; refine JR ?_; refine ZX ?_; refine QIb ?_; refine QAb ?_; refine QC ?_; refine Qwa ?_
   refine ⟨i + 1, hil, by omega, ?_⟩
   dsimp only
   rw [hst]
   exact QFh
end Go.Fw
