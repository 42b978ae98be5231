/- Records compared with themselves; the law about reading. -/
import Derived.Test.YtonekjkmnhfjmaaGreatDoorM42
import Derived.Test.YtonekjkmnhfjmaaGreatDoorM48
import Derived.Test.YtonekjkmnhfjmaaGreatDoorM64
set_option maxHeartbeats 16000000
namespace Go.Fw
open Go Go.Proofs
set_option maxRecDepth 100000
set_option linter.unusedVariables false
set_option linter.unusedSimpArgs false
theorem XfW : ∀ (k : SK) (u : Value), Uf u = some k → X0C u u = true := by
 intro k u h
 cases u <;> simp [Uf] at h <;> simp [X0C]
theorem Xfa (us : List Value) (ks : List SK) (h : us.map Uf = ks.map some) : VH us us = true := by
 induction us generalizing ks with
 | nil => rfl
 | cons u us ih =>
  cases ks with
  | nil => simp at h
  | cons k ks =>
   simp only [List.map_cons, List.cons.injEq] at h
   unfold VH
   rw [XfW k u h.1, ih ks h.2]
   rfl
theorem Xfv (xs : List (List D)) (hl : xs.length ≤ 100000) : Con Tryz.prog 118 [] [.d (.sl 1 xs)] [] (.d (.sl 1 xs)) := by
 refine Xc (xs := [.d (.sl 1 xs)]) Tryz.func118 rfl Tryz.ntmps118 rfl rfl rfl (fun E => ?_)
 refine QTf ?_
 refine X0I rfl (fun h => ?_) (fun _ => ?_)
 ·subst h
  refine QUf ?_; exact ⟨_, XF 2 (AVal.le_nil 1), ⟨rfl, trivial⟩, X3 _⟩
 ·exact QOg
theorem Xfz (xs : List (List D)) (hl : xs.length ≤ 100000) : Con Tryz.prog 248 [] [.d (.sl 5 xs)] [] (.d (.sl 5 xs)) := by
 refine Xc (xs := [.d (.sl 5 xs)]) Tryz.func248 rfl Tryz.ntmps248 rfl rfl rfl (fun E => ?_)
 refine QTf ?_
 refine X0I rfl (fun h => ?_) (fun _ => ?_)
 ·subst h
  refine QUf ?_; exact ⟨_, XF 2 (AVal.le_nil 5), ⟨rfl, trivial⟩, X3 _⟩
 ·exact QOg
theorem XeB (xs : List (List D)) (hl : xs.length ≤ 100000) : Con Tryz.prog 164 [] [.d (.sl 6 xs)] [(130, .row 6 xs)] (.own 130 xs.length) := by
 have h : Con Tryz.prog 164 [] [.d (.sl 6 xs)] [(100, .row 6 xs)] (.own 100 xs.length) := by
  refine Xc (xs := [.own 100 xs.length]) Tryz.func164 rfl Tryz.ntmps164 rfl rfl rfl (fun E => ?_)
  refine QTf ?_
  refine X0I rfl (fun h => ?_) (fun _ => ?_)
  ·subst h
   refine QUf ?_; exact ⟨_, YX 2 100 6 rfl rfl rfl, ⟨rfl, trivial⟩, XZ ⟨rfl, trivial⟩⟩
  ·refine QVf ?_
   refine ⟨_, St.le_refl _, ⟨?_, trivial⟩, XZ ⟨rfl, trivial⟩⟩
   simp only [X1j]; simp [St.get, St.set, St.own, Xa]
 exact YE 100 130 h
theorem Xgv (k n d : Int) (s : List UInt8) : Con Tryz.prog 186 [] [.agg [ai k, ai n, ai d, Uo s, .d (.sl 5 [])]] [] (.agg [ai k, ai n, ai d, Uo s, .d (.sl 5 [])]) := by
 refine Xc (xs := [.agg [ai k, ai n, ai d, Uo s, .d (.sl 5 [])]]) Tryz.func186 rfl Tryz.ntmps186 rfl rfl rfl (fun E => ?_)
 have hc := Xfz [] (by simp)
 refine Qod ?_; refine JD ?_; refine QUa ?_; refine Z9 (hcon := hc) ?_; refine QCf ?_; refine Qsb ?_; refine Qjb ?_
 refine Xz (ι := Unit) (fun _ => True) (fun _ => ⟨26, [(1, .ptr 100 0), (2, .ptr 101 0), (10, ai 0), (11, ai 0)], [(100, .box [ai k, ai n, ai d, Uo s, .d (.sl 5 [])]), (101, .box [ai 0, ai 0, ai 0, Uo [], ani])]⟩) (fun _ => 0) () trivial
  (X7 rfl JM ⟨rfl, rfl, trivial⟩) ?_
 rintro _ _
 have hn : ¬ (0 : Int) < 0 := by omega
 refine QM ?_; refine QWb ?_; refine Qlb ?_
 (show AWP Tryz.prog E _ _ _; refine X1 ?_; exact (show Xd _ _ _ _ _ from ⟨_, St.le_refl _, ⟨⟨101, 0, _, rfl, rfl, .inr ⟨5, _, rfl, rfl, rfl, rfl⟩⟩, trivial⟩, X3 _⟩))
theorem XbV (l : List Prp) (hl : l.length ≤ 1000) (hp : ∀ p ∈ l, Yd p.v = true) : Con Tryz.prog 119 [] [.d (.sl 6 (l.map X6))] [] (.d (.sl 6 (l.map X6))) := by
 refine Xc (xs := [.d (.sl 6 (l.map X6))]) Tryz.func119 rfl Tryz.ntmps119 rfl rfl rfl (fun E => ?_)
 have hlm : (l.map X6).length = l.length := by simp
 have hc := XeB (l.map X6) (by omega)
 refine Qe ?_; refine Z9 (hcon := hc) ?_; refine Qba ?_; refine Z0c ?_; refine Z1 ?_; refine QK ?_
 clear hc
 refine Xz (fun i : Nat => i ≤ l.length) (fun i => ⟨24, [(3, .own 130 (l.map X6).length), (8, ai (l.map X6).length), (9, ai i)], [(130, .row 6 (l.map X6))]⟩) (fun i => l.length - i) 0 (Nat.zero_le _)
  (X7 rfl JM ⟨rfl, trivial⟩) ?_
 intro i hi
 by_cases hil : i < l.length
 case neg =>
  have hn : ¬ (i : Int) < (l.map X6).length := by omega
  refine QM ?_; refine QJa ?_; refine QId ?_; refine Xm (Yq 2 130 rfl rfl rfl) ?_
  (show AWP Tryz.prog E _ _ _; refine X1 ?_; exact (show Xd _ _ _ _ _ from ⟨_, St.le_refl _, ⟨rfl, trivial⟩, X3 _⟩))
 have hn : (i : Int) < (l.map X6).length := by omega
 have hilm : i < (l.map X6).length := by omega
 have h0 : 0 < (l.map X6).length := by omega
 obtain ⟨x, hx⟩ := Xu (l := l) hil
 have hxc : (l.map X6)[i]? = some (X6 x) := XD hx
 have hpv := hp x (List.mem_of_getElem? hx)
 have hall : ∀ r ∈ l.map X6, r.length = 6 := by
  intro r hr
  obtain ⟨p, _, rfl⟩ := List.mem_map.1 hr
  obtain ⟨pk, ⟨pvk, pvn, pvd, pvs, pvl⟩⟩ := p
  rfl
 have hpart := X47 hall hxc (o := 1) (q := 5) (by omega)
 have hroom : i * 6 + 1 + 5 ≤ (l.map X6).length * 6 := by omega
 obtain ⟨key, ⟨vk, vn, vd, vs, vl⟩⟩ := x
 obtain ⟨_, _, _, rfl, _⟩ := X6a hpv
 have hys : ((l.map X6).flatten.drop (i * 6 + 1)).take 5 = [.v (.int .i64 vk), .v (.int .i64 vn), .v (.int .i64 vd), .v (.string (X5 vs)), .sl 5 []] := by
  rw [hpart]
  simp [X6, Y1, Xx]
 have hcv := Xgv vk vn vd vs
 clear hx hxc hpart hall hpv hp
 generalize l.map X6 = L at *
 refine QP ?_; refine Qb ?_; refine QKd ?_; refine Qf ?_; refine Z0d ?_; refine Z0e ?_; refine Z0f (q := 5) (ys := [.v (.int .i64 vk), .v (.int .i64 vn), .v (.int .i64 vd), .v (.string (X5 vs)), .sl 5 []]) ?_ (hb := by exact hroom) (hys := by exact hys); refine Z9 (hcon := hcv) ?_; refine Z0d ?_; refine Z0e ?_; refine Z0g (q := 5) (ys := [.v (.int .i64 vk), .v (.int .i64 vn), .v (.int .i64 vd), .v (.string (X5 vs)), .sl 5 []]) ?_ (hb := by exact hroom) (hys := by exact hys); refine JD ?_; refine QV ?_; exact ⟨i + 1, hil, by omega, X7 rfl JM ⟨rfl, trivial⟩⟩
theorem Xa1 (g : Gra) (id : Int) (hl : g.nodes.length ≤ 9223372036854775807) (hh : ∀ n ∈ g.nodes, X3W n) : Con Tryz.prog 69 [] [Xl g, ai id] [] (.tup [Y9 ((YN g.nodes id).getD UA), ab (YN g.nodes id).isSome]) := by
 refine Xc (xs := [Y9 ((YN g.nodes id).getD UA), ab (YN g.nodes id).isSome]) Tryz.func69 rfl Tryz.ntmps69 rfl rfl rfl (fun E => ?_)
 obtain ⟨ns, es, nn, ne⟩ := g
 unfold Xl
 simp only at hl hh ⊢
 generalize hG : YN ns id = G
 refine Qpd ?_; refine Qsb ?_; refine Qjb ?_
 refine Xz (fun i : Nat => i ≤ ns.length ∧ YN (ns.drop i) id = G) (fun i => ⟨29, [(1, ai id), (2, .ptr 100 0), (4, .ptr 101 0), (9, .d (.sl 3 (ns.map X9))), (10, ai (ns.map X9).length), (11, ai i)], [(100, .box [.d (.sl 3 (ns.map X9)), .d (.sl 5 (es.map Xe)), ai nn, ai ne]), (101, .box [ai 0, ani, ani])]⟩) (fun i => ns.length - i) 0 ⟨Nat.zero_le _, by simpa using hG⟩
  (X7 rfl JM ⟨rfl, rfl, trivial⟩) ?_
 rintro i ⟨hi, hg⟩
 by_cases hil : i < ns.length
 case neg =>
  have hn : ¬ (i : Int) < (ns.map X9).length := by rw [List.length_map]; omega
  rw [List.drop_of_length_le (by omega)] at hg
  have hg : none = G := hg
  subst hg
  simp only [Option.getD_none, Option.isSome_none, UA, Y9, List.map_nil]
  refine QM ?_; refine Qga ?_
  (show AWP Tryz.prog E _ _ _; refine X1 ?_; exact (show Xd _ _ _ _ _ from ⟨_, Y5 101 (cs' := [ai 0, .d (.sl 1 []), .d (.sl 6 [])]) rfl JM rfl, ⟨⟨101, 0, _, rfl, rfl, .inr ⟨3, _, rfl, rfl, rfl, rfl⟩⟩, rfl, trivial⟩, X3 _⟩))
 have hn : (i : Int) < (ns.map X9).length := by rw [List.length_map]; omega
 obtain ⟨x, hx⟩ := Xu (l := ns) hil
 have hxc : (ns.map X9)[i]? = some (X9 x) := XD hx
 rw [X9F hx] at hg
 obtain ⟨f1, f2, f3⟩ := hh x (List.mem_of_getElem? hx)
 obtain ⟨xid, labels, props⟩ := x
 simp only [X9] at hxc hg f1 f2 f3
 clear hx
 by_cases hq : xid = id
 ·rw [if_pos hq] at hg
  subst hg
  subst hq
  simp only [Option.getD_some, Option.isSome_some, Y9]
  have hc1 := Xfv (labels.map Xb) (by rw [List.length_map]; omega)
  have hc2 := XbV props f2 f3
  clear hh f1 f2 f3
  refine QPg ?_; refine QUa ?_; refine Z1 ?_; refine Zl ?_; refine QIa ?_; refine QTa ?_; refine Z9 (hcon := hc1) ?_; refine QTa ?_; refine Z9 (hcon := hc2) ?_; refine Zx ?_; refine Qfa ?_
  (show AWP Tryz.prog E _ _ _; refine X1 ?_; exact (show Xd _ _ _ _ _ from ⟨_, St.le_refl _, ⟨⟨101, 0, _, rfl, rfl, .inr ⟨3, _, rfl, rfl, rfl, rfl⟩⟩, rfl, trivial⟩, X3 _⟩))
 rw [if_neg hq] at hg
 refine QPg ?_; refine QUa ?_; refine Z1 ?_; refine Qdc ?_; refine QV ?_; exact ⟨i + 1, ⟨by omega, hg⟩, by omega, X7 rfl JM ⟨rfl, rfl, trivial⟩⟩
open Go
def isI (g : Gra) (id : Int) : Bool := (YN g.nodes id).isSome
def evC (ts : Int) (was is : Bool) : List (Int × Int) := if is && !was then [(ts, 1)] else if was && !is then [(ts, 0)] else []
def Up (id : Int) : Bool → Gra → List Cmt → List (Int × Int)
 | _, _, [] => []
 | was, g, c :: r => evC c.ts was (isI (Xo g c.l).1 id) ++ Up id (isI (Xo g c.l).1 id) (Xo g c.l).1 r
def V1 (h : Hist) (id : Int) : List (Int × Int) := if XM h ≠ 0 then [] else (if isI h.g id then [(h.base, 1)] else []) ++ Up id (isI h.g id) h.g h.cs
theorem Xbv {id : Int} {was : Bool} {g : Gra} {l : List Cmt} {i : Nat} {c : Cmt} (h : l[i]? = some c) : Up id was g (l.drop i) = evC c.ts was (isI (Xo g c.l).1 id) ++ Up id (isI (Xo g c.l).1 id) (Xo g c.l).1 (l.drop (i + 1)) := by
 obtain ⟨hl, h⟩ := List.getElem?_eq_some_iff.1 h
 rw [List.drop_eq_getElem_cons hl, h, Up]
theorem XhH (ts : Int) (was is : Bool) : (evC ts was is).length ≤ 1 := by cases was <;> cases is <;> simp [evC]
theorem X53 (id : Int) : ∀ (l : List Cmt) (was : Bool) (g : Gra), (Up id was g l).length ≤ l.length
 | [], _, _ => by simp [Up]
 | c :: r, was, g => by
  rw [Up, List.length_append, List.length_cons]
  have h1 := X53 id r (isI (Xo g c.l).1 id) (Xo g c.l).1
  have h2 := XhH c.ts was (isI (Xo g c.l).1 id)
  omega
theorem X5K (id : Int) : ∀ (l : List Cmt) (was : Bool) (g : Gra) (i : Nat) (p : Int × Int), (Up id was g l)[i]? = some p → p.2 = (((i + (if was then 1 else 0)) + 1) % 2 : Nat)
 | [], _, _, i, p, h => by simp [Up] at h
 | c :: r, was, g, i, p, h => by
  rw [Up] at h
  generalize (Xo g c.l).1 = g' at *
  have ih := X5K id r (isI g' id) g'
  cases was <;> cases hb : isI g' id <;> rw [hb] at h ih <;> simp only [evC, Bool.not_true, Bool.not_false, Bool.and_true, Bool.and_false, Bool.true_and, Bool.false_and, if_true, if_false, Bool.false_eq_true, List.nil_append, List.singleton_append] at h ih ⊢
  ·exact ih i p h
  ·cases i with
   | zero => simp only [List.getElem?_cons_zero, Option.some.injEq] at h; subst h; rfl
   | succ i =>
    have := ih i p (by simpa using h)
    rw [this] <;> first | rfl | (congr 1 <;> omega)
  ·cases i with
   | zero => simp only [List.getElem?_cons_zero, Option.some.injEq] at h; subst h; rfl
   | succ i =>
    have := ih i p (by simpa using h)
    rw [this] <;> first | rfl | (congr 1 <;> omega)
  ·exact ih i p h
theorem X8n (id : Int) : ∀ (l : List Cmt) (was : Bool) (g : Gra), (XJ g l).2 = 0 → isI (XJ g l).1 id = decide (((Up id was g l).length + (if was then 1 else 0)) % 2 = 1) ∨ was ≠ isI g id
 | [], was, g, _ => by
  rw [XJ, Up]
  by_cases q : was = isI g id
  ·left; rw [← q]; cases was <;> rfl
  ·exact .inr q
 | c :: r, was, g, h => by
  rw [XJ] at h ⊢
  by_cases q : (Xo g c.l).2.2 ≠ 0
  ·rw [if_pos q] at h; exact absurd h q
  rw [if_neg q] at h ⊢
  rw [Up]
  rcases X8n id r (isI (Xo g c.l).1 id) (Xo g c.l).1 h with ih | ih
  ·left
   rw [ih]
   generalize Up id (isI (Xo g c.l).1 id) (Xo g c.l).1 r = L
   generalize isI (Xo g c.l).1 id = is
   rw [List.length_append]
   cases was <;> cases is <;> simp [evC] <;> omega
  ·exact absurd rfl ih
def cPr (p : Int × Int) : List D := [.v (.int .i64 p.1), .v (.int .i64 p.2)]
theorem X3v {g : Gra} (hg : GV g) : ∀ n ∈ g.nodes, X3W n := fun n hn => by
 have hp := (hg.nodes n hn).2.2
 have h1 := hp.ll
 have h2 := hp.pl
 exact ⟨by omega, by omega, hp.pv⟩
theorem X9W {g : Gra} {c : Cmt} {r : List Cmt} (h : (XJ g (c :: r)).2 = 0) : (Xo g c.l).2.2 = 0 ∧ (XJ (Xo g c.l).1 r).2 = 0 := by
 rw [XJ] at h
 by_cases q : (Xo g c.l).2.2 ≠ 0
 ·rw [if_pos q] at h; exact absurd h q
 ·rw [if_neg q] at h; exact ⟨by simpa using q, h⟩
theorem XhC (h : Hist) (id : Int) (hf : HistFit h) : Con Tryz.prog 34 [] [Xq h, ai id] [] (.tup [.d (.sl 2 ((V1 h id).map cPr)), ai (XM h)]) := by
 refine Xc (xs := [.d (.sl 2 ((V1 h id).map cPr)), ai (XM h)]) Tryz.func34 rfl Tryz.ntmps34 rfl rfl rfl (fun E => ?_)
 have hk := X1g h hf.hold
 have hv := U6 (h := h)
 unfold V1
 by_cases c : XM h ≠ 0
 ·rw [if_pos c]
  clear hv hf
  generalize XM h = e at *
  obtain ⟨base, ⟨ns, es, nn, ne⟩, cs⟩ := h
  simp only [Xq, List.map_nil] at *
  refine QRa ?_; refine QKa ?_; refine QEg ?_; refine Qgd ?_; refine QIa ?_; refine QKa ?_
  (show AWP Tryz.prog E _ _ _; refine X1 ?_; exact (show Xd _ _ _ _ _ from ⟨_, X7 rfl (τ := [(4, .d (.sl 2 [])), (5, ai e)]) (L := []) JM trivial, ⟨rfl, rfl, trivial⟩, X3 _⟩))
 rw [if_neg c]
 have c : XM h = 0 := by simpa using c
 have hv := hv.1 c
 rw [c] at hk ⊢
 clear c
 have hok := hv.ok
 have hgv := hv.g
 have hcl := hv.cl
 have hcok := hf.hold.cs
 have hn0 := Xa1 h.g id (by have := hgv.nl; omega) (X3v hgv)
 have hRl := X53 id h.cs (isI h.g id) h.g
 obtain ⟨base, g0, cs⟩ := h
 simp only at hok hgv hcl hcok hn0 hRl ⊢
 have hlm := Ue cs
 clear hv hf
 rw [show (YN g0.nodes id).isSome = isI g0 id from rfl] at hn0
 generalize hw : isI g0 id = was at *
 generalize hO : (if was = true then [(base, (1 : Int))] else []) = O at *
 generalize hR : O ++ Up id was g0 cs = R at *
 have hRb : R.length ≤ 1001 := by
  rw [← hR, ← hO, List.length_append]
  cases was <;> simp <;> omega
 clear hRl
 generalize (YN g0.nodes id).getD UA = nd0 at *
 obtain ⟨nid0, nl0, np0⟩ := nd0
 obtain ⟨ns, es, nn, ne⟩ := g0
 simp only [Xq, Xl, Y9] at hk hn0 ⊢
 clear hv c
 refine QRa ?_; refine QKa ?_; refine QGg ?_; refine Qc ?_; refine X0 ?_
 show AWP Tryz.prog E _ _ _
 refine Xm (YX 7 130 2 rfl rfl rfl) ?_; refine JR ?_; refine QRd ?_; refine Zw (γ := 101) ?_; refine Qlb ?_; refine QXb ?_; refine Z9 (hcon := hn0) ?_; refine Qxd ?_; refine X0 ?_; refine X0 ?_
 refine X3I ⟨82, [(1, ai id), (2, .ptr 100 0), (7, .own 130 (O.map cPr).length), (8, .ptr 101 0), (10, ab was)], [(100, .box [ai base, .d (.sl 3 (ns.map X9)), .d (.sl 5 (es.map Xe)), ai nn, ai ne, .d (.sl 2 (cs.map Xh))]), (101, .box [.d (.sl 3 (ns.map X9)), .d (.sl 5 (es.map Xe)), ai nn, ai ne]), (130, .row 2 (O.map cPr))]⟩ ?_ ?_
 ·clear hk hn0 hR hok hgv hw
  cases was with
  | true =>
   rw [if_pos rfl] at hO
   subst hO
   have hroom : ([] : List (List D)).length ≤ 1001 := by simp
   refine QAa ?_; refine Qig ?_; refine Qrh ?_; exact X7 rfl JM ⟨rfl, rfl, rfl, trivial⟩
  | false =>
   rw [if_neg (by simp)] at hO
   subst hO
   refine QAa ?_; refine QH ?_; exact X7 rfl JM ⟨rfl, rfl, rfl, trivial⟩
 clear hk hn0 hO
 show AWP Tryz.prog E _ _ _
 refine Qsb ?_; refine Qjb ?_
 refine Xz (ι := Nat × Bool × Gra × List (Int × Int)) (fun q => q.1 ≤ cs.length ∧ GV q.2.2.1 ∧ (XJ q.2.2.1 (cs.drop q.1)).2 = 0 ∧ isI q.2.2.1 id = q.2.1 ∧ q.2.2.2 ++ Up id q.2.1 q.2.2.1 (cs.drop q.1) = R) (fun q => ⟨82, [(1, ai id), (2, .ptr 100 0), (7, .own 130 (q.2.2.2.map cPr).length), (8, .ptr 101 0), (10, ab q.2.1), (36, .d (.sl 2 (cs.map Xh))), (37, ai (cs.map Xh).length), (38, ai q.1)], [(100, .box [ai base, .d (.sl 3 (ns.map X9)), .d (.sl 5 (es.map Xe)), ai nn, ai ne, .d (.sl 2 (cs.map Xh))]), (101, .box [.d (.sl 3 (q.2.2.1.nodes.map X9)), .d (.sl 5 (q.2.2.1.edges.map Xe)), ai q.2.2.1.nn, ai q.2.2.1.ne]), (130, .row 2 (q.2.2.2.map cPr))]⟩) (fun q => cs.length - q.1) (0, was, ⟨ns, es, nn, ne⟩, O) ⟨Nat.zero_le _, hgv, by simpa using hok, hw, by simpa using hR⟩
  (X7 rfl JM ⟨rfl, rfl, rfl, trivial⟩) ?_
 clear hgv hok hw hR
 rintro ⟨i, w, q, out⟩ ⟨hi, hq, hr, hw, hg⟩
 simp only at hi hq hr hw hg
 by_cases hil : i < cs.length
 case neg =>
  have hn : ¬ (i : Int) < (cs.map Xh).length := by omega
  rw [List.drop_of_length_le (by omega)] at hg
  have hg : out ++ [] = R := hg
  rw [List.append_nil] at hg
  subst hg
  clear hq hr hw
  refine QM ?_; refine Qd ?_; refine QKa ?_; refine QId ?_; refine Xm (Yq 4 130 rfl rfl rfl) ?_
  (show AWP Tryz.prog E _ _ _; refine X1 ?_; exact (show Xd _ _ _ _ _ from ⟨_, St.le_refl _, ⟨rfl, rfl, trivial⟩, X3 _⟩))
 have hn : (i : Int) < (cs.map Xh).length := by omega
 obtain ⟨x, hx⟩ := Xu (l := cs) hil
 have hxc : (cs.map Xh)[i]? = some (Xh x) := XD hx
 have hxk := hcok x (List.mem_of_getElem? hx)
 have hs := X2S q x.l (VV hq) hxk.1.2
 rw [Xbv hx] at hg
 have hdr : cs.drop i = x :: cs.drop (i + 1) := by
  obtain ⟨hl, h⟩ := List.getElem?_eq_some_iff.1 hx
  rw [List.drop_eq_getElem_cons hl, h]
 rw [hdr] at hr
 obtain ⟨h0, hr'⟩ := X9W hr
 have hq' := X2m h0
 have hn1 := Xa1 (Xo q x.l).1 id (by have := hq'.nl; omega) (X3v hq')
 rw [show (YN (Xo q x.l).1.nodes id).isSome = isI (Xo q x.l).1 id from rfl] at hn1
 rw [h0] at hs
 have hg2 := hg
 rw [← List.append_assoc] at hg2
 have hrm := X0q hg2
 clear hg2
 clear hx hq hr hdr h0 hcok
 generalize (Xo q x.l).1 = g' at *
 generalize (Xo q x.l).2.1 = m at *
 generalize hI : isI g' id = is at *
 generalize (YN g'.nodes id).getD UA = nd1 at *
 obtain ⟨nid1, nl1, np1⟩ := nd1
 obtain ⟨ts, l⟩ := x
 obtain ⟨ns1, es1, nn1, ne1⟩ := q
 obtain ⟨ns2, es2, nn2, ne2⟩ := g'
 simp only [Xl, Y9, Xh] at hs hn1 hxc hg hrm
 clear hw hxk
 rw [List.length_append] at hrm
 have hroom : (out.map cPr).length ≤ 1001 := by rw [List.length_map]; omega
 clear hrm
 have hap1 : (out ++ [(ts, (1 : Int))]).map cPr = out.map cPr ++ [[.v (.int .i64 ts), .v (.int .i64 1)]] := by simp [cPr]
 have hap0 : (out ++ [(ts, (0 : Int))]).map cPr = out.map cPr ++ [[.v (.int .i64 ts), .v (.int .i64 0)]] := by simp [cPr]
 cases w with
 | true =>
  cases is with
  | true =>
   rw [show evC ts true true = [] from rfl, List.nil_append] at hg
   refine Qsh ?_; refine QUc ?_; refine Zu ?_; refine Qna ?_; refine JF ?_; refine QUc ?_; refine Zu ?_; refine Qna ?_; refine JF ?_; refine X2 ?_; refine QV ?_; exact Qth
  | false =>
   rw [show evC ts true false = [(ts, 0)] from rfl, ← List.append_assoc] at hg
   refine Qsh ?_; refine Qd ?_; refine Qr ?_; refine Qmd ?_; refine QUc ?_; refine Zu ?_; refine Qna ?_; refine JT ?_; refine Qd ?_; refine QTa ?_; refine Qrh ?_; refine JR ?_; refine Qb ?_; refine QV ?_
   refine ⟨(i + 1, false, ⟨ns2, es2, nn2, ne2⟩, out ++ [(ts, 0)]), ⟨by simp only; omega, hq', hr', hI, hg⟩, by simp only; omega, ?_⟩
   dsimp only
   rw [hap0]
   exact Quh
 | false =>
  cases is with
  | true =>
   rw [show evC ts false true = [(ts, 1)] from rfl, ← List.append_assoc] at hg
   refine Qsh ?_; refine QUc ?_; refine Zu ?_; refine Qna ?_; refine JT ?_; refine Qd ?_; refine QTa ?_; refine Qrh ?_; refine JR ?_; refine Qb ?_; refine QV ?_
   refine ⟨(i + 1, true, ⟨ns2, es2, nn2, ne2⟩, out ++ [(ts, 1)]), ⟨by simp only; omega, hq', hr', hI, hg⟩, by simp only; omega, ?_⟩
   dsimp only
   rw [hap1]
   exact Quh
  | false =>
   rw [show evC ts false false = [] from rfl, List.nil_append] at hg
   refine Qsh ?_; refine Qd ?_; refine Qr ?_; refine Qmd ?_; refine Qd ?_; refine Qr ?_; refine Qmd ?_; refine X2 ?_; refine QV ?_; exact Qvh
theorem Xgd (h : Hist) (id : Int) (hf : HistFit h) : Con Tryz.prog 35 [] [Xq h, ai id] [] (.tup [.d (.sl 2 ((V1 h id).map cPr)), ai (XM h)]) := by
 refine Xc (xs := [.d (.sl 2 ((V1 h id).map cPr)), ai (XM h)]) Tryz.func35 rfl Tryz.ntmps35 rfl rfl rfl (fun E => ?_)
 have hk := X11 h hf.hold
 have hv := U6 (h := h)
 unfold V1
 by_cases c : XM h ≠ 0
 ·rw [if_pos c]
  clear hv hf
  generalize XM h = e at *
  obtain ⟨base, ⟨ns, es, nn, ne⟩, cs⟩ := h
  simp only [Xq, List.map_nil] at *
  refine QRa ?_; refine QKa ?_; refine QEg ?_; refine Qgd ?_; refine QIa ?_; refine QKa ?_
  (show AWP Tryz.prog E _ _ _; refine X1 ?_; exact (show Xd _ _ _ _ _ from ⟨_, X7 rfl (τ := [(4, .d (.sl 2 [])), (5, ai e)]) (L := []) JM trivial, ⟨rfl, rfl, trivial⟩, X3 _⟩))
 rw [if_neg c]
 have c : XM h = 0 := by simpa using c
 have hv := hv.1 c
 rw [c] at hk ⊢
 clear c
 have hok := hv.ok
 have hgv := hv.g
 have hcl := hv.cl
 have hcok := hf.hold.cs
 have hn0 := X51 h.g id (by have := hgv.nl; omega) (X3v hgv)
 have hRl := X53 id h.cs (isI h.g id) h.g
 obtain ⟨base, g0, cs⟩ := h
 simp only at hok hgv hcl hcok hn0 hRl ⊢
 have hlm := Ue cs
 clear hv hf
 rw [show (YN g0.nodes id).isSome = isI g0 id from rfl] at hn0
 generalize hw : isI g0 id = was at *
 generalize hO : (if was = true then [(base, (1 : Int))] else []) = O at *
 generalize hR : O ++ Up id was g0 cs = R at *
 have hRb : R.length ≤ 1001 := by
  rw [← hR, ← hO, List.length_append]
  cases was <;> simp <;> omega
 clear hRl
 generalize (YN g0.nodes id).getD UA = nd0 at *
 obtain ⟨nid0, nl0, np0⟩ := nd0
 obtain ⟨ns, es, nn, ne⟩ := g0
 simp only [Xq, Xl, Y9] at hk hn0 ⊢
 clear hv c
 refine QRa ?_; refine QKa ?_; refine QGg ?_; refine Qc ?_; refine X0 ?_
 show AWP Tryz.prog E _ _ _
 refine Xm (YX 7 130 2 rfl rfl rfl) ?_; refine JR ?_; refine QRd ?_; refine Zw (γ := 101) ?_; refine Qlb ?_; refine QXb ?_; refine Z9 (hcon := hn0) ?_; refine Qxd ?_; refine X0 ?_; refine X0 ?_
 refine X3I ⟨95, [(1, ai id), (2, .ptr 100 0), (7, .own 130 (O.map cPr).length), (8, .ptr 101 0), (10, ab was)], [(100, .box [ai base, .d (.sl 3 (ns.map X9)), .d (.sl 5 (es.map Xe)), ai nn, ai ne, .d (.sl 2 (cs.map Xh))]), (101, .box [.d (.sl 3 (ns.map X9)), .d (.sl 5 (es.map Xe)), ai nn, ai ne]), (130, .row 2 (O.map cPr))]⟩ ?_ ?_
 ·clear hk hn0 hR hok hgv hw
  cases was with
  | true =>
   rw [if_pos rfl] at hO
   subst hO
   have hroom : ([] : List (List D)).length ≤ 1001 := by simp
   refine QAa ?_; refine Qig ?_; refine Qrh ?_; exact X7 rfl JM ⟨rfl, rfl, rfl, trivial⟩
  | false =>
   rw [if_neg (by simp)] at hO
   subst hO
   refine QAa ?_; refine QH ?_; exact X7 rfl JM ⟨rfl, rfl, rfl, trivial⟩
 clear hk hn0 hO
 show AWP Tryz.prog E _ _ _
 refine Qua ?_
 refine Xz (ι := Nat × Bool × Gra × List (Int × Int)) (fun q => q.1 ≤ cs.length ∧ GV q.2.2.1 ∧ (XJ q.2.2.1 (cs.drop q.1)).2 = 0 ∧ isI q.2.2.1 id = q.2.1 ∧ q.2.2.2 ++ Up id q.2.1 q.2.2.1 (cs.drop q.1) = R) (fun q => ⟨95, [(1, ai id), (2, .ptr 100 0), (7, .own 130 (q.2.2.2.map cPr).length), (8, .ptr 101 0), (10, ab q.2.1), (11, ai q.1)], [(100, .box [ai base, .d (.sl 3 (ns.map X9)), .d (.sl 5 (es.map Xe)), ai nn, ai ne, .d (.sl 2 (cs.map Xh))]), (101, .box [.d (.sl 3 (q.2.2.1.nodes.map X9)), .d (.sl 5 (q.2.2.1.edges.map Xe)), ai q.2.2.1.nn, ai q.2.2.1.ne]), (130, .row 2 (q.2.2.2.map cPr))]⟩) (fun q => cs.length - q.1) (0, was, ⟨ns, es, nn, ne⟩, O) ⟨Nat.zero_le _, hgv, by simpa using hok, hw, by simpa using hR⟩
  (X7 rfl JM ⟨rfl, rfl, rfl, trivial⟩) ?_
 clear hgv hok hw hR
 rintro ⟨i, w, q, out⟩ ⟨hi, hq, hr, hw, hg⟩
 simp only at hi hq hr hw hg
 by_cases hil : i < cs.length
 case neg =>
  have hn : ¬ (i : Int) < (cs.map Xh).length := by omega
  rw [List.drop_of_length_le (by omega)] at hg
  have hg : out ++ [] = R := hg
  rw [List.append_nil] at hg
  subst hg
  clear hq hr hw
  refine Qgf ?_; refine Qd ?_; refine QKa ?_; refine QId ?_; refine Xm (Yq 4 130 rfl rfl rfl) ?_
  (show AWP Tryz.prog E _ _ _; refine X1 ?_; exact (show Xd _ _ _ _ _ from ⟨_, St.le_refl _, ⟨rfl, rfl, trivial⟩, X3 _⟩))
 have hn : (i : Int) < (cs.map Xh).length := by omega
 obtain ⟨x, hx⟩ := Xu (l := cs) hil
 have hxc : (cs.map Xh)[i]? = some (Xh x) := XD hx
 have hxk := hcok x (List.mem_of_getElem? hx)
 have hs := X3p q x.l (VV hq) hxk.1.2 hxk.1.1
 rw [Xbv hx] at hg
 have hdr : cs.drop i = x :: cs.drop (i + 1) := by
  obtain ⟨hl, h⟩ := List.getElem?_eq_some_iff.1 hx
  rw [List.drop_eq_getElem_cons hl, h]
 rw [hdr] at hr
 obtain ⟨h0, hr'⟩ := X9W hr
 have hq' := X2m h0
 have hn1 := X51 (Xo q x.l).1 id (by have := hq'.nl; omega) (X3v hq')
 rw [show (YN (Xo q x.l).1.nodes id).isSome = isI (Xo q x.l).1 id from rfl] at hn1
 rw [h0] at hs
 have hg2 := hg
 rw [← List.append_assoc] at hg2
 have hrm := X0q hg2
 clear hg2
 clear hx hq hr hdr h0 hcok
 generalize (Xo q x.l).1 = g' at *
 generalize (Xo q x.l).2.1 = m at *
 generalize hI : isI g' id = is at *
 generalize (YN g'.nodes id).getD UA = nd1 at *
 obtain ⟨nid1, nl1, np1⟩ := nd1
 obtain ⟨ts, l⟩ := x
 obtain ⟨ns1, es1, nn1, ne1⟩ := q
 obtain ⟨ns2, es2, nn2, ne2⟩ := g'
 simp only [Xl, Y9, Xh] at hs hn1 hxc hg hrm
 clear hw hxk
 rw [List.length_append] at hrm
 have hroom : (out.map cPr).length ≤ 1001 := by rw [List.length_map]; omega
 clear hrm
 have hap1 : (out ++ [(ts, (1 : Int))]).map cPr = out.map cPr ++ [[.v (.int .i64 ts), .v (.int .i64 1)]] := by simp [cPr]
 have hap0 : (out ++ [(ts, (0 : Int))]).map cPr = out.map cPr ++ [[.v (.int .i64 ts), .v (.int .i64 0)]] := by simp [cPr]
 cases w with
 | true =>
  cases is with
  | true =>
   rw [show evC ts true true = [] from rfl, List.nil_append] at hg
   refine Qwh ?_; refine Qf ?_; refine Zu ?_; refine Zn ?_; refine QH ?_; refine Qt ?_; refine Qf ?_; refine Zu ?_; refine Zn ?_; refine QH ?_; refine QAa ?_; refine QTc ?_; exact Qth
  | false =>
   rw [show evC ts true false = [(ts, 0)] from rfl, ← List.append_assoc] at hg
   refine Qwh ?_; refine Qi ?_; refine QI ?_; refine Qt ?_; refine Qf ?_; refine Zu ?_; refine Zn ?_; refine Qig ?_; refine Qgc ?_; refine Qrh ?_; refine QAa ?_; refine QTc ?_
   refine ⟨(i + 1, false, ⟨ns2, es2, nn2, ne2⟩, out ++ [(ts, 0)]), ⟨by simp only; omega, hq', hr', hI, hg⟩, by simp only; omega, ?_⟩
   dsimp only
   rw [hap0]
   exact Qxh
 | false =>
  cases is with
  | true =>
   rw [show evC ts false true = [(ts, 1)] from rfl, ← List.append_assoc] at hg
   refine Qwh ?_; refine Qf ?_; refine Zu ?_; refine Zn ?_; refine Qig ?_; refine Qgc ?_; refine Qrh ?_; refine Qt ?_; refine Qi ?_; refine QI ?_; refine QAa ?_; refine QTc ?_
   refine ⟨(i + 1, true, ⟨ns2, es2, nn2, ne2⟩, out ++ [(ts, 1)]), ⟨by simp only; omega, hq', hr', hI, hg⟩, by simp only; omega, ?_⟩
   dsimp only
   rw [hap1]
   exact Qxh
  | false =>
   rw [show evC ts false false = [] from rfl, List.nil_append] at hg
   refine Qwh ?_; refine Qi ?_; refine QI ?_; refine Qt ?_; refine Qi ?_; refine QI ?_; refine QAa ?_; refine QTc ?_; exact Qvh
theorem Xfh {h : Hist} {id : Int} {i : Nat} {p : Int × Int} (hp : (V1 h id)[i]? = some p) : p.2 = (((i + 1) % 2 : Nat) : Int) := by
 unfold V1 at hp
 split at hp
 ·simp at hp
 ·cases hw : isI h.g id with
  | false =>
   rw [hw] at hp
   have := X5K id h.cs false h.g i p (by simpa using hp)
   simpa using this
  | true =>
   rw [hw] at hp
   cases i with
   | zero => simp at hp; subst hp; rfl
   | succ i =>
    have := X5K id h.cs true h.g i p (by simpa using hp)
    simpa using this
theorem Xdh {h : Hist} {id : Int} (v : HV h) : isI (XJ h.g h.cs).1 id = decide ((V1 h id).length % 2 = 1) := by
 have hh : XM h = 0 := U6.2 v
 have hp := X8n id h.cs (isI h.g id) h.g v.ok
 have hl : (V1 h id).length = (Up id (isI h.g id) h.g h.cs).length + (if isI h.g id then 1 else 0) := by
  unfold V1
  rw [if_neg (by simp [hh]), List.length_append]
  cases isI h.g id <;> simp <;> omega
 rw [hl]
 rcases hp with hp | hp
 ·exact hp
 ·exact absurd rfl hp
theorem XdW {h : Hist} {id : Int} (hl : h.cs.length ≤ 1000) : (V1 h id).length ≤ 1001 := by
 unfold V1
 split
 ·simp
 ·have := X53 id h.cs (isI h.g id) h.g
  rw [List.length_append]
  split <;> simp <;> omega
theorem XdV {h : Hist} (v : HV h) : XI h (XB h) = 0 ∧ atS h (XB h) = (XJ h.g h.cs).1 := by
 have e := X0F (ts := XB h) v
 rw [if_neg (by unfold XB; omega)] at e
 refine ⟨e, ?_⟩
 rw [VU e]
 unfold atG
 rw [List.take_of_length_le (by unfold XB; omega)]
theorem Xc7 (h : Hist) (id : Int) (hf : HistHold h) : Con Tryz.prog 7 [] [Xq h, ai id] [] (ab true) := by
 refine Xc (xs := [ab true]) Tryz.func7 rfl Tryz.ntmps7 rfl rfl rfl (fun E => ?_)
 have ha := X32
 have hsm := X2s h hf
 have hsf := X3e (h := h) hf
 generalize X0a h = sm at *
 cases sm with
 | false =>
  clear hsf
  clear hf
  obtain ⟨base, ⟨ns, es, nn, ne⟩, cs⟩ := h
  simp only [Xq] at *
  refine Qhh ?_; refine Qih ?_
  (show AWP Tryz.prog E _ _ _; refine X1 ?_; exact (show Xd _ _ _ _ _ from ⟨_, St.le_refl _, ⟨rfl, trivial⟩, X3 _⟩))
 | true =>
  obtain ⟨hfit, hb, hcl12, hl20⟩ := hsf rfl
  clear hsf
  have h1 := XhC h id hfit
  have h2 := Xgd h id hfit
  have hlen := XdW (h := h) (id := id) (by omega)
  have halt := fun (i : Nat) (p : Int × Int) (hp : (V1 h id)[i]? = some p) => Xfh hp
  have hv := U6 (h := h)
  have hpar := fun v : HV h => Xdh (id := id) v
  have h3 := X0S h hf
  have hAt := fun v : HV h => XdV v
  have hA2 := fun v : HV h => X10 h.cs h.g v.g v.ok
  have h4 := X02 h (XB h) hfit
  have hLs := fun v : HV h => X2H v
  clear hf hfit hb hl20
  generalize hL : V1 h id = L at *
  have hlm : (L.map cPr).length = L.length := by simp
  have hfin : XM h = 0 → ∃ G b, (b = decide (L.length % 2 = 1)) ∧ UQ h = XB h ∧ XI h (XB h) = 0 ∧ atS h (XB h) = G ∧ GV G ∧ isI G id = b := fun e => by
   have v := hv.1 e
   exact ⟨(XJ h.g h.cs).1, _, rfl, hLs v, (hAt v).1, (hAt v).2, hA2 v, hpar v⟩
  clear hAt hA2 hpar hLs hL hv
  generalize XM h = e at *
  generalize UQ h = ls at *
  generalize XB h = lh at *
  generalize XI h lh = ie at *
  generalize atS h lh = ga at *
  obtain ⟨base, ⟨ns, es, nn, ne⟩, cs⟩ := h
  simp only [Xq] at *
  have hflat : X1T Tryz.prog 56 = some [.i .i64, .i .i64] := by kernel_rfl
  refine Qhh ?_; refine QH ?_; refine QXb ?_; refine Z9 (hcon := h1) ?_; refine Qyf ?_; refine QXb ?_; refine Z9 (hcon := h2) ?_; refine Qyf ?_; refine Qva ?_; refine Zv ?_; refine Qf ?_; refine Qib ?_; refine Zd ?_; refine Zv ?_; refine QI ?_; refine Qt ?_; refine Qjb ?_
  refine Xz (fun i : Nat => i ≤ L.length) (fun i => ⟨91, [(1, ai id), (2, .ptr 100 0), (5, .d (.sl 2 (L.map cPr))), (6, ai e), (7, .d (.sl 2 (L.map cPr))), (41, ai (L.map cPr).length), (42, ai i)], [(100, .box [ai base, .d (.sl 3 (ns.map X9)), .d (.sl 5 (es.map Xe)), ai nn, ai ne, .d (.sl 2 (cs.map Xh))])]⟩) (fun i => L.length - i) 0 (Nat.zero_le _)
   (X7 rfl JM ⟨rfl, trivial⟩) ?_
  intro i hi
  by_cases hil : i < L.length
  case pos =>
   have hn : (i : Int) < (L.map cPr).length := by omega
   obtain ⟨x, hx⟩ := Xu (l := L) hil
   have hxc : (L.map cPr)[i]? = some (cPr x) := XD hx
   have hx2 := halt i x hx
   obtain ⟨x1, x2⟩ := x
   have hx2 : x2 = ((i : Int) + 1) % 2 := by simp only at hx2; omega
   simp only [cPr] at hxc
   clear hx halt h3 h4 hfin
   have hz := Xfa [.int .i64 x1, .int .i64 x2] [.i .i64, .i .i64] rfl
   have hne : ¬ x2 ≠ ((i : Int) + 1) % 2 := fun q => q hx2
   clear hx2
   refine QP ?_; refine QQ ?_; refine Qic ?_; refine Qud ?_; refine Z0F (us := [.int .i64 x1, .int .i64 x2]) (vs := [.int .i64 x1, .int .i64 x2]) (r := true) ?_ (hk := by exact hflat) (hr := by exact hz); refine Qf ?_; refine Qhc ?_; refine Zb ?_; refine ZJ ?_; refine Zv ?_; refine QI ?_; refine QV ?_; exact ⟨i + 1, hil, by omega, X7 rfl JM ⟨rfl, trivial⟩⟩
  have hn : ¬ (i : Int) < (L.map cPr).length := by omega
  clear halt h1 h2
  by_cases he : e ≠ 0
  ·clear hfin
   refine QM ?_; refine QLa ?_; refine Qih ?_
   (show AWP Tryz.prog E _ _ _; refine X1 ?_; exact (show Xd _ _ _ _ _ from ⟨_, St.le_refl _, ⟨rfl, trivial⟩, X3 _⟩))
  have he : e = 0 := by simpa using he
  obtain ⟨G, b, hb1, rfl, rfl, rfl, hG, hI⟩ := hfin he
  subst he
  have hnd := X51 ga id (by have := hG.nl; omega) (X3v hG)
  rw [show (YN ga.nodes id).isSome = isI ga id from rfl, hI] at hnd
  clear hG hI
  generalize (YN ga.nodes id).getD UA = nd at *
  obtain ⟨nid, nl, np⟩ := nd
  obtain ⟨ns2, es2, nn2, ne2⟩ := ga
  simp only [Xl, Y9] at h4 hnd
  by_cases q : L.length % 2 = 1
  ·rw [decide_eq_true q] at hb1
   subst hb1
   have hq : (((L.map cPr).length : Nat) : Int) % 2 = 1 := by omega
   refine QM ?_; refine QKg ?_; refine Qnd ?_; refine Z9 (hcon := h3) ?_; refine Z9 (hcon := h4) ?_; refine QWd ?_; refine QXb ?_; refine Z9 (hcon := hnd) ?_; refine Qdd ?_; refine Zw (γ := 102) ?_; refine Zy ?_; refine QR ?_; refine Zd ?_; refine ZJ ?_; refine Z0y (op := .eql) (r' := .bool true) (u := .int .i64 ((((L.map cPr).length : Nat) : Int) % 2)) (v := .int .i64 1) ?_ (hr' := by exact congrArg Value.bool (decide_eq_true hq)); refine ZH ?_; refine Z1 ?_; refine Qoh ?_
   (show AWP Tryz.prog E _ _ _; refine X1 ?_; exact (show Xd _ _ _ _ _ from ⟨_, St.le_refl _, ⟨rfl, trivial⟩, X3 _⟩))
  ·rw [decide_eq_false q] at hb1
   subst hb1
   have hq : ¬ (((L.map cPr).length : Nat) : Int) % 2 = 1 := by omega
   refine QM ?_; refine QKg ?_; refine Qnd ?_; refine Z9 (hcon := h3) ?_; refine Z9 (hcon := h4) ?_; refine QWd ?_; refine QXb ?_; refine Z9 (hcon := hnd) ?_; refine Qdd ?_; refine Zw (γ := 102) ?_; refine Zy ?_; refine QR ?_; refine Zd ?_; refine ZJ ?_; refine Z0y (op := .eql) (r' := .bool false) (u := .int .i64 ((((L.map cPr).length : Nat) : Int) % 2)) (v := .int .i64 1) ?_ (hr' := by exact congrArg Value.bool (decide_eq_false hq)); refine ZH ?_; refine Z1 ?_; refine Qoh ?_
   (show AWP Tryz.prog E _ _ _; refine X1 ?_; exact (show Xd _ _ _ _ _ from ⟨_, St.le_refl _, ⟨rfl, trivial⟩, X3 _⟩))
end Go.Fw
