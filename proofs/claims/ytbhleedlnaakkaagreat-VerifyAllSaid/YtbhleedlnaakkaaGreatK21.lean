/- All violations, in plain Lean. -/
import Derived.Test.YtbhleedlnaakkaaGreatK20
set_option maxHeartbeats 64000000
namespace Go.Fw
open Go
set_option linter.unusedVariables false
set_option linter.unusedSimpArgs false
theorem X8k {r : Rul} (h : Yr r = 0) : 1 ≤ r.kind ∧ r.kind ≤ 7 := by
 unfold Yr at h
 by_cases c : decide (1 ≤ r.kind ∧ r.kind ≤ 7) = false ∨ X5R r = false
 ·rw [if_pos c] at h; simp at h
 ·by_cases d : 1 ≤ r.kind ∧ r.kind ≤ 7
  ·exact d
  ·exact absurd (.inl (by simpa using d)) c
theorem X4A {r : Rul} {g : Gra} (hf : GFit g) : (ofV r g).length ≤ 4000000 := by
 have h1 := hf.nl
 have h2 := hf.el
 unfold ofV
 split
 ·rw [← X0I]; exact X31 h1
 ·split
  ·have := List.length_filter_le (fun n => XE n.labels r.name && YK r n.props) g.nodes
   simp only [Yy, List.length_map]
   omega
  ·split
   ·have := List.length_filter_le (fun n => decide (r.n < (XY r g.edges n.id : Nat))) g.nodes
    simp only [X1d, YD, List.length_map]
    omega
   ·have := List.length_filter_le (fun e => decide (e.typ = r.name) && Vb r g.nodes e) g.edges
    simp only [Xw, List.length_map]
    omega
def V7 (i : Nat) (l : List (Int × Int)) : List Vio := l.map fun p => ⟨(i : Nat), p.1, p.2⟩
def Y0 (f : Rul → List (Int × Int)) : Nat → List Rul → List Vio
 | _, [] => []
 | i, r :: s => V7 i (f r) ++ Y0 f (i + 1) s
theorem X2J (g : Gra) : ∀ (i : Nat) (s : List Rul), X0V g i s = Y0 (fun r => ofV r g) i s
 | _, [] => rfl
 | i, r :: s => by rw [X0V, Y0, X2J g (i + 1) s]; rfl
theorem X49 {f : Rul → List (Int × Int)} {s : List Rul} {i : Nat} {r : Rul} (h : s[i]? = some r) : Y0 f i (s.drop i) = V7 i (f r) ++ Y0 f (i + 1) (s.drop (i + 1)) := by
 obtain ⟨hi, rfl⟩ := List.getElem?_eq_some_iff.1 h
 rw [List.drop_eq_getElem_cons hi, Y0]
theorem X40 {f : Rul → List (Int × Int)} (h : ∀ r, (f r).length ≤ 4000000) : ∀ (i : Nat) (s : List Rul), (Y0 f i s).length ≤ s.length * 4000000
 | _, [] => by simp [Y0]
 | i, r :: s => by
  have h1 := h r
  have h2 := X40 h (i + 1) s
  rw [Y0, List.length_append, V7, List.length_map, List.length_cons, Nat.add_mul]
  omega
theorem X4c {i k : Nat} {l : List (Int × Int)} {p : Int × Int} (h : l[k]? = some p) : V7 i (l.drop k) = ⟨(i : Nat), p.1, p.2⟩ :: V7 i (l.drop (k + 1)) := by
 obtain ⟨hk, rfl⟩ := List.getElem?_eq_some_iff.1 h
 unfold V7
 rw [List.drop_eq_getElem_cons hk, List.map_cons]
theorem X3P {f : Rul → List (Int × Int)} : ∀ (i : Nat) (s : List Rul), ∀ v ∈ Y0 f i s, ∃ (k : Nat) (r : Rul), v.rule = ((i + k : Nat) : Int) ∧ s[k]? = some r
 | _, [], v, h => by simp [Y0] at h
 | i, r :: s, v, h => by
  rw [Y0, List.mem_append] at h
  rcases h with h | h
  ·unfold V7 at h
   rw [List.mem_map] at h
   obtain ⟨p, _, rfl⟩ := h
   exact ⟨0, r, rfl, rfl⟩
  ·obtain ⟨k, r', e, hk⟩ := X3P (i + 1) s v h
   exact ⟨k + 1, r', by rw [e]; congr 1; omega, by simpa using hk⟩
theorem X5O {f h : Rul → List (Int × Int)} : ∀ (i : Nat) (s : List Rul), (∀ r ∈ s, f r = h r) → Y0 f i s = Y0 h i s
 | _, [], _ => rfl
 | i, r :: s, q => by rw [Y0, Y0, q r (by simp), X5O (i + 1) s fun r hr => q r (by simp [hr])]
theorem X52 : ∀ (i : Nat) (s : List Rul), Y0 (fun _ => []) i s = []
 | _, [] => rfl
 | i, r :: s => by rw [Y0, X52 (i + 1) s]; rfl
theorem X2M {r : Rul} {g : Gra} : (ofS r g).length ≤ 4000000 := by
 unfold ofS
 split
 ·simp
 ·rename_i h
  exact X4A (X1l (by
   by_cases q : Yc g = 0
   ·exact q
   ·exact absurd (.inr q) h))
theorem X2S {s : List Rul} {g : Gra} (h : YY s = true) : Y7 s g = Y0 (fun r => ofS r g) 0 s := by
 unfold Y7
 by_cases q : Yc g = 0
 ·rw [if_neg (by simp [h, q]), X2J]
  refine X5O 0 s fun r hr => ?_
  have := ((X17 h).2 r hr).1
  unfold ofS
  rw [if_neg (by simp [this, q])]
 ·rw [if_pos (.inr q)]
  have : (fun r => ofS r g) = fun _ => [] := by
   funext r
   unfold ofS
   rw [if_pos (.inr q)]
  rw [this, X52]
theorem X6M {s : List Rul} {g : Gra} (h : YY s = true) (q : Yc g = 0) : Y7 s g = Y0 (fun r => ofV r g) 0 s := by
 unfold Y7
 rw [if_neg (by simp [h, q]), X2J]
theorem X5z {s : List Rul} {g : Gra} {v : Vio} {r : List Vio} (h : Y7 s g = v :: r) : ∃ (k : Nat) (x : Rul), v.rule = (k : Nat) ∧ s[k]? = some x ∧ UP s g = UN x.kind := by
 have hm : v ∈ Y7 s g := by rw [h]; simp
 have hs : YY s = true := by
  cases hs : YY s with
  | true => rfl
  | false => unfold Y7 at hm; rw [if_pos (.inl hs)] at hm; simp at hm
 rw [X2S hs] at hm
 obtain ⟨k, x, e, hk⟩ := X3P 0 s v hm
 rw [Nat.zero_add] at e
 refine ⟨k, x, e, hk, ?_⟩
 unfold UP
 rw [h]
 simp only
 rw [e, Int.toNat_natCast, hk]
theorem X3W {s : List Rul} {g : Gra} (h : Y7 s g = []) : UP s g = 0 := by unfold UP; rw [h]
theorem X2h {s : List Rul} {g : Gra} : (Y7 s g).length ≤ 160000000 := by
 cases hs : YY s with
 | false => unfold Y7; rw [if_pos (.inl hs)]; simp
 | true =>
  rw [X2S hs]
  have h1 := X40 (f := fun r => ofS r g) (fun r => X2M) 0 s
  have h2 := (X17 hs).1
  have : s.length * 4000000 ≤ 40 * 4000000 := Nat.mul_le_mul_right _ h2
  omega
end Go.Fw
namespace Go.Fw
open Go Go.Proofs
set_option maxRecDepth 100000
set_option linter.unusedVariables false
set_option linter.unusedSimpArgs false
theorem X7T (r : Rul) (g : Gra) (hf : GFit g) : Con Tryz.prog 126 [] [Xv r, Xr g] [] (.d (.sl 2 ((Yy r g.nodes).map Xc))) := by
 refine Xa (xs := [.d (.sl 2 ((Yy r g.nodes).map Xc))]) Tryz.func126 rfl Tryz.ntmps126 rfl rfl rfl (fun E => ?_)
 obtain ⟨ns, es, nn, ne⟩ := g
 have hbr := fun l hl => X1w r l hl
 obtain ⟨rk, rn, rname, rkey, rsrc, rdst⟩ := r
 have hnl := hf.nl
 have hfn := hf.nodes
 clear hf
 unfold Xr
 simp only [Xv] at hnl hfn hbr ⊢
 generalize hR : (Rul.mk rk rn rname rkey rsrc rdst) = R at *
 have hRn : R.name = rname := by rw [← hR]
 refine X0 ?_; refine JR ?_; refine ZA (γ := 100) ?_; refine ZA (γ := 101) ?_; refine Z0 ?_; refine JD ?_; refine X0 ?_; refine JR ?_; refine Z0 ?_; refine JD ?_; refine X0 ?_; refine X0 ?_
 refine JR ?_; refine ZB ?_; refine ZC ?_; refine Zd ?_; refine Z1 ?_; refine JD ?_; refine X4 ?_
 refine XD (Un 5 130 2 rfl rfl rfl) ?_
 refine Xt (fun i : Nat => i ≤ ns.length) (fun i => ⟨33, [(2, .ptr 100 0), (3, .ptr 101 0), (5, .own 130 ((Yy R (ns.take i)).map Xc).length), (9, .d (.sl 3 (ns.map X8))), (10, ai (ns.map X8).length), (11, ai i)], [(100, .box [ai rk, ai rn, Xn rname, Xn rkey, Xn rsrc, Xn rdst]), (101, .box [.d (.sl 3 (ns.map X8)), .d (.sl 5 (es.map Xg)), ai nn, ai ne]), (130, .row 2 ((Yy R (ns.take i)).map Xc))]⟩) (fun i => ns.length - i) 0 (Nat.zero_le _)
  (X6 rfl JM ⟨rfl, rfl, rfl, trivial⟩) ?_
 intro i hi
 by_cases hil : i < ns.length
 case neg =>
  obtain rfl : i = ns.length := by omega
  have hn : ¬ ((ns.length : Nat) : Int) < (ns.map X8).length := by rw [List.length_map]; omega
  rw [List.take_length]
  refine X0 ?_; refine JR ?_; refine Z8 ?_; refine JD ?_; refine X0 ?_; refine JF ?_; refine Xp ?_; refine X0 ?_; refine JR ?_; refine Z1 ?_; refine Z0 ?_; refine JD ?_
  refine XD (U5 130 rfl) ?_
  refine XD (U7 4 130 rfl rfl rfl) ?_
  (show AWP Tryz.prog E _ _ _; refine X1 ?_; exact (show Xd _ _ _ _ _ from ⟨_, St.le_refl _, ⟨rfl, trivial⟩, X2 _⟩))
 have hn : (i : Int) < (ns.map X8).length := by rw [List.length_map]; omega
 obtain ⟨x, hx⟩ := Xm (l := ns) hil
 have hxc : (ns.map X8)[i]? = some (X8 x) := Xq hx
 obtain ⟨f1, f2, f3⟩ := hfn x (List.mem_of_getElem? hx)
 have hroom : ((Yy R (ns.take i)).map Xc).length ≤ 2000 := by
  have := List.length_filter_le (fun n => XE n.labels R.name && YK R n.props) (ns.take i)
  simp only [Yy, List.length_map, List.length_take] at this ⊢
  omega
 have hst : Yy R (ns.take (i + 1)) = Yy R (ns.take i) ++ if XE x.labels R.name && YK R x.props then [(x.id, 0)] else [] := X0G hx
 have h1 := X2V x rname (by omega)
 have h2 := hbr x.props (by omega)
 rw [hRn] at hst
 generalize XE x.labels rname = b1 at *
 generalize YK R x.props = b2 at *
 obtain ⟨xid, labels, props⟩ := x
 simp only [X8] at hxc h1 h2 hst
 clear hx hbr hR hRn hfn f1 f2 f3
 cases b1 with
 | false =>
  have hst := hst.trans (show _ = Yy R (ns.take i) by simp)
  refine X0 ?_; refine JR ?_; refine Z8 ?_; refine JD ?_; refine X0 ?_; refine JT ?_; refine X3 ?_; refine X0 ?_; refine X4 ?_; refine X0 ?_; refine JR ?_; refine Zj ?_; refine ZK ?_
  refine Zw (γ := 102) ?_; refine Zy ?_; refine JD ?_; refine X0 ?_; refine JR ?_; refine ZL ?_; refine ZB ?_; refine ZC ?_; refine Z9 (hcon := h1) ?_; refine Z1 ?_; refine Zo ?_; refine Zo ?_; refine Zo ?_
  refine Zo ?_; refine Zq ?_; refine JD ?_; refine JF ?_; refine X3 ?_; refine JR ?_; refine Zb ?_; refine Z1 ?_; refine JD ?_
  refine ⟨i + 1, hil, by omega, ?_⟩
  dsimp only
  rw [hst]
  exact X6 rfl JM ⟨rfl, rfl, rfl, trivial⟩
 | true =>
  cases b2 with
  | false =>
   have hst := hst.trans (show _ = Yy R (ns.take i) by simp)
   refine X0 ?_; refine JR ?_; refine Z8 ?_; refine JD ?_; refine X0 ?_; refine JT ?_; refine X3 ?_; refine X0 ?_; refine X4 ?_; refine X0 ?_; refine JR ?_; refine Zj ?_; refine ZK ?_
   refine Zw (γ := 102) ?_; refine Zy ?_; refine JD ?_; refine X0 ?_; refine JR ?_; refine ZL ?_; refine ZB ?_; refine ZC ?_; refine Z9 (hcon := h1) ?_; refine Z1 ?_; refine ZL ?_; refine ZB ?_; refine ZC ?_
   refine Z9 (hcon := h2) ?_; refine Zn ?_; refine JD ?_; refine JF ?_; refine X3 ?_; refine JR ?_; refine Zb ?_; refine Z1 ?_; refine JD ?_
   refine ⟨i + 1, hil, by omega, ?_⟩
   dsimp only
   rw [hst]
   exact X6 rfl JM ⟨rfl, rfl, rfl, trivial⟩
  | true =>
   have hst : Yy R (ns.take (i + 1)) = Yy R (ns.take i) ++ [(xid, 0)] := hst
   have happ : (Yy R (ns.take i) ++ [(xid, (0 : Int))]).map Xc = (Yy R (ns.take i)).map Xc ++ [Xc (xid, 0)] := by simp
   refine X0 ?_; refine JR ?_; refine Z8 ?_; refine JD ?_; refine X0 ?_; refine JT ?_; refine X3 ?_; refine X0 ?_; refine X4 ?_; refine X0 ?_; refine JR ?_; refine Zj ?_; refine ZK ?_
   refine Zw (γ := 102) ?_; refine Zy ?_; refine JD ?_; refine X0 ?_; refine JR ?_; refine ZL ?_; refine ZB ?_; refine ZC ?_; refine Z9 (hcon := h1) ?_; refine Z1 ?_; refine ZL ?_; refine ZB ?_; refine ZC ?_
   refine Z9 (hcon := h2) ?_; refine Zn ?_; refine JD ?_; refine JT ?_; refine JR ?_; refine Z1 ?_; refine ZB ?_; refine ZC ?_; refine Zx ?_; refine Z5 ?_; refine Z6 ?_; refine Z0 ?_; refine JD ?_; refine JR ?_
   refine Zb ?_; refine Z1 ?_; refine JD ?_
   refine ⟨i + 1, hil, by omega, ?_⟩
   dsimp only
   rw [hst, happ]
   exact X6 rfl ⟨JL, JL, AVal.le_of_eq (by refine Eq.trans (b := AVal.own 130 (_ + _)) rfl ?_; simp only [List.length_append, List.length_map, List.length_cons, List.length_nil]), JL, JL, JL, trivial⟩ ⟨rfl, rfl, rfl, trivial⟩
end Go.Fw
namespace Go.Fw
open Go Go.Proofs
set_option maxRecDepth 100000
set_option linter.unusedVariables false
set_option linter.unusedSimpArgs false
theorem X9F (r : Rul) (g : Gra) (hf : GFit g) : Con Tryz.prog 128 [] [Xv r, Xr g] [] (.d (.sl 2 ((Xw r g.nodes g.edges).map Xc))) := by
 refine Xa (xs := [.d (.sl 2 ((Xw r g.nodes g.edges).map Xc))]) Tryz.func128 rfl Tryz.ntmps128 rfl rfl rfl (fun E => ?_)
 obtain ⟨ns, es, nn, ne⟩ := g
 have hbr := fun l hl => X1w r l hl
 have hlk := fun id label => X8D ⟨ns, es, nn, ne⟩ id label (by have := hf.nl; omega) hf.nodes
 obtain ⟨rk, rn, rname, rkey, rsrc, rdst⟩ := r
 have hnl := hf.nl
 have hel := hf.el
 have hfn := hf.nodes
 have hfe := hf.edges
 clear hf
 unfold Xr
 unfold Xr at hlk
 simp only [Xv] at hnl hel hfn hfe hbr hlk ⊢
 generalize hR : (Rul.mk rk rn rname rkey rsrc rdst) = R at *
 have hRn : R.name = rname := by rw [← hR]
 have hRk : R.kind = rk := by rw [← hR]
 have hRm : R.n = rn := by rw [← hR]
 have hRs : R.src = rsrc := by rw [← hR]
 have hRd : R.dst = rdst := by rw [← hR]
 refine X0 ?_; refine JR ?_; refine ZA (γ := 100) ?_; refine ZA (γ := 101) ?_; refine Z0 ?_; refine JD ?_; refine X0 ?_; refine JR ?_; refine Z0 ?_; refine JD ?_; refine X0 ?_; refine X0 ?_
 refine JR ?_; refine ZB ?_; refine ZC ?_; refine Zd ?_; refine Z1 ?_; refine JD ?_; refine X4 ?_
 refine XD (Un 5 130 2 rfl rfl rfl) ?_
 refine Xt (fun i : Nat => i ≤ es.length) (fun i => ⟨51, [(2, .ptr 100 0), (3, .ptr 101 0), (5, .own 130 ((Xw R ns (es.take i)).map Xc).length), (10, .d (.sl 5 (es.map Xg))), (11, ai (es.map Xg).length), (12, ai i)], [(100, .box [ai rk, ai rn, Xn rname, Xn rkey, Xn rsrc, Xn rdst]), (101, .box [.d (.sl 3 (ns.map X8)), .d (.sl 5 (es.map Xg)), ai nn, ai ne]), (130, .row 2 ((Xw R ns (es.take i)).map Xc))]⟩) (fun i => es.length - i) 0 (Nat.zero_le _)
  (X6 rfl JM ⟨rfl, rfl, rfl, trivial⟩) ?_
 intro i hi
 by_cases hil : i < es.length
 case neg =>
  obtain rfl : i = es.length := by omega
  have hn : ¬ ((es.length : Nat) : Int) < (es.map Xg).length := by rw [List.length_map]; omega
  rw [List.take_length]
  refine X0 ?_; refine JR ?_; refine Z8 ?_; refine JD ?_; refine X0 ?_; refine JF ?_; refine Xp ?_; refine X0 ?_; refine JR ?_; refine Z1 ?_; refine Z0 ?_; refine JD ?_
  refine XD (U5 130 rfl) ?_
  refine XD (U7 4 130 rfl rfl rfl) ?_
  (show AWP Tryz.prog E _ _ _; refine X1 ?_; exact (show Xd _ _ _ _ _ from ⟨_, St.le_refl _, ⟨rfl, trivial⟩, X2 _⟩))
 have hn : (i : Int) < (es.map Xg).length := by rw [List.length_map]; omega
 obtain ⟨x, hx⟩ := Xm (l := es) hil
 have hxc : (es.map Xg)[i]? = some (Xg x) := Xq hx
 obtain ⟨f1, f2, f3⟩ := hfe x (List.mem_of_getElem? hx)
 have hroom : ((Xw R ns (es.take i)).map Xc).length ≤ 4000 := by
  have := List.length_filter_le (fun e => decide (e.typ = R.name) && Vb R ns e) (es.take i)
  simp only [Xw, List.length_map, List.length_take] at this ⊢
  omega
 have hst : Xw R ns (es.take (i + 1)) = Xw R ns (es.take i) ++ if decide (x.typ = R.name) && Vb R ns x then [(x.id, 0)] else [] := X0G hx
 have h1 := hbr x.props (by omega)
 have h2 := hlk x.src rsrc
 have h3 := hlk x.dst rdst
 unfold Vb at hst
 rw [hRn, hRk, hRs, hRd] at hst
 generalize UG ns x.src rsrc = b2 at *
 generalize UG ns x.dst rdst = b3 at *
 generalize YK R x.props = b1 at *
 obtain ⟨xid, src, dst, typ, props⟩ := x
 simp only [Xg] at hxc h1 h2 h3 hst
 clear hx hbr hlk hR hRn hRk hRm hRs hRd hfn hfe f1 f2 f3
 by_cases ht : typ = rname
 case neg =>
  have ht' : ¬ typ = rname := ht
  rw [decide_eq_false ht] at hst
  have hst := hst.trans (show _ = Xw R ns (es.take i) by simp)
  refine X0 ?_; refine JR ?_; refine Z8 ?_; refine JD ?_; refine X0 ?_; refine JT ?_; refine X3 ?_; refine X0 ?_; refine X4 ?_; refine X0 ?_; refine JR ?_; refine Zj ?_; refine ZK ?_
  refine Zw (γ := 102) ?_; refine Zy ?_; refine JD ?_; refine X0 ?_; refine X0 ?_; refine JR ?_; refine ZB ?_; refine ZC ?_; refine ZB ?_; refine ZC ?_; refine ZM ?_; refine JD ?_; refine JT ?_
  refine Xp ?_; refine JR ?_; refine Zb ?_; refine Z1 ?_; refine JD ?_
  refine ⟨i + 1, hil, by omega, ?_⟩
  dsimp only
  rw [hst]
  exact X6 rfl JM ⟨rfl, rfl, rfl, trivial⟩
 rw [decide_eq_true ht, Bool.true_and] at hst
 by_cases h6 : rk = 6
 ·rw [if_pos h6] at hst
  cases b2 with
  | true =>
   have hst : Xw R ns (es.take (i + 1)) = Xw R ns (es.take i) ++ [(xid, 0)] := hst.trans (by simp)
   have happ : (Xw R ns (es.take i) ++ [((xid, 0) : Int × Int)]).map Xc = (Xw R ns (es.take i)).map Xc ++ [Xc (xid, 0)] := by simp
   refine X0 ?_; refine JR ?_; refine Z8 ?_; refine JD ?_; refine X0 ?_; refine JT ?_; refine X3 ?_; refine X0 ?_; refine X4 ?_; refine X0 ?_; refine JR ?_; refine Zj ?_; refine ZK ?_
   refine Zw (γ := 102) ?_; refine Zy ?_; refine JD ?_; refine X0 ?_; refine X0 ?_; refine JR ?_; refine ZB ?_; refine ZC ?_; refine ZB ?_; refine ZC ?_; refine ZM ?_; refine JD ?_; refine JF ?_
   refine X3 ?_; refine X0 ?_; refine JR ?_; refine Z0 ?_; refine JD ?_; refine X0 ?_; refine X0 ?_; refine JR ?_; refine ZB ?_; refine ZC ?_; refine Zl ?_; refine JD ?_; refine JT ?_; refine JR ?_
   refine ZL ?_; refine ZB ?_; refine ZC ?_; refine ZB ?_; refine ZC ?_; refine Z9 (hcon := h2) ?_; refine Z1 ?_; refine Zo ?_; refine Zo ?_; refine Zo ?_; refine Zo ?_; refine Zo ?_; refine Zo ?_; refine Zn ?_
   refine Z0 ?_; refine JD ?_; refine X0 ?_; refine JR ?_; refine Z1 ?_; refine JD ?_; refine JT ?_; refine JR ?_; refine Z1 ?_; refine ZB ?_; refine ZC ?_; refine Zx ?_; refine Z5 ?_; refine Z6 ?_; refine Z0 ?_
   refine JD ?_; refine JR ?_; refine Zb ?_; refine Z1 ?_; refine JD ?_
   refine ⟨i + 1, hil, by omega, ?_⟩
   dsimp only
   rw [hst, happ]
   exact X6 rfl ⟨JL, JL, AVal.le_of_eq (by refine Eq.trans (b := AVal.own 130 (_ + _)) rfl ?_; simp only [List.length_append, List.length_map, List.length_cons, List.length_nil]), JL, JL, JL, trivial⟩ ⟨rfl, rfl, rfl, trivial⟩
  | false =>
   cases b3 with
   | true =>
    have hst : Xw R ns (es.take (i + 1)) = Xw R ns (es.take i) ++ [(xid, 0)] := hst.trans (by simp)
    have happ : (Xw R ns (es.take i) ++ [((xid, 0) : Int × Int)]).map Xc = (Xw R ns (es.take i)).map Xc ++ [Xc (xid, 0)] := by simp
    refine X0 ?_; refine JR ?_; refine Z8 ?_; refine JD ?_; refine X0 ?_; refine JT ?_; refine X3 ?_; refine X0 ?_; refine X4 ?_; refine X0 ?_; refine JR ?_; refine Zj ?_; refine ZK ?_
    refine Zw (γ := 102) ?_; refine Zy ?_; refine JD ?_; refine X0 ?_; refine X0 ?_; refine JR ?_; refine ZB ?_; refine ZC ?_; refine ZB ?_; refine ZC ?_; refine ZM ?_; refine JD ?_; refine JF ?_
    refine X3 ?_; refine X0 ?_; refine JR ?_; refine Z0 ?_; refine JD ?_; refine X0 ?_; refine X0 ?_; refine JR ?_; refine ZB ?_; refine ZC ?_; refine Zl ?_; refine JD ?_; refine JT ?_; refine JR ?_
    refine ZL ?_; refine ZB ?_; refine ZC ?_; refine ZB ?_; refine ZC ?_; refine Z9 (hcon := h2) ?_; refine Z1 ?_; refine ZL ?_; refine ZB ?_; refine ZC ?_; refine ZB ?_; refine ZC ?_; refine Z9 (hcon := h3) ?_; refine Zq ?_
    refine Z0 ?_; refine JD ?_; refine X0 ?_; refine JR ?_; refine Z1 ?_; refine JD ?_; refine JT ?_; refine JR ?_; refine Z1 ?_; refine ZB ?_; refine ZC ?_; refine Zx ?_; refine Z5 ?_; refine Z6 ?_; refine Z0 ?_
    refine JD ?_; refine JR ?_; refine Zb ?_; refine Z1 ?_; refine JD ?_
    refine ⟨i + 1, hil, by omega, ?_⟩
    dsimp only
    rw [hst, happ]
    exact X6 rfl ⟨JL, JL, AVal.le_of_eq (by refine Eq.trans (b := AVal.own 130 (_ + _)) rfl ?_; simp only [List.length_append, List.length_map, List.length_cons, List.length_nil]), JL, JL, JL, trivial⟩ ⟨rfl, rfl, rfl, trivial⟩
   | false =>
    have hst := hst.trans (show _ = Xw R ns (es.take i) by simp)
    refine X0 ?_; refine JR ?_; refine Z8 ?_; refine JD ?_; refine X0 ?_; refine JT ?_; refine X3 ?_; refine X0 ?_; refine X4 ?_; refine X0 ?_; refine JR ?_; refine Zj ?_; refine ZK ?_
    refine Zw (γ := 102) ?_; refine Zy ?_; refine JD ?_; refine X0 ?_; refine X0 ?_; refine JR ?_; refine ZB ?_; refine ZC ?_; refine ZB ?_; refine ZC ?_; refine ZM ?_; refine JD ?_; refine JF ?_
    refine X3 ?_; refine X0 ?_; refine JR ?_; refine Z0 ?_; refine JD ?_; refine X0 ?_; refine X0 ?_; refine JR ?_; refine ZB ?_; refine ZC ?_; refine Zl ?_; refine JD ?_; refine JT ?_; refine JR ?_
    refine ZL ?_; refine ZB ?_; refine ZC ?_; refine ZB ?_; refine ZC ?_; refine Z9 (hcon := h2) ?_; refine Z1 ?_; refine ZL ?_; refine ZB ?_; refine ZC ?_; refine ZB ?_; refine ZC ?_; refine Z9 (hcon := h3) ?_; refine Zq ?_
    refine Z0 ?_; refine JD ?_; refine X0 ?_; refine JR ?_; refine Z1 ?_; refine JD ?_; refine JF ?_; refine X3 ?_; refine JR ?_; refine Zb ?_; refine Z1 ?_; refine JD ?_
    refine ⟨i + 1, hil, by omega, ?_⟩
    dsimp only
    rw [hst]
    exact X6 rfl JM ⟨rfl, rfl, rfl, trivial⟩
 ·rw [if_neg h6] at hst
  cases b1 with
  | true =>
   have hst : Xw R ns (es.take (i + 1)) = Xw R ns (es.take i) ++ [(xid, 0)] := hst.trans (by simp)
   have happ : (Xw R ns (es.take i) ++ [((xid, 0) : Int × Int)]).map Xc = (Xw R ns (es.take i)).map Xc ++ [Xc (xid, 0)] := by simp
   refine X0 ?_; refine JR ?_; refine Z8 ?_; refine JD ?_; refine X0 ?_; refine JT ?_; refine X3 ?_; refine X0 ?_; refine X4 ?_; refine X0 ?_; refine JR ?_; refine Zj ?_; refine ZK ?_
   refine Zw (γ := 102) ?_; refine Zy ?_; refine JD ?_; refine X0 ?_; refine X0 ?_; refine JR ?_; refine ZB ?_; refine ZC ?_; refine ZB ?_; refine ZC ?_; refine ZM ?_; refine JD ?_; refine JF ?_
   refine X3 ?_; refine X0 ?_; refine JR ?_; refine Z0 ?_; refine JD ?_; refine X0 ?_; refine X0 ?_; refine JR ?_; refine ZB ?_; refine ZC ?_; refine Zl ?_; refine JD ?_; refine JF ?_; refine JR ?_
   refine ZL ?_; refine ZB ?_; refine ZC ?_; refine Z9 (hcon := h1) ?_; refine Z0 ?_; refine JD ?_; refine X0 ?_; refine JR ?_; refine Z1 ?_; refine JD ?_; refine JT ?_; refine JR ?_; refine Z1 ?_; refine ZB ?_
   refine ZC ?_; refine Zx ?_; refine Z5 ?_; refine Z6 ?_; refine Z0 ?_; refine JD ?_; refine JR ?_; refine Zb ?_; refine Z1 ?_; refine JD ?_
   refine ⟨i + 1, hil, by omega, ?_⟩
   dsimp only
   rw [hst, happ]
   exact X6 rfl ⟨JL, JL, AVal.le_of_eq (by refine Eq.trans (b := AVal.own 130 (_ + _)) rfl ?_; simp only [List.length_append, List.length_map, List.length_cons, List.length_nil]), JL, JL, JL, trivial⟩ ⟨rfl, rfl, rfl, trivial⟩
  | false =>
   have hst := hst.trans (show _ = Xw R ns (es.take i) by simp)
   refine X0 ?_; refine JR ?_; refine Z8 ?_; refine JD ?_; refine X0 ?_; refine JT ?_; refine X3 ?_; refine X0 ?_; refine X4 ?_; refine X0 ?_; refine JR ?_; refine Zj ?_; refine ZK ?_
   refine Zw (γ := 102) ?_; refine Zy ?_; refine JD ?_; refine X0 ?_; refine X0 ?_; refine JR ?_; refine ZB ?_; refine ZC ?_; refine ZB ?_; refine ZC ?_; refine ZM ?_; refine JD ?_; refine JF ?_
   refine X3 ?_; refine X0 ?_; refine JR ?_; refine Z0 ?_; refine JD ?_; refine X0 ?_; refine X0 ?_; refine JR ?_; refine ZB ?_; refine ZC ?_; refine Zl ?_; refine JD ?_; refine JF ?_; refine JR ?_
   refine ZL ?_; refine ZB ?_; refine ZC ?_; refine Z9 (hcon := h1) ?_; refine Z0 ?_; refine JD ?_; refine X0 ?_; refine JR ?_; refine Z1 ?_; refine JD ?_; refine JF ?_; refine X3 ?_; refine JR ?_; refine Zb ?_
   refine Z1 ?_; refine JD ?_
   refine ⟨i + 1, hil, by omega, ?_⟩
   dsimp only
   rw [hst]
   exact X6 rfl JM ⟨rfl, rfl, rfl, trivial⟩
end Go.Fw
namespace Go.Fw
open Go Go.Proofs
set_option maxRecDepth 100000
set_option linter.unusedVariables false
set_option linter.unusedSimpArgs false
theorem X7z (r : Rul) (g : Gra) (hf : GFit g) : Con Tryz.prog 127 [] [Xv r, Xr g] [] (.d (.sl 2 ((YD r g.edges g.nodes).map Xc))) := by
 refine Xa (xs := [.d (.sl 2 ((YD r g.edges g.nodes).map Xc))]) Tryz.func127 rfl Tryz.ntmps127 rfl rfl rfl (fun E => ?_)
 obtain ⟨ns, es, nn, ne⟩ := g
 have hbr := fun l hl => X1w r l hl
 obtain ⟨rk, rn, rname, rkey, rsrc, rdst⟩ := r
 have hnl := hf.nl
 have hel := hf.el
 have hfn := hf.nodes
 have hfe := hf.edges
 clear hf
 unfold Xr
 simp only [Xv] at hnl hel hfn hfe hbr ⊢
 generalize hR : (Rul.mk rk rn rname rkey rsrc rdst) = R at *
 have hRn : R.name = rname := by rw [← hR]
 have hRk : R.kind = rk := by rw [← hR]
 have hRm : R.n = rn := by rw [← hR]
 have hRs : R.src = rsrc := by rw [← hR]
 have hRd : R.dst = rdst := by rw [← hR]
 refine X0 ?_; refine JR ?_; refine ZA (γ := 100) ?_; refine ZA (γ := 101) ?_; refine Z0 ?_; refine JD ?_; refine X0 ?_; refine JR ?_; refine Z0g (γ := 120) ?_; refine Z0 ?_; refine JD ?_; refine X0 ?_
 refine X0 ?_; refine JR ?_; refine ZB ?_; refine ZC ?_; refine Zd ?_; refine Z1 ?_; refine JD ?_; refine X4 ?_
 refine Xt (ι := Nat × List (Int × Int)) (fun q => q.1 ≤ es.length ∧ ∀ id, Yf q.2 id = (XY R (es.take q.1) id : Nat)) (fun q => ⟨52, [(2, .ptr 100 0), (3, .ptr 101 0), (5, .inn 120 0), (13, .d (.sl 5 (es.map Xg))), (14, ai (es.map Xg).length), (15, ai q.1)], [(100, .box [ai rk, ai rn, Xn rname, Xn rkey, Xn rsrc, Xn rdst]), (101, .box [.d (.sl 3 (ns.map X8)), .d (.sl 5 (es.map Xg)), ai nn, ai ne]), (120, .imap q.2)]⟩) (fun q => es.length - q.1) (0, []) ⟨Nat.zero_le _, fun id => rfl⟩
  (X6 rfl JM ⟨rfl, rfl, rfl, trivial⟩) ?_
 rintro ⟨i, M⟩ ⟨hi, hM⟩
 simp only at hi hM
 by_cases hil : i < es.length
 case pos =>
  have hn : (i : Int) < (es.map Xg).length := by rw [List.length_map]; omega
  obtain ⟨x, hx⟩ := Xm (l := es) hil
  have hxc : (es.map Xg)[i]? = some (Xg x) := Xq hx
  have hst : ∀ id, XY R (es.take (i + 1)) id = XY R (es.take i) id + if decide (x.typ = R.name) && decide (x.src = id) then 1 else 0 := fun id => X25 hx
  rw [hRn] at hst
  obtain ⟨xid, src, dst, typ, props⟩ := x
  simp only [Xg] at hxc hst
  have hv := hM src
  have hle := X2L R (es.take i) src
  rw [List.length_take] at hle
  clear hx hbr hR hRn hRk hRm hRs hRd hfn hfe
  by_cases ht : typ = rname
  ·generalize hvv : Yf M src = v at *
   have hin : XB (v + 1) := by unfold XB; omega
   refine X0 ?_; refine JR ?_; refine Z8 ?_; refine JD ?_; refine X0 ?_; refine JT ?_; refine X3 ?_; refine X0 ?_; refine X4 ?_; refine X0 ?_; refine JR ?_; refine Zj ?_; refine ZK ?_
   refine Zw (γ := 102) ?_; refine Zy ?_; refine JD ?_; refine X0 ?_; refine JR ?_; refine ZB ?_; refine ZC ?_; refine ZB ?_; refine ZC ?_; refine Zr ?_; refine JD ?_; refine JT ?_; refine JR ?_; refine Z1 ?_
   refine ZB ?_; refine ZC ?_; refine Z0h ?_; refine Zb ?_; refine Z0i ?_; refine JD ?_; refine JR ?_; refine Zb ?_; refine Z1 ?_; refine JD ?_
   refine ⟨(i + 1, YT M src (v + 1)), ⟨by show i + 1 ≤ es.length; omega, fun id => ?_⟩, by show es.length - (i + 1) < es.length - i; omega, ?_⟩
   ·show Yf (YT M src (v + 1)) id = _
    rw [X3w, hst id, hM id]
    by_cases hid : id = src
    ·subst hid
     rw [if_pos rfl, hv]
     simp [ht]
    ·have hid' : ¬ src = id := fun e => hid e.symm
     rw [if_neg hid]
     simp [hid']
   ·rw [← hvv]
    exact X6 rfl JM ⟨rfl, rfl, rfl, trivial⟩
  ·refine X0 ?_; refine JR ?_; refine Z8 ?_; refine JD ?_; refine X0 ?_; refine JT ?_; refine X3 ?_; refine X0 ?_; refine X4 ?_; refine X0 ?_; refine JR ?_; refine Zj ?_; refine ZK ?_
   refine Zw (γ := 102) ?_; refine Zy ?_; refine JD ?_; refine X0 ?_; refine JR ?_; refine ZB ?_; refine ZC ?_; refine ZB ?_; refine ZC ?_; refine Zr ?_; refine JD ?_; refine JF ?_; refine X3 ?_; refine JR ?_
   refine Zb ?_; refine Z1 ?_; refine JD ?_
   exact ⟨(i + 1, M), ⟨by show i + 1 ≤ es.length; omega, fun id => by rw [hM id]; show _ = ((XY R (es.take (i + 1)) id : Nat) : Int); rw [hst id]; simp [ht]⟩, by show es.length - (i + 1) < es.length - i; omega, X6 rfl JM ⟨rfl, rfl, rfl, trivial⟩⟩
 obtain rfl : i = es.length := by omega
 have hn : ¬ ((es.length : Nat) : Int) < (es.map Xg).length := by rw [List.length_map]; omega
 rw [List.take_length] at hM
 refine X0 ?_; refine JR ?_; refine Z8 ?_; refine JD ?_; refine X0 ?_; refine JF ?_; refine Xp ?_; refine X0 ?_; refine JR ?_; refine Z0 ?_; refine JD ?_; refine X0 ?_; refine X0 ?_
 refine JR ?_; refine ZB ?_; refine ZC ?_; refine Zd ?_; refine Z1 ?_; refine JD ?_; refine X4 ?_
 clear hn
 refine XD (Un 8 130 2 rfl rfl rfl) ?_
 refine Xt (fun i : Nat => i ≤ ns.length) (fun i => ⟨52, [(2, .ptr 100 0), (3, .ptr 101 0), (5, .inn 120 0), (8, .own 130 ((YD R es (ns.take i)).map Xc).length), (31, .d (.sl 3 (ns.map X8))), (32, ai (ns.map X8).length), (33, ai i)], [(100, .box [ai rk, ai rn, Xn rname, Xn rkey, Xn rsrc, Xn rdst]), (101, .box [.d (.sl 3 (ns.map X8)), .d (.sl 5 (es.map Xg)), ai nn, ai ne]), (120, .imap M), (130, .row 2 ((YD R es (ns.take i)).map Xc))]⟩) (fun i => ns.length - i) 0 (Nat.zero_le _)
  (X6 rfl JM ⟨rfl, rfl, rfl, rfl, trivial⟩) ?_
 clear hi hil
 intro i hi
 by_cases hil : i < ns.length
 case neg =>
  obtain rfl : i = ns.length := by omega
  have hn : ¬ ((ns.length : Nat) : Int) < (ns.map X8).length := by rw [List.length_map]; omega
  rw [List.take_length]
  refine X0 ?_; refine JR ?_; refine Z8 ?_; refine JD ?_; refine X0 ?_; refine JF ?_; refine Xp ?_; refine X0 ?_; refine JR ?_; refine Z1 ?_; refine Z0 ?_; refine JD ?_
  refine XD (U5 130 rfl) ?_
  refine XD (U7 4 130 rfl rfl rfl) ?_
  (show AWP Tryz.prog E _ _ _; refine X1 ?_; exact (show Xd _ _ _ _ _ from ⟨_, St.le_refl _, ⟨rfl, trivial⟩, X2 _⟩))
 have hn : (i : Int) < (ns.map X8).length := by rw [List.length_map]; omega
 obtain ⟨x, hx⟩ := Xm (l := ns) hil
 have hxc : (ns.map X8)[i]? = some (X8 x) := Xq hx
 have hroom : ((YD R es (ns.take i)).map Xc).length ≤ 2000 := by
  have := List.length_filter_le (fun n => decide (R.n < (XY R es n.id : Nat))) (ns.take i)
  simp only [YD, List.length_map, List.length_take] at this ⊢
  omega
 have hst : YD R es (ns.take (i + 1)) = YD R es (ns.take i) ++ if decide (R.n < (XY R es x.id : Nat)) then [(x.id, 0)] else [] := X0G hx
 rw [← hM x.id, hRm] at hst
 obtain ⟨xid, labels, props⟩ := x
 simp only [X8] at hxc hst
 clear hx hbr hR hRn hRk hRm hRs hRd hfn hfe hM
 by_cases ht : rn < Yf M xid
 ·rw [decide_eq_true ht] at hst
  have hst : YD R es (ns.take (i + 1)) = YD R es (ns.take i) ++ [(xid, 0)] := hst.trans (by simp)
  have happ : (YD R es (ns.take i) ++ [((xid, 0) : Int × Int)]).map Xc = (YD R es (ns.take i)).map Xc ++ [Xc (xid, 0)] := by simp
  refine X0 ?_; refine JR ?_; refine Z8 ?_; refine JD ?_; refine X0 ?_; refine JT ?_; refine X3 ?_; refine X0 ?_; refine X4 ?_; refine X0 ?_; refine JR ?_; refine Zj ?_; refine ZK ?_
  refine Zw (γ := 102) ?_; refine Zy ?_; refine JD ?_; refine X0 ?_; refine JR ?_; refine Z1 ?_; refine ZB ?_; refine ZC ?_; refine Z0h ?_; refine ZB ?_; refine ZC ?_; refine Zs ?_; refine JD ?_; refine JT ?_
  refine JR ?_; refine Z1 ?_; refine ZB ?_; refine ZC ?_; refine Zx ?_; refine Z5 ?_; refine Z6 ?_; refine Z0 ?_; refine JD ?_; refine JR ?_; refine Zb ?_; refine Z1 ?_; refine JD ?_
  refine ⟨i + 1, hil, by omega, ?_⟩
  dsimp only
  rw [hst, happ]
  exact X6 rfl ⟨JL, JL, JL, AVal.le_of_eq (by refine Eq.trans (b := AVal.own 130 (_ + _)) rfl ?_; simp only [List.length_append, List.length_map, List.length_cons, List.length_nil]), JL, JL, JL, trivial⟩ ⟨rfl, rfl, rfl, rfl, trivial⟩
 ·rw [decide_eq_false ht] at hst
  have hst := hst.trans (show _ = YD R es (ns.take i) by simp)
  refine X0 ?_; refine JR ?_; refine Z8 ?_; refine JD ?_; refine X0 ?_; refine JT ?_; refine X3 ?_; refine X0 ?_; refine X4 ?_; refine X0 ?_; refine JR ?_; refine Zj ?_; refine ZK ?_
  refine Zw (γ := 102) ?_; refine Zy ?_; refine JD ?_; refine X0 ?_; refine JR ?_; refine Z1 ?_; refine ZB ?_; refine ZC ?_; refine Z0h ?_; refine ZB ?_; refine ZC ?_; refine Zs ?_; refine JD ?_; refine JF ?_
  refine X3 ?_; refine JR ?_; refine Zb ?_; refine Z1 ?_; refine JD ?_
  refine ⟨i + 1, hil, by omega, ?_⟩
  dsimp only
  rw [hst]
  exact X6 rfl JM ⟨rfl, rfl, rfl, rfl, trivial⟩
end Go.Fw
namespace Go.Fw
open Go Go.Proofs
set_option maxRecDepth 100000
set_option linter.unusedVariables false
set_option linter.unusedSimpArgs false
theorem X4Y {acc rest tot : List (Int × Int)} (h : acc ++ rest = tot) (hl : tot.length ≤ 4000000) : (acc.map Xc).length ≤ 4000000 := by
 have := congrArg List.length h
 simp only [List.length_append] at this
 rw [List.length_map]
 omega
theorem Xaq (r : Rul) (g : Gra) (hf : GFit g) : Con Tryz.prog 125 [] [Xv r, Xr g] [] (.d (.sl 2 ((YN (XU r g.nodes)).map Xc))) := by
 refine Xa (xs := [.d (.sl 2 ((YN (XU r g.nodes)).map Xc))]) Tryz.func125 rfl Tryz.ntmps125 rfl rfl rfl (fun E => ?_)
 obtain ⟨ns, es, nn, ne⟩ := g
 have hbr := fun l hl => X1w r l hl
 obtain ⟨rk, rn, rname, rkey, rsrc, rdst⟩ := r
 have hnl := hf.nl
 have hel := hf.el
 have hfn := hf.nodes
 have hfe := hf.edges
 clear hf
 unfold Xr
 simp only [Xv] at hnl hel hfn hfe hbr ⊢
 generalize hR : (Rul.mk rk rn rname rkey rsrc rdst) = R at *
 have hRK : R.key = rkey := by rw [← hR]
 have hRn : R.name = rname := by rw [← hR]
 have hRk : R.kind = rk := by rw [← hR]
 have hRm : R.n = rn := by rw [← hR]
 have hRs : R.src = rsrc := by rw [← hR]
 have hRd : R.dst = rdst := by rw [← hR]
 refine X0 ?_; refine JR ?_; refine ZA (γ := 100) ?_; refine ZA (γ := 101) ?_; refine Z0 ?_; refine JD ?_; refine X0 ?_; refine JR ?_; refine Z0 ?_; refine JD ?_; refine X0 ?_; refine X0 ?_
 refine JR ?_; refine ZB ?_; refine ZC ?_; refine Zd ?_; refine Z1 ?_; refine JD ?_; refine X4 ?_
 refine XD (Un 5 130 6 rfl rfl rfl) ?_
 refine Xt (fun i : Nat => i ≤ ns.length) (fun i => ⟨78, [(2, .ptr 100 0), (3, .ptr 101 0), (5, .own 130 ((XU R (ns.take i)).map XR).length), (16, .d (.sl 3 (ns.map X8))), (17, ai (ns.map X8).length), (18, ai i)], [(100, .box [ai rk, ai rn, Xn rname, Xn rkey, Xn rsrc, Xn rdst]), (101, .box [.d (.sl 3 (ns.map X8)), .d (.sl 5 (es.map Xg)), ai nn, ai ne]), (130, .row 6 ((XU R (ns.take i)).map XR))]⟩) (fun i => ns.length - i) 0 (Nat.zero_le _)
  (X6 rfl JM ⟨rfl, rfl, rfl, trivial⟩) ?_
 intro i hi
 by_cases hil : i < ns.length
 case pos =>
  have hn : (i : Int) < (ns.map X8).length := by rw [List.length_map]; omega
  obtain ⟨x, hx⟩ := Xm (l := ns) hil
  have hxc : (ns.map X8)[i]? = some (X8 x) := Xq hx
  obtain ⟨f1, f2, f3⟩ := hfn x (List.mem_of_getElem? hx)
  have hroom : ((XU R (ns.take i)).map XR).length ≤ 2000 := by
   have := X1S R (ns.take i)
   rw [List.length_take] at this
   rw [List.length_map]
   omega
  have hst := X73 (r := R) hx
  have h1 := X3L x.props rkey (by omega)
  have h2 := X2V x rname (by omega)
  unfold Yb at hst
  rw [hRn, hRK] at hst
  generalize XL x.props rkey = pv at *
  generalize XE x.labels rname = b2 at *
  obtain ⟨xid, labels, props⟩ := x
  simp only [X8] at hxc h1 h2 hst
  clear hx hbr hfn hfe f1 f2 f3 hR hRn hRK hRk hRm hRs hRd
  cases pv with
  | none =>
   replace hst := hst.trans (show _ = XU R (ns.take i) by simp)
   simp only [Option.getD_none, Option.isSome_none, zV, Xu] at h1
   refine X0 ?_; refine JR ?_; refine Z8 ?_; refine JD ?_; refine X0 ?_; refine JT ?_; refine X3 ?_; refine X0 ?_; refine X4 ?_; refine X0 ?_; refine JR ?_; refine Zj ?_; refine ZK ?_
   refine Zw (γ := 102) ?_; refine Zy ?_; refine JD ?_; refine X0 ?_; refine JR ?_; refine ZB ?_; refine ZC ?_; refine ZB ?_; refine ZC ?_; refine Z9 (hcon := h1) ?_; refine Z1 ?_; refine ZF ?_; refine ZF ?_
   refine Zw (γ := 103) ?_; refine Zy ?_; refine Z0 ?_; refine JD ?_; refine X0 ?_; refine JR ?_; refine Z1 ?_; refine Z1 ?_; refine Zo ?_; refine Zo ?_; refine Zo ?_; refine Zo ?_; refine Zq ?_; refine JD ?_
   refine JF ?_; refine X3 ?_; refine JR ?_; refine Zb ?_; refine Z1 ?_; refine JD ?_
   refine ⟨i + 1, hil, by omega, ?_⟩
   dsimp only
   rw [hst]
   exact X6 rfl JM ⟨rfl, rfl, rfl, trivial⟩
  | some v =>
   simp only [Option.getD_some, Option.isSome_some] at h1
   cases b2 with
   | false =>
    replace hst := hst.trans (show _ = XU R (ns.take i) by simp)
    obtain ⟨vk, vn, vd, vs, vl⟩ := v
    simp only [Xu] at h1
    refine X0 ?_; refine JR ?_; refine Z8 ?_; refine JD ?_; refine X0 ?_; refine JT ?_; refine X3 ?_; refine X0 ?_; refine X4 ?_; refine X0 ?_; refine JR ?_; refine Zj ?_; refine ZK ?_
    refine Zw (γ := 102) ?_; refine Zy ?_; refine JD ?_; refine X0 ?_; refine JR ?_; refine ZB ?_; refine ZC ?_; refine ZB ?_; refine ZC ?_; refine Z9 (hcon := h1) ?_; refine Z1 ?_; refine ZF ?_; refine ZF ?_
    refine Zw (γ := 103) ?_; refine Zy ?_; refine Z0 ?_; refine JD ?_; refine X0 ?_; refine JR ?_; refine Z1 ?_; refine Z1 ?_; refine ZL ?_; refine ZB ?_; refine ZC ?_; refine Z9 (hcon := h2) ?_; refine Zn ?_
    refine JD ?_; refine JF ?_; refine X3 ?_; refine JR ?_; refine Zb ?_; refine Z1 ?_; refine JD ?_
    refine ⟨i + 1, hil, by omega, ?_⟩
    dsimp only
    rw [hst]
    exact X6 rfl JM ⟨rfl, rfl, rfl, trivial⟩
   | true =>
    replace hst : XU R (ns.take (i + 1)) = XU R (ns.take i) ++ [(xid, v)] := hst.trans (by simp)
    have happ : (XU R (ns.take i) ++ [(xid, v)]).map XR = (XU R (ns.take i)).map XR ++ [XR (xid, v)] := by simp
    obtain ⟨vk, vn, vd, vs, vl⟩ := v
    simp only [Xu] at h1
    simp only [XR, Yd] at happ
    refine X0 ?_; refine JR ?_; refine Z8 ?_; refine JD ?_; refine X0 ?_; refine JT ?_; refine X3 ?_; refine X0 ?_; refine X4 ?_; refine X0 ?_; refine JR ?_; refine Zj ?_; refine ZK ?_
    refine Zw (γ := 102) ?_; refine Zy ?_; refine JD ?_; refine X0 ?_; refine JR ?_; refine ZB ?_; refine ZC ?_; refine ZB ?_; refine ZC ?_; refine Z9 (hcon := h1) ?_; refine Z1 ?_; refine ZF ?_; refine ZF ?_
    refine Zw (γ := 103) ?_; refine Zy ?_; refine Z0 ?_; refine JD ?_; refine X0 ?_; refine JR ?_; refine Z1 ?_; refine Z1 ?_; refine ZL ?_; refine ZB ?_; refine ZC ?_; refine Z9 (hcon := h2) ?_; refine Zn ?_
    refine JD ?_; refine JT ?_; refine JR ?_; refine Z1 ?_; refine ZB ?_; refine ZC ?_; refine ZL ?_; refine Zx ?_; refine Z5 ?_; refine Z6 ?_; refine Z0 ?_; refine JD ?_; refine JR ?_; refine Zb ?_; refine Z1 ?_
    refine JD ?_
    refine ⟨i + 1, hil, by omega, ?_⟩
    dsimp only
    rw [hst, happ]
    exact X6 rfl ⟨JL, JL, AVal.le_of_eq (by refine Eq.trans (b := AVal.own 130 (_ + _)) rfl ?_; simp only [List.length_append, List.length_map, List.length_cons, List.length_nil]), JL, JL, JL, trivial⟩ ⟨rfl, rfl, rfl, trivial⟩
 obtain rfl : i = ns.length := by omega
 have hn : ¬ ((ns.length : Nat) : Int) < (ns.map X8).length := by rw [List.length_map]; omega
 rw [List.take_length]
 have hpl := X6r (r := R) hfn
 have hlen := X1S R ns
 have hmax := X31 (r := R) hnl
 rw [X0I] at hmax
 generalize XU R ns = H at *
 generalize hT : YN H = T at *
 have hHm : (H.map XR).length = H.length := by simp
 refine X0 ?_; refine JR ?_; refine Z8 ?_; refine JD ?_; refine X0 ?_; refine JF ?_; refine Xp ?_; refine X0 ?_; refine JR ?_; refine Z0 ?_; refine JD ?_; refine X0 ?_; refine X0 ?_
 clear hn hfn hfe hbr hR hRn hRK hRk hRm hRs hRd
 refine XD (U5 130 rfl) ?_
 refine XD (U7 5 130 rfl rfl rfl) ?_
 refine XD (Un 10 131 2 rfl rfl rfl) ?_
 refine JR ?_; refine Z1 ?_; refine Zd ?_; refine Z1 ?_; refine JD ?_; refine X4 ?_
 refine Xt (ι := Nat × List (Int × Int)) (fun q => q.1 ≤ H.length ∧ q.2 ++ YN (H.drop q.1) = T) (fun q => ⟨78, [(5, .d (.sl 6 (H.map XR))), (10, .own 131 (q.2.map Xc).length), (45, .d (.sl 6 (H.map XR))), (46, ai (H.map XR).length), (47, ai q.1)], [(131, .row 2 (q.2.map Xc))]⟩) (fun q => H.length - q.1) (0, []) ⟨Nat.zero_le _, by simpa using hT⟩
  (X6 rfl JM ⟨rfl, trivial⟩) ?_
 rintro ⟨j, acc⟩ ⟨hj, hg⟩
 simp only at hj hg
 by_cases hjl : j < H.length
 case neg =>
  rw [List.drop_of_length_le (by omega), YN, List.append_nil] at hg
  subst hg
  have hn : ¬ (j : Int) < (H.map XR).length := by omega
  refine X0 ?_; refine JR ?_; refine Z8 ?_; refine JD ?_; refine X0 ?_; refine JF ?_; refine Xp ?_; refine X0 ?_; refine JR ?_; refine Z1 ?_; refine Z0 ?_; refine JD ?_
  refine XD (U5 131 rfl) ?_
  refine XD (U7 4 131 rfl rfl rfl) ?_
  (show AWP Tryz.prog E _ _ _; refine X1 ?_; exact (show Xd _ _ _ _ _ from ⟨_, St.le_refl _, ⟨rfl, trivial⟩, X2 _⟩))
 have hn : (j : Int) < (H.map XR).length := by omega
 obtain ⟨a, ha⟩ := Xm (l := H) hjl
 have hac : (H.map XR)[j]? = some (XR a) := Xq ha
 have hap := hpl a (List.mem_of_getElem? ha)
 rw [X9O ha] at hg
 have hsl : ((H.map XR).take (H.map XR).length).drop (j + 1) = (H.drop (j + 1)).map XR := by rw [List.take_length, List.map_drop]
 have hjm : j + 1 ≤ (H.map XR).length := by omega
 generalize hTl : YN (H.drop (j + 1)) = TL at *
 have hpl2 : ∀ h ∈ H.drop (j + 1), XC h.2 = true := fun h hh => hpl h (List.mem_of_mem_drop hh)
 have hBl : (H.drop (j + 1)).length ≤ 2000 := by rw [List.length_drop]; omega
 generalize hB : H.drop (j + 1) = B at *
 obtain ⟨aid, av⟩ := a
 obtain ⟨ak, an, ad, as_, al⟩ := av
 simp only [XR, Yd] at hac hap
 clear ha
 refine X0 ?_; refine JR ?_; refine Z8 ?_; refine JD ?_; refine X0 ?_; refine JT ?_; refine X3 ?_; refine X0 ?_; refine X4 ?_; refine X0 ?_; refine JR ?_; refine Z1 ?_; refine Zj ?_
 refine ZK ?_; refine Zw (γ := 100) ?_; refine Z0 ?_; refine Zy ?_; refine JD ?_; refine X0 ?_; refine JR ?_; refine Z1 ?_; refine Z1 ?_; refine Zb ?_
 refine ZV (lb := j + 1) (hb := (H.map XR).length) (ys := B.map XR) ?_ (hys := by exact hsl); refine Zd ?_; refine Z1 ?_; refine JD ?_; refine X4 ?_
 refine Xt (ι := Nat × List (Int × Int)) (fun q => q.1 ≤ B.length ∧ q.2 ++ (Vt (aid, .mk ak an ad as_ al) (B.drop q.1) ++ TL) = T) (fun q => ⟨78, [(5, .d (.sl 6 (H.map XR))), (10, .own 131 (q.2.map Xc).length), (12, .ptr 100 0), (45, .d (.sl 6 (H.map XR))), (46, ai (H.map XR).length), (47, ai j), (55, .d (.sl 6 (B.map XR))), (56, ai (B.map XR).length), (57, ai q.1)], [(100, .box [ai aid, ai ak, ai an, ai ad, Xn as_, .d (.sl 5 (XW al))]), (131, .row 2 (q.2.map Xc))]⟩) (fun q => B.length - q.1) (0, acc) ⟨Nat.zero_le _, by simpa using hg⟩
  (X6 rfl JM ⟨rfl, rfl, trivial⟩) ?_
 clear hg
 rintro ⟨k, acc2⟩ ⟨hk, hg⟩
 simp only at hk hg
 have hroom := X4Y hg hmax
 by_cases hkl : k < B.length
 case neg =>
  rw [List.drop_of_length_le (by omega)] at hg
  have hg : acc2 ++ TL = T := hg
  have hn2 : ¬ (k : Int) < (B.map XR).length := by rw [List.length_map]; omega
  refine X0 ?_; refine JR ?_; refine Z8 ?_; refine JD ?_; refine X0 ?_; refine JF ?_; refine Xp ?_; refine JR ?_; refine Zb ?_; refine Z1 ?_; refine JD ?_
  exact ⟨(j + 1, acc2), ⟨by show j + 1 ≤ H.length; omega, by show acc2 ++ YN (H.drop (j + 1)) = T; rw [hB, hTl]; exact hg⟩, by show H.length - (j + 1) < H.length - j; omega, X6 rfl JM ⟨rfl, trivial⟩⟩
 have hn2 : (k : Int) < (B.map XR).length := by rw [List.length_map]; omega
 obtain ⟨b, hb⟩ := Xm (l := B) hkl
 have hbc : (B.map XR)[k]? = some (XR b) := Xq hb
 have hbp := hpl2 b (List.mem_of_getElem? hb)
 rw [X9r hb] at hg
 have he := X82 (.mk ak an ad as_ al) b.2 hap hbp
 simp only at hg
 generalize eqV (.mk ak an ad as_ al) b.2 = e at *
 obtain ⟨bid, bv⟩ := b
 obtain ⟨bk, bn, bd, bs, bl⟩ := bv
 simp only [XR, Yd, Xu] at hbc he
 clear hb hsl hB hTl hpl hpl2 hap hbp
 cases e with
 | false =>
  refine X0 ?_; refine JR ?_; refine Z8 ?_; refine JD ?_; refine X0 ?_; refine JT ?_; refine X3 ?_; refine X0 ?_; refine X4 ?_; refine X0 ?_; refine JR ?_; refine Zj ?_; refine ZK ?_
  refine Zw (γ := 101) ?_; refine Zy ?_; refine JD ?_; refine X0 ?_; refine JR ?_; refine ZB ?_; refine ZL ?_; refine ZB ?_; refine ZL ?_; refine Z9 (hcon := he) ?_; refine Zl ?_; refine JD ?_; refine JF ?_
  refine X3 ?_; refine JR ?_; refine Zb ?_; refine Z1 ?_; refine JD ?_
  exact ⟨(k + 1, acc2), ⟨by show k + 1 ≤ B.length; omega, by simpa using hg⟩, by show B.length - (k + 1) < B.length - k; omega, X6 rfl JM ⟨rfl, rfl, trivial⟩⟩
 | true =>
  have happ : (acc2 ++ [(aid, bid)]).map Xc = acc2.map Xc ++ [Xc (aid, bid)] := by simp
  refine X0 ?_; refine JR ?_; refine Z8 ?_; refine JD ?_; refine X0 ?_; refine JT ?_; refine X3 ?_; refine X0 ?_; refine X4 ?_; refine X0 ?_; refine JR ?_; refine Zj ?_; refine ZK ?_
  refine Zw (γ := 101) ?_; refine Zy ?_; refine JD ?_; refine X0 ?_; refine JR ?_; refine ZB ?_; refine ZL ?_; refine ZB ?_; refine ZL ?_; refine Z9 (hcon := he) ?_; refine Zl ?_; refine JD ?_; refine JT ?_
  refine JR ?_; refine Z1 ?_; refine ZB ?_; refine ZC ?_; refine ZB ?_; refine ZC ?_; refine Zx ?_; refine Z5 ?_; refine Z6 ?_; refine Z0 ?_; refine JD ?_; refine JR ?_; refine Zb ?_; refine Z1 ?_; refine JD ?_
  refine ⟨(k + 1, acc2 ++ [(aid, bid)]), ⟨by show k + 1 ≤ B.length; omega, by simpa using hg⟩, by show B.length - (k + 1) < B.length - k; omega, ?_⟩
  dsimp only
  rw [happ]
  exact X6 rfl ⟨JL, AVal.le_of_eq (by refine Eq.trans (b := AVal.own 131 (_ + _)) rfl ?_; simp only [List.length_append, List.length_map, List.length_cons, List.length_nil]), JL, JL, JL, JL, JL, JL, JL, trivial⟩ ⟨rfl, rfl, trivial⟩
end Go.Fw
