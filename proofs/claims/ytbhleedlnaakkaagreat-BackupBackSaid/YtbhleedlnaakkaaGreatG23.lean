/- Numbers, properties and frames written; the program's and the reference's. -/
import Derived.Test.YtbhleedlnaakkaaGreatG19
import Derived.Test.YtbhleedlnaakkaaGreatG21
import Derived.Test.YtbhleedlnaakkaaGreatG22
set_option maxHeartbeats 32000000
namespace Go.Fw
open Go Go.Proofs
set_option maxRecDepth 100000
set_option linter.unusedVariables false
set_option linter.unusedSimpArgs false
theorem Uw {n : Int} (h : n ≤ 9223372036854775807) : (Xc n).length ≤ 10 := by
 by_cases h0 : 0 ≤ n
 ·exact VV ⟨h0, h⟩
 ·unfold Xc
  rw [if_pos (by omega)]
  simp
theorem X9z {l : List Int} {i : Nat} {x : Int} (h : l[i]? = some x) : (YH (l.take (i + 1))).map X6 = (YH (l.take i)).map X6 ++ (Xc x).map X6 := by
 rw [X2c h]; simp [YH]
theorem X2W {l : List Int} (h : ∀ x ∈ l, x ≤ 9223372036854775807) : (YH l).length ≤ 10 * l.length := X1h fun x hx => Uw (h x hx)
theorem X4L (l : List Int) (hl : l.length ≤ 1000) (hx : ∀ x ∈ l, x ≤ 9223372036854775807) : Con Tryz.prog 43 [] [.d (.sl 1 (l.map cI))] [(130, .row 1 ((YH l).map X6))] (.own 130 ((YH l).map X6).length) := by
 refine X9 (xs := [.own 130 ((YH l).map X6).length]) Tryz.func43 rfl Tryz.ntmps43 rfl rfl rfl (fun E => ?_)
 have hlm : (l.map cI).length = l.length := by simp
 refine X0 ?_; refine JR ?_; refine Z0 ?_; refine JD ?_; refine X0 ?_; refine JR ?_; refine Z0 ?_; refine JD ?_; refine X0 ?_; refine X0 ?_; refine JR ?_; refine Z1 ?_; refine Zd ?_; refine Z1 ?_
 refine JD ?_; refine X4 ?_
 refine Xm (VR 3 130 1 rfl rfl rfl) ?_
 refine Xy (fun i : Nat => i ≤ l.length) (fun i => ⟨18, [(6, .d (.sl 1 (l.map cI))), (7, ai (l.map cI).length), (3, .own 130 ((YH (l.take i)).map X6).length), (8, ai i)], [(130, .row 1 ((YH (l.take i)).map X6))]⟩) (fun i => l.length - i) 0 (Nat.zero_le _)
  (X8 rfl JM ⟨rfl, trivial⟩) ?_
 intro i hi
 by_cases hil : i < l.length
 case neg =>
  obtain rfl : i = l.length := by omega
  have hn : ¬ ((l.length : Nat) : Int) < (l.map cI).length := by omega
  rw [List.take_length]
  refine X0 ?_; refine JR ?_; refine Z8 ?_; refine JD ?_; refine X0 ?_; refine JF ?_; refine Xj ?_; refine X0 ?_; refine JR ?_; refine Z1 ?_; refine Z0 ?_; refine JD ?_
  exact X1 ⟨_, St.le_refl _, ⟨rfl, trivial⟩, Xd ⟨rfl, trivial⟩⟩
 have hn : (i : Int) < (l.map cI).length := by omega
 obtain ⟨x, hxx⟩ := Xu (l := l) hil
 have hxc : (l.map cI)[i]? = some (cI x) := XS hxx
 have hc := X2V x (hx x (List.mem_of_getElem? hxx))
 have hlen := X2W (l := l.take i) fun y hy => hx y (List.mem_of_mem_take hy)
 have hlen2 := Uw (hx x (List.mem_of_getElem? hxx))
 have hlt : (l.take i).length ≤ 1000 := by simp; omega
 have hroom : ((YH (l.take i)).map X6).length ≤ 10000 := by rw [List.length_map]; omega
 have hroom2 : ((Xc x).map X6).length ≤ 10 := by rw [List.length_map]; omega
 have hsn := X9z hxx
 generalize YH (l.take i) = u at *
 generalize Xc x = v at *
 refine X0 ?_; refine JR ?_; refine Z8 ?_; refine JD ?_; refine X0 ?_; refine JT ?_; refine X2 ?_; refine X0 ?_; refine X4 ?_; refine X0 ?_; refine JR ?_; refine Zj ?_; refine Zk ?_
 refine Z0 ?_; refine JD ?_; refine JR ?_; refine Z1 ?_; refine Z1 ?_; refine Z9 (hcon := hc) ?_; refine Z6 ?_; refine Z0 ?_; refine JD ?_; refine JR ?_; refine Zb ?_; refine Z1 ?_; refine JD ?_
 refine ⟨i + 1, hil, by omega, ?_⟩
 rw [hsn]
 exact X8 rfl ⟨JL, JL, AVal.le_of_eq (by refine Eq.trans (b := AVal.own 130 (_ + _)) rfl ?_; simp only [List.length_append, List.length_map, List.length_cons, List.length_nil]), JL, trivial⟩ ⟨rfl, trivial⟩
theorem X3S {α : Type} {w : α → List UInt8} {l : List α} {i : Nat} {x : α} {u : List UInt8} (h : l[i]? = some x) : (u ++ ((l.take (i + 1)).map w).flatten).map X6 = (u ++ ((l.take i).map w).flatten).map X6 ++ (w x).map X6 := by
 rw [X2c h]; simp
theorem Xap (p : Prp) : (Yd p).map X6 = (Xz p.key).map X6 ++ (Ys p.v).map X6 := by simp [Yd]
theorem X7B {v : Val} (h : YN v = true) : (XA v).length ≤ 111 := by
 have := X2A h
 unfold Ys at this
 rwa [if_pos (X6U h).1] at this
theorem XfH (n : Int) : YH [n] = Xc n := by simp [YH]
theorem X7S (ps : List Prp) (hl : ps.length ≤ 16) (hok : ∀ p ∈ ps, p.key.length ≤ 20 ∧ YN p.v = true) (hst : ∀ p ∈ ps, XY p.v) : Con Tryz.prog 46 [] [.d (.sl 6 (ps.map Xk))] [] (.d (Xa (YT Yd ps))) := by
 refine X9 (xs := [.d (Xa (YT Yd ps))]) Tryz.func46 rfl Tryz.ntmps46 rfl rfl rfl (fun E => ?_)
 have hlm : (ps.map Xk).length = ps.length := by simp
 have hu := X4L [((ps.map Xk).length : Nat)] (by simp) (by simp; omega)
 rw [XfH] at hu
 simp only [List.map_cons, List.map_nil] at hu
 have hu10 := Uw (n := (ps.length : Nat)) (by omega)
 refine X0 ?_; refine JR ?_; refine Z0 ?_; refine JD ?_; refine X0 ?_; refine JR ?_; refine Z1 ?_; refine Zd ?_; refine Z5 ?_; refine Z9 (hcon := hu) ?_; refine Z0 ?_; refine JD ?_; refine X0 ?_
 refine X0 ?_; refine JR ?_; refine Z1 ?_; refine Zd ?_; refine Z1 ?_; refine JD ?_; refine X4 ?_
 refine Xy (fun i : Nat => i ≤ ps.length) (fun i => ⟨27, [(10, .d (.sl 6 (ps.map Xk))), (11, ai (ps.map Xk).length), (3, .own 130 ((Xc (ps.length : Nat) ++ ((ps.take i).map Yd).flatten).map X6).length), (12, ai i)], [(130, .row 1 ((Xc (ps.length : Nat) ++ ((ps.take i).map Yd).flatten).map X6))]⟩) (fun i => ps.length - i) 0 (Nat.zero_le _)
  (X8 rfl ⟨JL, JL, AVal.le_of_eq (by refine Eq.trans (b := AVal.own 130 _) rfl ?_; simp), JL, trivial⟩ ⟨by refine Eq.trans (b := AObj.row 1 _) rfl ?_; simp, trivial⟩) ?_
 intro i hi
 by_cases hil : i < ps.length
 case neg =>
  obtain rfl : i = ps.length := by omega
  have hn : ¬ ((ps.length : Nat) : Int) < (ps.map Xk).length := by omega
  rw [List.take_length]
  refine X0 ?_; refine JR ?_; refine Z8 ?_; refine JD ?_; refine X0 ?_; refine JF ?_; refine Xj ?_; refine X0 ?_; refine JR ?_; refine Z1 ?_; refine Z0 ?_; refine JD ?_
  refine Xm (Y0 130 rfl) ?_
  refine Xm (YC 2 130 rfl rfl rfl) ?_
  exact X1 ⟨_, St.le_refl _, ⟨rfl, trivial⟩, X3 _⟩
 have hn : (i : Int) < (ps.map Xk).length := by omega
 obtain ⟨x, hxx⟩ := Xu (l := ps) hil
 have hxc : (ps.map Xk)[i]? = some (Xk x) := XS hxx
 obtain ⟨hk, hv⟩ := hok x (List.mem_of_getElem? hxx)
 have hpv := X7B hv
 have hpl := X2A hv
 have hc1 := X2T x.key (by omega)
 have hc2 := XdC x.v (by omega)
 skip
 have hsl := Ug hk
 have hfl := X1h (w := Yd) (k := 141) (l := ps.take i) fun p hp => by
  have hq := hok p (List.mem_of_mem_take hp)
  have h1 := Ug hq.1
  have h2 := X2A hq.2
  unfold Yd
  simp only [List.length_append]
  omega
 have hlt : (ps.take i).length ≤ 16 := by simp; omega
 have hu1 : (Xc (ps.length : Nat) ++ ((ps.take i).map Yd).flatten).length ≤ 10000 := by rw [List.length_append]; omega
 have hroom : ((Xc (ps.length : Nat) ++ ((ps.take i).map Yd).flatten).map X6).length ≤ 10000 := by rw [List.length_map]; exact hu1
 have hsn := X3S (w := Yd) (u := Xc (ps.length : Nat)) hxx
 rw [Xap] at hsn
 have hr1 : ((Xz x.key).map X6).length ≤ 1000 := by rw [List.length_map]; omega
 have hr2 : ((Ys x.v).map X6).length ≤ 1000 := by rw [List.length_map]; omega
 generalize Xc (ps.length : Nat) ++ ((ps.take i).map Yd).flatten = u at *
 generalize Xz x.key = a at *
 generalize Ys x.v = b at *
 obtain ⟨key, ⟨vk, vn, vd, vs, vl⟩⟩ := x
 simp only [Xk, YO, Xv] at hxc hc1 hc2
 clear hxx
 refine X0 ?_; refine JR ?_; refine Z8 ?_; refine JD ?_; refine X0 ?_; refine JT ?_; refine X2 ?_; refine X0 ?_; refine X4 ?_; refine X0 ?_; refine JR ?_; refine Zj ?_; refine ZK ?_
 refine Zw (γ := 100) ?_; refine Zy ?_; refine JD ?_; refine JR ?_; refine Z1 ?_; refine ZB ?_; refine ZC ?_; refine Z9 (hcon := hc1) ?_; refine Z6 ?_; refine ZB ?_; refine ZL ?_; refine Z9 (hcon := hc2) ?_; refine Z6 ?_
 refine Z0 ?_; refine JD ?_; refine JR ?_; refine Zb ?_; refine Z1 ?_; refine JD ?_
 refine ⟨i + 1, hil, by omega, ?_⟩
 rw [hsn, ← List.append_assoc]
 exact X8 rfl ⟨JL, JL, AVal.le_of_eq (by refine Eq.trans (b := AVal.own 130 (_ + _)) rfl ?_; simp only [List.length_append, List.length_map, List.length_cons, List.length_nil]), JL, trivial⟩ ⟨rfl, trivial⟩
end Go.Fw
namespace Go.Fw
open Go Go.Proofs
set_option maxRecDepth 100000
set_option linter.unusedVariables false
set_option linter.unusedSimpArgs false
abbrev cBy (b : List UInt8) : List D := [Xa b]
theorem X5z {b : List UInt8} (h : b.length ≤ 65536) : (Y2 b).length ≤ 65600 := by
 have := Uw (n := (b.length : Nat)) (by omega)
 have := X11 b
 unfold Y2
 simp only [List.length_append]
 omega
theorem Xf8 {L : List (List UInt8)} {i : Nat} {x u : List UInt8} (h : L[i]? = some x) : (u ++ XL (L.take (i + 1))).map X6 = (u ++ XL (L.take i)).map X6 ++ (Y2 x).map X6 := by
 rw [X2c h]; simp [XL]
theorem X84 {L : List (List UInt8)} (h : ∀ b ∈ L, b.length ≤ 65536) : (XL L).length ≤ 65600 * L.length := X1h fun b hb => X5z (h b hb)
theorem Xee (L : List (List UInt8)) (hl : L.length ≤ 10000) (hx : ∀ b ∈ L, b.length ≤ 65536) : Con Tryz.prog 47 [] [XD Xw, .d (.sl 1 (L.map cBy))] [] (.d (Xa (Xw ++ XL L))) := by
 refine X9 (xs := [.d (Xa (Xw ++ XL L))]) Tryz.func47 rfl Tryz.ntmps47 rfl rfl rfl (fun E => ?_)
 have hlm : (L.map cBy).length = L.length := by simp
 refine X0 ?_; refine JR ?_; refine Z0 ?_; refine JD ?_; refine X0 ?_; refine JR ?_; refine Z1 ?_; refine Z09 (γ := 130) ?_; refine Z0 ?_; refine JD ?_; refine X0 ?_; refine X0 ?_; refine JR ?_
 refine Z1 ?_; refine Zd ?_; refine Z1 ?_; refine JD ?_; refine X4 ?_
 refine Xy (fun i : Nat => i ≤ L.length) (fun i => ⟨22, [(10, .d (.sl 1 (L.map cBy))), (11, ai (L.map cBy).length), (5, .own 130 ((Xw ++ XL (L.take i)).map X6).length), (12, ai i)], [(130, .row 1 ((Xw ++ XL (L.take i)).map X6))]⟩) (fun i => L.length - i) 0 (Nat.zero_le _)
  (X8 rfl JM ⟨rfl, trivial⟩) ?_
 intro i hi
 by_cases hil : i < L.length
 case neg =>
  obtain rfl : i = L.length := by omega
  have hn : ¬ ((L.length : Nat) : Int) < (L.map cBy).length := by omega
  rw [List.take_length]
  refine X0 ?_; refine JR ?_; refine Z8 ?_; refine JD ?_; refine X0 ?_; refine JF ?_; refine Xj ?_; refine X0 ?_; refine JR ?_; refine Z1 ?_; refine Z0 ?_; refine JD ?_
  refine Xm (Y0 130 rfl) ?_
  refine Xm (YC 4 130 rfl rfl rfl) ?_
  exact X1 ⟨_, St.le_refl _, ⟨rfl, trivial⟩, X3 _⟩
 have hn : (i : Int) < (L.map cBy).length := by omega
 obtain ⟨x, hxx⟩ := Xu (l := L) hil
 have hxc : (L.map cBy)[i]? = some (cBy x) := XS hxx
 have hb := hx x (List.mem_of_getElem? hxx)
 have hc := X6H x hb
 have hfl := X5z hb
 have hlen := X84 (L := L.take i) fun y hy => hx y (List.mem_of_mem_take hy)
 have hlt : (L.take i).length ≤ 10000 := by simp; omega
 have hg4 : Xw.length = 4 := rfl
 have hroom : ((Xw ++ XL (L.take i)).map X6).length ≤ 1000000000 := by rw [List.length_map, List.length_append]; omega
 have hroom2 : ((Y2 x).map X6).length ≤ 65600 := by rw [List.length_map]; omega
 have hsn := Xf8 (u := Xw) hxx
 generalize Xw ++ XL (L.take i) = u at *
 generalize Y2 x = v at *
 refine X0 ?_; refine JR ?_; refine Z8 ?_; refine JD ?_; refine X0 ?_; refine JT ?_; refine X2 ?_; refine X0 ?_; refine X4 ?_; refine X0 ?_; refine JR ?_; refine Zj ?_; refine Zk ?_
 refine Z0 ?_; refine JD ?_; refine JR ?_; refine Z1 ?_; refine Z1 ?_; refine Z9 (hcon := hc) ?_; refine Z6 ?_; refine Z0 ?_; refine JD ?_; refine JR ?_; refine Zb ?_; refine Z1 ?_; refine JD ?_
 refine ⟨i + 1, hil, by omega, ?_⟩
 rw [hsn]
 exact X8 rfl ⟨JL, JL, AVal.le_of_eq (by refine Eq.trans (b := AVal.own 130 (_ + _)) rfl ?_; simp only [List.length_append, List.length_map, List.length_cons, List.length_nil]), JL, trivial⟩ ⟨rfl, trivial⟩
end Go.Fw
namespace Go.Fw
open Go Go.Proofs
set_option maxRecDepth 100000
set_option linter.unusedVariables false
set_option linter.unusedSimpArgs false
structure NodW (n : Nod) : Prop where
 id : 1 ≤ n.id ∧ n.id ≤ 1000001
 labels : n.labels.length ≤ 8 ∧ ∀ s ∈ n.labels, s.length ≤ 20
 props : n.props.length ≤ 16 ∧ ∀ p ∈ n.props, p.key.length ≤ 20 ∧ YN p.v = true
 st : ∀ p ∈ n.props, XY p.v
structure EdgW (e : Edg) : Prop where
 id : 1 ≤ e.id ∧ e.id ≤ 1000001
 src : 1 ≤ e.src ∧ e.src ≤ 1000001
 dst : 1 ≤ e.dst ∧ e.dst ≤ 1000001
 typ : e.typ.length ≤ 20
 props : e.props.length ≤ 16 ∧ ∀ p ∈ e.props, p.key.length ≤ 20 ∧ YN p.v = true
 st : ∀ p ∈ e.props, XY p.v
theorem X89 {g : Gra} (h : Yh g = 0) (hh : GraHold g) : (∀ n ∈ g.nodes, NodW n) ∧ ∀ e ∈ g.edges, EdgW e := by
 have G := X3g h
 have hE : Uo g.nn none g.nodes = 0 ∧ Vq g.nodes g.ne none g.edges = 0 := by
  unfold Yh at h
  rw [if_neg (by have := G.nl; have := G.el; omega), if_neg (by have := G.nn; have := G.ne; omega)] at h
  by_cases c : Uo g.nn none g.nodes = 0
  ·rw [if_neg (by simp [c])] at h; exact ⟨c, h⟩
  ·rw [if_pos c] at h; exact absurd h c
 have hn := X61 _ _ hE.1
 have he := X76 _ _ hE.2
 have hid : ∀ i, Yv g.nodes i = true → 1 ≤ i ∧ i < g.nn := by
  intro i hi
  unfold Yv at hi
  rw [List.any_eq_true] at hi
  obtain ⟨x, hx, e⟩ := hi
  have := hn x hx
  simp only [decide_eq_true_eq] at e
  omega
 have hN := G.nn
 have hM := G.ne
 refine ⟨fun n hx => ?_, fun e hx => ?_⟩
 ·obtain ⟨h1, h2, h3⟩ := hn n hx
  obtain ⟨p1, p3, p4⟩ := X42 h3
  exact ⟨⟨h1, by omega⟩, p1, ⟨p3, p4⟩, fun p hp => ((hh.nodes n hx).2.2.2 p hp).2⟩
 ·obtain ⟨h1, h2, h3, h4, h5, h6⟩ := he e hx
  obtain ⟨_, p3, p4⟩ := X42 h6
  have s1 := hid _ h3
  have s2 := hid _ h4
  exact ⟨⟨h1, by omega⟩, ⟨s1.1, by omega⟩, ⟨s2.1, by omega⟩, X32 h5, ⟨p3, p4⟩, fun p hp => ((hh.edges e hx).2.2 p hp).2⟩
theorem X9I {ls : List (List UInt8)} (h : ∀ s ∈ ls, s.length ≤ 20) (i : Nat) (hl : ls.length ≤ 8) : ((ls.take i).map Xz).flatten.length ≤ 240 := by
 have h1 := X1h (w := Xz) (k := 30) (l := ls.take i) fun s hs => Ug (h s (List.mem_of_mem_take hs))
 have : (ls.take i).length ≤ 8 := by simp; omega
 omega
theorem Xa8 (n : Nod) : (Y1 n).map X6 = ((Xc n.id ++ Xc (n.labels.length : Nat)) ++ (n.labels.map Xz).flatten).map X6 ++ (YT Yd n.props).map X6 := by
 simp [Y1, YT]
theorem X7D (e : Edg) : (Yp e).map X6 = (((Xc e.id ++ Xc e.src) ++ Xc e.dst).map X6 ++ (Xz e.typ).map X6) ++ (YT Yd e.props).map X6 := by
 simp [Yp]
end Go.Fw
namespace Go.Fw
open Go Go.Proofs
set_option maxRecDepth 100000
set_option linter.unusedVariables false
set_option linter.unusedSimpArgs false
theorem X4U {n : Nod} (h : NodW n) : (Y1 n).length ≤ 3000 := by
 have a := (X1n h.props.1 h.props.2).2
 have b := (Xbt h.labels.1 h.labels.2).2
 have c := Uw (n := n.id) (by have := h.id; omega)
 unfold Y1
 simp only [List.length_append]
 omega
theorem X7d {e : Edg} (h : EdgW e) : (Yp e).length ≤ 3000 := by
 have a := (X1n h.props.1 h.props.2).2
 have b := Ug h.typ
 have c := Uw (n := e.id) (by have := h.id; omega)
 have d := Uw (n := e.src) (by have := h.src; omega)
 have f := Uw (n := e.dst) (by have := h.dst; omega)
 unfold Yp
 simp only [List.length_append]
 omega
theorem X4T {g : Gra} {rs : List Rul} (h : Yh g ≠ 0) : Yy g rs = Yh g ∧ V9 g rs = [] := by
 have : Yy g rs = Yh g := if_pos h
 refine ⟨this, ?_⟩
 unfold V9
 rw [this, if_neg h]
theorem X4s {g : Gra} {rs : List Rul} (h : Yh g = 0) (hs : Uj rs = false) : Yy g rs = 19 ∧ V9 g rs = [] := by
 have : Yy g rs = 19 := by unfold Yy; rw [if_neg (by simp [h]), if_pos hs]
 refine ⟨this, ?_⟩
 unfold V9
 rw [this, if_neg (by decide)]
theorem X4S {g : Gra} {rs : List Rul} (h : Yh g = 0) (hs : Uj rs = true) : Yy g rs = 0 ∧ V9 g rs = Xw ++ XL (V0 g rs) := by
 have : Yy g rs = 0 := by unfold Yy; rw [if_neg (by simp [h]), if_neg (by simp [hs])]
 refine ⟨this, ?_⟩
 unfold V9
 rw [this, if_pos rfl]
 rfl
end Go.Fw
namespace Go.Fw
open Go Go.Proofs
set_option maxRecDepth 100000
set_option linter.unusedVariables false
set_option linter.unusedSimpArgs false
theorem X65 {α : Type} {f : α → List UInt8} {H : List (List UInt8)} {l : List α} {i : Nat} {x : α} (h : l[i]? = some x) : (H ++ (l.take (i + 1)).map f).map cBy = (H ++ (l.take i).map f).map cBy ++ [cBy (f x)] := by
 rw [X2c h]; simp
theorem XhH (n : Nod) : D.sl 1 (((Xc n.id ++ Xc (n.labels.length : Nat)) ++ (n.labels.map Xz).flatten).map X6 ++ (YT Yd n.props).map X6) = Xa (Y1 n) := by
 show _ = D.sl 1 _
 rw [Xa8]
theorem Xdz (e : Edg) : D.sl 1 ((((Xc e.id ++ Xc e.src) ++ Xc e.dst).map X6 ++ (Xz e.typ).map X6) ++ (YT Yd e.props).map X6) = Xa (Yp e) := by
 show _ = D.sl 1 _
 rw [X7D]
theorem XdK (a b : Int) : YH [a, b] = Xc a ++ Xc b := by simp [YH]
theorem XfJ (a b c : Int) : YH [a, b, c] = (Xc a ++ Xc b) ++ Xc c := by simp [YH]
theorem X2m (g : Gra) (rs : List Rul) (hg : GraHold g) (hr : rs.length ≤ 9223372036854775807) : Con Tryz.prog 13 [] [Y4 g, .d (.sl 6 (rs.map Xp))] [] (.tup [.d (Xa (V9 g rs)), ai (Yy g rs)]) := by
 obtain ⟨ns, es, nn, ne⟩ := g
 refine X9 (xs := [.d (Xa (V9 ⟨ns, es, nn, ne⟩ rs)), ai (Yy ⟨ns, es, nn, ne⟩ rs)]) Tryz.func13 rfl Tryz.ntmps13 rfl rfl rfl (fun E => ?_)
 have hck := Xbb ⟨ns, es, nn, ne⟩ hg
 have hvl := Xbi rs hr
 unfold Y4 at hck ⊢
 simp only at hck ⊢
 by_cases h0 : Yh ⟨ns, es, nn, ne⟩ = 0
 case neg =>
  rw [(X4T h0).1, (X4T h0).2]
  generalize Yh ⟨ns, es, nn, ne⟩ = e at *
  refine X0 ?_; refine JR ?_; refine ZA (γ := 100) ?_; refine Z0 ?_; refine Z0 ?_; refine JD ?_; refine X0 ?_; refine X0 ?_; refine JR ?_; refine ZL ?_; refine Z9 (hcon := hck) ?_; refine Z0 ?_; refine JD ?_
  refine X0 ?_; refine JR ?_; refine Z1 ?_; refine Zv ?_; refine JD ?_; refine JT ?_; refine X0 ?_; refine JR ?_; refine Z1 ?_; refine Z0 ?_; refine Z0 ?_; refine JD ?_
  exact X1 ⟨_, Xh 4 (y := .d (Xa [])) (AVal.le_nil 1), ⟨rfl, rfl, trivial⟩, X3 _⟩
 rw [h0] at hck
 cases hsv : Uj rs with
 | false =>
  rw [(X4s h0 hsv).1, (X4s h0 hsv).2]
  rw [hsv] at hvl
  refine X0 ?_; refine JR ?_; refine ZA (γ := 100) ?_; refine Z0 ?_; refine Z0 ?_; refine JD ?_; refine X0 ?_; refine X0 ?_; refine JR ?_; refine ZL ?_; refine Z9 (hcon := hck) ?_; refine Z0 ?_; refine JD ?_
  refine X0 ?_; refine JR ?_; refine Z1 ?_; refine Zv ?_; refine JD ?_; refine JF ?_; refine X2 ?_; refine X0 ?_; refine X0 ?_; refine JR ?_; refine Z1 ?_; refine Z9 (hcon := hvl) ?_; refine Zu ?_
  refine JD ?_; refine JT ?_; refine X0 ?_; refine JR ?_; refine Z0 ?_; refine Z0 ?_; refine JD ?_
  exact X1 ⟨_, Xh 4 (y := .d (Xa [])) (AVal.le_nil 1), ⟨rfl, rfl, trivial⟩, X3 _⟩
 | true =>
  rw [(X4S h0 hsv).1, (X4S h0 hsv).2]
  rw [hsv] at hvl
  have G := X3g h0
  have Sk := X3Y hsv
  obtain ⟨hW1, hW2⟩ := X89 h0 hg
  have n1 : ns.length ≤ 2000 := G.nl
  have n2 : es.length ≤ 4000 := G.el
  have n3 : rs.length ≤ 40 := Sk.1
  have nn1 : 1 ≤ nn ∧ nn ≤ 1000001 := G.nn
  have ne1 : 1 ≤ ne ∧ ne ≤ 1000001 := G.ne
  simp only at hW1 hW2
  have hlr : (rs.map Xp).length = rs.length := by simp
  have hln : (ns.map Xi).length = ns.length := by simp
  have hle : (es.map Xr).length = es.length := by simp
  obtain ⟨H, hH, hHl⟩ : ∃ H, YH [nn, ne, ((rs.map Xp).length : Nat), ((ns.map Xi).length : Nat), ((es.map Xr).length : Nat)] = H ∧ H.length ≤ 50 := ⟨_, rfl, X2W fun x hx => by
   simp only [List.mem_cons, List.mem_nil_iff, or_false] at hx
   rcases hx with rfl | rfl | rfl | rfl | rfl <;> omega⟩
  have hI : V0 ⟨ns, es, nn, ne⟩ rs = [H] ++ rs.map XN ++ ns.map Y1 ++ es.map Yp := by rw [← hH, hlr, hln, hle]; simp [V0]
  rw [hI]
  have hnum := (X4L [nn, ne, ((rs.map Xp).length : Nat), ((ns.map Xi).length : Nat), ((es.map Xr).length : Nat)] (by simp) (fun x hx => by
   simp only [List.mem_cons, List.mem_nil_iff, or_false] at hx
   rcases hx with rfl | rfl | rfl | rfl | rfl <;> omega)).data rfl
  rw [hH] at hnum
  simp only [List.map_cons, List.map_nil] at hnum
  refine X0 ?_; refine JR ?_; refine ZA (γ := 100) ?_; refine Z0 ?_; refine Z0 ?_; refine JD ?_; refine X0 ?_; refine X0 ?_; refine JR ?_; refine ZL ?_; refine Z9 (hcon := hck) ?_; refine Z0 ?_; refine JD ?_
  refine X0 ?_; refine JR ?_; refine Z1 ?_; refine Zv ?_; refine JD ?_; refine JF ?_; refine X2 ?_; refine X0 ?_; refine X0 ?_; refine JR ?_; refine Z1 ?_; refine Z9 (hcon := hvl) ?_; refine Zu ?_
  refine JD ?_; refine JF ?_; refine X2 ?_; refine X0 ?_; refine JR ?_; refine ZB ?_; refine ZC ?_; refine ZB ?_; refine ZC ?_; refine Z1 ?_; refine Zd ?_; refine ZB ?_; refine ZC ?_; refine Zd ?_; refine ZB ?_
  refine ZC ?_; refine Zd ?_; refine Z5 ?_; refine Z9 (hcon := hnum) ?_; refine ZZ (γ := 131) (d := 40) ?_; refine Z0 ?_; refine JD ?_; refine X0 ?_; refine X0 ?_; refine JR ?_; refine Z1 ?_; refine Zd ?_
  refine Z1 ?_; refine JD ?_; refine X4 ?_
  refine Xy (fun i : Nat => i ≤ rs.length) (fun i => ⟨118, [(2, .ptr 100 0), (41, .d (.sl 6 (rs.map Xp))), (42, ai (rs.map Xp).length), (7, .own 131 (([H] ++ (rs.take i).map XN).map cBy).length), (43, ai i)], [(100, .box [.d (.sl 3 (ns.map Xi)), .d (.sl 5 (es.map Xr)), ai nn, ai ne]), (131, .row 1 (([H] ++ (rs.take i).map XN).map cBy))]⟩) (fun i => rs.length - i) 0 (Nat.zero_le _)
   (by rw [List.take_zero, List.map_nil, List.append_nil]; exact X8 rfl JM ⟨rfl, rfl, trivial⟩) ?_
  intro i hi
  by_cases hil : i < rs.length
  case pos =>
   have hn : (i : Int) < (rs.map Xp).length := by omega
   obtain ⟨x, hxx⟩ := Xu (l := rs) hil
   have hxc : (rs.map Xp)[i]? = some (Xp x) := XS hxx
   have hxm := List.mem_of_getElem? hxx
   have hst := X65 (f := XN) (H := [H]) hxx
   have hub : (([H] ++ (rs.take i).map XN).map cBy).length ≤ 10000 := by simp only [List.length_append, List.length_map, List.length_take, List.length_cons, List.length_nil]; omega
   have hpc := Xfv x
   generalize ([H] ++ (rs.take i).map XN).map cBy = u at *
   generalize hu' : ([H] ++ (rs.take (i + 1)).map XN).map cBy = u' at *
   generalize XN x = v at *
   obtain ⟨k, n, name, key, src, dst⟩ := x
   simp only [XW, Xp] at hpc hxc
   clear hxx hxm
   refine X0 ?_; refine JR ?_; refine Z8 ?_; refine JD ?_; refine X0 ?_; refine JT ?_; refine X2 ?_; refine X0 ?_; refine X4 ?_; refine X0 ?_; refine JR ?_; refine Zj ?_; refine ZK ?_
   refine Zw (γ := 101) ?_; refine Zy ?_; refine JD ?_; refine JR ?_; refine Z1 ?_; refine ZL ?_; refine Z9 (hcon := hpc) ?_; refine Z5 ?_; refine Z6 ?_; refine Z0 ?_; refine JD ?_; refine JR ?_; refine Zb ?_; refine Z1 ?_
   refine JD ?_
   refine ⟨i + 1, hil, by omega, ?_⟩
   rw [hu', hst]
   exact X8 rfl ⟨JL, JL, JL, AVal.le_of_eq (by refine Eq.trans (b := AVal.own 131 (_ + _)) rfl ?_; simp only [List.length_append, List.length_cons, List.length_nil]), JL, trivial⟩ ⟨rfl, rfl, trivial⟩
  obtain rfl : i = rs.length := by omega
  have hn : ¬ ((rs.length : Nat) : Int) < (rs.map Xp).length := by omega
  rw [List.take_length]
  refine X0 ?_; refine JR ?_; refine Z8 ?_; refine JD ?_; refine X0 ?_; refine JF ?_; refine Xj ?_; refine X0 ?_; refine X0 ?_; refine JR ?_; refine ZB ?_; refine ZC ?_; refine Zd ?_; refine Z1 ?_
  refine JD ?_; refine X4 ?_
  refine Xy (fun i : Nat => i ≤ ns.length) (fun i => ⟨118, [(2, .ptr 100 0), (54, .d (.sl 3 (ns.map Xi))), (55, ai (ns.map Xi).length), (7, .own 131 ((([H] ++ rs.map XN) ++ (ns.take i).map Y1).map cBy).length), (56, ai i)], [(100, .box [.d (.sl 3 (ns.map Xi)), .d (.sl 5 (es.map Xr)), ai nn, ai ne]), (131, .row 1 ((([H] ++ rs.map XN) ++ (ns.take i).map Y1).map cBy))]⟩) (fun i => ns.length - i) 0 (Nat.zero_le _)
   (by rw [List.take_zero, List.map_nil, List.append_nil]; exact X8 rfl JM ⟨rfl, rfl, trivial⟩) ?_
  intro i hi
  by_cases hil : i < ns.length
  case pos =>
   have hn : (i : Int) < (ns.map Xi).length := by omega
   obtain ⟨x, hxx⟩ := Xu (l := ns) hil
   have hxc : (ns.map Xi)[i]? = some (Xi x) := XS hxx
   have hxm := List.mem_of_getElem? hxx
   have hst := X65 (f := Y1) (H := ([H] ++ rs.map XN)) hxx
   have hub : ((([H] ++ rs.map XN) ++ (ns.take i).map Y1).map cBy).length ≤ 10000 := by simp only [List.length_append, List.length_map, List.length_take, List.length_cons, List.length_nil]; omega
   have hw := hW1 x hxm
   have hd := XhH x
   have hpr := X7S x.props hw.props.1 hw.props.2 hw.st
   have hplen := (X1n hw.props.1 hw.props.2).2
   have hrp : ((YT Yd x.props).map X6).length ≤ 3000 := by rw [List.length_map]; omega
   obtain ⟨⟨i1, i2⟩, ⟨l1, l2⟩, ⟨p1, p2⟩, st⟩ := hw
   generalize (([H] ++ rs.map XN) ++ (ns.take i).map Y1).map cBy = u at *
   generalize hu' : (([H] ++ rs.map XN) ++ (ns.take (i + 1)).map Y1).map cBy = u' at *
   generalize hv : Y1 x = v at *
   obtain ⟨id, ls, ps⟩ := x
   simp only [Xi] at hd hxc hpr hrp hplen i1 i2 l1 l2
   have hlm : (ls.map Xn).length = ls.length := by simp
   clear hxx hxm p1 p2 st hv
   have hu := X4L [id, ((ls.map Xn).length : Nat)] (by simp) (fun y hy => by
    simp only [List.mem_cons, List.mem_nil_iff, or_false] at hy
    rcases hy with rfl | rfl <;> omega)
   rw [XdK] at hu
   simp only [List.map_cons, List.map_nil] at hu
   have u1 := Uw (n := id) (by omega)
   have u2 := Uw (n := (ls.length : Nat)) (by omega)
   generalize YT Yd ps = B at *
   refine X0 ?_; refine JR ?_; refine Z8 ?_; refine JD ?_; refine X0 ?_; refine JT ?_; refine X2 ?_; refine X0 ?_; refine X4 ?_; refine X0 ?_; refine JR ?_; refine Zj ?_; refine ZK ?_
   refine Zw (γ := 101) ?_; refine Zy ?_; refine JD ?_; refine X0 ?_; refine JR ?_; refine ZB ?_; refine ZC ?_; refine ZB ?_; refine ZC ?_; refine Zd ?_; refine Z5 ?_; refine Z9 (hcon := hu) ?_; refine Z0 ?_
   refine JD ?_; refine X0 ?_; refine X0 ?_; refine JR ?_; refine ZB ?_; refine ZC ?_; refine Zd ?_; refine Z1 ?_; refine JD ?_; refine X4 ?_
   refine Xy (fun k : Nat => k ≤ ls.length) (fun k => ⟨118, [(2, .ptr 100 0), (54, .d (.sl 3 (ns.map Xi))), (55, ai (ns.map Xi).length), (7, .own 131 u.length), (56, ai i), (11, .ptr 101 0), (68, .d (.sl 1 (ls.map Xn))), (69, ai (ls.map Xn).length), (12, .own 130 (((Xc id ++ Xc (ls.length : Nat)) ++ ((ls.take k).map Xz).flatten).map X6).length), (70, ai k)], [(100, .box [.d (.sl 3 (ns.map Xi)), .d (.sl 5 (es.map Xr)), ai nn, ai ne]), (101, .box [ai id, .d (.sl 1 (ls.map Xn)), .d (.sl 6 (ps.map Xk))]), (130, .row 1 (((Xc id ++ Xc (ls.length : Nat)) ++ ((ls.take k).map Xz).flatten).map X6)), (131, .row 1 u)]⟩) (fun k => ls.length - k) 0 (Nat.zero_le _)
    (X8 rfl ⟨JL, JL, JL, JL, JL, JL, JL, JL, AVal.le_of_eq (by refine Eq.trans (b := AVal.own 130 _) rfl ?_; simp), JL, trivial⟩ ⟨rfl, rfl, by refine Eq.trans (b := AObj.row 1 _) rfl ?_; simp, rfl, trivial⟩) ?_
   intro k hk
   have hfl := X9I l2 k l1
   by_cases hkl : k < ls.length
   case neg =>
    obtain rfl : k = ls.length := by omega
    have hkn : ¬ ((ls.length : Nat) : Int) < (ls.map Xn).length := by omega
    rw [List.take_length] at *
    have hroom : (((Xc id ++ Xc (ls.length : Nat)) ++ (ls.map Xz).flatten).map X6).length ≤ 1000 := by rw [List.length_map, List.length_append, List.length_append]; omega
    generalize ((Xc id ++ Xc (ls.length : Nat)) ++ (ls.map Xz).flatten).map X6 = A at *
    have hroomB : (B.map X6).length ≤ 3000 := hrp
    refine X0 ?_; refine JR ?_; refine Z8 ?_; refine JD ?_; refine X0 ?_; refine JF ?_; refine Xj ?_; refine JR ?_; refine Z1 ?_; refine Z1 ?_; refine ZB ?_; refine ZC ?_; refine Z9 (hcon := hpr) ?_
    refine Z0a (γ := 130) ?_; refine Z5 ?_; refine Z6 ?_; refine Z0 ?_; refine JD ?_; refine JR ?_; refine Zb ?_; refine Z1 ?_; refine JD ?_
    refine ⟨i + 1, hil, by omega, ?_⟩
    rw [hu', hst, show cBy v = [D.sl 1 (A ++ B.map X6)] from by rw [hd]]
    exact X8 rfl ⟨JL, JL, JL, AVal.le_of_eq (by refine Eq.trans (b := AVal.own 131 (_ + _)) rfl ?_; simp only [List.length_append, List.length_cons, List.length_nil]), JL, trivial⟩ ⟨rfl, rfl, trivial⟩
   have hkn : (k : Int) < (ls.map Xn).length := by omega
   obtain ⟨y, hyy⟩ := Xu (l := ls) hkl
   have hyc : (ls.map Xn)[k]? = some (Xn y) := XS hyy
   have hy20 := l2 y (List.mem_of_getElem? hyy)
   have hc := X2T y (by omega)
   have hsl := Ug hy20
   have hroom : (((Xc id ++ Xc (ls.length : Nat)) ++ ((ls.take k).map Xz).flatten).map X6).length ≤ 1000 := by rw [List.length_map, List.length_append, List.length_append]; omega
   have hroom2 : ((Xz y).map X6).length ≤ 30 := by rw [List.length_map]; omega
   have hsn := X3S (w := Xz) (u := Xc id ++ Xc (ls.length : Nat)) hyy
   generalize ((Xc id ++ Xc (ls.length : Nat)) ++ ((ls.take k).map Xz).flatten) = A at *
   generalize Xz y = w at *
   refine X0 ?_; refine JR ?_; refine Z8 ?_; refine JD ?_; refine X0 ?_; refine JT ?_; refine X2 ?_; refine X0 ?_; refine X4 ?_; refine X0 ?_; refine JR ?_; refine Zj ?_; refine Zk ?_
   refine Z0 ?_; refine JD ?_; refine JR ?_; refine Z1 ?_; refine Z1 ?_; refine Z9 (hcon := hc) ?_; refine Z6 ?_; refine Z0 ?_; refine JD ?_; refine JR ?_; refine Zb ?_; refine Z1 ?_; refine JD ?_
   refine ⟨k + 1, hkl, by omega, ?_⟩
   rw [hsn]
   exact X8 rfl ⟨JL, JL, JL, JL, JL, JL, JL, JL, AVal.le_of_eq (by refine Eq.trans (b := AVal.own 130 (_ + _)) rfl ?_; simp only [List.length_append, List.length_map, List.length_cons, List.length_nil]), JL, trivial⟩ ⟨rfl, rfl, rfl, rfl, trivial⟩
  obtain rfl : i = ns.length := by omega
  have hn : ¬ ((ns.length : Nat) : Int) < (ns.map Xi).length := by omega
  rw [List.take_length]
  refine X0 ?_; refine JR ?_; refine Z8 ?_; refine JD ?_; refine X0 ?_; refine JF ?_; refine Xj ?_; refine X0 ?_; refine X0 ?_; refine JR ?_; refine ZB ?_; refine ZC ?_; refine Zd ?_; refine Z1 ?_
  refine JD ?_; refine X4 ?_
  refine Xy (fun i : Nat => i ≤ es.length) (fun i => ⟨118, [(2, .ptr 100 0), (89, .d (.sl 5 (es.map Xr))), (90, ai (es.map Xr).length), (7, .own 131 ((([H] ++ rs.map XN ++ ns.map Y1) ++ (es.take i).map Yp).map cBy).length), (91, ai i)], [(100, .box [.d (.sl 3 (ns.map Xi)), .d (.sl 5 (es.map Xr)), ai nn, ai ne]), (131, .row 1 ((([H] ++ rs.map XN ++ ns.map Y1) ++ (es.take i).map Yp).map cBy))]⟩) (fun i => es.length - i) 0 (Nat.zero_le _)
   (by rw [List.take_zero, List.map_nil, List.append_nil]; exact X8 rfl JM ⟨rfl, rfl, trivial⟩) ?_
  intro i hi
  by_cases hil : i < es.length
  case pos =>
   have hn : (i : Int) < (es.map Xr).length := by omega
   obtain ⟨x, hxx⟩ := Xu (l := es) hil
   have hxc : (es.map Xr)[i]? = some (Xr x) := XS hxx
   have hxm := List.mem_of_getElem? hxx
   have hst := X65 (f := Yp) (H := ([H] ++ rs.map XN ++ ns.map Y1)) hxx
   have hub : ((([H] ++ rs.map XN ++ ns.map Y1) ++ (es.take i).map Yp).map cBy).length ≤ 10000 := by simp only [List.length_append, List.length_map, List.length_take, List.length_cons, List.length_nil]; omega
   have hw := hW2 x hxm
   have hd := Xdz x
   have hpr := X7S x.props hw.props.1 hw.props.2 hw.st
   have hplen := (X1n hw.props.1 hw.props.2).2
   have hrp : ((YT Yd x.props).map X6).length ≤ 3000 := by rw [List.length_map]; omega
   obtain ⟨⟨i1, i2⟩, ⟨s1, s2⟩, ⟨d1, d2⟩, y1, ⟨p1, p2⟩, st⟩ := hw
   generalize (([H] ++ rs.map XN ++ ns.map Y1) ++ (es.take i).map Yp).map cBy = u at *
   generalize hu' : (([H] ++ rs.map XN ++ ns.map Y1) ++ (es.take (i + 1)).map Yp).map cBy = u' at *
   generalize hv : Yp x = v at *
   obtain ⟨id, src, dst, typ, ps⟩ := x
   simp only [Xr] at hd hxc hpr hrp hplen i1 i2 s1 s2 d1 d2 y1
   clear hxx hxm p1 p2 st hv
   have hu := X4L [id, src, dst] (by simp) (fun y hy => by
    simp only [List.mem_cons, List.mem_nil_iff, or_false] at hy
    rcases hy with rfl | rfl | rfl <;> omega)
   rw [XfJ] at hu
   simp only [List.map_cons, List.map_nil] at hu
   have u1 := Uw (n := id) (by omega)
   have u2 := Uw (n := src) (by omega)
   have u3 := Uw (n := dst) (by omega)
   have hsl := Ug y1
   have hc := X2T typ (by omega)
   have hroom : ((Xc id ++ Xc src ++ Xc dst).map X6).length ≤ 30 := by rw [List.length_map, List.length_append, List.length_append]; omega
   have hroom2 : ((Xz typ).map X6).length ≤ 30 := by rw [List.length_map]; omega
   generalize YT Yd ps = B at *
   generalize (Xc id ++ Xc src ++ Xc dst).map X6 = A at *
   generalize hw4 : (Xz typ).map X6 = W at *
   have hc' : Con Tryz.prog 45 [] [XD typ] [] (.d (.sl 1 W)) := by rw [← hw4]; exact hc
   have hroom3 : (B.map X6).length ≤ 3000 := hrp
   clear hc
   refine X0 ?_; refine JR ?_; refine Z8 ?_; refine JD ?_; refine X0 ?_; refine JT ?_; refine X2 ?_; refine X0 ?_; refine X4 ?_; refine X0 ?_; refine JR ?_; refine Zj ?_; refine ZK ?_
   refine Zw (γ := 101) ?_; refine Zy ?_; refine JD ?_; refine X0 ?_; refine JR ?_; refine ZB ?_; refine ZC ?_; refine ZB ?_; refine ZC ?_; refine ZB ?_; refine ZC ?_; refine Z5 ?_; refine Z9 (hcon := hu) ?_
   refine ZB ?_; refine ZC ?_; refine Z9 (hcon := hc') ?_; refine Z6 ?_; refine Z0 ?_; refine JD ?_
   have hroom4 : (A ++ W).length ≤ 60 := by rw [List.length_append]; omega
   refine JR ?_; refine Z1 ?_; refine Z1 ?_; refine ZB ?_; refine ZC ?_; refine Z9 (hcon := hpr) ?_; refine Z0a (γ := 130) ?_; refine Z5 ?_; refine Z6 ?_; refine Z0 ?_; refine JD ?_; refine JR ?_; refine Zb ?_; refine Z1 ?_
   refine JD ?_
   refine ⟨i + 1, hil, by omega, ?_⟩
   rw [hu', hst, show cBy v = [D.sl 1 ((A ++ W) ++ B.map X6)] from by rw [hd]]
   exact X8 rfl ⟨JL, JL, JL, AVal.le_of_eq (by refine Eq.trans (b := AVal.own 131 (_ + _)) rfl ?_; simp only [List.length_append, List.length_cons, List.length_nil]), JL, trivial⟩ ⟨rfl, rfl, trivial⟩
  obtain rfl : i = es.length := by omega
  have hn : ¬ ((es.length : Nat) : Int) < (es.map Xr).length := by omega
  rw [List.take_length]
  have hfm := Xee ([H] ++ rs.map XN ++ ns.map Y1 ++ es.map Yp) (by simp only [List.length_append, List.length_map, List.length_cons, List.length_nil]; omega) (fun b hb => by
   simp only [List.mem_append, List.mem_cons, List.mem_nil_iff, or_false, List.mem_map] at hb
   rcases hb with ((rfl | ⟨r, hr, rfl⟩) | ⟨n, hn, rfl⟩) | ⟨e, he, rfl⟩
   ·omega
   ·have := (Sk.2 r hr).2; omega
   ·have := X4U (hW1 n hn); omega
   ·have := X7d (hW2 e he); omega)
  generalize [H] ++ rs.map XN ++ ns.map Y1 ++ es.map Yp = L at *
  refine X0 ?_; refine JR ?_; refine Z8 ?_; refine JD ?_; refine X0 ?_; refine JF ?_; refine Xj ?_; refine X0 ?_
  refine Xm (Y0 131 rfl) ?_
  refine Xm (YC 7 131 rfl rfl rfl) ?_
  refine JR ?_; refine Z1 ?_; refine Z9 (hcon := hfm) ?_; refine Z0 ?_; refine Z0 ?_; refine JD ?_
  exact X1 ⟨_, St.le_refl _, ⟨rfl, rfl, trivial⟩, X3 _⟩
end Go.Fw
