/- The program's search for violations: edges, degrees. -/
import Derived.Test.YtbhleedlnaakkaaGreatL19
set_option maxHeartbeats 64000000
namespace Go.Fw
open Go Go.Proofs
set_option maxRecDepth 100000
set_option linter.unusedVariables false
set_option linter.unusedSimpArgs false
theorem X8W (r : Rul) (g : Gra) (hf : GFit g) : Con Tryz.prog 128 [] [Y0 r, Xp g] [] (.d (.sl 2 ((Y3 r g.nodes g.edges).map Xf))) := by
 refine X9 (xs := [.d (.sl 2 ((Y3 r g.nodes g.edges).map Xf))]) Tryz.func128 rfl Tryz.ntmps128 rfl rfl rfl (fun E => ?_)
 obtain ⟨ns, es, nn, ne⟩ := g
 have hbr := fun l hl => X1v r l hl
 have hlk := fun id label => X9a ⟨ns, es, nn, ne⟩ id label (by have := hf.nl; omega) hf.nodes
 obtain ⟨rk, rn, rname, rkey, rsrc, rdst⟩ := r
 have hnl := hf.nl
 have hel := hf.el
 have hfn := hf.nodes
 have hfe := hf.edges
 clear hf
 unfold Xp
 unfold Xp at hlk
 simp only [Y0] at hnl hel hfn hfe hbr hlk ⊢
 generalize hR : (Rul.mk rk rn rname rkey rsrc rdst) = R at *
 have hRn : R.name = rname := by rw [← hR]
 have hRk : R.kind = rk := by rw [← hR]
 have hRm : R.n = rn := by rw [← hR]
 have hRs : R.src = rsrc := by rw [← hR]
 have hRd : R.dst = rdst := by rw [← hR]
 refine X0 ?_; refine JR ?_; refine ZA (γ := 100) ?_; refine ZA (γ := 101) ?_; refine Z0 ?_; refine JD ?_; refine X0 ?_; refine JR ?_; refine Z0 ?_; refine JD ?_; refine X0 ?_; refine X0 ?_
 refine JR ?_; refine ZB ?_; refine ZC ?_; refine Zd ?_; refine Z1 ?_; refine JD ?_; refine X4 ?_
 refine XV (V0 5 130 2 rfl rfl rfl) ?_
 refine Xs (fun i : Nat => i ≤ es.length) (fun i => ⟨51, [(2, .ptr 100 0), (3, .ptr 101 0), (5, .own 130 ((Y3 R ns (es.take i)).map Xf).length), (10, .d (.sl 5 (es.map Xi))), (11, ai (es.map Xi).length), (12, ai i)], [(100, .box [ai rk, ai rn, Xt rname, Xt rkey, Xt rsrc, Xt rdst]), (101, .box [.d (.sl 3 (ns.map X8)), .d (.sl 5 (es.map Xi)), ai nn, ai ne]), (130, .row 2 ((Y3 R ns (es.take i)).map Xf))]⟩) (fun i => es.length - i) 0 (Nat.zero_le _)
  (X7 rfl JM ⟨rfl, rfl, rfl, trivial⟩) ?_
 intro i hi
 by_cases hil : i < es.length
 case neg =>
  obtain rfl : i = es.length := by omega
  have hn : ¬ ((es.length : Nat) : Int) < (es.map Xi).length := by rw [List.length_map]; omega
  rw [List.take_length]
  refine X0 ?_; refine JR ?_; refine Z8 ?_; refine JD ?_; refine X0 ?_; refine JF ?_; refine Xo ?_; refine X0 ?_; refine JR ?_; refine Z1 ?_; refine Z0 ?_; refine JD ?_
  refine XV (Up 130 rfl) ?_
  refine XV (Uo 4 130 rfl rfl rfl) ?_
  (show AWP Tryz.prog E _ _ _; refine X1 ?_; exact (show Xk _ _ _ _ _ from ⟨_, St.le_refl _, ⟨rfl, trivial⟩, X2 _⟩))
 have hn : (i : Int) < (es.map Xi).length := by rw [List.length_map]; omega
 obtain ⟨x, hx⟩ := Xm (l := es) hil
 have hxc : (es.map Xi)[i]? = some (Xi x) := Xr hx
 obtain ⟨f1, f2, f3⟩ := hfe x (List.mem_of_getElem? hx)
 have hroom : ((Y3 R ns (es.take i)).map Xf).length ≤ 4000 := by
  have := List.length_filter_le (fun e => decide (e.typ = R.name) && X0o R ns e) (es.take i)
  simp only [Y3, List.length_map, List.length_take] at this ⊢
  omega
 have hst : Y3 R ns (es.take (i + 1)) = Y3 R ns (es.take i) ++ if decide (x.typ = R.name) && X0o R ns x then [(x.id, 0)] else [] := X2r hx
 have h1 := hbr x.props (by omega)
 have h2 := hlk x.src rsrc
 have h3 := hlk x.dst rdst
 unfold X0o at hst
 rw [hRn, hRk, hRs, hRd] at hst
 generalize Vy ns x.src rsrc = b2 at *
 generalize Vy ns x.dst rdst = b3 at *
 generalize UV R x.props = b1 at *
 obtain ⟨xid, src, dst, typ, props⟩ := x
 simp only [Xi] at hxc h1 h2 h3 hst
 clear hx hbr hlk hR hRn hRk hRm hRs hRd hfn hfe f1 f2 f3
 by_cases ht : typ = rname
 case neg =>
  have ht' : ¬ typ = rname := ht
  rw [decide_eq_false ht] at hst
  have hst := hst.trans (show _ = Y3 R ns (es.take i) by simp)
  refine X0 ?_; refine JR ?_; refine Z8 ?_; refine JD ?_; refine X0 ?_; refine JT ?_; refine X3 ?_; refine X0 ?_; refine X4 ?_; refine X0 ?_; refine JR ?_; refine Zj ?_; refine ZK ?_
  refine Zw (γ := 102) ?_; refine Zy ?_; refine JD ?_; refine X0 ?_; refine X0 ?_; refine JR ?_; refine ZB ?_; refine ZC ?_; refine ZB ?_; refine ZC ?_; refine ZM ?_; refine JD ?_; refine JT ?_
  refine Xo ?_; refine JR ?_; refine Zb ?_; refine Z1 ?_; refine JD ?_
  refine ⟨i + 1, hil, by omega, ?_⟩
  dsimp only
  rw [hst]
  exact X7 rfl JM ⟨rfl, rfl, rfl, trivial⟩
 rw [decide_eq_true ht, Bool.true_and] at hst
 by_cases h6 : rk = 6
 ·rw [if_pos h6] at hst
  cases b2 with
  | true =>
   have hst : Y3 R ns (es.take (i + 1)) = Y3 R ns (es.take i) ++ [(xid, 0)] := hst.trans (by simp)
   have happ : (Y3 R ns (es.take i) ++ [((xid, 0) : Int × Int)]).map Xf = (Y3 R ns (es.take i)).map Xf ++ [Xf (xid, 0)] := by simp
   refine X0 ?_; refine JR ?_; refine Z8 ?_; refine JD ?_; refine X0 ?_; refine JT ?_; refine X3 ?_; refine X0 ?_; refine X4 ?_; refine X0 ?_; refine JR ?_; refine Zj ?_; refine ZK ?_
   refine Zw (γ := 102) ?_; refine Zy ?_; refine JD ?_; refine X0 ?_; refine X0 ?_; refine JR ?_; refine ZB ?_; refine ZC ?_; refine ZB ?_; refine ZC ?_; refine ZM ?_; refine JD ?_; refine JF ?_
   refine X3 ?_; refine X0 ?_; refine JR ?_; refine Z0 ?_; refine JD ?_; refine X0 ?_; refine X0 ?_; refine JR ?_; refine ZB ?_; refine ZC ?_; refine Zl ?_; refine JD ?_; refine JT ?_; refine JR ?_
   refine ZL ?_; refine ZB ?_; refine ZC ?_; refine ZB ?_; refine ZC ?_; refine Z9 (hcon := h2) ?_; refine Z1 ?_; refine Zo ?_; refine Zo ?_; refine Zo ?_; refine Zo ?_; refine Zo ?_; refine Zo ?_; refine Zn ?_
   refine Z0 ?_; refine JD ?_; refine X0 ?_; refine JR ?_; refine Z1 ?_; refine JD ?_; refine JT ?_; refine JR ?_; refine Z1 ?_; refine ZB ?_; refine ZC ?_; refine Zx ?_; refine Z5 ?_; refine Z6 ?_; refine Z0 ?_
   refine JD ?_; refine JR ?_; refine Zb ?_; refine Z1 ?_; refine JD ?_
   refine ⟨i + 1, hil, by omega, ?_⟩
   dsimp only
   rw [hst, happ]
   exact X7 rfl ⟨JL, JL, AVal.le_of_eq (by refine Eq.trans (b := AVal.own 130 (_ + _)) rfl ?_; simp only [List.length_append, List.length_map, List.length_cons, List.length_nil]), JL, JL, JL, trivial⟩ ⟨rfl, rfl, rfl, trivial⟩
  | false =>
   cases b3 with
   | true =>
    have hst : Y3 R ns (es.take (i + 1)) = Y3 R ns (es.take i) ++ [(xid, 0)] := hst.trans (by simp)
    have happ : (Y3 R ns (es.take i) ++ [((xid, 0) : Int × Int)]).map Xf = (Y3 R ns (es.take i)).map Xf ++ [Xf (xid, 0)] := by simp
    refine X0 ?_; refine JR ?_; refine Z8 ?_; refine JD ?_; refine X0 ?_; refine JT ?_; refine X3 ?_; refine X0 ?_; refine X4 ?_; refine X0 ?_; refine JR ?_; refine Zj ?_; refine ZK ?_
    refine Zw (γ := 102) ?_; refine Zy ?_; refine JD ?_; refine X0 ?_; refine X0 ?_; refine JR ?_; refine ZB ?_; refine ZC ?_; refine ZB ?_; refine ZC ?_; refine ZM ?_; refine JD ?_; refine JF ?_
    refine X3 ?_; refine X0 ?_; refine JR ?_; refine Z0 ?_; refine JD ?_; refine X0 ?_; refine X0 ?_; refine JR ?_; refine ZB ?_; refine ZC ?_; refine Zl ?_; refine JD ?_; refine JT ?_; refine JR ?_
    refine ZL ?_; refine ZB ?_; refine ZC ?_; refine ZB ?_; refine ZC ?_; refine Z9 (hcon := h2) ?_; refine Z1 ?_; refine ZL ?_; refine ZB ?_; refine ZC ?_; refine ZB ?_; refine ZC ?_; refine Z9 (hcon := h3) ?_; refine Zq ?_
    refine Z0 ?_; refine JD ?_; refine X0 ?_; refine JR ?_; refine Z1 ?_; refine JD ?_; refine JT ?_; refine JR ?_; refine Z1 ?_; refine ZB ?_; refine ZC ?_; refine Zx ?_; refine Z5 ?_; refine Z6 ?_; refine Z0 ?_
    refine JD ?_; refine JR ?_; refine Zb ?_; refine Z1 ?_; refine JD ?_
    refine ⟨i + 1, hil, by omega, ?_⟩
    dsimp only
    rw [hst, happ]
    exact X7 rfl ⟨JL, JL, AVal.le_of_eq (by refine Eq.trans (b := AVal.own 130 (_ + _)) rfl ?_; simp only [List.length_append, List.length_map, List.length_cons, List.length_nil]), JL, JL, JL, trivial⟩ ⟨rfl, rfl, rfl, trivial⟩
   | false =>
    have hst := hst.trans (show _ = Y3 R ns (es.take i) by simp)
    refine X0 ?_; refine JR ?_; refine Z8 ?_; refine JD ?_; refine X0 ?_; refine JT ?_; refine X3 ?_; refine X0 ?_; refine X4 ?_; refine X0 ?_; refine JR ?_; refine Zj ?_; refine ZK ?_
    refine Zw (γ := 102) ?_; refine Zy ?_; refine JD ?_; refine X0 ?_; refine X0 ?_; refine JR ?_; refine ZB ?_; refine ZC ?_; refine ZB ?_; refine ZC ?_; refine ZM ?_; refine JD ?_; refine JF ?_
    refine X3 ?_; refine X0 ?_; refine JR ?_; refine Z0 ?_; refine JD ?_; refine X0 ?_; refine X0 ?_; refine JR ?_; refine ZB ?_; refine ZC ?_; refine Zl ?_; refine JD ?_; refine JT ?_; refine JR ?_
    refine ZL ?_; refine ZB ?_; refine ZC ?_; refine ZB ?_; refine ZC ?_; refine Z9 (hcon := h2) ?_; refine Z1 ?_; refine ZL ?_; refine ZB ?_; refine ZC ?_; refine ZB ?_; refine ZC ?_; refine Z9 (hcon := h3) ?_; refine Zq ?_
    refine Z0 ?_; refine JD ?_; refine X0 ?_; refine JR ?_; refine Z1 ?_; refine JD ?_; refine JF ?_; refine X3 ?_; refine JR ?_; refine Zb ?_; refine Z1 ?_; refine JD ?_
    refine ⟨i + 1, hil, by omega, ?_⟩
    dsimp only
    rw [hst]
    exact X7 rfl JM ⟨rfl, rfl, rfl, trivial⟩
 ·rw [if_neg h6] at hst
  cases b1 with
  | true =>
   have hst : Y3 R ns (es.take (i + 1)) = Y3 R ns (es.take i) ++ [(xid, 0)] := hst.trans (by simp)
   have happ : (Y3 R ns (es.take i) ++ [((xid, 0) : Int × Int)]).map Xf = (Y3 R ns (es.take i)).map Xf ++ [Xf (xid, 0)] := by simp
   refine X0 ?_; refine JR ?_; refine Z8 ?_; refine JD ?_; refine X0 ?_; refine JT ?_; refine X3 ?_; refine X0 ?_; refine X4 ?_; refine X0 ?_; refine JR ?_; refine Zj ?_; refine ZK ?_
   refine Zw (γ := 102) ?_; refine Zy ?_; refine JD ?_; refine X0 ?_; refine X0 ?_; refine JR ?_; refine ZB ?_; refine ZC ?_; refine ZB ?_; refine ZC ?_; refine ZM ?_; refine JD ?_; refine JF ?_
   refine X3 ?_; refine X0 ?_; refine JR ?_; refine Z0 ?_; refine JD ?_; refine X0 ?_; refine X0 ?_; refine JR ?_; refine ZB ?_; refine ZC ?_; refine Zl ?_; refine JD ?_; refine JF ?_; refine JR ?_
   refine ZL ?_; refine ZB ?_; refine ZC ?_; refine Z9 (hcon := h1) ?_; refine Z0 ?_; refine JD ?_; refine X0 ?_; refine JR ?_; refine Z1 ?_; refine JD ?_; refine JT ?_; refine JR ?_; refine Z1 ?_; refine ZB ?_
   refine ZC ?_; refine Zx ?_; refine Z5 ?_; refine Z6 ?_; refine Z0 ?_; refine JD ?_; refine JR ?_; refine Zb ?_; refine Z1 ?_; refine JD ?_
   refine ⟨i + 1, hil, by omega, ?_⟩
   dsimp only
   rw [hst, happ]
   exact X7 rfl ⟨JL, JL, AVal.le_of_eq (by refine Eq.trans (b := AVal.own 130 (_ + _)) rfl ?_; simp only [List.length_append, List.length_map, List.length_cons, List.length_nil]), JL, JL, JL, trivial⟩ ⟨rfl, rfl, rfl, trivial⟩
  | false =>
   have hst := hst.trans (show _ = Y3 R ns (es.take i) by simp)
   refine X0 ?_; refine JR ?_; refine Z8 ?_; refine JD ?_; refine X0 ?_; refine JT ?_; refine X3 ?_; refine X0 ?_; refine X4 ?_; refine X0 ?_; refine JR ?_; refine Zj ?_; refine ZK ?_
   refine Zw (γ := 102) ?_; refine Zy ?_; refine JD ?_; refine X0 ?_; refine X0 ?_; refine JR ?_; refine ZB ?_; refine ZC ?_; refine ZB ?_; refine ZC ?_; refine ZM ?_; refine JD ?_; refine JF ?_
   refine X3 ?_; refine X0 ?_; refine JR ?_; refine Z0 ?_; refine JD ?_; refine X0 ?_; refine X0 ?_; refine JR ?_; refine ZB ?_; refine ZC ?_; refine Zl ?_; refine JD ?_; refine JF ?_; refine JR ?_
   refine ZL ?_; refine ZB ?_; refine ZC ?_; refine Z9 (hcon := h1) ?_; refine Z0 ?_; refine JD ?_; refine X0 ?_; refine JR ?_; refine Z1 ?_; refine JD ?_; refine JF ?_; refine X3 ?_; refine JR ?_; refine Zb ?_
   refine Z1 ?_; refine JD ?_
   refine ⟨i + 1, hil, by omega, ?_⟩
   dsimp only
   rw [hst]
   exact X7 rfl JM ⟨rfl, rfl, rfl, trivial⟩
end Go.Fw
namespace Go.Fw
open Go Go.Proofs
set_option maxRecDepth 100000
set_option linter.unusedVariables false
set_option linter.unusedSimpArgs false
theorem X9j (r : Rul) (g : Gra) (hf : GFit g) : Con Tryz.prog 127 [] [Y0 r, Xp g] [] (.d (.sl 2 ((YU r g.edges g.nodes).map Xf))) := by
 refine X9 (xs := [.d (.sl 2 ((YU r g.edges g.nodes).map Xf))]) Tryz.func127 rfl Tryz.ntmps127 rfl rfl rfl (fun E => ?_)
 obtain ⟨ns, es, nn, ne⟩ := g
 have hbr := fun l hl => X1v r l hl
 obtain ⟨rk, rn, rname, rkey, rsrc, rdst⟩ := r
 have hnl := hf.nl
 have hel := hf.el
 have hfn := hf.nodes
 have hfe := hf.edges
 clear hf
 unfold Xp
 simp only [Y0] at hnl hel hfn hfe hbr ⊢
 generalize hR : (Rul.mk rk rn rname rkey rsrc rdst) = R at *
 have hRn : R.name = rname := by rw [← hR]
 have hRk : R.kind = rk := by rw [← hR]
 have hRm : R.n = rn := by rw [← hR]
 have hRs : R.src = rsrc := by rw [← hR]
 have hRd : R.dst = rdst := by rw [← hR]
 refine X0 ?_; refine JR ?_; refine ZA (γ := 100) ?_; refine ZA (γ := 101) ?_; refine Z0 ?_; refine JD ?_; refine X0 ?_; refine JR ?_; refine Z0g (γ := 120) ?_; refine Z0 ?_; refine JD ?_; refine X0 ?_
 refine X0 ?_; refine JR ?_; refine ZB ?_; refine ZC ?_; refine Zd ?_; refine Z1 ?_; refine JD ?_; refine X4 ?_
 refine Xs (ι := Nat × List (Int × Int)) (fun q => q.1 ≤ es.length ∧ ∀ id, Yh q.2 id = (Ut R (es.take q.1) id : Nat)) (fun q => ⟨52, [(2, .ptr 100 0), (3, .ptr 101 0), (5, .inn 120 0), (13, .d (.sl 5 (es.map Xi))), (14, ai (es.map Xi).length), (15, ai q.1)], [(100, .box [ai rk, ai rn, Xt rname, Xt rkey, Xt rsrc, Xt rdst]), (101, .box [.d (.sl 3 (ns.map X8)), .d (.sl 5 (es.map Xi)), ai nn, ai ne]), (120, .imap q.2)]⟩) (fun q => es.length - q.1) (0, []) ⟨Nat.zero_le _, fun id => rfl⟩
  (X7 rfl JM ⟨rfl, rfl, rfl, trivial⟩) ?_
 rintro ⟨i, M⟩ ⟨hi, hM⟩
 simp only at hi hM
 by_cases hil : i < es.length
 case pos =>
  have hn : (i : Int) < (es.map Xi).length := by rw [List.length_map]; omega
  obtain ⟨x, hx⟩ := Xm (l := es) hil
  have hxc : (es.map Xi)[i]? = some (Xi x) := Xr hx
  have hst : ∀ id, Ut R (es.take (i + 1)) id = Ut R (es.take i) id + if decide (x.typ = R.name) && decide (x.src = id) then 1 else 0 := fun id => XaU hx
  rw [hRn] at hst
  obtain ⟨xid, src, dst, typ, props⟩ := x
  simp only [Xi] at hxc hst
  have hv := hM src
  have hle := XaN R (es.take i) src
  rw [List.length_take] at hle
  clear hx hbr hR hRn hRk hRm hRs hRd hfn hfe
  by_cases ht : typ = rname
  ·generalize hvv : Yh M src = v at *
   have hin : Xy (v + 1) := by unfold Xy; omega
   refine X0 ?_; refine JR ?_; refine Z8 ?_; refine JD ?_; refine X0 ?_; refine JT ?_; refine X3 ?_; refine X0 ?_; refine X4 ?_; refine X0 ?_; refine JR ?_; refine Zj ?_; refine ZK ?_
   refine Zw (γ := 102) ?_; refine Zy ?_; refine JD ?_; refine X0 ?_; refine JR ?_; refine ZB ?_; refine ZC ?_; refine ZB ?_; refine ZC ?_; refine Zr ?_; refine JD ?_; refine JT ?_; refine JR ?_; refine Z1 ?_
   refine ZB ?_; refine ZC ?_; refine Z0h ?_; refine Zb ?_; refine Z0i ?_; refine JD ?_; refine JR ?_; refine Zb ?_; refine Z1 ?_; refine JD ?_
   refine ⟨(i + 1, YR M src (v + 1)), ⟨by show i + 1 ≤ es.length; omega, fun id => ?_⟩, by show es.length - (i + 1) < es.length - i; omega, ?_⟩
   ·show Yh (YR M src (v + 1)) id = _
    rw [X5M, hst id, hM id]
    by_cases hid : id = src
    ·subst hid
     rw [if_pos rfl, hv]
     simp [ht]
    ·have hid' : ¬ src = id := fun e => hid e.symm
     rw [if_neg hid]
     simp [hid']
   ·rw [← hvv]
    exact X7 rfl JM ⟨rfl, rfl, rfl, trivial⟩
  ·refine X0 ?_; refine JR ?_; refine Z8 ?_; refine JD ?_; refine X0 ?_; refine JT ?_; refine X3 ?_; refine X0 ?_; refine X4 ?_; refine X0 ?_; refine JR ?_; refine Zj ?_; refine ZK ?_
   refine Zw (γ := 102) ?_; refine Zy ?_; refine JD ?_; refine X0 ?_; refine JR ?_; refine ZB ?_; refine ZC ?_; refine ZB ?_; refine ZC ?_; refine Zr ?_; refine JD ?_; refine JF ?_; refine X3 ?_; refine JR ?_
   refine Zb ?_; refine Z1 ?_; refine JD ?_
   exact ⟨(i + 1, M), ⟨by show i + 1 ≤ es.length; omega, fun id => by rw [hM id]; show _ = ((Ut R (es.take (i + 1)) id : Nat) : Int); rw [hst id]; simp [ht]⟩, by show es.length - (i + 1) < es.length - i; omega, X7 rfl JM ⟨rfl, rfl, rfl, trivial⟩⟩
 obtain rfl : i = es.length := by omega
 have hn : ¬ ((es.length : Nat) : Int) < (es.map Xi).length := by rw [List.length_map]; omega
 rw [List.take_length] at hM
 refine X0 ?_; refine JR ?_; refine Z8 ?_; refine JD ?_; refine X0 ?_; refine JF ?_; refine Xo ?_; refine X0 ?_; refine JR ?_; refine Z0 ?_; refine JD ?_; refine X0 ?_; refine X0 ?_
 refine JR ?_; refine ZB ?_; refine ZC ?_; refine Zd ?_; refine Z1 ?_; refine JD ?_; refine X4 ?_
 clear hn
 refine XV (V0 8 130 2 rfl rfl rfl) ?_
 refine Xs (fun i : Nat => i ≤ ns.length) (fun i => ⟨52, [(2, .ptr 100 0), (3, .ptr 101 0), (5, .inn 120 0), (8, .own 130 ((YU R es (ns.take i)).map Xf).length), (31, .d (.sl 3 (ns.map X8))), (32, ai (ns.map X8).length), (33, ai i)], [(100, .box [ai rk, ai rn, Xt rname, Xt rkey, Xt rsrc, Xt rdst]), (101, .box [.d (.sl 3 (ns.map X8)), .d (.sl 5 (es.map Xi)), ai nn, ai ne]), (120, .imap M), (130, .row 2 ((YU R es (ns.take i)).map Xf))]⟩) (fun i => ns.length - i) 0 (Nat.zero_le _)
  (X7 rfl JM ⟨rfl, rfl, rfl, rfl, trivial⟩) ?_
 clear hi hil
 intro i hi
 by_cases hil : i < ns.length
 case neg =>
  obtain rfl : i = ns.length := by omega
  have hn : ¬ ((ns.length : Nat) : Int) < (ns.map X8).length := by rw [List.length_map]; omega
  rw [List.take_length]
  refine X0 ?_; refine JR ?_; refine Z8 ?_; refine JD ?_; refine X0 ?_; refine JF ?_; refine Xo ?_; refine X0 ?_; refine JR ?_; refine Z1 ?_; refine Z0 ?_; refine JD ?_
  refine XV (Up 130 rfl) ?_
  refine XV (Uo 4 130 rfl rfl rfl) ?_
  (show AWP Tryz.prog E _ _ _; refine X1 ?_; exact (show Xk _ _ _ _ _ from ⟨_, St.le_refl _, ⟨rfl, trivial⟩, X2 _⟩))
 have hn : (i : Int) < (ns.map X8).length := by rw [List.length_map]; omega
 obtain ⟨x, hx⟩ := Xm (l := ns) hil
 have hxc : (ns.map X8)[i]? = some (X8 x) := Xr hx
 have hroom : ((YU R es (ns.take i)).map Xf).length ≤ 2000 := by
  have := List.length_filter_le (fun n => decide (R.n < (Ut R es n.id : Nat))) (ns.take i)
  simp only [YU, List.length_map, List.length_take] at this ⊢
  omega
 have hst : YU R es (ns.take (i + 1)) = YU R es (ns.take i) ++ if decide (R.n < (Ut R es x.id : Nat)) then [(x.id, 0)] else [] := X2r hx
 rw [← hM x.id, hRm] at hst
 obtain ⟨xid, labels, props⟩ := x
 simp only [X8] at hxc hst
 clear hx hbr hR hRn hRk hRm hRs hRd hfn hfe hM
 by_cases ht : rn < Yh M xid
 ·rw [decide_eq_true ht] at hst
  have hst : YU R es (ns.take (i + 1)) = YU R es (ns.take i) ++ [(xid, 0)] := hst.trans (by simp)
  have happ : (YU R es (ns.take i) ++ [((xid, 0) : Int × Int)]).map Xf = (YU R es (ns.take i)).map Xf ++ [Xf (xid, 0)] := by simp
  refine X0 ?_; refine JR ?_; refine Z8 ?_; refine JD ?_; refine X0 ?_; refine JT ?_; refine X3 ?_; refine X0 ?_; refine X4 ?_; refine X0 ?_; refine JR ?_; refine Zj ?_; refine ZK ?_
  refine Zw (γ := 102) ?_; refine Zy ?_; refine JD ?_; refine X0 ?_; refine JR ?_; refine Z1 ?_; refine ZB ?_; refine ZC ?_; refine Z0h ?_; refine ZB ?_; refine ZC ?_; refine Zs ?_; refine JD ?_; refine JT ?_
  refine JR ?_; refine Z1 ?_; refine ZB ?_; refine ZC ?_; refine Zx ?_; refine Z5 ?_; refine Z6 ?_; refine Z0 ?_; refine JD ?_; refine JR ?_; refine Zb ?_; refine Z1 ?_; refine JD ?_
  refine ⟨i + 1, hil, by omega, ?_⟩
  dsimp only
  rw [hst, happ]
  exact X7 rfl ⟨JL, JL, JL, AVal.le_of_eq (by refine Eq.trans (b := AVal.own 130 (_ + _)) rfl ?_; simp only [List.length_append, List.length_map, List.length_cons, List.length_nil]), JL, JL, JL, trivial⟩ ⟨rfl, rfl, rfl, rfl, trivial⟩
 ·rw [decide_eq_false ht] at hst
  have hst := hst.trans (show _ = YU R es (ns.take i) by simp)
  refine X0 ?_; refine JR ?_; refine Z8 ?_; refine JD ?_; refine X0 ?_; refine JT ?_; refine X3 ?_; refine X0 ?_; refine X4 ?_; refine X0 ?_; refine JR ?_; refine Zj ?_; refine ZK ?_
  refine Zw (γ := 102) ?_; refine Zy ?_; refine JD ?_; refine X0 ?_; refine JR ?_; refine Z1 ?_; refine ZB ?_; refine ZC ?_; refine Z0h ?_; refine ZB ?_; refine ZC ?_; refine Zs ?_; refine JD ?_; refine JF ?_
  refine X3 ?_; refine JR ?_; refine Zb ?_; refine Z1 ?_; refine JD ?_
  refine ⟨i + 1, hil, by omega, ?_⟩
  dsimp only
  rw [hst]
  exact X7 rfl JM ⟨rfl, rfl, rfl, rfl, trivial⟩
end Go.Fw
namespace Go.Fw
open Go Go.Proofs
set_option maxRecDepth 100000
set_option linter.unusedVariables false
set_option linter.unusedSimpArgs false
theorem X7Y {acc rest tot : List (Int × Int)} (h : acc ++ rest = tot) (hl : tot.length ≤ 4000000) : (acc.map Xf).length ≤ 4000000 := by
 have := congrArg List.length h
 simp only [List.length_append] at this
 rw [List.length_map]
 omega
theorem X8z (r : Rul) (g : Gra) (hf : GFit g) : Con Tryz.prog 125 [] [Y0 r, Xp g] [] (.d (.sl 2 ((XQ (XE r g.nodes)).map Xf))) := by
 refine X9 (xs := [.d (.sl 2 ((XQ (XE r g.nodes)).map Xf))]) Tryz.func125 rfl Tryz.ntmps125 rfl rfl rfl (fun E => ?_)
 obtain ⟨ns, es, nn, ne⟩ := g
 have hbr := fun l hl => X1v r l hl
 obtain ⟨rk, rn, rname, rkey, rsrc, rdst⟩ := r
 have hnl := hf.nl
 have hel := hf.el
 have hfn := hf.nodes
 have hfe := hf.edges
 clear hf
 unfold Xp
 simp only [Y0] at hnl hel hfn hfe hbr ⊢
 generalize hR : (Rul.mk rk rn rname rkey rsrc rdst) = R at *
 have hRK : R.key = rkey := by rw [← hR]
 have hRn : R.name = rname := by rw [← hR]
 have hRk : R.kind = rk := by rw [← hR]
 have hRm : R.n = rn := by rw [← hR]
 have hRs : R.src = rsrc := by rw [← hR]
 have hRd : R.dst = rdst := by rw [← hR]
 refine X0 ?_; refine JR ?_; refine ZA (γ := 100) ?_; refine ZA (γ := 101) ?_; refine Z0 ?_; refine JD ?_; refine X0 ?_; refine JR ?_; refine Z0 ?_; refine JD ?_; refine X0 ?_; refine X0 ?_
 refine JR ?_; refine ZB ?_; refine ZC ?_; refine Zd ?_; refine Z1 ?_; refine JD ?_; refine X4 ?_
 refine XV (V0 5 130 6 rfl rfl rfl) ?_
 refine Xs (fun i : Nat => i ≤ ns.length) (fun i => ⟨78, [(2, .ptr 100 0), (3, .ptr 101 0), (5, .own 130 ((XE R (ns.take i)).map XT).length), (16, .d (.sl 3 (ns.map X8))), (17, ai (ns.map X8).length), (18, ai i)], [(100, .box [ai rk, ai rn, Xt rname, Xt rkey, Xt rsrc, Xt rdst]), (101, .box [.d (.sl 3 (ns.map X8)), .d (.sl 5 (es.map Xi)), ai nn, ai ne]), (130, .row 6 ((XE R (ns.take i)).map XT))]⟩) (fun i => ns.length - i) 0 (Nat.zero_le _)
  (X7 rfl JM ⟨rfl, rfl, rfl, trivial⟩) ?_
 intro i hi
 by_cases hil : i < ns.length
 case pos =>
  have hn : (i : Int) < (ns.map X8).length := by rw [List.length_map]; omega
  obtain ⟨x, hx⟩ := Xm (l := ns) hil
  have hxc : (ns.map X8)[i]? = some (X8 x) := Xr hx
  obtain ⟨f1, f2, f3⟩ := hfn x (List.mem_of_getElem? hx)
  have hroom : ((XE R (ns.take i)).map XT).length ≤ 2000 := by
   have := X2H R (ns.take i)
   rw [List.length_take] at this
   rw [List.length_map]
   omega
  have hst := X7c (r := R) hx
  have h1 := X5i x.props rkey (by omega)
  have h2 := X3l x rname (by omega)
  unfold Yy at hst
  rw [hRn, hRK] at hst
  generalize XU x.props rkey = pv at *
  generalize XM x.labels rname = b2 at *
  obtain ⟨xid, labels, props⟩ := x
  simp only [X8] at hxc h1 h2 hst
  clear hx hbr hfn hfe f1 f2 f3 hR hRn hRK hRk hRm hRs hRd
  cases pv with
  | none =>
   replace hst := hst.trans (show _ = XE R (ns.take i) by simp)
   simp only [Option.getD_none, Option.isSome_none, zV, Xn] at h1
   refine X0 ?_; refine JR ?_; refine Z8 ?_; refine JD ?_; refine X0 ?_; refine JT ?_; refine X3 ?_; refine X0 ?_; refine X4 ?_; refine X0 ?_; refine JR ?_; refine Zj ?_; refine ZK ?_
   refine Zw (γ := 102) ?_; refine Zy ?_; refine JD ?_; refine X0 ?_; refine JR ?_; refine ZB ?_; refine ZC ?_; refine ZB ?_; refine ZC ?_; refine Z9 (hcon := h1) ?_; refine Z1 ?_; refine ZF ?_; refine ZF ?_
   refine Zw (γ := 103) ?_; refine Zy ?_; refine Z0 ?_; refine JD ?_; refine X0 ?_; refine JR ?_; refine Z1 ?_; refine Z1 ?_; refine Zo ?_; refine Zo ?_; refine Zo ?_; refine Zo ?_; refine Zq ?_; refine JD ?_
   refine JF ?_; refine X3 ?_; refine JR ?_; refine Zb ?_; refine Z1 ?_; refine JD ?_
   refine ⟨i + 1, hil, by omega, ?_⟩
   dsimp only
   rw [hst]
   exact X7 rfl JM ⟨rfl, rfl, rfl, trivial⟩
  | some v =>
   simp only [Option.getD_some, Option.isSome_some] at h1
   cases b2 with
   | false =>
    replace hst := hst.trans (show _ = XE R (ns.take i) by simp)
    obtain ⟨vk, vn, vd, vs, vl⟩ := v
    simp only [Xn] at h1
    refine X0 ?_; refine JR ?_; refine Z8 ?_; refine JD ?_; refine X0 ?_; refine JT ?_; refine X3 ?_; refine X0 ?_; refine X4 ?_; refine X0 ?_; refine JR ?_; refine Zj ?_; refine ZK ?_
    refine Zw (γ := 102) ?_; refine Zy ?_; refine JD ?_; refine X0 ?_; refine JR ?_; refine ZB ?_; refine ZC ?_; refine ZB ?_; refine ZC ?_; refine Z9 (hcon := h1) ?_; refine Z1 ?_; refine ZF ?_; refine ZF ?_
    refine Zw (γ := 103) ?_; refine Zy ?_; refine Z0 ?_; refine JD ?_; refine X0 ?_; refine JR ?_; refine Z1 ?_; refine Z1 ?_; refine ZL ?_; refine ZB ?_; refine ZC ?_; refine Z9 (hcon := h2) ?_; refine Zn ?_
    refine JD ?_; refine JF ?_; refine X3 ?_; refine JR ?_; refine Zb ?_; refine Z1 ?_; refine JD ?_
    refine ⟨i + 1, hil, by omega, ?_⟩
    dsimp only
    rw [hst]
    exact X7 rfl JM ⟨rfl, rfl, rfl, trivial⟩
   | true =>
    replace hst : XE R (ns.take (i + 1)) = XE R (ns.take i) ++ [(xid, v)] := hst.trans (by simp)
    have happ : (XE R (ns.take i) ++ [(xid, v)]).map XT = (XE R (ns.take i)).map XT ++ [XT (xid, v)] := by simp
    obtain ⟨vk, vn, vd, vs, vl⟩ := v
    simp only [Xn] at h1
    simp only [XT, Y8] at happ
    refine X0 ?_; refine JR ?_; refine Z8 ?_; refine JD ?_; refine X0 ?_; refine JT ?_; refine X3 ?_; refine X0 ?_; refine X4 ?_; refine X0 ?_; refine JR ?_; refine Zj ?_; refine ZK ?_
    refine Zw (γ := 102) ?_; refine Zy ?_; refine JD ?_; refine X0 ?_; refine JR ?_; refine ZB ?_; refine ZC ?_; refine ZB ?_; refine ZC ?_; refine Z9 (hcon := h1) ?_; refine Z1 ?_; refine ZF ?_; refine ZF ?_
    refine Zw (γ := 103) ?_; refine Zy ?_; refine Z0 ?_; refine JD ?_; refine X0 ?_; refine JR ?_; refine Z1 ?_; refine Z1 ?_; refine ZL ?_; refine ZB ?_; refine ZC ?_; refine Z9 (hcon := h2) ?_; refine Zn ?_
    refine JD ?_; refine JT ?_; refine JR ?_; refine Z1 ?_; refine ZB ?_; refine ZC ?_; refine ZL ?_; refine Zx ?_; refine Z5 ?_; refine Z6 ?_; refine Z0 ?_; refine JD ?_; refine JR ?_; refine Zb ?_; refine Z1 ?_
    refine JD ?_
    refine ⟨i + 1, hil, by omega, ?_⟩
    dsimp only
    rw [hst, happ]
    exact X7 rfl ⟨JL, JL, AVal.le_of_eq (by refine Eq.trans (b := AVal.own 130 (_ + _)) rfl ?_; simp only [List.length_append, List.length_map, List.length_cons, List.length_nil]), JL, JL, JL, trivial⟩ ⟨rfl, rfl, rfl, trivial⟩
 obtain rfl : i = ns.length := by omega
 have hn : ¬ ((ns.length : Nat) : Int) < (ns.map X8).length := by rw [List.length_map]; omega
 rw [List.take_length]
 have hpl := XaI (r := R) hfn
 have hlen := X2H R ns
 have hmax := X4k (r := R) hnl
 rw [X1Q] at hmax
 generalize XE R ns = H at *
 generalize hT : XQ H = T at *
 have hHm : (H.map XT).length = H.length := by simp
 refine X0 ?_; refine JR ?_; refine Z8 ?_; refine JD ?_; refine X0 ?_; refine JF ?_; refine Xo ?_; refine X0 ?_; refine JR ?_; refine Z0 ?_; refine JD ?_; refine X0 ?_; refine X0 ?_
 clear hn hfn hfe hbr hR hRn hRK hRk hRm hRs hRd
 refine XV (Up 130 rfl) ?_
 refine XV (Uo 5 130 rfl rfl rfl) ?_
 refine XV (V0 10 131 2 rfl rfl rfl) ?_
 refine JR ?_; refine Z1 ?_; refine Zd ?_; refine Z1 ?_; refine JD ?_; refine X4 ?_
 refine Xs (ι := Nat × List (Int × Int)) (fun q => q.1 ≤ H.length ∧ q.2 ++ XQ (H.drop q.1) = T) (fun q => ⟨78, [(5, .d (.sl 6 (H.map XT))), (10, .own 131 (q.2.map Xf).length), (45, .d (.sl 6 (H.map XT))), (46, ai (H.map XT).length), (47, ai q.1)], [(131, .row 2 (q.2.map Xf))]⟩) (fun q => H.length - q.1) (0, []) ⟨Nat.zero_le _, by simpa using hT⟩
  (X7 rfl JM ⟨rfl, trivial⟩) ?_
 rintro ⟨j, acc⟩ ⟨hj, hg⟩
 simp only at hj hg
 by_cases hjl : j < H.length
 case neg =>
  rw [List.drop_of_length_le (by omega), XQ, List.append_nil] at hg
  subst hg
  have hn : ¬ (j : Int) < (H.map XT).length := by omega
  refine X0 ?_; refine JR ?_; refine Z8 ?_; refine JD ?_; refine X0 ?_; refine JF ?_; refine Xo ?_; refine X0 ?_; refine JR ?_; refine Z1 ?_; refine Z0 ?_; refine JD ?_
  refine XV (Up 131 rfl) ?_
  refine XV (Uo 4 131 rfl rfl rfl) ?_
  (show AWP Tryz.prog E _ _ _; refine X1 ?_; exact (show Xk _ _ _ _ _ from ⟨_, St.le_refl _, ⟨rfl, trivial⟩, X2 _⟩))
 have hn : (j : Int) < (H.map XT).length := by omega
 obtain ⟨a, ha⟩ := Xm (l := H) hjl
 have hac : (H.map XT)[j]? = some (XT a) := Xr ha
 have hap := hpl a (List.mem_of_getElem? ha)
 rw [X9O ha] at hg
 have hsl : ((H.map XT).take (H.map XT).length).drop (j + 1) = (H.drop (j + 1)).map XT := by rw [List.take_length, List.map_drop]
 have hjm : j + 1 ≤ (H.map XT).length := by omega
 generalize hTl : XQ (H.drop (j + 1)) = TL at *
 have hpl2 : ∀ h ∈ H.drop (j + 1), XF h.2 = true := fun h hh => hpl h (List.mem_of_mem_drop hh)
 have hBl : (H.drop (j + 1)).length ≤ 2000 := by rw [List.length_drop]; omega
 generalize hB : H.drop (j + 1) = B at *
 obtain ⟨aid, av⟩ := a
 obtain ⟨ak, an, ad, as_, al⟩ := av
 simp only [XT, Y8] at hac hap
 clear ha
 refine X0 ?_; refine JR ?_; refine Z8 ?_; refine JD ?_; refine X0 ?_; refine JT ?_; refine X3 ?_; refine X0 ?_; refine X4 ?_; refine X0 ?_; refine JR ?_; refine Z1 ?_; refine Zj ?_
 refine ZK ?_; refine Zw (γ := 100) ?_; refine Z0 ?_; refine Zy ?_; refine JD ?_; refine X0 ?_; refine JR ?_; refine Z1 ?_; refine Z1 ?_; refine Zb ?_
 refine ZV (lb := j + 1) (hb := (H.map XT).length) (ys := B.map XT) ?_ (hys := by exact hsl); refine Zd ?_; refine Z1 ?_; refine JD ?_; refine X4 ?_
 refine Xs (ι := Nat × List (Int × Int)) (fun q => q.1 ≤ B.length ∧ q.2 ++ (Uw (aid, .mk ak an ad as_ al) (B.drop q.1) ++ TL) = T) (fun q => ⟨78, [(5, .d (.sl 6 (H.map XT))), (10, .own 131 (q.2.map Xf).length), (12, .ptr 100 0), (45, .d (.sl 6 (H.map XT))), (46, ai (H.map XT).length), (47, ai j), (55, .d (.sl 6 (B.map XT))), (56, ai (B.map XT).length), (57, ai q.1)], [(100, .box [ai aid, ai ak, ai an, ai ad, Xt as_, .d (.sl 5 (XG al))]), (131, .row 2 (q.2.map Xf))]⟩) (fun q => B.length - q.1) (0, acc) ⟨Nat.zero_le _, by simpa using hg⟩
  (X7 rfl JM ⟨rfl, rfl, trivial⟩) ?_
 clear hg
 rintro ⟨k, acc2⟩ ⟨hk, hg⟩
 simp only at hk hg
 have hroom := X7Y hg hmax
 by_cases hkl : k < B.length
 case neg =>
  rw [List.drop_of_length_le (by omega)] at hg
  have hg : acc2 ++ TL = T := hg
  have hn2 : ¬ (k : Int) < (B.map XT).length := by rw [List.length_map]; omega
  refine X0 ?_; refine JR ?_; refine Z8 ?_; refine JD ?_; refine X0 ?_; refine JF ?_; refine Xo ?_; refine JR ?_; refine Zb ?_; refine Z1 ?_; refine JD ?_
  exact ⟨(j + 1, acc2), ⟨by show j + 1 ≤ H.length; omega, by show acc2 ++ XQ (H.drop (j + 1)) = T; rw [hB, hTl]; exact hg⟩, by show H.length - (j + 1) < H.length - j; omega, X7 rfl JM ⟨rfl, trivial⟩⟩
 have hn2 : (k : Int) < (B.map XT).length := by rw [List.length_map]; omega
 obtain ⟨b, hb⟩ := Xm (l := B) hkl
 have hbc : (B.map XT)[k]? = some (XT b) := Xr hb
 have hbp := hpl2 b (List.mem_of_getElem? hb)
 rw [X6U hb] at hg
 have he := X8e (.mk ak an ad as_ al) b.2 hap hbp
 simp only at hg
 generalize eqV (.mk ak an ad as_ al) b.2 = e at *
 obtain ⟨bid, bv⟩ := b
 obtain ⟨bk, bn, bd, bs, bl⟩ := bv
 simp only [XT, Y8, Xn] at hbc he
 clear hb hsl hB hTl hpl hpl2 hap hbp
 cases e with
 | false =>
  refine X0 ?_; refine JR ?_; refine Z8 ?_; refine JD ?_; refine X0 ?_; refine JT ?_; refine X3 ?_; refine X0 ?_; refine X4 ?_; refine X0 ?_; refine JR ?_; refine Zj ?_; refine ZK ?_
  refine Zw (γ := 101) ?_; refine Zy ?_; refine JD ?_; refine X0 ?_; refine JR ?_; refine ZB ?_; refine ZL ?_; refine ZB ?_; refine ZL ?_; refine Z9 (hcon := he) ?_; refine Zl ?_; refine JD ?_; refine JF ?_
  refine X3 ?_; refine JR ?_; refine Zb ?_; refine Z1 ?_; refine JD ?_
  exact ⟨(k + 1, acc2), ⟨by show k + 1 ≤ B.length; omega, by simpa using hg⟩, by show B.length - (k + 1) < B.length - k; omega, X7 rfl JM ⟨rfl, rfl, trivial⟩⟩
 | true =>
  have happ : (acc2 ++ [(aid, bid)]).map Xf = acc2.map Xf ++ [Xf (aid, bid)] := by simp
  refine X0 ?_; refine JR ?_; refine Z8 ?_; refine JD ?_; refine X0 ?_; refine JT ?_; refine X3 ?_; refine X0 ?_; refine X4 ?_; refine X0 ?_; refine JR ?_; refine Zj ?_; refine ZK ?_
  refine Zw (γ := 101) ?_; refine Zy ?_; refine JD ?_; refine X0 ?_; refine JR ?_; refine ZB ?_; refine ZL ?_; refine ZB ?_; refine ZL ?_; refine Z9 (hcon := he) ?_; refine Zl ?_; refine JD ?_; refine JT ?_
  refine JR ?_; refine Z1 ?_; refine ZB ?_; refine ZC ?_; refine ZB ?_; refine ZC ?_; refine Zx ?_; refine Z5 ?_; refine Z6 ?_; refine Z0 ?_; refine JD ?_; refine JR ?_; refine Zb ?_; refine Z1 ?_; refine JD ?_
  refine ⟨(k + 1, acc2 ++ [(aid, bid)]), ⟨by show k + 1 ≤ B.length; omega, by simpa using hg⟩, by show B.length - (k + 1) < B.length - k; omega, ?_⟩
  dsimp only
  rw [happ]
  exact X7 rfl ⟨JL, AVal.le_of_eq (by refine Eq.trans (b := AVal.own 131 (_ + _)) rfl ?_; simp only [List.length_append, List.length_map, List.length_cons, List.length_nil]), JL, JL, JL, JL, JL, JL, JL, trivial⟩ ⟨rfl, rfl, trivial⟩
end Go.Fw
namespace Go.Fw
open Go Go.Proofs
set_option maxRecDepth 100000
set_option linter.unusedVariables false
set_option linter.unusedSimpArgs false
theorem X9R (k : Int) : Con Tryz.prog 79 [] [ai k] [] (ai (X00 k)) := by
 refine X9 (xs := [ai (X00 k)]) Tryz.func79 rfl Tryz.ntmps79 rfl rfl rfl (fun E => ?_)
 unfold X00
 by_cases c1 : k = 1
 ·rw [if_pos c1]
  refine X0 ?_; refine JR ?_; refine Z0 ?_; refine JD ?_; refine X0 ?_; refine X0 ?_; refine JR ?_; refine Z1 ?_; refine JD ?_; refine X4 ?_; refine X0 ?_; refine JR ?_; refine Zl ?_
  refine Z0 ?_; refine JD ?_; refine JT ?_; refine X0 ?_; refine JR ?_; refine Z0 ?_; refine JD ?_
  (show AWP Tryz.prog E _ _ _; refine X1 ?_; exact (show Xk _ _ _ _ _ from ⟨_, St.le_refl _, ⟨rfl, trivial⟩, X2 _⟩))
 rw [if_neg c1]
 by_cases c2 : k = 2
 ·rw [if_pos (.inl c2)]
  refine X0 ?_; refine JR ?_; refine Z0 ?_; refine JD ?_; refine X0 ?_; refine X0 ?_; refine JR ?_; refine Z1 ?_; refine JD ?_; refine X4 ?_; refine X0 ?_; refine JR ?_; refine Zl ?_
  refine Z0 ?_; refine JD ?_; refine JF ?_; refine X0 ?_; refine X0 ?_; refine JR ?_; refine Zl ?_; refine Z0 ?_; refine JD ?_; refine JT ?_; refine X3 ?_; refine JT ?_; refine X0 ?_; refine JR ?_
  refine Z0 ?_; refine JD ?_
  (show AWP Tryz.prog E _ _ _; refine X1 ?_; exact (show Xk _ _ _ _ _ from ⟨_, St.le_refl _, ⟨rfl, trivial⟩, X2 _⟩))
 by_cases c4 : k = 4
 ·rw [if_pos (.inr c4)]
  refine X0 ?_; refine JR ?_; refine Z0 ?_; refine JD ?_; refine X0 ?_; refine X0 ?_; refine JR ?_; refine Z1 ?_; refine JD ?_; refine X4 ?_; refine X0 ?_; refine JR ?_; refine Zl ?_
  refine Z0 ?_; refine JD ?_; refine JF ?_; refine X0 ?_; refine X0 ?_; refine JR ?_; refine Zl ?_; refine Z0 ?_; refine JD ?_; refine JF ?_; refine JR ?_; refine Zl ?_; refine Z0 ?_; refine JD ?_; refine JT ?_
  refine X0 ?_; refine JR ?_; refine Z0 ?_; refine JD ?_
  (show AWP Tryz.prog E _ _ _; refine X1 ?_; exact (show Xk _ _ _ _ _ from ⟨_, St.le_refl _, ⟨rfl, trivial⟩, X2 _⟩))
 rw [if_neg (fun h => h.elim c2 c4)]
 by_cases c3 : k = 3
 ·rw [if_pos (.inl c3)]
  refine X0 ?_; refine JR ?_; refine Z0 ?_; refine JD ?_; refine X0 ?_; refine X0 ?_; refine JR ?_; refine Z1 ?_; refine JD ?_; refine X4 ?_; refine X0 ?_; refine JR ?_; refine Zl ?_
  refine Z0 ?_; refine JD ?_; refine JF ?_; refine X0 ?_; refine X0 ?_; refine JR ?_; refine Zl ?_; refine Z0 ?_; refine JD ?_; refine JF ?_; refine JR ?_; refine Zl ?_; refine Z0 ?_; refine JD ?_; refine JF ?_
  refine X0 ?_; refine X0 ?_; refine JR ?_; refine Zl ?_; refine Z0 ?_; refine JD ?_; refine JT ?_; refine X3 ?_; refine JT ?_; refine X0 ?_; refine JR ?_; refine Z0 ?_; refine JD ?_
  (show AWP Tryz.prog E _ _ _; refine X1 ?_; exact (show Xk _ _ _ _ _ from ⟨_, St.le_refl _, ⟨rfl, trivial⟩, X2 _⟩))
 by_cases c5 : k = 5
 ·rw [if_pos (.inr c5)]
  refine X0 ?_; refine JR ?_; refine Z0 ?_; refine JD ?_; refine X0 ?_; refine X0 ?_; refine JR ?_; refine Z1 ?_; refine JD ?_; refine X4 ?_; refine X0 ?_; refine JR ?_; refine Zl ?_
  refine Z0 ?_; refine JD ?_; refine JF ?_; refine X0 ?_; refine X0 ?_; refine JR ?_; refine Zl ?_; refine Z0 ?_; refine JD ?_; refine JF ?_; refine JR ?_; refine Zl ?_; refine Z0 ?_; refine JD ?_; refine JF ?_
  refine X0 ?_; refine X0 ?_; refine JR ?_; refine Zl ?_; refine Z0 ?_; refine JD ?_; refine JF ?_; refine JR ?_; refine Zl ?_; refine Z0 ?_; refine JD ?_; refine JT ?_; refine X0 ?_; refine JR ?_
  refine Z0 ?_; refine JD ?_
  (show AWP Tryz.prog E _ _ _; refine X1 ?_; exact (show Xk _ _ _ _ _ from ⟨_, St.le_refl _, ⟨rfl, trivial⟩, X2 _⟩))
 rw [if_neg (fun h => h.elim c3 c5)]
 by_cases c6 : k = 6
 ·rw [if_pos c6]
  refine X0 ?_; refine JR ?_; refine Z0 ?_; refine JD ?_; refine X0 ?_; refine X0 ?_; refine JR ?_; refine Z1 ?_; refine JD ?_; refine X4 ?_; refine X0 ?_; refine JR ?_; refine Zl ?_
  refine Z0 ?_; refine JD ?_; refine JF ?_; refine X0 ?_; refine X0 ?_; refine JR ?_; refine Zl ?_; refine Z0 ?_; refine JD ?_; refine JF ?_; refine JR ?_; refine Zl ?_; refine Z0 ?_; refine JD ?_; refine JF ?_
  refine X0 ?_; refine X0 ?_; refine JR ?_; refine Zl ?_; refine Z0 ?_; refine JD ?_; refine JF ?_; refine JR ?_; refine Zl ?_; refine Z0 ?_; refine JD ?_; refine JF ?_; refine X0 ?_; refine JR ?_
  refine Zl ?_; refine Z0 ?_; refine JD ?_; refine JT ?_; refine X0 ?_; refine JR ?_; refine Z0 ?_; refine JD ?_
  (show AWP Tryz.prog E _ _ _; refine X1 ?_; exact (show Xk _ _ _ _ _ from ⟨_, St.le_refl _, ⟨rfl, trivial⟩, X2 _⟩))
 rw [if_neg c6]
 by_cases c7 : k = 7
 ·rw [if_pos c7]
  refine X0 ?_; refine JR ?_; refine Z0 ?_; refine JD ?_; refine X0 ?_; refine X0 ?_; refine JR ?_; refine Z1 ?_; refine JD ?_; refine X4 ?_; refine X0 ?_; refine JR ?_; refine Zl ?_
  refine Z0 ?_; refine JD ?_; refine JF ?_; refine X0 ?_; refine X0 ?_; refine JR ?_; refine Zl ?_; refine Z0 ?_; refine JD ?_; refine JF ?_; refine JR ?_; refine Zl ?_; refine Z0 ?_; refine JD ?_; refine JF ?_
  refine X0 ?_; refine X0 ?_; refine JR ?_; refine Zl ?_; refine Z0 ?_; refine JD ?_; refine JF ?_; refine JR ?_; refine Zl ?_; refine Z0 ?_; refine JD ?_; refine JF ?_; refine X0 ?_; refine JR ?_
  refine Zl ?_; refine Z0 ?_; refine JD ?_; refine JF ?_; refine X0 ?_; refine JR ?_; refine Zl ?_; refine Z0 ?_; refine JD ?_; refine JT ?_; refine X0 ?_; refine JR ?_; refine Z0 ?_; refine JD ?_
  (show AWP Tryz.prog E _ _ _; refine X1 ?_; exact (show Xk _ _ _ _ _ from ⟨_, St.le_refl _, ⟨rfl, trivial⟩, X2 _⟩))
 rw [if_neg c7]
 refine X0 ?_; refine JR ?_; refine Z0 ?_; refine JD ?_; refine X0 ?_; refine X0 ?_; refine JR ?_; refine Z1 ?_; refine JD ?_; refine X4 ?_; refine X0 ?_; refine JR ?_; refine Zl ?_
 refine Z0 ?_; refine JD ?_; refine JF ?_; refine X0 ?_; refine X0 ?_; refine JR ?_; refine Zl ?_; refine Z0 ?_; refine JD ?_; refine JF ?_; refine JR ?_; refine Zl ?_; refine Z0 ?_; refine JD ?_; refine JF ?_
 refine X0 ?_; refine X0 ?_; refine JR ?_; refine Zl ?_; refine Z0 ?_; refine JD ?_; refine JF ?_; refine JR ?_; refine Zl ?_; refine Z0 ?_; refine JD ?_; refine JF ?_; refine X0 ?_; refine JR ?_
 refine Zl ?_; refine Z0 ?_; refine JD ?_; refine JF ?_; refine X0 ?_; refine JR ?_; refine Zl ?_; refine Z0 ?_; refine JD ?_; refine JF ?_; refine X3 ?_; refine X0 ?_; refine JR ?_; refine Z0 ?_
 refine JD ?_
 (show AWP Tryz.prog E _ _ _; refine X1 ?_; exact (show Xk _ _ _ _ _ from ⟨_, St.le_refl _, ⟨rfl, trivial⟩, X2 _⟩))
theorem X5J (r : Rul) (g : Gra) (hf : GFit g) : Con Tryz.prog 75 [] [Y0 r, Xp g] [] (.d (.sl 2 ((ofV r g).map Xf))) := by
 refine X9 (xs := [.d (.sl 2 ((ofV r g).map Xf))]) Tryz.func75 rfl Tryz.ntmps75 rfl rfl rfl (fun E => ?_)
 have h1 := X8z r g hf
 have h2 := X7m r g hf
 have h3 := X9j r g hf
 have h4 := X8W r g hf
 unfold ofV VY
 generalize XQ (XE r g.nodes) = l1 at *
 generalize YF r g.nodes = l2 at *
 generalize YU r g.edges g.nodes = l3 at *
 generalize Y3 r g.nodes g.edges = l4 at *
 clear hf
 obtain ⟨ns, es, nn, ne⟩ := g
 obtain ⟨rk, rn, rname, rkey, rsrc, rdst⟩ := r
 simp only [Y0, Xp] at *
 by_cases c1 : rk = 1
 ·rw [if_pos c1]
  refine X0 ?_; refine JR ?_; refine ZA (γ := 100) ?_; refine ZA (γ := 101) ?_; refine Z0 ?_; refine JD ?_; refine X0 ?_; refine X0 ?_; refine JR ?_; refine ZB ?_; refine ZC ?_; refine JD ?_
  refine X4 ?_; refine X0 ?_; refine JR ?_; refine Zl ?_; refine Z0 ?_; refine JD ?_; refine JT ?_; refine X0 ?_; refine JR ?_; refine ZL ?_; refine ZL ?_; refine Z9 (hcon := h1) ?_; refine Z0 ?_
  refine JD ?_
  (show AWP Tryz.prog E _ _ _; refine X1 ?_; exact (show Xk _ _ _ _ _ from ⟨_, St.le_refl _, ⟨rfl, trivial⟩, X2 _⟩))
 rw [if_neg c1]
 by_cases c2 : rk = 2
 ·rw [if_pos (.inl c2)]
  refine X0 ?_; refine JR ?_; refine ZA (γ := 100) ?_; refine ZA (γ := 101) ?_; refine Z0 ?_; refine JD ?_; refine X0 ?_; refine X0 ?_; refine JR ?_; refine ZB ?_; refine ZC ?_; refine JD ?_
  refine X4 ?_; refine X0 ?_; refine JR ?_; refine Zl ?_; refine Z0 ?_; refine JD ?_; refine JF ?_; refine X0 ?_; refine X0 ?_; refine JR ?_; refine Zl ?_; refine Z0 ?_; refine JD ?_; refine JT ?_
  refine X3 ?_; refine JT ?_; refine X0 ?_; refine JR ?_; refine ZL ?_; refine ZL ?_; refine Z9 (hcon := h2) ?_; refine Z0 ?_; refine JD ?_
  (show AWP Tryz.prog E _ _ _; refine X1 ?_; exact (show Xk _ _ _ _ _ from ⟨_, St.le_refl _, ⟨rfl, trivial⟩, X2 _⟩))
 by_cases c3 : rk = 3
 ·rw [if_pos (.inr c3)]
  refine X0 ?_; refine JR ?_; refine ZA (γ := 100) ?_; refine ZA (γ := 101) ?_; refine Z0 ?_; refine JD ?_; refine X0 ?_; refine X0 ?_; refine JR ?_; refine ZB ?_; refine ZC ?_; refine JD ?_
  refine X4 ?_; refine X0 ?_; refine JR ?_; refine Zl ?_; refine Z0 ?_; refine JD ?_; refine JF ?_; refine X0 ?_; refine X0 ?_; refine JR ?_; refine Zl ?_; refine Z0 ?_; refine JD ?_; refine JF ?_
  refine JR ?_; refine Zl ?_; refine Z0 ?_; refine JD ?_; refine JT ?_; refine X0 ?_; refine JR ?_; refine ZL ?_; refine ZL ?_; refine Z9 (hcon := h2) ?_; refine Z0 ?_; refine JD ?_
  (show AWP Tryz.prog E _ _ _; refine X1 ?_; exact (show Xk _ _ _ _ _ from ⟨_, St.le_refl _, ⟨rfl, trivial⟩, X2 _⟩))
 rw [if_neg (fun h => h.elim c2 c3)]
 by_cases c7 : rk = 7
 ·rw [if_pos c7]
  refine X0 ?_; refine JR ?_; refine ZA (γ := 100) ?_; refine ZA (γ := 101) ?_; refine Z0 ?_; refine JD ?_; refine X0 ?_; refine X0 ?_; refine JR ?_; refine ZB ?_; refine ZC ?_; refine JD ?_
  refine X4 ?_; refine X0 ?_; refine JR ?_; refine Zl ?_; refine Z0 ?_; refine JD ?_; refine JF ?_; refine X0 ?_; refine X0 ?_; refine JR ?_; refine Zl ?_; refine Z0 ?_; refine JD ?_; refine JF ?_
  refine JR ?_; refine Zl ?_; refine Z0 ?_; refine JD ?_; refine JF ?_; refine X0 ?_; refine JR ?_; refine Zl ?_; refine Z0 ?_; refine JD ?_; refine JT ?_; refine X0 ?_; refine JR ?_; refine ZL ?_; refine ZL ?_
  refine Z9 (hcon := h3) ?_; refine Z0 ?_; refine JD ?_
  (show AWP Tryz.prog E _ _ _; refine X1 ?_; exact (show Xk _ _ _ _ _ from ⟨_, St.le_refl _, ⟨rfl, trivial⟩, X2 _⟩))
 rw [if_neg c7]
 refine X0 ?_; refine JR ?_; refine ZA (γ := 100) ?_; refine ZA (γ := 101) ?_; refine Z0 ?_; refine JD ?_; refine X0 ?_; refine X0 ?_; refine JR ?_; refine ZB ?_; refine ZC ?_; refine JD ?_
 refine X4 ?_; refine X0 ?_; refine JR ?_; refine Zl ?_; refine Z0 ?_; refine JD ?_; refine JF ?_; refine X0 ?_; refine X0 ?_; refine JR ?_; refine Zl ?_; refine Z0 ?_; refine JD ?_; refine JF ?_
 refine JR ?_; refine Zl ?_; refine Z0 ?_; refine JD ?_; refine JF ?_; refine X0 ?_; refine JR ?_; refine Zl ?_; refine Z0 ?_; refine JD ?_; refine JF ?_; refine X3 ?_; refine X0 ?_; refine JR ?_
 refine ZL ?_; refine ZL ?_; refine Z9 (hcon := h4) ?_; refine Z0 ?_; refine JD ?_
 (show AWP Tryz.prog E _ _ _; refine X1 ?_; exact (show Xk _ _ _ _ _ from ⟨_, St.le_refl _, ⟨rfl, trivial⟩, X2 _⟩))
theorem X0Y (r : Rul) (g : Gra) (hg : GraHold g) : Con Tryz.prog 23 [] [Y0 r, Xp g] [] (.d (.sl 2 ((ofS r g).map Xf))) := by
 refine X9 (xs := [.d (.sl 2 ((ofS r g).map Xf))]) Tryz.func23 rfl Tryz.ntmps23 rfl rfl rfl (fun E => ?_)
 have h1 := X3K r
 have h2 := X5b g hg
 unfold ofS
 by_cases c1 : Yq r = 0
 case neg =>
  rw [if_pos (.inl c1)]
  generalize Yq r = e1 at *
  clear h2 hg
  obtain ⟨ns, es, nn, ne⟩ := g
  obtain ⟨rk, rn, rname, rkey, rsrc, rdst⟩ := r
  simp only [Y0, Xp, List.map_nil] at *
  refine X0 ?_; refine JR ?_; refine ZA (γ := 100) ?_; refine ZA (γ := 101) ?_; refine Z0 ?_; refine JD ?_; refine X0 ?_; refine X0 ?_; refine JR ?_; refine ZL ?_; refine Z9 (hcon := h1) ?_; refine Zv ?_
  refine Z1 ?_; refine Zo ?_; refine Zo ?_; refine Zo ?_; refine Zn ?_; refine JD ?_; refine JT ?_; refine X0 ?_; refine JR ?_; refine Z0 ?_; refine JD ?_
  (show AWP Tryz.prog E _ _ _; refine X1 ?_; exact (show Xk _ _ _ _ _ from ⟨_, Xe 4 (y := .d (.sl 2 [])) (AVal.le_nil 2), ⟨rfl, trivial⟩, X2 _⟩))
 by_cases c2 : XC g = 0
 case neg =>
  rw [if_pos (.inr c2)]
  rw [c1] at h1
  generalize XC g = e2 at *
  clear hg c1
  obtain ⟨ns, es, nn, ne⟩ := g
  obtain ⟨rk, rn, rname, rkey, rsrc, rdst⟩ := r
  simp only [Y0, Xp, List.map_nil] at *
  refine X0 ?_; refine JR ?_; refine ZA (γ := 100) ?_; refine ZA (γ := 101) ?_; refine Z0 ?_; refine JD ?_; refine X0 ?_; refine X0 ?_; refine JR ?_; refine ZL ?_; refine Z9 (hcon := h1) ?_; refine Zv ?_
  refine Z1 ?_; refine ZL ?_; refine Z9 (hcon := h2) ?_; refine Zv ?_; refine Zq ?_; refine JD ?_; refine JT ?_; refine X0 ?_; refine JR ?_; refine Z0 ?_; refine JD ?_
  (show AWP Tryz.prog E _ _ _; refine X1 ?_; exact (show Xk _ _ _ _ _ from ⟨_, Xe 4 (y := .d (.sl 2 [])) (AVal.le_nil 2), ⟨rfl, trivial⟩, X2 _⟩))
 rw [if_neg (fun h => h.elim (fun q => q c1) (fun q => q c2))]
 have hf := X0q c2
 have h3 := X5J r g hf
 generalize ofV r g = l at *
 rw [c1] at h1
 rw [c2] at h2
 clear hg c2 hf
 obtain ⟨ns, es, nn, ne⟩ := g
 obtain ⟨rk, rn, rname, rkey, rsrc, rdst⟩ := r
 clear c1
 simp only [Y0, Xp] at *
 refine X0 ?_; refine JR ?_; refine ZA (γ := 100) ?_; refine ZA (γ := 101) ?_; refine Z0 ?_; refine JD ?_; refine X0 ?_; refine X0 ?_; refine JR ?_; refine ZL ?_; refine Z9 (hcon := h1) ?_; refine Zv ?_
 refine Z1 ?_; refine ZL ?_; refine Z9 (hcon := h2) ?_; refine Zv ?_; refine Zq ?_; refine JD ?_; refine JF ?_; refine X3 ?_; refine X0 ?_; refine JR ?_; refine ZL ?_; refine ZL ?_; refine Z9 (hcon := h3) ?_
 refine Z0 ?_; refine JD ?_
 (show AWP Tryz.prog E _ _ _; refine X1 ?_; exact (show Xk _ _ _ _ _ from ⟨_, St.le_refl _, ⟨rfl, trivial⟩, X2 _⟩))
end Go.Fw
