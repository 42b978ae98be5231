/- The reference's search for violations: pairs. -/
import Derived.Test.YtbhleedlnaakkaaGreatK21
set_option maxHeartbeats 64000000
namespace Go.Fw
open Go Go.Proofs
set_option maxRecDepth 100000
set_option linter.unusedVariables false
set_option linter.unusedSimpArgs false
theorem X9N (r : Rul) (g : Gra) (hf : GFit g) : Con Tryz.prog 76 [] [Xv r, Xr g] [] (.d (.sl 2 ((Ub r g.nodes).map Xc))) := by
 refine Xa (xs := [.d (.sl 2 ((Ub r g.nodes).map Xc))]) Tryz.func76 rfl Tryz.ntmps76 rfl rfl rfl (fun E => ?_)
 obtain ⟨ns, es, nn, ne⟩ := g
 have hbr := fun l hl => X2n r l hl
 obtain ⟨rk, rn, rname, rkey, rsrc, rdst⟩ := r
 have hnl := hf.nl
 have hel := hf.el
 have hfn := hf.nodes
 have hfe := hf.edges
 clear hf
 unfold Xr
 simp only [Xv] at hnl hel hfn hfe hbr ⊢
 generalize hR : (Rul.mk rk rn rname rkey rsrc rdst) = R at *
 have hRK : R.key = rkey := by rw [← hR]
 have hRn : R.name = rname := by rw [← hR]
 have hRk : R.kind = rk := by rw [← hR]
 have hRm : R.n = rn := by rw [← hR]
 have hRs : R.src = rsrc := by rw [← hR]
 have hRd : R.dst = rdst := by rw [← hR]
 have hmax := X31 (r := R) hnl
 generalize hT : Ub R ns = T at *
 refine X0 ?_; refine JR ?_; refine ZA (γ := 100) ?_; refine ZA (γ := 101) ?_; refine Z0 ?_; refine JD ?_; refine X0 ?_; refine JR ?_; refine Z0 ?_; refine JD ?_; refine X0 ?_; refine X0 ?_
 refine JR ?_; refine Z0 ?_; refine JD ?_; refine X4 ?_
 refine XD (Un 5 130 2 rfl rfl rfl) ?_
 refine Xt (ι := Nat × List (Int × Int)) (fun q => q.1 ≤ ns.length ∧ q.2 ++ Ub R (ns.drop q.1) = T) (fun q => ⟨87, [(2, .ptr 100 0), (3, .ptr 101 0), (5, .own 130 (q.2.map Xc).length), (6, ai q.1)], [(100, .box [ai rk, ai rn, Xn rname, Xn rkey, Xn rsrc, Xn rdst]), (101, .box [.d (.sl 3 (ns.map X8)), .d (.sl 5 (es.map Xg)), ai nn, ai ne]), (130, .row 2 (q.2.map Xc))]⟩) (fun q => ns.length - q.1) (0, []) ⟨Nat.zero_le _, by simpa using hT⟩
  (X6 rfl JM ⟨rfl, rfl, rfl, trivial⟩) ?_
 rintro ⟨i, acc⟩ ⟨hi, hg⟩
 simp only at hi hg
 by_cases hil : i < ns.length
 case neg =>
  rw [List.drop_of_length_le (by omega), Ub, List.append_nil] at hg
  subst hg
  have hn : ¬ (i : Int) < (ns.map X8).length := by rw [List.length_map]; omega
  refine X0 ?_; refine X0 ?_; refine JR ?_; refine Z1 ?_; refine ZB ?_; refine ZC ?_; refine Zd ?_; refine Z8 ?_; refine JD ?_; refine JF ?_; refine Xp ?_; refine X0 ?_; refine JR ?_; refine Z1 ?_
  refine Z0 ?_; refine JD ?_
  refine XD (U5 130 rfl) ?_
  refine XD (U7 4 130 rfl rfl rfl) ?_
  (show AWP Tryz.prog E _ _ _; refine X1 ?_; exact (show Xd _ _ _ _ _ from ⟨_, St.le_refl _, ⟨rfl, trivial⟩, X2 _⟩))
 have hn : (i : Int) < (ns.map X8).length := by rw [List.length_map]; omega
 obtain ⟨x, hx⟩ := Xm (l := ns) hil
 have hxc : (ns.map X8)[i]? = some (X8 x) := Xq hx
 obtain ⟨f1, f2, f3⟩ := hfn x (List.mem_of_getElem? hx)
 rw [X6N hx] at hg
 have h1 := X26 x.props rkey (by omega)
 have h3 := X1H x rname (by omega)
 have hpx : ∀ v, XL x.props rkey = some v → XC v = true := fun v hv => by
  obtain ⟨p, hp, rfl⟩ := X1n hv
  exact f3 p hp
 have hho : Yb R x = Vv (XL x.props rkey) (XE x.labels rname) := by rw [X3b, hRn, hRK]
 generalize hTL : Ub R (ns.drop (i + 1)) = TL at *
 refine X0 ?_; refine X0 ?_; refine JR ?_; refine Z1 ?_; refine ZB ?_; refine ZC ?_; refine Zd ?_; refine Z8 ?_; refine JD ?_; refine JT ?_; refine X3 ?_; refine X0 ?_; refine X4 ?_
 refine X0 ?_; refine JR ?_; refine Z1 ?_; refine Zb ?_; refine Z0 ?_; refine JD ?_; refine X4 ?_
 refine Xt (ι := Nat × List (Int × Int)) (fun q => q.1 ≤ ns.length ∧ q.2 ++ (YH R x (ns.drop q.1) ++ TL) = T) (fun q => ⟨87, [(2, .ptr 100 0), (3, .ptr 101 0), (5, .own 130 (q.2.map Xc).length), (6, ai i), (7, ai q.1)], [(100, .box [ai rk, ai rn, Xn rname, Xn rkey, Xn rsrc, Xn rdst]), (101, .box [.d (.sl 3 (ns.map X8)), .d (.sl 5 (es.map Xg)), ai nn, ai ne]), (130, .row 2 (q.2.map Xc))]⟩) (fun q => ns.length - q.1) (i + 1, acc) ⟨by show i + 1 ≤ ns.length; omega, hg⟩
  (X6 rfl JM ⟨rfl, rfl, rfl, trivial⟩) ?_
 clear hg
 rintro ⟨k, acc2⟩ ⟨hk, hg⟩
 simp only at hk hg
 have hroom := X4Y hg hmax
 by_cases hkl : k < ns.length
 case neg =>
  rw [List.drop_of_length_le (by omega)] at hg
  have hg : acc2 ++ TL = T := hg
  have hn2 : ¬ (k : Int) < (ns.map X8).length := by rw [List.length_map]; omega
  refine X0 ?_; refine X0 ?_; refine JR ?_; refine Z1 ?_; refine ZB ?_; refine ZC ?_; refine Zd ?_; refine Z8 ?_; refine JD ?_; refine JF ?_; refine Xp ?_; refine JR ?_; refine Z1 ?_; refine Zb ?_
  refine Z0 ?_; refine JD ?_
  exact ⟨(i + 1, acc2), ⟨by show i + 1 ≤ ns.length; omega, by show acc2 ++ Ub R (ns.drop (i + 1)) = T; rw [hTL]; exact hg⟩, by show ns.length - (i + 1) < ns.length - i; omega, X6 rfl JM ⟨rfl, rfl, rfl, trivial⟩⟩
 have hn2 : (k : Int) < (ns.map X8).length := by rw [List.length_map]; omega
 obtain ⟨y, hy⟩ := Xm (l := ns) hkl
 have hyc : (ns.map X8)[k]? = some (X8 y) := Xq hy
 obtain ⟨e1, e2, e3⟩ := hfn y (List.mem_of_getElem? hy)
 have h2 := X26 y.props rkey (by omega)
 have h4 := X1H y rname (by omega)
 have hpy : ∀ v, XL y.props rkey = some v → XC v = true := fun v hv => by
  obtain ⟨p, hp, rfl⟩ := X1n hv
  exact e3 p hp
 have hhy : Yb R y = Vv (XL y.props rkey) (XE y.labels rname) := by rw [X3b, hRn, hRK]
 rw [X8Z hy] at hg
 rw [Xac, hho, hhy] at hg
 clear hho hhy hTL hT hx hy hbr hfn hfe hR hRn hRK hRk hRm hRs hRd f1 f2 f3 e1 e2 e3
 generalize hRR : YH R x (ns.drop (k + 1)) = RR at *
 generalize XL x.props rkey = p1 at *
 generalize XL y.props rkey = p2 at *
 generalize XE x.labels rname = b1 at *
 generalize XE y.labels rname = b2 at *
 have hRR' : ∀ z, RR ++ z = YH R x (ns.drop (k + 1)) ++ z := fun z => by rw [hRR]
 obtain ⟨xid, xl, xp⟩ := x
 obtain ⟨yid, yl, yp⟩ := y
 simp only [X8] at hxc hyc h1 h2 h3 h4 hg hRR'
 cases p1 with
 | none =>
  have hg2 : acc2 ++ (YH R ⟨xid, xl, xp⟩ (ns.drop (k + 1)) ++ TL) = T := by rw [← hRR']; simpa [Vv, eqO] using hg
  simp only [Option.getD_none, Option.isSome_none, zV, Xu] at h1
  clear hg hpx hpy hRR hRR'
  cases p2 with
  | none =>
   simp only [Option.getD_none, Option.isSome_none, zV, Xu] at h2
   refine X0 ?_; refine X0 ?_; refine JR ?_; refine Z1 ?_; refine ZB ?_; refine ZC ?_; refine Zd ?_; refine Z8 ?_; refine JD ?_; refine JT ?_; refine X3 ?_; refine X0 ?_; refine X4 ?_
   refine X0 ?_; refine JR ?_; refine ZB ?_; refine ZC ?_; refine Z1 ?_; refine Zj ?_; refine ZK ?_; refine Zw (γ := 102) ?_; refine Zy ?_; refine JD ?_; refine X0 ?_; refine JR ?_; refine ZB ?_; refine ZC ?_
   refine Z1 ?_; refine Zj ?_; refine ZK ?_; refine Zw (γ := 103) ?_; refine Zy ?_; refine JD ?_; refine X0 ?_; refine JR ?_; refine ZB ?_; refine ZC ?_; refine ZB ?_; refine ZC ?_; refine Z9 (hcon := h1) ?_
   refine Z1 ?_; refine ZF ?_; refine ZF ?_; refine Zw (γ := 104) ?_; refine Zy ?_; refine Z0 ?_; refine JD ?_; refine X0 ?_; refine JR ?_; refine ZB ?_; refine ZC ?_; refine ZB ?_; refine ZC ?_
   refine Z9 (hcon := h2) ?_; refine Z1 ?_; refine ZF ?_; refine ZF ?_; refine Zw (γ := 105) ?_; refine Zy ?_; refine Z0 ?_; refine JD ?_; refine X0 ?_; refine JR ?_; refine Z1 ?_; refine Z1 ?_; refine Zo ?_
   refine Zq ?_; refine Z1 ?_; refine Zo ?_; refine Zo ?_; refine Zo ?_; refine Zo ?_; refine Zq ?_; refine Z1 ?_; refine Zo ?_; refine Zo ?_; refine Zo ?_; refine Zo ?_; refine Zq ?_; refine Z1 ?_; refine Zo ?_
   refine Zo ?_; refine Zo ?_; refine Zo ?_; refine Zq ?_; refine JD ?_; refine JF ?_; refine X3 ?_; refine JR ?_; refine Z1 ?_; refine Zb ?_; refine Z0 ?_; refine JD ?_
   exact ⟨(k + 1, acc2), ⟨by show k + 1 ≤ ns.length; omega, hg2⟩, by show ns.length - (k + 1) < ns.length - k; omega, X6 rfl JM ⟨rfl, rfl, rfl, trivial⟩⟩
  | some w =>
   obtain ⟨wk, wn, wd, ws, wl⟩ := w
   simp only [Option.getD_some, Option.isSome_some, Xu] at h2
   refine X0 ?_; refine X0 ?_; refine JR ?_; refine Z1 ?_; refine ZB ?_; refine ZC ?_; refine Zd ?_; refine Z8 ?_; refine JD ?_; refine JT ?_; refine X3 ?_; refine X0 ?_; refine X4 ?_
   refine X0 ?_; refine JR ?_; refine ZB ?_; refine ZC ?_; refine Z1 ?_; refine Zj ?_; refine ZK ?_; refine Zw (γ := 102) ?_; refine Zy ?_; refine JD ?_; refine X0 ?_; refine JR ?_; refine ZB ?_; refine ZC ?_
   refine Z1 ?_; refine Zj ?_; refine ZK ?_; refine Zw (γ := 103) ?_; refine Zy ?_; refine JD ?_; refine X0 ?_; refine JR ?_; refine ZB ?_; refine ZC ?_; refine ZB ?_; refine ZC ?_; refine Z9 (hcon := h1) ?_
   refine Z1 ?_; refine ZF ?_; refine ZF ?_; refine Zw (γ := 104) ?_; refine Zy ?_; refine Z0 ?_; refine JD ?_; refine X0 ?_; refine JR ?_; refine ZB ?_; refine ZC ?_; refine ZB ?_; refine ZC ?_
   refine Z9 (hcon := h2) ?_; refine Z1 ?_; refine ZF ?_; refine ZF ?_; refine Zw (γ := 105) ?_; refine Zy ?_; refine Z0 ?_; refine JD ?_; refine X0 ?_; refine JR ?_; refine Z1 ?_; refine Z1 ?_; refine Zo ?_
   refine Zq ?_; refine Z1 ?_; refine Zo ?_; refine Zo ?_; refine Zo ?_; refine Zo ?_; refine Zq ?_; refine Z1 ?_; refine Zo ?_; refine Zo ?_; refine Zo ?_; refine Zo ?_; refine Zq ?_; refine Z1 ?_; refine Zo ?_
   refine Zo ?_; refine Zo ?_; refine Zo ?_; refine Zq ?_; refine JD ?_; refine JF ?_; refine X3 ?_; refine JR ?_; refine Z1 ?_; refine Zb ?_; refine Z0 ?_; refine JD ?_
   exact ⟨(k + 1, acc2), ⟨by show k + 1 ≤ ns.length; omega, hg2⟩, by show ns.length - (k + 1) < ns.length - k; omega, X6 rfl JM ⟨rfl, rfl, rfl, trivial⟩⟩
 | some v =>
  have hpv := hpx v rfl
  cases p2 with
  | none =>
   have hg2 : acc2 ++ (YH R ⟨xid, xl, xp⟩ (ns.drop (k + 1)) ++ TL) = T := by rw [← hRR']; cases b1 <;> simpa [Vv, eqO] using hg
   clear hg hpx hpy hRR hRR' hpv
   obtain ⟨vk, vn, vd, vs, vl⟩ := v
   simp only [Option.getD_some, Option.isSome_some, Xu] at h1
   simp only [Option.getD_none, Option.isSome_none, zV, Xu] at h2
   refine X0 ?_; refine X0 ?_; refine JR ?_; refine Z1 ?_; refine ZB ?_; refine ZC ?_; refine Zd ?_; refine Z8 ?_; refine JD ?_; refine JT ?_; refine X3 ?_; refine X0 ?_; refine X4 ?_
   refine X0 ?_; refine JR ?_; refine ZB ?_; refine ZC ?_; refine Z1 ?_; refine Zj ?_; refine ZK ?_; refine Zw (γ := 102) ?_; refine Zy ?_; refine JD ?_; refine X0 ?_; refine JR ?_; refine ZB ?_; refine ZC ?_
   refine Z1 ?_; refine Zj ?_; refine ZK ?_; refine Zw (γ := 103) ?_; refine Zy ?_; refine JD ?_; refine X0 ?_; refine JR ?_; refine ZB ?_; refine ZC ?_; refine ZB ?_; refine ZC ?_; refine Z9 (hcon := h1) ?_
   refine Z1 ?_; refine ZF ?_; refine ZF ?_; refine Zw (γ := 104) ?_; refine Zy ?_; refine Z0 ?_; refine JD ?_; refine X0 ?_; refine JR ?_; refine ZB ?_; refine ZC ?_; refine ZB ?_; refine ZC ?_
   refine Z9 (hcon := h2) ?_; refine Z1 ?_; refine ZF ?_; refine ZF ?_; refine Zw (γ := 105) ?_; refine Zy ?_; refine Z0 ?_; refine JD ?_; refine X0 ?_; refine JR ?_; refine Z1 ?_; refine Z1 ?_; refine Z1 ?_
   refine Zn ?_; refine Z1 ?_; refine Zo ?_; refine Zo ?_; refine Zo ?_; refine Zo ?_; refine Zq ?_; refine Z1 ?_; refine Zo ?_; refine Zo ?_; refine Zo ?_; refine Zo ?_; refine Zq ?_; refine Z1 ?_; refine Zo ?_
   refine Zo ?_; refine Zo ?_; refine Zo ?_; refine Zq ?_; refine JD ?_; refine JF ?_; refine X3 ?_; refine JR ?_; refine Z1 ?_; refine Zb ?_; refine Z0 ?_; refine JD ?_
   exact ⟨(k + 1, acc2), ⟨by show k + 1 ≤ ns.length; omega, hg2⟩, by show ns.length - (k + 1) < ns.length - k; omega, X6 rfl JM ⟨rfl, rfl, rfl, trivial⟩⟩
  | some w =>
   have hpw := hpy w rfl
   have h5 := X8s v w hpv hpw (X4u hpv) (X4u hpw)
   have hev : ∃ e, e = eqV v w := ⟨_, rfl⟩
   obtain ⟨e, hev⟩ := hev
   simp only [Vv] at hg
   rw [← hev] at h5
   clear hpx hpy hpv hpw
   have hev2 : eqO (some v) (some w) = e := hev.symm
   clear hev
   obtain ⟨vk, vn, vd, vs, vl⟩ := v
   obtain ⟨wk, wn, wd, ws, wl⟩ := w
   simp only [Option.getD_some, Option.isSome_some, Xu] at h1 h2 h5
   cases b1 with
   | false =>
    have hg2 : acc2 ++ (YH R ⟨xid, xl, xp⟩ (ns.drop (k + 1)) ++ TL) = T := by rw [← hRR']; simpa [eqO] using hg
    clear hg hRR hRR' hev2
    refine X0 ?_; refine X0 ?_; refine JR ?_; refine Z1 ?_; refine ZB ?_; refine ZC ?_; refine Zd ?_; refine Z8 ?_; refine JD ?_; refine JT ?_; refine X3 ?_; refine X0 ?_; refine X4 ?_
    refine X0 ?_; refine JR ?_; refine ZB ?_; refine ZC ?_; refine Z1 ?_; refine Zj ?_; refine ZK ?_; refine Zw (γ := 102) ?_; refine Zy ?_; refine JD ?_; refine X0 ?_; refine JR ?_; refine ZB ?_; refine ZC ?_
    refine Z1 ?_; refine Zj ?_; refine ZK ?_; refine Zw (γ := 103) ?_; refine Zy ?_; refine JD ?_; refine X0 ?_; refine JR ?_; refine ZB ?_; refine ZC ?_; refine ZB ?_; refine ZC ?_; refine Z9 (hcon := h1) ?_
    refine Z1 ?_; refine ZF ?_; refine ZF ?_; refine Zw (γ := 104) ?_; refine Zy ?_; refine Z0 ?_; refine JD ?_; refine X0 ?_; refine JR ?_; refine ZB ?_; refine ZC ?_; refine ZB ?_; refine ZC ?_
    refine Z9 (hcon := h2) ?_; refine Z1 ?_; refine ZF ?_; refine ZF ?_; refine Zw (γ := 105) ?_; refine Zy ?_; refine Z0 ?_; refine JD ?_; refine X0 ?_; refine JR ?_; refine Z1 ?_; refine Z1 ?_; refine Z1 ?_
    refine Zn ?_; refine Z1 ?_; refine ZL ?_; refine ZB ?_; refine ZC ?_; refine Z9 (hcon := h3) ?_; refine Zn ?_; refine Z1 ?_; refine Zo ?_; refine Zo ?_; refine Zo ?_; refine Zo ?_; refine Zq ?_; refine Z1 ?_
    refine Zo ?_; refine Zo ?_; refine Zo ?_; refine Zo ?_; refine Zq ?_; refine JD ?_; refine JF ?_; refine X3 ?_; refine JR ?_; refine Z1 ?_; refine Zb ?_; refine Z0 ?_; refine JD ?_
    exact ⟨(k + 1, acc2), ⟨by show k + 1 ≤ ns.length; omega, hg2⟩, by show ns.length - (k + 1) < ns.length - k; omega, X6 rfl JM ⟨rfl, rfl, rfl, trivial⟩⟩
   | true =>
    cases b2 with
    | false =>
     have hg2 : acc2 ++ (YH R ⟨xid, xl, xp⟩ (ns.drop (k + 1)) ++ TL) = T := by rw [← hRR']; simpa [eqO] using hg
     clear hg hRR hRR' hev2
     refine X0 ?_; refine X0 ?_; refine JR ?_; refine Z1 ?_; refine ZB ?_; refine ZC ?_; refine Zd ?_; refine Z8 ?_; refine JD ?_; refine JT ?_; refine X3 ?_; refine X0 ?_; refine X4 ?_
     refine X0 ?_; refine JR ?_; refine ZB ?_; refine ZC ?_; refine Z1 ?_; refine Zj ?_; refine ZK ?_; refine Zw (γ := 102) ?_; refine Zy ?_; refine JD ?_; refine X0 ?_; refine JR ?_; refine ZB ?_; refine ZC ?_
     refine Z1 ?_; refine Zj ?_; refine ZK ?_; refine Zw (γ := 103) ?_; refine Zy ?_; refine JD ?_; refine X0 ?_; refine JR ?_; refine ZB ?_; refine ZC ?_; refine ZB ?_; refine ZC ?_; refine Z9 (hcon := h1) ?_
     refine Z1 ?_; refine ZF ?_; refine ZF ?_; refine Zw (γ := 104) ?_; refine Zy ?_; refine Z0 ?_; refine JD ?_; refine X0 ?_; refine JR ?_; refine ZB ?_; refine ZC ?_; refine ZB ?_; refine ZC ?_
     refine Z9 (hcon := h2) ?_; refine Z1 ?_; refine ZF ?_; refine ZF ?_; refine Zw (γ := 105) ?_; refine Zy ?_; refine Z0 ?_; refine JD ?_; refine X0 ?_; refine JR ?_; refine Z1 ?_; refine Z1 ?_; refine Z1 ?_
     refine Zn ?_; refine Z1 ?_; refine ZL ?_; refine ZB ?_; refine ZC ?_; refine Z9 (hcon := h3) ?_; refine Zn ?_; refine Z1 ?_; refine ZL ?_; refine ZB ?_; refine ZC ?_; refine Z9 (hcon := h4) ?_; refine Zn ?_; refine Z1 ?_
     refine Zo ?_; refine Zo ?_; refine Zo ?_; refine Zo ?_; refine Zq ?_; refine JD ?_; refine JF ?_; refine X3 ?_; refine JR ?_; refine Z1 ?_; refine Zb ?_; refine Z0 ?_; refine JD ?_
     exact ⟨(k + 1, acc2), ⟨by show k + 1 ≤ ns.length; omega, hg2⟩, by show ns.length - (k + 1) < ns.length - k; omega, X6 rfl JM ⟨rfl, rfl, rfl, trivial⟩⟩
    | true =>
     cases e with
     | false =>
      have hg2 : acc2 ++ (YH R ⟨xid, xl, xp⟩ (ns.drop (k + 1)) ++ TL) = T := by rw [← hRR']; simpa [hev2] using hg
      clear hg hRR hRR' hev2
      refine X0 ?_; refine X0 ?_; refine JR ?_; refine Z1 ?_; refine ZB ?_; refine ZC ?_; refine Zd ?_; refine Z8 ?_; refine JD ?_; refine JT ?_; refine X3 ?_; refine X0 ?_; refine X4 ?_
      refine X0 ?_; refine JR ?_; refine ZB ?_; refine ZC ?_; refine Z1 ?_; refine Zj ?_; refine ZK ?_; refine Zw (γ := 102) ?_; refine Zy ?_; refine JD ?_; refine X0 ?_; refine JR ?_; refine ZB ?_; refine ZC ?_
      refine Z1 ?_; refine Zj ?_; refine ZK ?_; refine Zw (γ := 103) ?_; refine Zy ?_; refine JD ?_; refine X0 ?_; refine JR ?_; refine ZB ?_; refine ZC ?_; refine ZB ?_; refine ZC ?_; refine Z9 (hcon := h1) ?_
      refine Z1 ?_; refine ZF ?_; refine ZF ?_; refine Zw (γ := 104) ?_; refine Zy ?_; refine Z0 ?_; refine JD ?_; refine X0 ?_; refine JR ?_; refine ZB ?_; refine ZC ?_; refine ZB ?_; refine ZC ?_
      refine Z9 (hcon := h2) ?_; refine Z1 ?_; refine ZF ?_; refine ZF ?_; refine Zw (γ := 105) ?_; refine Zy ?_; refine Z0 ?_; refine JD ?_; refine X0 ?_; refine JR ?_; refine Z1 ?_; refine Z1 ?_; refine Z1 ?_
      refine Zn ?_; refine Z1 ?_; refine ZL ?_; refine ZB ?_; refine ZC ?_; refine Z9 (hcon := h3) ?_; refine Zn ?_; refine Z1 ?_; refine ZL ?_; refine ZB ?_; refine ZC ?_; refine Z9 (hcon := h4) ?_; refine Zn ?_; refine Z1 ?_
      refine ZL ?_; refine ZL ?_; refine Z9 (hcon := h5) ?_; refine Zl ?_; refine Zn ?_; refine JD ?_; refine JF ?_; refine X3 ?_; refine JR ?_; refine Z1 ?_; refine Zb ?_; refine Z0 ?_; refine JD ?_
      exact ⟨(k + 1, acc2), ⟨by show k + 1 ≤ ns.length; omega, hg2⟩, by show ns.length - (k + 1) < ns.length - k; omega, X6 rfl JM ⟨rfl, rfl, rfl, trivial⟩⟩
     | true =>
      have hg2 : (acc2 ++ [(xid, yid)]) ++ (YH R ⟨xid, xl, xp⟩ (ns.drop (k + 1)) ++ TL) = T := by rw [← hRR']; simpa [hev2] using hg
      clear hg hRR hRR' hev2
      have happ : (acc2 ++ [(xid, yid)]).map Xc = acc2.map Xc ++ [Xc (xid, yid)] := by simp
      refine X0 ?_; refine X0 ?_; refine JR ?_; refine Z1 ?_; refine ZB ?_; refine ZC ?_; refine Zd ?_; refine Z8 ?_; refine JD ?_; refine JT ?_; refine X3 ?_; refine X0 ?_; refine X4 ?_
      refine X0 ?_; refine JR ?_; refine ZB ?_; refine ZC ?_; refine Z1 ?_; refine Zj ?_; refine ZK ?_; refine Zw (γ := 102) ?_; refine Zy ?_; refine JD ?_; refine X0 ?_; refine JR ?_; refine ZB ?_; refine ZC ?_
      refine Z1 ?_; refine Zj ?_; refine ZK ?_; refine Zw (γ := 103) ?_; refine Zy ?_; refine JD ?_; refine X0 ?_; refine JR ?_; refine ZB ?_; refine ZC ?_; refine ZB ?_; refine ZC ?_; refine Z9 (hcon := h1) ?_
      refine Z1 ?_; refine ZF ?_; refine ZF ?_; refine Zw (γ := 104) ?_; refine Zy ?_; refine Z0 ?_; refine JD ?_; refine X0 ?_; refine JR ?_; refine ZB ?_; refine ZC ?_; refine ZB ?_; refine ZC ?_
      refine Z9 (hcon := h2) ?_; refine Z1 ?_; refine ZF ?_; refine ZF ?_; refine Zw (γ := 105) ?_; refine Zy ?_; refine Z0 ?_; refine JD ?_; refine X0 ?_; refine JR ?_; refine Z1 ?_; refine Z1 ?_; refine Z1 ?_
      refine Zn ?_; refine Z1 ?_; refine ZL ?_; refine ZB ?_; refine ZC ?_; refine Z9 (hcon := h3) ?_; refine Zn ?_; refine Z1 ?_; refine ZL ?_; refine ZB ?_; refine ZC ?_; refine Z9 (hcon := h4) ?_; refine Zn ?_; refine Z1 ?_
      refine ZL ?_; refine ZL ?_; refine Z9 (hcon := h5) ?_; refine Zl ?_; refine Zn ?_; refine JD ?_; refine JT ?_; refine JR ?_; refine Z1 ?_; refine ZB ?_; refine ZC ?_; refine ZB ?_; refine ZC ?_; refine Zx ?_
      refine Z5 ?_; refine Z6 ?_; refine Z0 ?_; refine JD ?_; refine JR ?_; refine Z1 ?_; refine Zb ?_; refine Z0 ?_; refine JD ?_
      refine ⟨(k + 1, acc2 ++ [(xid, yid)]), ⟨by show k + 1 ≤ ns.length; omega, hg2⟩, by show ns.length - (k + 1) < ns.length - k; omega, ?_⟩
      dsimp only
      rw [happ]
      exact X6 rfl ⟨JL, JL, AVal.le_of_eq (by refine Eq.trans (b := AVal.own 130 (_ + _)) rfl ?_; simp only [List.length_append, List.length_map, List.length_cons, List.length_nil]), JL, JL, trivial⟩ ⟨rfl, rfl, rfl, trivial⟩
end Go.Fw
