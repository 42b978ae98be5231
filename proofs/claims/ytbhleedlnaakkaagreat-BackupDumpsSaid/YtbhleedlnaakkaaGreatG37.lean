/- The reference's Dump. -/
import Derived.Test.YtbhleedlnaakkaaGreatG31
import Derived.Test.YtbhleedlnaakkaaGreatG36
set_option maxHeartbeats 32000000
namespace Go.Fw
open Go Go.Proofs
set_option maxRecDepth 100000
set_option linter.unusedVariables false
set_option linter.unusedSimpArgs false
theorem XcZ (L : List (List UInt8)) (x : List UInt8) : XL (L ++ [x]) = XL L ++ Y2 x := by simp [XL]
theorem X75 {α : Type} {f : α → List UInt8} {H : List (List UInt8)} {l : List α} {i : Nat} {x : α} (h : l[i]? = some x) : Xw ++ XL (H ++ (l.take (i + 1)).map f) = (Xw ++ XL (H ++ (l.take i).map f)) ++ Y2 (f x) := by
 rw [X2c h, List.map_append, List.map_cons, List.map_nil, ← List.append_assoc, XcZ, List.append_assoc]
theorem Xgb (g : Gra) (rs : List Rul) (hg : GraHold g) (hr : rs.length ≤ 9223372036854775807) : Con Tryz.prog 14 [] [Y4 g, .d (.sl 6 (rs.map Xp))] [] (.tup [.d (Xa (V9 g rs)), ai (Yy g rs)]) := by
 obtain ⟨ns, es, nn, ne⟩ := g
 refine X9 (xs := [.d (Xa (V9 ⟨ns, es, nn, ne⟩ rs)), ai (Yy ⟨ns, es, nn, ne⟩ rs)]) Tryz.func14 rfl Tryz.ntmps14 rfl rfl rfl (fun E => ?_)
 have hck := Xax ⟨ns, es, nn, ne⟩ hg
 have hvl := X91 rs hr
 unfold Y4 at hck ⊢
 simp only at hck ⊢
 by_cases h0 : Yh ⟨ns, es, nn, ne⟩ = 0
 case neg =>
  rw [(X4T h0).1, (X4T h0).2]
  generalize Yh ⟨ns, es, nn, ne⟩ = e at *
  refine X0 ?_; refine JR ?_; refine ZA (γ := 100) ?_; refine Z0 ?_; refine Z0 ?_; refine JD ?_; refine X0 ?_; refine X0 ?_; refine JR ?_; refine ZL ?_; refine Z9 (hcon := hck) ?_; refine Z0 ?_; refine JD ?_
  refine X0 ?_; refine JR ?_; refine Z1 ?_; refine Zv ?_; refine JD ?_; refine JT ?_; refine X0 ?_; refine JR ?_; refine Z1 ?_; refine Z0 ?_; refine Z0 ?_; refine JD ?_
  exact X1 ⟨_, Xh 4 (y := .d (Xa [])) (AVal.le_nil 1), ⟨rfl, rfl, trivial⟩, X3 _⟩
 rw [h0] at hck
 cases hsv : Uj rs with
 | false =>
  rw [(X4s h0 hsv).1, (X4s h0 hsv).2]
  rw [hsv] at hvl
  refine X0 ?_; refine JR ?_; refine ZA (γ := 100) ?_; refine Z0 ?_; refine Z0 ?_; refine JD ?_; refine X0 ?_; refine X0 ?_; refine JR ?_; refine ZL ?_; refine Z9 (hcon := hck) ?_; refine Z0 ?_; refine JD ?_
  refine X0 ?_; refine JR ?_; refine Z1 ?_; refine Zv ?_; refine JD ?_; refine JF ?_; refine X2 ?_; refine X0 ?_; refine X0 ?_; refine JR ?_; refine Z1 ?_; refine Z9 (hcon := hvl) ?_; refine Zu ?_
  refine JD ?_; refine JT ?_; refine X0 ?_; refine JR ?_; refine Z0 ?_; refine Z0 ?_; refine JD ?_
  exact X1 ⟨_, Xh 4 (y := .d (Xa [])) (AVal.le_nil 1), ⟨rfl, rfl, trivial⟩, X3 _⟩
 | true =>
  rw [(X4S h0 hsv).1, (X4S h0 hsv).2]
  rw [hsv] at hvl
  have G := X3g h0
  have Sk := X3Y hsv
  obtain ⟨hW1, hW2⟩ := X89 h0 hg
  have n1 : ns.length ≤ 2000 := G.nl
  have n2 : es.length ≤ 4000 := G.el
  have n3 : rs.length ≤ 40 := Sk.1
  have nn1 : 1 ≤ nn ∧ nn ≤ 1000001 := G.nn
  have ne1 : 1 ≤ ne ∧ ne ≤ 1000001 := G.ne
  simp only at hW1 hW2
  have hlr : (rs.map Xp).length = rs.length := by simp
  have hln : (ns.map Xi).length = ns.length := by simp
  have hle : (es.map Xr).length = es.length := by simp
  obtain ⟨H, hH, hHl⟩ : ∃ H, YH [nn, ne, ((rs.map Xp).length : Nat), ((ns.map Xi).length : Nat), ((es.map Xr).length : Nat)] = H ∧ H.length ≤ 50 := ⟨_, rfl, X2W fun x hx => by
   simp only [List.mem_cons, List.mem_nil_iff, or_false] at hx
   rcases hx with rfl | rfl | rfl | rfl | rfl <;> omega⟩
  have hI : V0 ⟨ns, es, nn, ne⟩ rs = [H] ++ rs.map XN ++ ns.map Y1 ++ es.map Yp := by rw [← hH, hlr, hln, hle]; simp [V0]
  rw [hI]
  have hnum := (Xh3 [nn, ne, ((rs.map Xp).length : Nat), ((ns.map Xi).length : Nat), ((es.map Xr).length : Nat)] (by simp) (fun x hx => by
   simp only [List.mem_cons, List.mem_nil_iff, or_false] at hx
   rcases hx with rfl | rfl | rfl | rfl | rfl <;> omega)).data rfl
  rw [hH] at hnum
  simp only [List.map_cons, List.map_nil] at hnum
  have hmg := Xdt
  have hf0 := X52 Xw H (by omega) (by decide)
  have e0 : Xw ++ Y2 H = Xw ++ XL [H] := by simp [XL]
  rw [e0] at hf0
  generalize hU : Xw ++ XL [H] = U at *
  refine X0 ?_; refine JR ?_; refine ZA (γ := 100) ?_; refine Z0 ?_; refine Z0 ?_; refine JD ?_; refine X0 ?_; refine X0 ?_; refine JR ?_; refine ZL ?_; refine Z9 (hcon := hck) ?_; refine Z0 ?_; refine JD ?_
  refine X0 ?_; refine JR ?_; refine Z1 ?_; refine Zv ?_; refine JD ?_; refine JF ?_; refine X2 ?_; refine X0 ?_; refine X0 ?_; refine JR ?_; refine Z1 ?_; refine Z9 (hcon := hvl) ?_; refine Zu ?_
  refine JD ?_; refine JF ?_; refine X2 ?_; refine X0 ?_; refine JR ?_; refine Z9 (hcon := hmg) ?_; refine ZB ?_; refine ZC ?_; refine ZB ?_; refine ZC ?_; refine Z1 ?_; refine Zd ?_; refine ZB ?_; refine ZC ?_
  refine Zd ?_; refine ZB ?_; refine ZC ?_; refine Zd ?_; refine Z5 ?_; refine Z9 (hcon := hnum) ?_; refine Z9 (hcon := hf0) ?_; refine Z0 ?_; refine JD ?_; refine X0 ?_; refine X0 ?_; refine JR ?_; refine Z0 ?_
  refine JD ?_; refine X4 ?_
  subst hU
  refine Xy (fun i : Nat => i ≤ rs.length) (fun i => ⟨79, [(1, .d (.sl 6 (rs.map Xp))), (2, .ptr 100 0), (7, .own 130 ((Xw ++ XL ([H] ++ (rs.take i).map XN)).map X6).length), (8, ai i)], [(100, .box [.d (.sl 3 (ns.map Xi)), .d (.sl 5 (es.map Xr)), ai nn, ai ne]), (130, .row 1 ((Xw ++ XL ([H] ++ (rs.take i).map XN)).map X6))]⟩) (fun i => rs.length - i) 0 (Nat.zero_le _)
   (by rw [List.take_zero, List.map_nil, List.append_nil]; exact X8 rfl ⟨JL, JL, JL, JL, trivial⟩ ⟨rfl, rfl, trivial⟩) ?_
  intro i hi
  by_cases hil : i < rs.length
  case pos =>
   have hn : (i : Int) < (rs.map Xp).length := by omega
   obtain ⟨x, hxx⟩ := Xu (l := rs) hil
   have hxc : (rs.map Xp)[i]? = some (Xp x) := XS hxx
   have hxm := List.mem_of_getElem? hxx
   have hst := X75 (f := XN) (H := [H]) hxx
   have hub : (Xw ++ XL ([H] ++ (rs.take i).map XN)).length ≤ 500000000 := by
    refine Nat.le_trans (X40 (k := 3000) (n := 6100) (fun b hb => ?_) (by omega) (by simp only [List.length_append, List.length_map, List.length_take, List.length_cons, List.length_nil]; omega)) (by omega)
    simp only [List.mem_append, List.mem_cons, List.mem_nil_iff, or_false, List.mem_map] at hb
    rcases hb with rfl | ⟨r, hr, rfl⟩
    ·omega
    ·have := (Sk.2 r (List.mem_of_mem_take hr)).2; omega
   have hbl : (XN x).length ≤ 65536 := by have := (Sk.2 x hxm).2; omega
   have hpc := XgE x
   have hfr := X52 (Xw ++ XL ([H] ++ (rs.take i).map XN)) (XN x) hbl (by omega)
   rw [← hst] at hfr
   generalize Xw ++ XL ([H] ++ (rs.take i).map XN) = u at *
   generalize hu' : Xw ++ XL ([H] ++ (rs.take (i + 1)).map XN) = u' at *
   generalize XN x = v at *
   obtain ⟨k, n, name, key, src, dst⟩ := x
   simp only [XW, Xp] at hpc hxc
   refine X0 ?_; refine X0 ?_; refine JR ?_; refine Z1 ?_; refine Z1 ?_; refine Zd ?_; refine Z8 ?_; refine JD ?_; refine JT ?_; refine X2 ?_; refine X0 ?_; refine X4 ?_; refine JR ?_
   refine Z1 ?_; refine Z1 ?_; refine Z1 ?_; refine Zj ?_; refine ZK ?_; refine Z9 (hcon := hpc) ?_; refine Z9 (hcon := hfr) ?_; refine Z0 ?_; refine JD ?_; refine JR ?_; refine Z1 ?_; refine Zb ?_; refine Z0 ?_
   refine JD ?_
   refine ⟨i + 1, hil, by omega, ?_⟩
   rw [hu']
   exact X8 rfl JM ⟨rfl, rfl, trivial⟩
  obtain rfl : i = rs.length := by omega
  have hn : ¬ ((rs.length : Nat) : Int) < (rs.map Xp).length := by omega
  rw [List.take_length]
  refine X0 ?_; refine X0 ?_; refine JR ?_; refine Z1 ?_; refine Z1 ?_; refine Zd ?_; refine Z8 ?_; refine JD ?_; refine JF ?_; refine Xj ?_; refine X0 ?_; refine X0 ?_; refine JR ?_; refine Z0 ?_
  refine JD ?_; refine X4 ?_
  refine Xy (fun i : Nat => i ≤ ns.length) (fun i => ⟨79, [(1, .d (.sl 6 (rs.map Xp))), (2, .ptr 100 0), (7, .own 130 ((Xw ++ XL (([H] ++ rs.map XN) ++ (ns.take i).map Y1)).map X6).length), (9, ai i)], [(100, .box [.d (.sl 3 (ns.map Xi)), .d (.sl 5 (es.map Xr)), ai nn, ai ne]), (130, .row 1 ((Xw ++ XL (([H] ++ rs.map XN) ++ (ns.take i).map Y1)).map X6))]⟩) (fun i => ns.length - i) 0 (Nat.zero_le _)
   (by rw [List.take_zero, List.map_nil, List.append_nil]; exact X8 rfl ⟨JL, JL, JL, JL, trivial⟩ ⟨rfl, rfl, trivial⟩) ?_
  intro i hi
  by_cases hil : i < ns.length
  case pos =>
   have hn : (i : Int) < (ns.map Xi).length := by omega
   obtain ⟨x, hxx⟩ := Xu (l := ns) hil
   have hxc : (ns.map Xi)[i]? = some (Xi x) := XS hxx
   have hxm := List.mem_of_getElem? hxx
   have hst := X75 (f := Y1) (H := ([H] ++ rs.map XN)) hxx
   have hub : (Xw ++ XL (([H] ++ rs.map XN) ++ (ns.take i).map Y1)).length ≤ 500000000 := by
    refine Nat.le_trans (X40 (k := 3000) (n := 6100) (fun b hb => ?_) (by omega) (by simp only [List.length_append, List.length_map, List.length_take, List.length_cons, List.length_nil]; omega)) (by omega)
    simp only [List.mem_append, List.mem_cons, List.mem_nil_iff, or_false, List.mem_map] at hb
    rcases hb with (rfl | ⟨r, hr, rfl⟩) | ⟨n, hn, rfl⟩
    ·omega
    ·have := (Sk.2 r hr).2; omega
    ·exact X4U (hW1 n (List.mem_of_mem_take hn))
   have hbl : (Y1 x).length ≤ 65536 := by have := X4U (hW1 x hxm); omega
   have hpc := Xhd x (hW1 x hxm)
   have hfr := X52 (Xw ++ XL (([H] ++ rs.map XN) ++ (ns.take i).map Y1)) (Y1 x) hbl (by omega)
   rw [← hst] at hfr
   generalize Xw ++ XL (([H] ++ rs.map XN) ++ (ns.take i).map Y1) = u at *
   generalize hu' : Xw ++ XL (([H] ++ rs.map XN) ++ (ns.take (i + 1)).map Y1) = u' at *
   generalize Y1 x = v at *
   obtain ⟨id, labels, props⟩ := x
   simp only [Ub, Xi] at hpc hxc
   refine X0 ?_; refine X0 ?_; refine JR ?_; refine Z1 ?_; refine ZB ?_; refine ZC ?_; refine Zd ?_; refine Z8 ?_; refine JD ?_; refine JT ?_; refine X2 ?_; refine X0 ?_; refine X4 ?_
   refine JR ?_; refine Z1 ?_; refine ZB ?_; refine ZC ?_; refine Z1 ?_; refine Zj ?_; refine ZK ?_; refine Z9 (hcon := hpc) ?_; refine Z9 (hcon := hfr) ?_; refine Z0 ?_; refine JD ?_; refine JR ?_; refine Z1 ?_
   refine Zb ?_; refine Z0 ?_; refine JD ?_
   refine ⟨i + 1, hil, by omega, ?_⟩
   rw [hu']
   exact X8 rfl JM ⟨rfl, rfl, trivial⟩
  obtain rfl : i = ns.length := by omega
  have hn : ¬ ((ns.length : Nat) : Int) < (ns.map Xi).length := by omega
  rw [List.take_length]
  refine X0 ?_; refine X0 ?_; refine JR ?_; refine Z1 ?_; refine ZB ?_; refine ZC ?_; refine Zd ?_; refine Z8 ?_; refine JD ?_; refine JF ?_; refine Xj ?_; refine X0 ?_; refine X0 ?_; refine JR ?_
  refine Z0 ?_; refine JD ?_; refine X4 ?_
  refine Xy (fun i : Nat => i ≤ es.length) (fun i => ⟨79, [(1, .d (.sl 6 (rs.map Xp))), (2, .ptr 100 0), (7, .own 130 ((Xw ++ XL (([H] ++ rs.map XN ++ ns.map Y1) ++ (es.take i).map Yp)).map X6).length), (10, ai i)], [(100, .box [.d (.sl 3 (ns.map Xi)), .d (.sl 5 (es.map Xr)), ai nn, ai ne]), (130, .row 1 ((Xw ++ XL (([H] ++ rs.map XN ++ ns.map Y1) ++ (es.take i).map Yp)).map X6))]⟩) (fun i => es.length - i) 0 (Nat.zero_le _)
   (by rw [List.take_zero, List.map_nil, List.append_nil]; exact X8 rfl ⟨JL, JL, JL, JL, trivial⟩ ⟨rfl, rfl, trivial⟩) ?_
  intro i hi
  by_cases hil : i < es.length
  case pos =>
   have hn : (i : Int) < (es.map Xr).length := by omega
   obtain ⟨x, hxx⟩ := Xu (l := es) hil
   have hxc : (es.map Xr)[i]? = some (Xr x) := XS hxx
   have hxm := List.mem_of_getElem? hxx
   have hst := X75 (f := Yp) (H := ([H] ++ rs.map XN ++ ns.map Y1)) hxx
   have hub : (Xw ++ XL (([H] ++ rs.map XN ++ ns.map Y1) ++ (es.take i).map Yp)).length ≤ 500000000 := by
    refine Nat.le_trans (X40 (k := 3000) (n := 6100) (fun b hb => ?_) (by omega) (by simp only [List.length_append, List.length_map, List.length_take, List.length_cons, List.length_nil]; omega)) (by omega)
    simp only [List.mem_append, List.mem_cons, List.mem_nil_iff, or_false, List.mem_map] at hb
    rcases hb with ((rfl | ⟨r, hr, rfl⟩) | ⟨n, hn, rfl⟩) | ⟨e, he, rfl⟩
    ·omega
    ·have := (Sk.2 r hr).2; omega
    ·exact X4U (hW1 n hn)
    ·exact X7d (hW2 e (List.mem_of_mem_take he))
   have hbl : (Yp x).length ≤ 65536 := by have := X7d (hW2 x hxm); omega
   have hpc := XfG x (hW2 x hxm)
   have hfr := X52 (Xw ++ XL (([H] ++ rs.map XN ++ ns.map Y1) ++ (es.take i).map Yp)) (Yp x) hbl (by omega)
   rw [← hst] at hfr
   generalize Xw ++ XL (([H] ++ rs.map XN ++ ns.map Y1) ++ (es.take i).map Yp) = u at *
   generalize hu' : Xw ++ XL (([H] ++ rs.map XN ++ ns.map Y1) ++ (es.take (i + 1)).map Yp) = u' at *
   generalize Yp x = v at *
   obtain ⟨id, src, dst, typ, props⟩ := x
   simp only [Xr] at hpc hxc
   refine X0 ?_; refine X0 ?_; refine JR ?_; refine Z1 ?_; refine ZB ?_; refine ZC ?_; refine Zd ?_; refine Z8 ?_; refine JD ?_; refine JT ?_; refine X2 ?_; refine X0 ?_; refine X4 ?_
   refine JR ?_; refine Z1 ?_; refine ZB ?_; refine ZC ?_; refine Z1 ?_; refine Zj ?_; refine ZK ?_; refine Z9 (hcon := hpc) ?_; refine Z9 (hcon := hfr) ?_; refine Z0 ?_; refine JD ?_; refine JR ?_; refine Z1 ?_
   refine Zb ?_; refine Z0 ?_; refine JD ?_
   refine ⟨i + 1, hil, by omega, ?_⟩
   rw [hu']
   exact X8 rfl JM ⟨rfl, rfl, trivial⟩
  obtain rfl : i = es.length := by omega
  have hn : ¬ ((es.length : Nat) : Int) < (es.map Xr).length := by omega
  rw [List.take_length]
  refine X0 ?_; refine X0 ?_; refine JR ?_; refine Z1 ?_; refine ZB ?_; refine ZC ?_; refine Zd ?_; refine Z8 ?_; refine JD ?_; refine JF ?_; refine Xj ?_; refine X0 ?_; refine JR ?_; refine Z1 ?_
  refine Z0 ?_; refine Z0 ?_; refine JD ?_
  refine Xm (Y0 130 rfl) ?_
  refine Xm (YC 4 130 rfl rfl rfl) ?_
  exact X1 ⟨_, St.le_refl _, ⟨rfl, rfl, trivial⟩, X3 _⟩
end Go.Fw
namespace Go.Fw
open Go Go.Proofs
set_option maxRecDepth 100000
set_option linter.unusedVariables false
set_option linter.unusedSimpArgs false
theorem Xfy (g : Gra) (rs : List Rul) (hg : GraHold g) (hr : rs.length ≤ 9223372036854775807) : Con Tryz.prog 3 [] [Y4 g, .d (.sl 6 (rs.map Xp))] [] (ab true) := by
 refine X9 (xs := [ab true]) Tryz.func3 rfl Tryz.ntmps3 rfl rfl rfl (fun E => ?_)
 have ha := X4C
 have hlr : (rs.map Xp).length = rs.length := by simp
 have hs := X5Y g 30 40 hg
 generalize X2F g 30 40 = sm at *
 have h1 := X2m g rs hg hr
 have h2 := Xgb g rs hg hr
 have h3 := X9W (V9 g rs) (V9 g rs)
 rw [decide_eq_true rfl] at h3
 generalize V9 g rs = D at *
 generalize Yy g rs = e at *
 have he : e = e := rfl
 clear hg
 obtain ⟨ns, es, nn, ne⟩ := g
 unfold Y4 at *
 simp only at *
 cases sm with
 | false =>
  refine X0 ?_; refine JR ?_; refine ZA (γ := 100) ?_; refine Z0 ?_; refine JD ?_; refine X0 ?_; refine X0 ?_; refine JR ?_; refine ZL ?_; refine Z9 (hcon := hs) ?_; refine Zu ?_; refine Z1 ?_; refine Zo ?_
  refine Zo ?_; refine Zo ?_; refine Zn ?_; refine JD ?_; refine JT ?_; refine X0 ?_; refine JR ?_; refine Z9 (hcon := ha) ?_; refine Z0 ?_; refine JD ?_
  (show AWP Tryz.prog E _ _ _; refine X1 ?_; exact (show Yo _ _ _ _ _ from ⟨_, St.le_refl _, ⟨rfl, trivial⟩, X3 _⟩))
 | true =>
  by_cases hl : (60 : Int) < ((rs.map Xp).length : Nat)
  ·refine X0 ?_; refine JR ?_; refine ZA (γ := 100) ?_; refine Z0 ?_; refine JD ?_; refine X0 ?_; refine X0 ?_; refine JR ?_; refine ZL ?_; refine Z9 (hcon := hs) ?_; refine Zu ?_; refine Z1 ?_; refine Z1 ?_
   refine Zd ?_; refine Zs ?_; refine Zq ?_; refine JD ?_; refine JT ?_; refine X0 ?_; refine JR ?_; refine Z9 (hcon := ha) ?_; refine Z0 ?_; refine JD ?_
   (show AWP Tryz.prog E _ _ _; refine X1 ?_; exact (show Yo _ _ _ _ _ from ⟨_, St.le_refl _, ⟨rfl, trivial⟩, X3 _⟩))
  ·refine X0 ?_; refine JR ?_; refine ZA (γ := 100) ?_; refine Z0 ?_; refine JD ?_; refine X0 ?_; refine X0 ?_; refine JR ?_; refine ZL ?_; refine Z9 (hcon := hs) ?_; refine Zu ?_; refine Z1 ?_; refine Z1 ?_
   refine Zd ?_; refine Zs ?_; refine Zq ?_; refine JD ?_; refine JF ?_; refine X2 ?_; refine X0 ?_; refine JR ?_; refine ZL ?_; refine Z1 ?_; refine Z9 (hcon := h1) ?_; refine Z1 ?_; refine ZF ?_; refine ZF ?_
   refine Z0 ?_; refine Z0 ?_; refine JD ?_; refine X0 ?_; refine JR ?_; refine ZL ?_; refine Z1 ?_; refine Z9 (hcon := h2) ?_; refine Z1 ?_; refine ZF ?_; refine ZF ?_; refine Z0 ?_; refine Z0 ?_; refine JD ?_
   refine X0 ?_; refine JR ?_; refine Z1 ?_; refine Z1 ?_; refine Z9 (hcon := h3) ?_; refine Z1 ?_; refine Z1 ?_; refine Z1 ?_; refine Zl ?_; refine Zn ?_; refine Z1 ?_; refine Z9 (hcon := ha) ?_; refine Zn ?_
   refine Z0 ?_; refine JD ?_
   (show AWP Tryz.prog E _ _ _; refine X1 ?_; exact (show Yo _ _ _ _ _ from ⟨_, St.le_refl _, ⟨rfl, trivial⟩, X3 _⟩))
end Go.Fw
