/- The law VerifyPairs. -/
import Derived.Test.YtbhleedlnaakkaaGreatL26
set_option maxHeartbeats 64000000
namespace Go.Fw
open Go Go.Proofs
set_option maxRecDepth 100000
set_option linter.unusedVariables false
set_option linter.unusedSimpArgs false
theorem XbM (label key : List UInt8) (g : Gra) (hg : GraHold g) : Con Tryz.prog 10 [] [Xt label, Xt key, Xp g] [] (ab true) := by
 refine X9 (xs := [ab true]) Tryz.func10 rfl Tryz.ntmps10 rfl rfl rfl (fun E => ?_)
 have ha := X3z
 have hfw := X5l g hg
 have h1 := X0Y ⟨1, 0, label, key, [], []⟩ g hg
 have hlen := X5I (r := ⟨1, 0, label, key, [], []⟩) (g := g)
 generalize Vu g = fw at *
 cases fw with
 | false =>
  clear h1 hg
  obtain ⟨ns, es, nn, ne⟩ := g
  simp only [Xp] at *
  refine X0 ?_; refine JR ?_; refine ZA (γ := 100) ?_; refine Z0 ?_; refine JD ?_; refine X0 ?_; refine X0 ?_; refine JR ?_; refine ZL ?_; refine Z9 (hcon := hfw) ?_; refine Zu ?_; refine JD ?_; refine JT ?_
  refine X0 ?_; refine JR ?_; refine Z9 (hcon := ha) ?_; refine Z0 ?_; refine JD ?_
  (show AWP Tryz.prog E _ _ _; refine X1 ?_; exact (show Xk _ _ _ _ _ from ⟨_, St.le_refl _, ⟨rfl, trivial⟩, X2 _⟩))
 | true =>
 by_cases hL : ofS ⟨1, 0, label, key, [], []⟩ g = []
 ·rw [hL] at h1
  clear hg hL hlen
  obtain ⟨ns, es, nn, ne⟩ := g
  simp only [Xp, Y0, List.map_nil] at *
  refine X0 ?_; refine JR ?_; refine ZA (γ := 100) ?_; refine Z0 ?_; refine JD ?_; refine X0 ?_; refine X0 ?_; refine JR ?_; refine ZL ?_; refine Z9 (hcon := hfw) ?_; refine Zu ?_; refine JD ?_; refine JF ?_
  refine X3 ?_; refine X0 ?_; refine JR ?_; refine Z1 ?_; refine Z1 ?_; refine Zx ?_; refine Zw (γ := 101) ?_; refine Zy ?_; refine JD ?_; refine X0 ?_; refine JR ?_; refine ZL ?_; refine ZL ?_
  refine Z9 (hcon := h1) ?_; refine Z0 ?_; refine JD ?_; refine X0 ?_; refine X0 ?_; refine JR ?_; refine Z1 ?_; refine Zd ?_; refine Zs ?_; refine Z1 ?_; refine Zo ?_; refine Zo ?_; refine Zo ?_; refine Zo ?_
  refine Zp ?_; refine Zp ?_; refine Zp ?_; refine Zo ?_; refine Zq ?_; refine JD ?_; refine JF ?_; refine X3 ?_; refine X0 ?_; refine X0 ?_; refine JR ?_; refine Z0 ?_; refine JD ?_; refine X4 ?_
  refine Xs (ι := Unit) (fun _ => True) (fun _ => ⟨187, [(8, .d (.sl 2 [])), (9, ai 0)], []⟩) (fun _ => 0) () trivial
   (X7 rfl JM trivial) ?_
  rintro _ _
  have hn : ¬ (0 : Int) < (([] : List (List D)).length : Nat) := by simp
  refine X0 ?_; refine X0 ?_; refine JR ?_; refine Z1 ?_; refine Z1 ?_; refine Zd ?_; refine Z8 ?_; refine JD ?_; refine JF ?_; refine Xo ?_; refine X0 ?_; refine JR ?_; refine Z9 (hcon := ha) ?_
  refine Z0 ?_; refine JD ?_
  (show AWP Tryz.prog E _ _ _; refine X1 ?_; exact (show Xk _ _ _ _ _ from ⟨_, St.le_refl _, ⟨rfl, trivial⟩, X2 _⟩))
 obtain ⟨c1, c2, c3⟩ := X8A hL
 have k1 := X7A ⟨1, 0, label, key, [], []⟩
 rw [c1] at k1
 have k2 := X37 g hg
 rw [c2] at k2
 have hLp : ofS ⟨1, 0, label, key, [], []⟩ g = XQ (XE ⟨1, 0, label, key, [], []⟩ g.nodes) := c3.trans (if_pos rfl)
 rw [hLp] at h1 hL hlen
 have hf := X0q c2
 have hfacts := fun p => X8u (r := ⟨1, 0, label, key, [], []⟩) c2 (p := p)
 have hlex := fun i j p q => Xbx (r := ⟨1, 0, label, key, [], []⟩) c2 (i := i) (j := j) (p := p) (q := q)
 have htr := fun a b c => X6W (r := ⟨1, 0, label, key, [], []⟩) c2 (a := a) (b := b) (c := c)
 have hn7 := fun id => X3R g id (by have := hf.nl; omega) hf.nodes
 have hfn := hf.nodes
 generalize XQ (XE ⟨1, 0, label, key, [], []⟩ g.nodes) = L at *
 replace hlex : ∀ {i j : Nat} {p q : Int × Int}, L[i]? = some p → L[j]? = some q → i < j → X2h p q := fun {i j p q} a b c => hlex i j p q a b c
 replace htr : ∀ {a b c : Int}, (a, b) ∈ L → (a, c) ∈ L → b < c → (b, c) ∈ L := fun {a b c} x y z => htr a b c x y z
 have hLm : (L.map Xf).length = L.length := by simp
 have hL0 : (0 : Int) < (L.map Xf).length := by
  have : L.length ≠ 0 := fun e => hL (List.eq_nil_of_length_eq_zero e)
  omega
 clear hg c1 c2 c3 hLp hf hL
 obtain ⟨ns, es, nn, ne⟩ := g
 simp only [Xp, Y0] at *
 refine X0 ?_; refine JR ?_; refine ZA (γ := 100) ?_; refine Z0 ?_; refine JD ?_; refine X0 ?_; refine X0 ?_; refine JR ?_; refine ZL ?_; refine Z9 (hcon := hfw) ?_; refine Zu ?_; refine JD ?_; refine JF ?_
 refine X3 ?_; refine X0 ?_; refine JR ?_; refine Z1 ?_; refine Z1 ?_; refine Zx ?_; refine Zw (γ := 101) ?_; refine Zy ?_; refine JD ?_; refine X0 ?_; refine JR ?_; refine ZL ?_; refine ZL ?_
 refine Z9 (hcon := h1) ?_; refine Z0 ?_; refine JD ?_; refine X0 ?_; refine X0 ?_; refine JR ?_; refine Z1 ?_; refine Zd ?_; refine Zs ?_; refine Z1 ?_; refine ZL ?_; refine Z9 (hcon := k1) ?_; refine Zv ?_
 refine Z1 ?_; refine ZL ?_; refine Z9 (hcon := k2) ?_; refine Zv ?_; refine Zq ?_; refine Zn ?_; refine JD ?_; refine JF ?_; refine X3 ?_; refine X0 ?_; refine X0 ?_; refine JR ?_; refine Z0 ?_
 refine JD ?_; refine X4 ?_
 clear hfw h1 k1 k2
 refine Xs (fun i : Nat => i ≤ L.length) (fun i => ⟨187, [(0, Xt label), (1, Xt key), (5, .ptr 100 0), (8, .d (.sl 2 (L.map Xf))), (9, ai i)], [(100, .box [.d (.sl 3 (ns.map X8)), .d (.sl 5 (es.map Xi)), ai nn, ai ne])]⟩) (fun i => L.length - i) 0 (Nat.zero_le _)
  (X7 rfl JM ⟨rfl, trivial⟩) ?_
 intro i hi
 by_cases hil : i < L.length
 case neg =>
  have hn : ¬ (i : Int) < (L.map Xf).length := by omega
  refine X0 ?_; refine X0 ?_; refine JR ?_; refine Z1 ?_; refine Z1 ?_; refine Zd ?_; refine Z8 ?_; refine JD ?_; refine JF ?_; refine Xo ?_; refine X0 ?_; refine JR ?_; refine Z9 (hcon := ha) ?_
  refine Z0 ?_; refine JD ?_
  (show AWP Tryz.prog E _ _ _; refine X1 ?_; exact (show Xk _ _ _ _ _ from ⟨_, St.le_refl _, ⟨rfl, trivial⟩, X2 _⟩))
 have hn : (i : Int) < (L.map Xf).length := by omega
 obtain ⟨p, hp⟩ := Xm (l := L) hil
 have hpc : (L.map Xf)[i]? = some (Xf p) := Xr hp
 obtain ⟨na, nb, va, vb, e1, e2, hlt, l1, l2, p1, p2, heq, pl1, pl2⟩ := hfacts p (List.mem_of_getElem? hp)
 obtain ⟨pa, pb⟩ := p
 simp only [Xf] at hpc e1 e2 hlt
 have f1 := hfn na (List.mem_of_find?_eq_some e1)
 have f2 := hfn nb (List.mem_of_find?_eq_some e2)
 have n1 := hn7 pa
 have n2 := hn7 pb
 rw [e1] at n1
 rw [e2] at n2
 have b1 := X6m na label (by have := f1.1; omega)
 have b2 := X6m nb label (by have := f2.1; omega)
 rw [l1] at b1
 rw [l2] at b2
 have q1 := X6b na.props key (by have := f1.2.1; omega)
 have q2 := X6b nb.props key (by have := f2.2.1; omega)
 rw [p1] at q1
 rw [p2] at q2
 have he := XaF va vb pl1 pl2 (X5z pl1) (X5z pl2)
 rw [heq] at he
 obtain ⟨aid, al, ap⟩ := na
 obtain ⟨bid, bl, bp⟩ := nb
 obtain ⟨ak, an, ad, as_, al2⟩ := va
 obtain ⟨bk, bn, bd, bs, bl2⟩ := vb
 simp only [Option.getD_some, Option.isSome_some, Yi, Xn] at n1 n2 b1 b2 q1 q2 he
 have hge : ¬ pb ≤ pa := by omega
 clear hn7 hfn e1 e2 l1 l2 p1 p2 heq pl1 pl2 f1 f2
 have hz2 : ¬ (if true = true then (2 : Int) else 0) ≠ 2 := by decide
 refine X0 ?_; refine X0 ?_; refine JR ?_; refine Z1 ?_; refine Z1 ?_; refine Zd ?_; refine Z8 ?_; refine JD ?_; refine JT ?_; refine X3 ?_; refine X0 ?_; refine X4 ?_; refine X0 ?_
 refine JR ?_; refine ZL ?_; refine Z1 ?_; refine Z1 ?_; refine Zj ?_; refine Z0l (n := 2) (sz := 1) (k := 0) ?_; refine Zk ?_; refine Z9 (hcon := n1) ?_; refine Z1 ?_; refine ZF ?_; refine ZF ?_; refine Zw (γ := 101) ?_
 refine Zy ?_; refine Z0 ?_; refine JD ?_; refine X0 ?_; refine JR ?_; refine ZL ?_; refine Z1 ?_; refine Z1 ?_; refine Zj ?_; refine Z0l (n := 2) (sz := 1) (k := 1) ?_; refine Zk ?_; refine Z9 (hcon := n2) ?_
 refine Z1 ?_; refine ZF ?_; refine ZF ?_; refine Zw (γ := 102) ?_; refine Zy ?_; refine Z0 ?_; refine JD ?_; refine X0 ?_; refine X0 ?_
 clear n1 n2
 refine JR ?_; refine Z1 ?_; refine Zu ?_; refine Z1 ?_; refine Z1 ?_; refine Zu ?_; refine Zq ?_; refine Z1 ?_; refine Z1 ?_; refine Z1 ?_; refine Zj ?_; refine Z0l (n := 2) (sz := 1) (k := 0) ?_; refine Zk ?_
 refine Z1 ?_; refine Z1 ?_; refine Zj ?_; refine Z0l (n := 2) (sz := 1) (k := 1) ?_; refine Zk ?_; refine Z2 ?_; refine Zq ?_; refine Z1 ?_; refine ZL ?_; refine Z1 ?_; refine Z9 (hcon := b1) ?_; refine Zu ?_
 refine Zq ?_; refine Z1 ?_; refine ZL ?_; refine Z1 ?_; refine Z9 (hcon := b2) ?_; refine Zu ?_; refine Zq ?_; refine Z1 ?_; refine ZB ?_; refine ZC ?_; refine Z1 ?_; refine Z9 (hcon := q1) ?_; refine ZB ?_; refine ZC ?_
 refine Z1 ?_; refine Z9 (hcon := q2) ?_; refine Z9 (hcon := he) ?_; refine Zv ?_; refine Zq ?_
 refine .done (fun _ => by kernel_rfl) ?_
 refine JF ?_; refine X3 ?_; refine X0 ?_; refine X0 ?_
 clear b1 b2 q1 q2 he
 by_cases hi0 : i = 0
 ·have hi0' : ¬ (0 : Int) < (i : Nat) := by omega
  refine JR ?_; refine Z1 ?_; refine Zs ?_; refine Z1 ?_; refine Zo ?_; refine Zo ?_; refine Zo ?_; refine Zo ?_; refine Zo ?_; refine Zo ?_; refine Zo ?_; refine Zo ?_; refine Zo ?_; refine Zo ?_; refine Zo ?_
  refine Zo ?_; refine Zo ?_; refine Zp ?_; refine Zp ?_; refine Zp ?_; refine Zp ?_; refine Zp ?_; refine Zp ?_; refine Zp ?_; refine Zp ?_; refine Zp ?_; refine Zp ?_; refine Zp ?_; refine Zp ?_; refine Zp ?_
  refine Zp ?_; refine Zp ?_; refine Zp ?_; refine Zp ?_; refine Zp ?_; refine Zp ?_; refine Zp ?_; refine Zp ?_; refine Zp ?_; refine Zp ?_; refine Zp ?_; refine Zp ?_; refine Zp ?_; refine Zo ?_; refine Zq ?_
  refine .done (fun _ => by kernel_rfl) ?_
  refine JF ?_; refine X3 ?_; refine X0 ?_; refine JR ?_; refine Z1 ?_; refine Zb ?_; refine Z0 ?_; refine JD ?_; refine X4 ?_
  refine Xs (fun k : Nat => i < k ∧ k ≤ L.length) (fun k => ⟨187, [(0, Xt label), (1, Xt key), (5, .ptr 100 0), (8, .d (.sl 2 (L.map Xf))), (9, ai i), (14, ai k)], [(100, .box [.d (.sl 3 (ns.map X8)), .d (.sl 5 (es.map Xi)), ai nn, ai ne])]⟩) (fun k => L.length - k) (i + 1) ⟨by omega, by omega⟩
   (X7 rfl JM ⟨rfl, trivial⟩) ?_
  rintro k ⟨hik, hk⟩
  by_cases hkl : k < L.length
  case neg =>
   have hn2 : ¬ (k : Int) < (L.map Xf).length := by omega
   refine X0 ?_; refine X0 ?_; refine JR ?_; refine Z1 ?_; refine Z1 ?_; refine Zd ?_; refine Z8 ?_; refine JD ?_; refine JF ?_; refine Xo ?_; refine JR ?_; refine Z1 ?_; refine Zb ?_; refine Z0 ?_
   refine JD ?_
   exact ⟨i + 1, by show i + 1 ≤ L.length; omega, by omega, X7 rfl JM ⟨rfl, trivial⟩⟩
  have hn2 : (k : Int) < (L.map Xf).length := by omega
  obtain ⟨m, hm⟩ := Xm (l := L) hkl
  have hmc : (L.map Xf)[k]? = some (Xf m) := Xr hm
  have hlx := hlex hp hm hik
  obtain ⟨ma, mb⟩ := m
  simp only [Xf] at hmc
  by_cases hpm : pa = ma
  ·subst hpm
   have hl2 : pb < mb := by
    rcases hlx with h | h
    ·exact absurd h (Int.lt_irrefl _)
    ·exact h.2
   have hw := X30 L pb mb (by omega)
   rw [X3c (htr (List.mem_of_getElem? hp) (List.mem_of_getElem? hm) hl2)] at hw
   clear hm hp hlx hlex htr hfacts
   refine X0 ?_; refine X0 ?_; refine JR ?_; refine Z1 ?_; refine Z1 ?_; refine Zd ?_; refine Z8 ?_; refine JD ?_; refine JT ?_; refine X3 ?_; refine X0 ?_; refine X4 ?_; refine X0 ?_
   refine JR ?_; refine Z1 ?_; refine Z1 ?_; refine Zj ?_; refine Z0l (n := 2) (sz := 1) (k := 0) ?_; refine Zk ?_; refine Z1 ?_; refine Z1 ?_; refine Zj ?_; refine Z0l (n := 2) (sz := 1) (k := 0) ?_; refine Zk ?_
   refine Zl ?_; refine Z1 ?_; refine Z1 ?_; refine Z1 ?_; refine Z1 ?_; refine Zj ?_; refine Z0l (n := 2) (sz := 1) (k := 1) ?_; refine Zk ?_; refine Z1 ?_; refine Z1 ?_; refine Zj ?_
   refine Z0l (n := 2) (sz := 1) (k := 1) ?_; refine Zk ?_; refine Zx ?_; refine Z9 (hcon := hw) ?_; refine Zu ?_; refine Zn ?_; refine JD ?_; refine JF ?_; refine X3 ?_; refine JR ?_; refine Z1 ?_; refine Zb ?_
   refine Z0 ?_; refine JD ?_
   exact ⟨k + 1, ⟨by omega, by omega⟩, by omega, X7 rfl JM ⟨rfl, trivial⟩⟩
  ·clear hm hp hlx hlex htr hfacts
   refine X0 ?_; refine X0 ?_; refine JR ?_; refine Z1 ?_; refine Z1 ?_; refine Zd ?_; refine Z8 ?_; refine JD ?_; refine JT ?_; refine X3 ?_; refine X0 ?_; refine X4 ?_; refine X0 ?_
   refine JR ?_; refine Z1 ?_; refine Z1 ?_; refine Zj ?_; refine Z0l (n := 2) (sz := 1) (k := 0) ?_; refine Zk ?_; refine Z1 ?_; refine Z1 ?_; refine Zj ?_; refine Z0l (n := 2) (sz := 1) (k := 0) ?_; refine Zk ?_
   refine Zl ?_; refine Z1 ?_; refine Zo ?_; refine Zo ?_; refine Zo ?_; refine Zo ?_; refine Zo ?_; refine Zo ?_; refine Zo ?_; refine Zo ?_; refine Zo ?_; refine Zo ?_; refine Zo ?_; refine Zo ?_; refine Zo ?_
   refine Zo ?_; refine Zq ?_; refine JD ?_; refine JF ?_; refine X3 ?_; refine JR ?_; refine Z1 ?_; refine Zb ?_; refine Z0 ?_; refine JD ?_
   exact ⟨k + 1, ⟨by omega, by omega⟩, by omega, X7 rfl JM ⟨rfl, trivial⟩⟩
 obtain ⟨j, hj⟩ : ∃ j, i = j + 1 := ⟨i - 1, by omega⟩
 have hi0' : (0 : Int) < (i : Nat) := by omega
 obtain ⟨q, hq⟩ := Xm (l := L) (k := j) (by omega)
 have hqc : (L.map Xf)[j]? = some (Xf q) := Xr hq
 have hlq := hlex hq hp (by omega)
 obtain ⟨qa, qb⟩ := q
 simp only [Xf] at hqc
 have hsub : ((i : Nat) : Int) - 1 = (j : Nat) := by omega
 clear hq
 rcases hlq with hlq | hlq
 ·simp only at hlq
  have g1 : ¬ pa < qa := by omega
  have g2 : ¬ qa = pa := by omega
  clear hlq
  refine JR ?_; refine Z1 ?_; refine Zs ?_; refine Z1 ?_; refine Z1 ?_; refine Z1 ?_
  refine Z4 (op := .sub) (r' := .int .i64 (j : Nat)) (u := .int .i64 (i : Nat)) (v := .int .i64 1) ?_ (hr' := by exact congrArg (Value.int .i64) hsub) (hr := by exact XH (by unfold Xy; omega)); refine Zj ?_
  refine Z0l (n := 2) (sz := 1) (k := 0) ?_; refine Zk ?_; refine Z1 ?_; refine Z1 ?_; refine Zj ?_; refine Z0l (n := 2) (sz := 1) (k := 0) ?_; refine Zk ?_; refine Zs ?_; refine Z1 ?_; refine Z1 ?_; refine Z1 ?_
  refine Z4 (op := .sub) (r' := .int .i64 (j : Nat)) (u := .int .i64 (i : Nat)) (v := .int .i64 1) ?_ (hr' := by exact congrArg (Value.int .i64) hsub) (hr := by exact XH (by unfold Xy; omega)); refine Zj ?_
  refine Z0l (n := 2) (sz := 1) (k := 0) ?_; refine Zk ?_; refine Z1 ?_; refine Z1 ?_; refine Zj ?_; refine Z0l (n := 2) (sz := 1) (k := 0) ?_; refine Zk ?_; refine Zl ?_; refine Z1 ?_; refine Zo ?_; refine Zo ?_
  refine Zo ?_; refine Zo ?_; refine Zo ?_; refine Zo ?_; refine Zo ?_; refine Zo ?_; refine Zo ?_; refine Zo ?_; refine Zo ?_; refine Zo ?_; refine Zq ?_; refine Zq ?_; refine Zn ?_
  refine .done (fun _ => by kernel_rfl) ?_
  refine JF ?_; refine X3 ?_; refine X0 ?_; refine JR ?_; refine Z1 ?_; refine Zb ?_; refine Z0 ?_; refine JD ?_; refine X4 ?_
  refine Xs (fun k : Nat => i < k ∧ k ≤ L.length) (fun k => ⟨187, [(0, Xt label), (1, Xt key), (5, .ptr 100 0), (8, .d (.sl 2 (L.map Xf))), (9, ai i), (14, ai k)], [(100, .box [.d (.sl 3 (ns.map X8)), .d (.sl 5 (es.map Xi)), ai nn, ai ne])]⟩) (fun k => L.length - k) (i + 1) ⟨by omega, by omega⟩
   (X7 rfl JM ⟨rfl, trivial⟩) ?_
  rintro k ⟨hik, hk⟩
  by_cases hkl : k < L.length
  case neg =>
   have hn2 : ¬ (k : Int) < (L.map Xf).length := by omega
   refine X0 ?_; refine X0 ?_; refine JR ?_; refine Z1 ?_; refine Z1 ?_; refine Zd ?_; refine Z8 ?_; refine JD ?_; refine JF ?_; refine Xo ?_; refine JR ?_; refine Z1 ?_; refine Zb ?_; refine Z0 ?_
   refine JD ?_
   exact ⟨i + 1, by show i + 1 ≤ L.length; omega, by omega, X7 rfl JM ⟨rfl, trivial⟩⟩
  have hn2 : (k : Int) < (L.map Xf).length := by omega
  obtain ⟨m, hm⟩ := Xm (l := L) hkl
  have hmc : (L.map Xf)[k]? = some (Xf m) := Xr hm
  have hlx := hlex hp hm hik
  obtain ⟨ma, mb⟩ := m
  simp only [Xf] at hmc
  by_cases hpm : pa = ma
  ·subst hpm
   have hl2 : pb < mb := by
    rcases hlx with h | h
    ·exact absurd h (Int.lt_irrefl _)
    ·exact h.2
   have hw := X30 L pb mb (by omega)
   rw [X3c (htr (List.mem_of_getElem? hp) (List.mem_of_getElem? hm) hl2)] at hw
   clear hm hp hlx hlex htr hfacts
   refine X0 ?_; refine X0 ?_; refine JR ?_; refine Z1 ?_; refine Z1 ?_; refine Zd ?_; refine Z8 ?_; refine JD ?_; refine JT ?_; refine X3 ?_; refine X0 ?_; refine X4 ?_; refine X0 ?_
   refine JR ?_; refine Z1 ?_; refine Z1 ?_; refine Zj ?_; refine Z0l (n := 2) (sz := 1) (k := 0) ?_; refine Zk ?_; refine Z1 ?_; refine Z1 ?_; refine Zj ?_; refine Z0l (n := 2) (sz := 1) (k := 0) ?_; refine Zk ?_
   refine Zl ?_; refine Z1 ?_; refine Z1 ?_; refine Z1 ?_; refine Z1 ?_; refine Zj ?_; refine Z0l (n := 2) (sz := 1) (k := 1) ?_; refine Zk ?_; refine Z1 ?_; refine Z1 ?_; refine Zj ?_
   refine Z0l (n := 2) (sz := 1) (k := 1) ?_; refine Zk ?_; refine Zx ?_; refine Z9 (hcon := hw) ?_; refine Zu ?_; refine Zn ?_; refine JD ?_; refine JF ?_; refine X3 ?_; refine JR ?_; refine Z1 ?_; refine Zb ?_
   refine Z0 ?_; refine JD ?_
   exact ⟨k + 1, ⟨by omega, by omega⟩, by omega, X7 rfl JM ⟨rfl, trivial⟩⟩
  ·clear hm hp hlx hlex htr hfacts
   refine X0 ?_; refine X0 ?_; refine JR ?_; refine Z1 ?_; refine Z1 ?_; refine Zd ?_; refine Z8 ?_; refine JD ?_; refine JT ?_; refine X3 ?_; refine X0 ?_; refine X4 ?_; refine X0 ?_
   refine JR ?_; refine Z1 ?_; refine Z1 ?_; refine Zj ?_; refine Z0l (n := 2) (sz := 1) (k := 0) ?_; refine Zk ?_; refine Z1 ?_; refine Z1 ?_; refine Zj ?_; refine Z0l (n := 2) (sz := 1) (k := 0) ?_; refine Zk ?_
   refine Zl ?_; refine Z1 ?_; refine Zo ?_; refine Zo ?_; refine Zo ?_; refine Zo ?_; refine Zo ?_; refine Zo ?_; refine Zo ?_; refine Zo ?_; refine Zo ?_; refine Zo ?_; refine Zo ?_; refine Zo ?_; refine Zo ?_
   refine Zo ?_; refine Zq ?_; refine JD ?_; refine JF ?_; refine X3 ?_; refine JR ?_; refine Z1 ?_; refine Zb ?_; refine Z0 ?_; refine JD ?_
   exact ⟨k + 1, ⟨by omega, by omega⟩, by omega, X7 rfl JM ⟨rfl, trivial⟩⟩
 ·simp only at hlq
  have g1 : ¬ pa < qa := by omega
  have g2 : qa = pa := by omega
  have g3 : ¬ pb ≤ qb := by omega
  clear hlq
  refine JR ?_; refine Z1 ?_; refine Zs ?_; refine Z1 ?_; refine Z1 ?_; refine Z1 ?_
  refine Z4 (op := .sub) (r' := .int .i64 (j : Nat)) (u := .int .i64 (i : Nat)) (v := .int .i64 1) ?_ (hr' := by exact congrArg (Value.int .i64) hsub) (hr := by exact XH (by unfold Xy; omega)); refine Zj ?_
  refine Z0l (n := 2) (sz := 1) (k := 0) ?_; refine Zk ?_; refine Z1 ?_; refine Z1 ?_; refine Zj ?_; refine Z0l (n := 2) (sz := 1) (k := 0) ?_; refine Zk ?_; refine Zs ?_; refine Z1 ?_; refine Z1 ?_; refine Z1 ?_
  refine Z4 (op := .sub) (r' := .int .i64 (j : Nat)) (u := .int .i64 (i : Nat)) (v := .int .i64 1) ?_ (hr' := by exact congrArg (Value.int .i64) hsub) (hr := by exact XH (by unfold Xy; omega)); refine Zj ?_
  refine Z0l (n := 2) (sz := 1) (k := 0) ?_; refine Zk ?_; refine Z1 ?_; refine Z1 ?_; refine Zj ?_; refine Z0l (n := 2) (sz := 1) (k := 0) ?_; refine Zk ?_; refine Zl ?_; refine Z1 ?_; refine Z1 ?_; refine Z1 ?_
  refine Z4 (op := .sub) (r' := .int .i64 (j : Nat)) (u := .int .i64 (i : Nat)) (v := .int .i64 1) ?_ (hr' := by exact congrArg (Value.int .i64) hsub) (hr := by exact XH (by unfold Xy; omega)); refine Zj ?_
  refine Z0l (n := 2) (sz := 1) (k := 1) ?_; refine Zk ?_; refine Z1 ?_; refine Z1 ?_; refine Zj ?_; refine Z0l (n := 2) (sz := 1) (k := 1) ?_; refine Zk ?_; refine Z2 ?_; refine Zn ?_; refine Zq ?_; refine Zn ?_
  refine .done (fun _ => by kernel_rfl) ?_
  refine JF ?_; refine X3 ?_; refine X0 ?_; refine JR ?_; refine Z1 ?_; refine Zb ?_; refine Z0 ?_; refine JD ?_; refine X4 ?_
  refine Xs (fun k : Nat => i < k ∧ k ≤ L.length) (fun k => ⟨187, [(0, Xt label), (1, Xt key), (5, .ptr 100 0), (8, .d (.sl 2 (L.map Xf))), (9, ai i), (14, ai k)], [(100, .box [.d (.sl 3 (ns.map X8)), .d (.sl 5 (es.map Xi)), ai nn, ai ne])]⟩) (fun k => L.length - k) (i + 1) ⟨by omega, by omega⟩
   (X7 rfl JM ⟨rfl, trivial⟩) ?_
  rintro k ⟨hik, hk⟩
  by_cases hkl : k < L.length
  case neg =>
   have hn2 : ¬ (k : Int) < (L.map Xf).length := by omega
   refine X0 ?_; refine X0 ?_; refine JR ?_; refine Z1 ?_; refine Z1 ?_; refine Zd ?_; refine Z8 ?_; refine JD ?_; refine JF ?_; refine Xo ?_; refine JR ?_; refine Z1 ?_; refine Zb ?_; refine Z0 ?_
   refine JD ?_
   exact ⟨i + 1, by show i + 1 ≤ L.length; omega, by omega, X7 rfl JM ⟨rfl, trivial⟩⟩
  have hn2 : (k : Int) < (L.map Xf).length := by omega
  obtain ⟨m, hm⟩ := Xm (l := L) hkl
  have hmc : (L.map Xf)[k]? = some (Xf m) := Xr hm
  have hlx := hlex hp hm hik
  obtain ⟨ma, mb⟩ := m
  simp only [Xf] at hmc
  by_cases hpm : pa = ma
  ·subst hpm
   have hl2 : pb < mb := by
    rcases hlx with h | h
    ·exact absurd h (Int.lt_irrefl _)
    ·exact h.2
   have hw := X30 L pb mb (by omega)
   rw [X3c (htr (List.mem_of_getElem? hp) (List.mem_of_getElem? hm) hl2)] at hw
   clear hm hp hlx hlex htr hfacts
   refine X0 ?_; refine X0 ?_; refine JR ?_; refine Z1 ?_; refine Z1 ?_; refine Zd ?_; refine Z8 ?_; refine JD ?_; refine JT ?_; refine X3 ?_; refine X0 ?_; refine X4 ?_; refine X0 ?_
   refine JR ?_; refine Z1 ?_; refine Z1 ?_; refine Zj ?_; refine Z0l (n := 2) (sz := 1) (k := 0) ?_; refine Zk ?_; refine Z1 ?_; refine Z1 ?_; refine Zj ?_; refine Z0l (n := 2) (sz := 1) (k := 0) ?_; refine Zk ?_
   refine Zl ?_; refine Z1 ?_; refine Z1 ?_; refine Z1 ?_; refine Z1 ?_; refine Zj ?_; refine Z0l (n := 2) (sz := 1) (k := 1) ?_; refine Zk ?_; refine Z1 ?_; refine Z1 ?_; refine Zj ?_
   refine Z0l (n := 2) (sz := 1) (k := 1) ?_; refine Zk ?_; refine Zx ?_; refine Z9 (hcon := hw) ?_; refine Zu ?_; refine Zn ?_; refine JD ?_; refine JF ?_; refine X3 ?_; refine JR ?_; refine Z1 ?_; refine Zb ?_
   refine Z0 ?_; refine JD ?_
   exact ⟨k + 1, ⟨by omega, by omega⟩, by omega, X7 rfl JM ⟨rfl, trivial⟩⟩
  ·clear hm hp hlx hlex htr hfacts
   refine X0 ?_; refine X0 ?_; refine JR ?_; refine Z1 ?_; refine Z1 ?_; refine Zd ?_; refine Z8 ?_; refine JD ?_; refine JT ?_; refine X3 ?_; refine X0 ?_; refine X4 ?_; refine X0 ?_
   refine JR ?_; refine Z1 ?_; refine Z1 ?_; refine Zj ?_; refine Z0l (n := 2) (sz := 1) (k := 0) ?_; refine Zk ?_; refine Z1 ?_; refine Z1 ?_; refine Zj ?_; refine Z0l (n := 2) (sz := 1) (k := 0) ?_; refine Zk ?_
   refine Zl ?_; refine Z1 ?_; refine Zo ?_; refine Zo ?_; refine Zo ?_; refine Zo ?_; refine Zo ?_; refine Zo ?_; refine Zo ?_; refine Zo ?_; refine Zo ?_; refine Zo ?_; refine Zo ?_; refine Zo ?_; refine Zo ?_
   refine Zo ?_; refine Zq ?_; refine JD ?_; refine JF ?_; refine X3 ?_; refine JR ?_; refine Z1 ?_; refine Zb ?_; refine Z0 ?_; refine JD ?_
   exact ⟨k + 1, ⟨by omega, by omega⟩, by omega, X7 rfl JM ⟨rfl, trivial⟩⟩
end Go.Fw
