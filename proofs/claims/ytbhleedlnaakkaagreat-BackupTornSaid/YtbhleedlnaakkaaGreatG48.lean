/- The length of a backup; what Restore returns can be held; torn backups; in plain Lean. -/
import Derived.Test.YtbhleedlnaakkaaGreatG35
import Derived.Test.YtbhleedlnaakkaaGreatG47
set_option maxHeartbeats 32000000
namespace Go.Fw
open Go
set_option linter.unusedVariables false
theorem Xdu {g : Gra} {rs : List Rul} (h : Yy g rs = 0) {n : Nat} (hn : n < (Yz g rs).length) : (YA ((Yz g rs).take n)).2.2 ≠ 0 := by
 intro he
 obtain ⟨g', rs', e, hr⟩ : ∃ g' rs' e, YA ((Yz g rs).take n) = (g', rs', e) := ⟨_, _, _, rfl⟩
 rw [hr] at he
 simp only at he
 subst he
 obtain ⟨h1, h2⟩ := X8F hr
 have h3 := X3I h1 ((Yz g rs).drop n)
 rw [h2, List.take_append_drop] at h3
 have h4 := X3I h []
 rw [List.append_nil, if_pos rfl] at h4
 rw [h4, if_neg (fun q => by have := congrArg List.length q; simp only [List.length_drop, List.length_nil] at this; omega)] at h3
 have := congrArg (fun p : Gra × List Rul × Int => p.2.2) h3
 simp at this
theorem Xgq {g : Gra} {rs : List Rul} (h : Yy g rs = 0) (x : UInt8) : (YA (Yz g rs ++ [x])).2.2 = 2 := by
 rw [X3I h [x], if_neg (by simp)]
end Go.Fw
namespace Go.Fw
open Go Go.Proofs
set_option maxRecDepth 100000
set_option linter.unusedVariables false
set_option linter.unusedSimpArgs false
theorem Xdr (g : Gra) (rs : List Rul) (n : Int) (hg : GraHold g) (hr : rs.length ≤ 9223372036854775807) : Con Tryz.prog 6 [] [Y4 g, .d (.sl 6 (rs.map Xp)), ai n] [] (ab true) := by
 refine X9 (xs := [ab true]) Tryz.func6 rfl Tryz.ntmps6 rfl rfl rfl (fun E => ?_)
 have ha := X4C
 have hlr : (rs.map Xp).length = rs.length := by simp
 have hs := X5Y g 30 40 hg
 generalize X2F g 30 40 = sm at *
 have k1 := X2m g rs hg hr
 clear hg hr
 cases sm with
 | false =>
  clear k1
  obtain ⟨ns, es, nn, ne⟩ := g
  unfold Y4 at *
  simp only at *
  refine X0 ?_; refine JR ?_; refine ZA (γ := 100) ?_; refine Z0 ?_; refine JD ?_; refine X0 ?_; refine X0 ?_; refine JR ?_; refine ZL ?_; refine Z9 (hcon := hs) ?_; refine Zu ?_; refine Z1 ?_; refine Zo ?_
  refine Zo ?_; refine Zo ?_; refine Zn ?_; refine JD ?_; refine JT ?_; refine X0 ?_; refine JR ?_; refine Z9 (hcon := ha) ?_; refine Z0 ?_; refine JD ?_
  (show AWP Tryz.prog E _ _ _; refine X1 ?_; exact (show Yo _ _ _ _ _ from ⟨_, St.le_refl _, ⟨rfl, trivial⟩, X3 _⟩))
 | true =>
 by_cases hl : (60 : Int) < ((rs.map Xp).length : Nat)
 ·clear k1
  obtain ⟨ns, es, nn, ne⟩ := g
  unfold Y4 at *
  simp only at *
  refine X0 ?_; refine JR ?_; refine ZA (γ := 100) ?_; refine Z0 ?_; refine JD ?_; refine X0 ?_; refine X0 ?_; refine JR ?_; refine ZL ?_; refine Z9 (hcon := hs) ?_; refine Zu ?_; refine Z1 ?_; refine Z1 ?_
  refine Zd ?_; refine Zs ?_; refine Zq ?_; refine JD ?_; refine JT ?_; refine X0 ?_; refine JR ?_; refine Z9 (hcon := ha) ?_; refine Z0 ?_; refine JD ?_
  (show AWP Tryz.prog E _ _ _; refine X1 ?_; exact (show Yo _ _ _ _ _ from ⟨_, St.le_refl _, ⟨rfl, trivial⟩, X3 _⟩))
 by_cases hd : Yy g rs = 0
 case neg =>
  generalize V9 g rs = D at *
  generalize Yy g rs = d at *
  obtain ⟨ns, es, nn, ne⟩ := g
  unfold Y4 at *
  simp only at *
  refine X0 ?_; refine JR ?_; refine ZA (γ := 100) ?_; refine Z0 ?_; refine JD ?_; refine X0 ?_; refine X0 ?_; refine JR ?_; refine ZL ?_; refine Z9 (hcon := hs) ?_; refine Zu ?_; refine Z1 ?_; refine Z1 ?_
  refine Zd ?_; refine Zs ?_; refine Zq ?_; refine JD ?_; refine JF ?_; refine X2 ?_; refine X0 ?_; refine JR ?_; refine ZL ?_; refine Z1 ?_; refine Z9 (hcon := k1) ?_; refine Z1 ?_; refine ZF ?_; refine ZF ?_
  refine Z0 ?_; refine Z0 ?_; refine JD ?_; refine X0 ?_; refine X0 ?_; refine JR ?_; refine Z1 ?_; refine Zv ?_; refine Z1 ?_; refine Zo ?_; refine Zo ?_; refine Zn ?_; refine Z1 ?_; refine Zo ?_; refine Zo ?_
  refine Zo ?_; refine Zo ?_; refine Zn ?_; refine JD ?_; refine JT ?_; refine X0 ?_; refine JR ?_; refine Z9 (hcon := ha) ?_; refine Z0 ?_; refine JD ?_
  (show AWP Tryz.prog E _ _ _; refine X1 ?_; exact (show Yo _ _ _ _ _ from ⟨_, St.le_refl _, ⟨rfl, trivial⟩, X3 _⟩))
 have hdl := X6c hd
 rw [X2n hd, hd] at k1
 by_cases hn0 : n < 0
 ·clear hd
  generalize Yz g rs = D at *
  obtain ⟨ns, es, nn, ne⟩ := g
  unfold Y4 at *
  simp only at *
  refine X0 ?_; refine JR ?_; refine ZA (γ := 100) ?_; refine Z0 ?_; refine JD ?_; refine X0 ?_; refine X0 ?_; refine JR ?_; refine ZL ?_; refine Z9 (hcon := hs) ?_; refine Zu ?_; refine Z1 ?_; refine Z1 ?_
  refine Zd ?_; refine Zs ?_; refine Zq ?_; refine JD ?_; refine JF ?_; refine X2 ?_; refine X0 ?_; refine JR ?_; refine ZL ?_; refine Z1 ?_; refine Z9 (hcon := k1) ?_; refine Z1 ?_; refine ZF ?_; refine ZF ?_
  refine Z0 ?_; refine Z0 ?_; refine JD ?_; refine X0 ?_; refine X0 ?_; refine JR ?_; refine Z1 ?_; refine Zv ?_; refine Z1 ?_; refine Z1 ?_; refine Z8 ?_; refine Zq ?_; refine Z1 ?_; refine Zo ?_; refine Zo ?_
  refine Zo ?_; refine Zo ?_; refine Zn ?_; refine JD ?_; refine JT ?_; refine X0 ?_; refine JR ?_; refine Z9 (hcon := ha) ?_; refine Z0 ?_; refine JD ?_
  (show AWP Tryz.prog E _ _ _; refine X1 ?_; exact (show Yo _ _ _ _ _ from ⟨_, St.le_refl _, ⟨rfl, trivial⟩, X3 _⟩))
 obtain ⟨m, rfl⟩ : ∃ m : Nat, n = m := ⟨n.toNat, by omega⟩
 by_cases hn1 : ((Yz g rs).length : Int) ≤ (m : Nat)
 ·clear hd
  generalize Yz g rs = D at *
  obtain ⟨ns, es, nn, ne⟩ := g
  unfold Y4 at *
  simp only at *
  refine X0 ?_; refine JR ?_; refine ZA (γ := 100) ?_; refine Z0 ?_; refine JD ?_; refine X0 ?_; refine X0 ?_; refine JR ?_; refine ZL ?_; refine Z9 (hcon := hs) ?_; refine Zu ?_; refine Z1 ?_; refine Z1 ?_
  refine Zd ?_; refine Zs ?_; refine Zq ?_; refine JD ?_; refine JF ?_; refine X2 ?_; refine X0 ?_; refine JR ?_; refine ZL ?_; refine Z1 ?_; refine Z9 (hcon := k1) ?_; refine Z1 ?_; refine ZF ?_; refine ZF ?_
  refine Z0 ?_; refine Z0 ?_; refine JD ?_; refine X0 ?_; refine X0 ?_; refine JR ?_; refine Z1 ?_; refine Zv ?_; refine Z1 ?_; refine Z1 ?_; refine Z8 ?_; refine Zq ?_; refine Z1 ?_; refine Z1 ?_; refine Z1 ?_
  refine Zd ?_; refine Z2 ?_; refine Zq ?_; refine JD ?_; refine JT ?_; refine X0 ?_; refine JR ?_; refine Z9 (hcon := ha) ?_; refine Z0 ?_; refine JD ?_
  (show AWP Tryz.prog E _ _ _; refine X1 ?_; exact (show Yo _ _ _ _ _ from ⟨_, St.le_refl _, ⟨rfl, trivial⟩, X3 _⟩))
 have hml : m < (Yz g rs).length := by omega
 have hT := Xdu hd hml
 have hM := Xgq hd (UInt8.ofNat (m % 256))
 have k2 := X0T ((Yz g rs).take m) (by rw [List.length_take]; omega) (X0m _ (by rw [List.length_take]; omega))
 have k3 := X0T (Yz g rs ++ [UInt8.ofNat (m % 256)]) (by rw [List.length_append, List.length_singleton]; omega) (X0m _ (by rw [List.length_append, List.length_singleton]; omega))
 generalize YA ((Yz g rs).take m) = r1 at *
 generalize YA (Yz g rs ++ [UInt8.ofNat (m % 256)]) = r2 at *
 clear hd
 generalize Yz g rs = D at *
 obtain ⟨⟨a1, a2, a3, a4⟩, rs1, e1⟩ := r1
 obtain ⟨⟨b1, b2, b3, b4⟩, rs2, e2⟩ := r2
 have hmm : (m : Nat) ≤ (D.map X6).length := by rw [List.length_map]; omega
 have hDm : (D.map X6).length ≤ 500000000 := by rw [List.length_map]; omega
 have hsl : ((D.map X6).take m).drop 0 = (D.take m).map X6 := by rw [List.drop_zero, List.map_take]
 obtain ⟨ns, es, nn, ne⟩ := g
 unfold Y4 at *
 simp only at *
 subst hM
 have e3 : (m % 256) % 256 = (UInt8.ofNat (m % 256)).toNat := by simp
 simp only [Xa, List.map_append, List.map_cons, List.map_nil] at k3
 refine X0 ?_; refine JR ?_; refine ZA (γ := 100) ?_; refine Z0 ?_; refine JD ?_; refine X0 ?_; refine X0 ?_; refine JR ?_; refine ZL ?_; refine Z9 (hcon := hs) ?_; refine Zu ?_; refine Z1 ?_; refine Z1 ?_
 refine Zd ?_; refine Zs ?_; refine Zq ?_; refine JD ?_; refine JF ?_; refine X2 ?_; refine X0 ?_; refine JR ?_; refine ZL ?_; refine Z1 ?_; refine Z9 (hcon := k1) ?_; refine Z1 ?_; refine ZF ?_; refine ZF ?_
 refine Z0 ?_; refine Z0 ?_; refine JD ?_; refine X0 ?_; refine X0 ?_; refine JR ?_; refine Z1 ?_; refine Zv ?_; refine Z1 ?_; refine Z1 ?_; refine Z8 ?_; refine Zq ?_; refine Z1 ?_; refine Z1 ?_; refine Z1 ?_
 refine Zd ?_; refine Z2 ?_; refine Zq ?_; refine JD ?_; refine JF ?_; refine X2 ?_; refine X0 ?_; refine JR ?_; refine Z1 ?_; refine Z1 ?_
 refine ZV (lb := 0) (hb := m) (ys := (D.take m).map X6) ?_ (hys := by exact hsl); refine Z9 (hcon := k2) ?_; refine Z1 ?_; refine ZF ?_; refine ZF ?_; refine ZF ?_; refine Zw (γ := 101) ?_; refine Zy ?_; refine Z0 ?_
 refine Z0 ?_; refine JD ?_; refine X0 ?_; refine JR ?_; refine Z1 ?_; refine Zd ?_; refine Zb ?_; refine Z0e (γ := 130) (c := (D.map X6).length + 1) ?_; refine Z0 ?_; refine JD ?_; refine X0 ?_; refine JR ?_
 refine Z1 ?_; refine Z1 ?_; refine Z6 ?_; refine Z0 ?_; refine JD ?_; refine X0 ?_; refine JR ?_; refine Z1 ?_; refine Z1 ?_
 refine Z7 (op := .rem) (r' := nj (m % 256)) (u := nj m) (v := nj 256) ?_ (hr := by exact YG (by omega))
 refine Z3 (u := nj (m % 256)) (r := n8 (UInt8.ofNat (m % 256)).toNat) ?_ (hr := by exact by rw [← e3]; exact YJ rfl rfl); refine Z5 ?_; refine Z6 ?_; refine Z0 ?_; refine JD ?_; refine X0 ?_
 refine Xm (Y0 130 rfl) ?_
 refine Xm (YC 12 130 rfl rfl (by simp only [List.length_append])) ?_
 refine JR ?_; refine Z1 ?_; refine Z9 (hcon := k3) ?_; refine Z1 ?_; refine ZF ?_; refine ZF ?_; refine ZF ?_; refine Zw (γ := 102) ?_; refine Zy ?_; refine Z0 ?_; refine Z0 ?_; refine JD ?_; refine X0 ?_
 refine JR ?_; refine Z1 ?_; refine Zv ?_; refine Z1 ?_; refine Z1 ?_; refine Zl ?_; refine Zn ?_; refine Z1 ?_; refine Z9 (hcon := ha) ?_; refine Zn ?_; refine Z0 ?_; refine JD ?_
 (show AWP Tryz.prog E _ _ _; refine X1 ?_; exact (show Yo _ _ _ _ _ from ⟨_, St.le_refl _, ⟨rfl, trivial⟩, X3 _⟩))
end Go.Fw
