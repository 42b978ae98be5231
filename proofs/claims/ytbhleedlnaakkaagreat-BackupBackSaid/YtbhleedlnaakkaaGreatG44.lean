/- The length of a backup; what Restore returns can be held; torn backups; in plain Lean. -/
import Derived.Test.YtbhleedlnaakkaaGreatG31
import Derived.Test.YtbhleedlnaakkaaGreatG34
import Derived.Test.YtbhleedlnaakkaaGreatG35
set_option maxHeartbeats 32000000
namespace Go.Fw
open Go
set_option linter.unusedVariables false
theorem XaI {g : Gra} {rs : List Rul} (h : Yy g rs ≠ 0) : V9 g rs = [] := if_neg h
end Go.Fw
namespace Go.Fw
open Go Go.Proofs
set_option maxRecDepth 100000
set_option linter.unusedVariables false
set_option linter.unusedSimpArgs false
theorem Xcq (g : Gra) (rs : List Rul) (b : List UInt8) (hg : GraHold g) (hr : rs.length ≤ 9223372036854775807) : Con Tryz.prog 5 [] [Y4 g, .d (.sl 6 (rs.map Xp)), .d (Xa b)] [] (ab true) := by
 refine X9 (xs := [ab true]) Tryz.func5 rfl Tryz.ntmps5 rfl rfl rfl (fun E => ?_)
 have ha := X4C
 have hlr : (rs.map Xp).length = rs.length := by simp
 have hs := X5Y g 30 40 hg
 generalize X2F g 30 40 = sm at *
 have hlm : (b.map X6).length = b.length := by simp
 have k1 := X2m g rs hg hr
 cases sm with
 | false =>
  clear k1 hg
  obtain ⟨ns, es, nn, ne⟩ := g
  unfold Y4 at *
  simp only at *
  refine X0 ?_; refine JR ?_; refine ZA (γ := 100) ?_; refine Z0 ?_; refine JD ?_; refine X0 ?_; refine X0 ?_; refine JR ?_; refine ZL ?_; refine Z9 (hcon := hs) ?_; refine Zu ?_; refine Z1 ?_; refine Zo ?_
  refine Zo ?_; refine Zo ?_; refine Zn ?_; refine Z1 ?_; refine Zo ?_; refine Zo ?_; refine Zo ?_; refine Zn ?_; refine JD ?_; refine JT ?_; refine X0 ?_; refine JR ?_; refine Z9 (hcon := ha) ?_; refine Z0 ?_
  refine JD ?_
  (show AWP Tryz.prog E _ _ _; refine X1 ?_; exact (show Yo _ _ _ _ _ from ⟨_, St.le_refl _, ⟨rfl, trivial⟩, X3 _⟩))
 | true =>
 by_cases hl : (60 : Int) < ((rs.map Xp).length : Nat)
 ·clear k1 hg
  obtain ⟨ns, es, nn, ne⟩ := g
  unfold Y4 at *
  simp only at *
  refine X0 ?_; refine JR ?_; refine ZA (γ := 100) ?_; refine Z0 ?_; refine JD ?_; refine X0 ?_; refine X0 ?_; refine JR ?_; refine ZL ?_; refine Z9 (hcon := hs) ?_; refine Zu ?_; refine Z1 ?_; refine Z1 ?_
  refine Zd ?_; refine Zs ?_; refine Zq ?_; refine Z1 ?_; refine Zo ?_; refine Zo ?_; refine Zo ?_; refine Zn ?_; refine JD ?_; refine JT ?_; refine X0 ?_; refine JR ?_; refine Z9 (hcon := ha) ?_; refine Z0 ?_
  refine JD ?_
  (show AWP Tryz.prog E _ _ _; refine X1 ?_; exact (show Yo _ _ _ _ _ from ⟨_, St.le_refl _, ⟨rfl, trivial⟩, X3 _⟩))
 by_cases hl2 : (3000 : Int) < ((b.map X6).length : Nat)
 ·clear k1 hg
  obtain ⟨ns, es, nn, ne⟩ := g
  unfold Y4 at *
  simp only at *
  refine X0 ?_; refine JR ?_; refine ZA (γ := 100) ?_; refine Z0 ?_; refine JD ?_; refine X0 ?_; refine X0 ?_; refine JR ?_; refine ZL ?_; refine Z9 (hcon := hs) ?_; refine Zu ?_; refine Z1 ?_; refine Z1 ?_
  refine Zd ?_; refine Zs ?_; refine Zq ?_; refine Z1 ?_; refine Z1 ?_; refine Zd ?_; refine Zs ?_; refine Zq ?_; refine JD ?_; refine JT ?_; refine X0 ?_; refine JR ?_; refine Z9 (hcon := ha) ?_; refine Z0 ?_
  refine JD ?_
  (show AWP Tryz.prog E _ _ _; refine X1 ?_; exact (show Yo _ _ _ _ _ from ⟨_, St.le_refl _, ⟨rfl, trivial⟩, X3 _⟩))
 have hb : b.length ≤ 1073741824 := by omega
 have h1 := X0T b hb (X0m b hb)
 obtain ⟨hh, hrl⟩ := X8t b hb
 generalize hrb : YA b = r at *
 obtain ⟨g2, rs2, e⟩ := r
 simp only at h1 hh hrl
 by_cases he : e = 0
 case neg =>
  clear hrb hh
  obtain ⟨ns2, es2, nn2, ne2⟩ := g2
  by_cases hd : Yy g rs = 0
  case neg =>
   rw [XaI hd] at k1
   generalize Yy g rs = d at *
   clear hg
   obtain ⟨ns, es, nn, ne⟩ := g
   unfold Y4 at *
   simp only at *
   refine X0 ?_; refine JR ?_; refine ZA (γ := 100) ?_; refine Z0 ?_; refine JD ?_; refine X0 ?_; refine X0 ?_; refine JR ?_; refine ZL ?_; refine Z9 (hcon := hs) ?_; refine Zu ?_; refine Z1 ?_; refine Z1 ?_
   refine Zd ?_; refine Zs ?_; refine Zq ?_; refine Z1 ?_; refine Z1 ?_; refine Zd ?_; refine Zs ?_; refine Zq ?_; refine JD ?_; refine JF ?_; refine X2 ?_; refine X0 ?_; refine JR ?_; refine Z1 ?_
   refine Z9 (hcon := h1) ?_; refine Z1 ?_; refine ZF ?_; refine ZF ?_; refine ZF ?_; refine Zw (γ := 101) ?_; refine Zy ?_; refine Z0 ?_; refine Z0 ?_; refine JD ?_; refine X0 ?_; refine X0 ?_; refine JR ?_
   refine Z1 ?_; refine Zl ?_; refine JD ?_; refine JF ?_; refine X2 ?_; refine X0 ?_; refine JR ?_; refine ZL ?_; refine Z1 ?_; refine Z9 (hcon := k1) ?_; refine Z1 ?_; refine ZF ?_; refine ZF ?_; refine Z0 ?_
   refine Z0 ?_; refine JD ?_; refine X0 ?_; refine X0 ?_; refine JR ?_; refine Z1 ?_; refine Zv ?_; refine JD ?_; refine JT ?_; refine X0 ?_; refine JR ?_; refine Z1 ?_; refine Zd ?_; refine Zl ?_
   refine Z1 ?_; refine Z9 (hcon := ha) ?_; refine Zn ?_; refine Z0 ?_; refine JD ?_
   (show AWP Tryz.prog E _ _ _; refine X1 ?_; exact (show Yo _ _ _ _ _ from ⟨_, St.le_refl _, ⟨rfl, trivial⟩, X3 _⟩))
  have hdl := X6c hd
  have k2 := X0T (Yz g rs) (by omega) (X0m _ (by omega))
  rw [X6q hd] at k2
  rw [X2n hd, hd] at k1
  generalize Yz g rs = D at *
  have k3 := X4G g hg
  have k4 := X5m rs hr
  clear hg hd
  obtain ⟨ns, es, nn, ne⟩ := g
  unfold Y4 at *
  simp only at *
  refine X0 ?_; refine JR ?_; refine ZA (γ := 100) ?_; refine Z0 ?_; refine JD ?_; refine X0 ?_; refine X0 ?_; refine JR ?_; refine ZL ?_; refine Z9 (hcon := hs) ?_; refine Zu ?_; refine Z1 ?_; refine Z1 ?_
  refine Zd ?_; refine Zs ?_; refine Zq ?_; refine Z1 ?_; refine Z1 ?_; refine Zd ?_; refine Zs ?_; refine Zq ?_; refine JD ?_; refine JF ?_; refine X2 ?_; refine X0 ?_; refine JR ?_; refine Z1 ?_
  refine Z9 (hcon := h1) ?_; refine Z1 ?_; refine ZF ?_; refine ZF ?_; refine ZF ?_; refine Zw (γ := 101) ?_; refine Zy ?_; refine Z0 ?_; refine Z0 ?_; refine JD ?_; refine X0 ?_; refine X0 ?_; refine JR ?_
  refine Z1 ?_; refine Zl ?_; refine JD ?_; refine JF ?_; refine X2 ?_; refine X0 ?_; refine JR ?_; refine ZL ?_; refine Z1 ?_; refine Z9 (hcon := k1) ?_; refine Z1 ?_; refine ZF ?_; refine ZF ?_; refine Z0 ?_
  refine Z0 ?_; refine JD ?_; refine X0 ?_; refine X0 ?_; refine JR ?_; refine Z1 ?_; refine Zv ?_; refine JD ?_; refine JF ?_; refine X2 ?_; refine X0 ?_; refine JR ?_; refine Z1 ?_
  refine Z9 (hcon := k2) ?_; refine Z1 ?_; refine ZF ?_; refine ZF ?_; refine ZF ?_; refine Zy ?_; refine Z0 ?_; refine Z0 ?_; refine JD ?_; refine X0 ?_; refine JR ?_; refine Z1 ?_; refine Zl ?_; refine Z1 ?_
  refine ZL ?_; refine ZL ?_; refine Z9 (hcon := k3) ?_; refine Zn ?_; refine Z1 ?_; refine Z1 ?_; refine Z1 ?_; refine Z9 (hcon := k4) ?_; refine Zn ?_; refine Z1 ?_; refine Z9 (hcon := ha) ?_; refine Zn ?_; refine Z0 ?_
  refine JD ?_
  (show AWP Tryz.prog E _ _ _; refine X1 ?_; exact (show Yo _ _ _ _ _ from ⟨_, St.le_refl _, ⟨rfl, trivial⟩, X3 _⟩))
 subst he
 obtain ⟨d1, d2⟩ := X8F hrb
 have h2 := X2m g2 rs2 hh hrl
 rw [X2n d1, d1, d2] at h2
 have h3 := X9W b b
 rw [decide_eq_true rfl] at h3
 clear hrb d1 d2 hh
 obtain ⟨ns2, es2, nn2, ne2⟩ := g2
 by_cases hd : Yy g rs = 0
 case neg =>
  rw [XaI hd] at k1
  generalize Yy g rs = d at *
  clear hg
  obtain ⟨ns, es, nn, ne⟩ := g
  unfold Y4 at *
  simp only at *
  refine X0 ?_; refine JR ?_; refine ZA (γ := 100) ?_; refine Z0 ?_; refine JD ?_; refine X0 ?_; refine X0 ?_; refine JR ?_; refine ZL ?_; refine Z9 (hcon := hs) ?_; refine Zu ?_; refine Z1 ?_; refine Z1 ?_
  refine Zd ?_; refine Zs ?_; refine Zq ?_; refine Z1 ?_; refine Z1 ?_; refine Zd ?_; refine Zs ?_; refine Zq ?_; refine JD ?_; refine JF ?_; refine X2 ?_; refine X0 ?_; refine JR ?_; refine Z1 ?_
  refine Z9 (hcon := h1) ?_; refine Z1 ?_; refine ZF ?_; refine ZF ?_; refine ZF ?_; refine Zw (γ := 101) ?_; refine Zy ?_; refine Z0 ?_; refine Z0 ?_; refine JD ?_; refine X0 ?_; refine X0 ?_; refine JR ?_
  refine Z1 ?_; refine Zl ?_; refine JD ?_; refine JT ?_; refine X0 ?_; refine JR ?_; refine ZL ?_; refine Z1 ?_; refine Z9 (hcon := h2) ?_; refine Z1 ?_; refine ZF ?_; refine ZF ?_; refine Z0 ?_; refine Z0 ?_
  refine JD ?_; refine X0 ?_; refine JR ?_; refine Z1 ?_; refine Zv ?_; refine Z1 ?_; refine Z1 ?_; refine Z1 ?_; refine Z9 (hcon := h3) ?_; refine Zu ?_; refine Zq ?_; refine JD ?_; refine JF ?_; refine X2 ?_
  refine X0 ?_; refine JR ?_; refine ZL ?_; refine Z1 ?_; refine Z9 (hcon := k1) ?_; refine Z1 ?_; refine ZF ?_; refine ZF ?_; refine Z0 ?_; refine Z0 ?_; refine JD ?_; refine X0 ?_; refine X0 ?_
  refine JR ?_; refine Z1 ?_; refine Zv ?_; refine JD ?_; refine JT ?_; refine X0 ?_; refine JR ?_; refine Z1 ?_; refine Zd ?_; refine Zl ?_; refine Z1 ?_; refine Z9 (hcon := ha) ?_; refine Zn ?_; refine Z0 ?_
  refine JD ?_
  (show AWP Tryz.prog E _ _ _; refine X1 ?_; exact (show Yo _ _ _ _ _ from ⟨_, St.le_refl _, ⟨rfl, trivial⟩, X3 _⟩))
 have hdl := X6c hd
 have k2 := X0T (Yz g rs) (by omega) (X0m _ (by omega))
 rw [X6q hd] at k2
 rw [X2n hd, hd] at k1
 generalize Yz g rs = D at *
 have k3 := X4G g hg
 have k4 := X5m rs hr
 clear hg hd
 obtain ⟨ns, es, nn, ne⟩ := g
 unfold Y4 at *
 simp only at *
 repeat first | refine X0 ?_ | (refine JR ?_; (repeat first | refine Z1 ?_ | refine Z0 ?_ | refine ZL ?_ | refine Zd ?_ | refine Zs ?_ | refine Zl ?_ | refine Zv ?_ | refine Zu ?_ | refine Zw (γ := 101) ?_ | refine ZA (γ := 100) ?_ | refine Zy ?_ | refine ZF ?_ | refine Zn ?_ | refine Zq ?_ | refine Z9 (hcon := hs) ?_ | refine Z9 (hcon := h1) ?_ | refine Z9 (hcon := h2) ?_ | refine Z9 (hcon := h3) ?_ | refine Z9 (hcon := k1) ?_ | refine Z9 (hcon := k2) ?_ | refine Z9 (hcon := k3) ?_ | refine Z9 (hcon := k4) ?_ | refine Z9 (hcon := ha) ?_); refine JD ?_) | refine JT ?_ | refine JF ?_ | refine X2 ?_
 (show AWP Tryz.prog E _ _ _; refine X1 ?_; exact (show Yo _ _ _ _ _ from ⟨_, St.le_refl _, ⟨rfl, trivial⟩, X3 _⟩))
end Go.Fw
