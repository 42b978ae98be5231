/- The order of rules, valid schemas; the program's and the reference's. -/
import Derived.Test.YtbhleedlnaakkaaGreatG22
import Derived.Test.YtbhleedlnaakkaaGreatG28
set_option maxHeartbeats 16000000
namespace Go.Fw
open Go Go.Proofs
set_option maxRecDepth 100000
set_option linter.unusedVariables false
set_option linter.unusedSimpArgs false
theorem X4J (s t : List UInt8) : Con Tryz.prog 161 [] [.d (.v (.string (X5 s))), .d (.v (.string (X5 t)))] [] (ai (YU s t)) := by
 refine X9 (xs := [ai (YU s t)]) Tryz.func161 rfl Tryz.ntmps161 rfl rfl rfl (fun E => ?_)
 unfold YU
 cases h1 : Op.bytesLess s t with
 | true =>
  rw [if_pos rfl]
  refine X0 ?_; refine JR ?_; refine Z0 ?_; refine JD ?_; refine X0 ?_; refine X0 ?_; refine JR ?_; refine Z1 ?_; refine Z1 ?_; refine Z07 ?_; refine JD ?_; refine JT ?_; refine X0 ?_; refine JR ?_
  refine Z0 ?_; refine JD ?_
  exact X1 ⟨_, St.le_refl _, ⟨rfl, trivial⟩, X3 _⟩
 | false =>
  rw [if_neg (by simp)]
  by_cases h2 : s = t
  ·rw [if_pos h2]
   have h3 : (!(Op.bytesLess s t || decide (s = t))) = false := by simp [h2]
   refine X0 ?_; refine JR ?_; refine Z0 ?_; refine JD ?_; refine X0 ?_; refine X0 ?_; refine JR ?_; refine Z1 ?_; refine Z1 ?_; refine Z07 ?_; refine JD ?_; refine JF ?_; refine X2 ?_
   refine X0 ?_; refine X0 ?_; refine JR ?_; refine Z1 ?_; refine Z1 ?_; refine Z08 ?_; refine JD ?_; refine JF ?_; refine X2 ?_; refine X0 ?_; refine JR ?_; refine Z0 ?_; refine JD ?_
   exact X1 ⟨_, St.le_refl _, ⟨rfl, trivial⟩, X3 _⟩
  ·rw [if_neg h2]
   have h3 : (!(Op.bytesLess s t || decide (s = t))) = true := by simp [h1, h2]
   refine X0 ?_; refine JR ?_; refine Z0 ?_; refine JD ?_; refine X0 ?_; refine X0 ?_; refine JR ?_; refine Z1 ?_; refine Z1 ?_; refine Z07 ?_; refine JD ?_; refine JF ?_; refine X2 ?_
   refine X0 ?_; refine X0 ?_; refine JR ?_; refine Z1 ?_; refine Z1 ?_; refine Z08 ?_; refine JD ?_; refine JT ?_; refine X0 ?_; refine JR ?_; refine Z0 ?_; refine JD ?_
   exact X1 ⟨_, St.le_refl _, ⟨rfl, trivial⟩, X3 _⟩
theorem XdO (a b : Rul) : Con Tryz.prog 102 [] [XW a, XW b] [] (ai (UW a b)) := by
 refine X9 (xs := [ai (UW a b)]) Tryz.func102 rfl Tryz.ntmps102 rfl rfl rfl (fun E => ?_)
 have c2 := X4J a.name b.name
 have c3 := X4J a.key b.key
 have c5 := X4J a.src b.src
 have c6 := X4J a.dst b.dst
 unfold UW
 generalize YU a.name b.name = r2 at *
 generalize YU a.key b.key = r3 at *
 generalize YU a.src b.src = r5 at *
 generalize YU a.dst b.dst = r6 at *
 obtain ⟨k, n, name, key, src, dst⟩ := a
 obtain ⟨k', n', name', key', src', dst'⟩ := b
 simp only [XW] at *
 by_cases h1 : k < k'
 ·rw [if_pos h1]
  have h1' : k ≠ k' := by omega
  refine X0 ?_; refine JR ?_; refine ZA (γ := 100) ?_; refine ZA (γ := 101) ?_; refine Z0 ?_; refine JD ?_; refine X0 ?_; refine X0 ?_; refine JR ?_; refine ZB ?_; refine ZC ?_; refine ZB ?_; refine ZC ?_
  refine Zv ?_; refine JD ?_; refine JT ?_; refine X0 ?_; refine X0 ?_; refine JR ?_; refine ZB ?_; refine ZC ?_; refine ZB ?_; refine ZC ?_; refine Z8 ?_; refine JD ?_; refine JT ?_; refine X0 ?_
  refine JR ?_; refine Z0 ?_; refine JD ?_
  exact X1 ⟨_, St.le_refl _, ⟨rfl, trivial⟩, X3 _⟩
 rw [if_neg h1]
 by_cases h2 : k' < k
 ·rw [if_pos h2]
  have h2' : k ≠ k' := by omega
  refine X0 ?_; refine JR ?_; refine ZA (γ := 100) ?_; refine ZA (γ := 101) ?_; refine Z0 ?_; refine JD ?_; refine X0 ?_; refine X0 ?_; refine JR ?_; refine ZB ?_; refine ZC ?_; refine ZB ?_; refine ZC ?_
  refine Zv ?_; refine JD ?_; refine JT ?_; refine X0 ?_; refine X0 ?_; refine JR ?_; refine ZB ?_; refine ZC ?_; refine ZB ?_; refine ZC ?_; refine Z8 ?_; refine JD ?_; refine JF ?_; refine X2 ?_
  refine X0 ?_; refine JR ?_; refine Z0 ?_; refine JD ?_
  exact X1 ⟨_, St.le_refl _, ⟨rfl, trivial⟩, X3 _⟩
 rw [if_neg h2]
 obtain rfl : k = k' := by omega
 by_cases h3 : r2 ≠ 0
 ·rw [if_pos h3]
  refine X0 ?_; refine JR ?_; refine ZA (γ := 100) ?_; refine ZA (γ := 101) ?_; refine Z0 ?_; refine JD ?_; refine X0 ?_; refine X0 ?_; refine JR ?_; refine ZB ?_; refine ZC ?_; refine ZB ?_; refine ZC ?_
  refine Zv ?_; refine JD ?_; refine JF ?_; refine X2 ?_; refine X0 ?_; refine X0 ?_; refine JR ?_; refine ZB ?_; refine ZC ?_; refine ZB ?_; refine ZC ?_; refine Z9 (hcon := c2) ?_; refine Z0 ?_
  refine JD ?_; refine X0 ?_; refine JR ?_; refine Z1 ?_; refine Zv ?_; refine JD ?_; refine JT ?_; refine X0 ?_; refine JR ?_; refine Z1 ?_; refine Z0 ?_; refine JD ?_
  exact X1 ⟨_, St.le_refl _, ⟨rfl, trivial⟩, X3 _⟩
 rw [if_neg h3]
 obtain rfl : r2 = 0 := by omega
 by_cases h4 : r3 ≠ 0
 ·rw [if_pos h4]
  refine X0 ?_; refine JR ?_; refine ZA (γ := 100) ?_; refine ZA (γ := 101) ?_; refine Z0 ?_; refine JD ?_; refine X0 ?_; refine X0 ?_; refine JR ?_; refine ZB ?_; refine ZC ?_; refine ZB ?_; refine ZC ?_
  refine Zv ?_; refine JD ?_; refine JF ?_; refine X2 ?_; refine X0 ?_; refine X0 ?_; refine JR ?_; refine ZB ?_; refine ZC ?_; refine ZB ?_; refine ZC ?_; refine Z9 (hcon := c2) ?_; refine Z0 ?_
  refine JD ?_; refine X0 ?_; refine JR ?_; refine Z1 ?_; refine Zv ?_; refine JD ?_; refine JF ?_; refine X2 ?_; refine X0 ?_; refine X0 ?_; refine JR ?_; refine ZB ?_; refine ZC ?_; refine ZB ?_
  refine ZC ?_; refine Z9 (hcon := c3) ?_; refine Z0 ?_; refine JD ?_; refine X0 ?_; refine JR ?_; refine Z1 ?_; refine Zv ?_; refine JD ?_; refine JT ?_; refine X0 ?_; refine JR ?_; refine Z1 ?_; refine Z0 ?_
  refine JD ?_
  exact X1 ⟨_, St.le_refl _, ⟨rfl, trivial⟩, X3 _⟩
 rw [if_neg h4]
 obtain rfl : r3 = 0 := by omega
 by_cases h5 : n < n'
 ·rw [if_pos h5]
  have h5' : n ≠ n' := by omega
  refine X0 ?_; refine JR ?_; refine ZA (γ := 100) ?_; refine ZA (γ := 101) ?_; refine Z0 ?_; refine JD ?_; refine X0 ?_; refine X0 ?_; refine JR ?_; refine ZB ?_; refine ZC ?_; refine ZB ?_; refine ZC ?_
  refine Zv ?_; refine JD ?_; refine JF ?_; refine X2 ?_; refine X0 ?_; refine X0 ?_; refine JR ?_; refine ZB ?_; refine ZC ?_; refine ZB ?_; refine ZC ?_; refine Z9 (hcon := c2) ?_; refine Z0 ?_
  refine JD ?_; refine X0 ?_; refine JR ?_; refine Z1 ?_; refine Zv ?_; refine JD ?_; refine JF ?_; refine X2 ?_; refine X0 ?_; refine X0 ?_; refine JR ?_; refine ZB ?_; refine ZC ?_; refine ZB ?_
  refine ZC ?_; refine Z9 (hcon := c3) ?_; refine Z0 ?_; refine JD ?_; refine X0 ?_; refine JR ?_; refine Z1 ?_; refine Zv ?_; refine JD ?_; refine JF ?_; refine X2 ?_; refine X0 ?_; refine X0 ?_
  refine JR ?_; refine ZB ?_; refine ZC ?_; refine ZB ?_; refine ZC ?_; refine Zv ?_; refine JD ?_; refine JT ?_; refine X0 ?_; refine X0 ?_; refine JR ?_; refine ZB ?_; refine ZC ?_; refine ZB ?_; refine ZC ?_
  refine Z8 ?_; refine JD ?_; refine JT ?_; refine X0 ?_; refine JR ?_; refine Z0 ?_; refine JD ?_
  exact X1 ⟨_, St.le_refl _, ⟨rfl, trivial⟩, X3 _⟩
 rw [if_neg h5]
 by_cases h6 : n' < n
 ·rw [if_pos h6]
  have h6' : n ≠ n' := by omega
  refine X0 ?_; refine JR ?_; refine ZA (γ := 100) ?_; refine ZA (γ := 101) ?_; refine Z0 ?_; refine JD ?_; refine X0 ?_; refine X0 ?_; refine JR ?_; refine ZB ?_; refine ZC ?_; refine ZB ?_; refine ZC ?_
  refine Zv ?_; refine JD ?_; refine JF ?_; refine X2 ?_; refine X0 ?_; refine X0 ?_; refine JR ?_; refine ZB ?_; refine ZC ?_; refine ZB ?_; refine ZC ?_; refine Z9 (hcon := c2) ?_; refine Z0 ?_
  refine JD ?_; refine X0 ?_; refine JR ?_; refine Z1 ?_; refine Zv ?_; refine JD ?_; refine JF ?_; refine X2 ?_; refine X0 ?_; refine X0 ?_; refine JR ?_; refine ZB ?_; refine ZC ?_; refine ZB ?_
  refine ZC ?_; refine Z9 (hcon := c3) ?_; refine Z0 ?_; refine JD ?_; refine X0 ?_; refine JR ?_; refine Z1 ?_; refine Zv ?_; refine JD ?_; refine JF ?_; refine X2 ?_; refine X0 ?_; refine X0 ?_
  refine JR ?_; refine ZB ?_; refine ZC ?_; refine ZB ?_; refine ZC ?_; refine Zv ?_; refine JD ?_; refine JT ?_; refine X0 ?_; refine X0 ?_; refine JR ?_; refine ZB ?_; refine ZC ?_; refine ZB ?_; refine ZC ?_
  refine Z8 ?_; refine JD ?_; refine JF ?_; refine X2 ?_; refine X0 ?_; refine JR ?_; refine Z0 ?_; refine JD ?_
  exact X1 ⟨_, St.le_refl _, ⟨rfl, trivial⟩, X3 _⟩
 rw [if_neg h6]
 obtain rfl : n = n' := by omega
 by_cases h7 : r5 ≠ 0
 ·rw [if_pos h7]
  refine X0 ?_; refine JR ?_; refine ZA (γ := 100) ?_; refine ZA (γ := 101) ?_; refine Z0 ?_; refine JD ?_; refine X0 ?_; refine X0 ?_; refine JR ?_; refine ZB ?_; refine ZC ?_; refine ZB ?_; refine ZC ?_
  refine Zv ?_; refine JD ?_; refine JF ?_; refine X2 ?_; refine X0 ?_; refine X0 ?_; refine JR ?_; refine ZB ?_; refine ZC ?_; refine ZB ?_; refine ZC ?_; refine Z9 (hcon := c2) ?_; refine Z0 ?_
  refine JD ?_; refine X0 ?_; refine JR ?_; refine Z1 ?_; refine Zv ?_; refine JD ?_; refine JF ?_; refine X2 ?_; refine X0 ?_; refine X0 ?_; refine JR ?_; refine ZB ?_; refine ZC ?_; refine ZB ?_
  refine ZC ?_; refine Z9 (hcon := c3) ?_; refine Z0 ?_; refine JD ?_; refine X0 ?_; refine JR ?_; refine Z1 ?_; refine Zv ?_; refine JD ?_; refine JF ?_; refine X2 ?_; refine X0 ?_; refine X0 ?_
  refine JR ?_; refine ZB ?_; refine ZC ?_; refine ZB ?_; refine ZC ?_; refine Zv ?_; refine JD ?_; refine JF ?_; refine X2 ?_; refine X0 ?_; refine X0 ?_; refine JR ?_; refine ZB ?_; refine ZC ?_
  refine ZB ?_; refine ZC ?_; refine Z9 (hcon := c5) ?_; refine Z0 ?_; refine JD ?_; refine X0 ?_; refine JR ?_; refine Z1 ?_; refine Zv ?_; refine JD ?_; refine JT ?_; refine X0 ?_; refine JR ?_; refine Z1 ?_
  refine Z0 ?_; refine JD ?_
  exact X1 ⟨_, St.le_refl _, ⟨rfl, trivial⟩, X3 _⟩
 rw [if_neg h7]
 obtain rfl : r5 = 0 := by omega
 refine X0 ?_; refine JR ?_; refine ZA (γ := 100) ?_; refine ZA (γ := 101) ?_; refine Z0 ?_; refine JD ?_; refine X0 ?_; refine X0 ?_; refine JR ?_; refine ZB ?_; refine ZC ?_; refine ZB ?_; refine ZC ?_
 refine Zv ?_; refine JD ?_; refine JF ?_; refine X2 ?_; refine X0 ?_; refine X0 ?_; refine JR ?_; refine ZB ?_; refine ZC ?_; refine ZB ?_; refine ZC ?_; refine Z9 (hcon := c2) ?_; refine Z0 ?_
 refine JD ?_; refine X0 ?_; refine JR ?_; refine Z1 ?_; refine Zv ?_; refine JD ?_; refine JF ?_; refine X2 ?_; refine X0 ?_; refine X0 ?_; refine JR ?_; refine ZB ?_; refine ZC ?_; refine ZB ?_
 refine ZC ?_; refine Z9 (hcon := c3) ?_; refine Z0 ?_; refine JD ?_; refine X0 ?_; refine JR ?_; refine Z1 ?_; refine Zv ?_; refine JD ?_; refine JF ?_; refine X2 ?_; refine X0 ?_; refine X0 ?_
 refine JR ?_; refine ZB ?_; refine ZC ?_; refine ZB ?_; refine ZC ?_; refine Zv ?_; refine JD ?_; refine JF ?_; refine X2 ?_; refine X0 ?_; refine X0 ?_; refine JR ?_; refine ZB ?_; refine ZC ?_
 refine ZB ?_; refine ZC ?_; refine Z9 (hcon := c5) ?_; refine Z0 ?_; refine JD ?_; refine X0 ?_; refine JR ?_; refine Z1 ?_; refine Zv ?_; refine JD ?_; refine JF ?_; refine X2 ?_; refine X0 ?_
 refine JR ?_; refine ZB ?_; refine ZC ?_; refine ZB ?_; refine ZC ?_; refine Z9 (hcon := c6) ?_; refine Z0 ?_; refine JD ?_
 exact X1 ⟨_, St.le_refl _, ⟨rfl, trivial⟩, X3 _⟩
theorem X91 (l : List Rul) (hl : l.length ≤ 9223372036854775807) : Con Tryz.prog 48 [] [.d (.sl 6 (l.map Xp))] [] (ab (Uj l)) := by
 refine X9 (xs := [ab (Uj l)]) Tryz.func48 rfl Tryz.ntmps48 rfl rfl rfl (fun E => ?_)
 have hlm : (l.map Xp).length = l.length := by simp
 unfold Uj
 by_cases h40 : 40 < l.length
 ·rw [decide_eq_false (by omega : ¬ l.length ≤ 40), Bool.and_false]
  have h40' : (40 : Int) < (l.map Xp).length := by omega
  refine X0 ?_; refine JR ?_; refine Z0 ?_; refine JD ?_; refine X0 ?_; refine X0 ?_; refine JR ?_; refine Z1 ?_; refine Zd ?_; refine Zs ?_; refine JD ?_; refine JT ?_; refine X0 ?_; refine JR ?_
  refine Z0 ?_; refine JD ?_
  exact X1 ⟨_, St.le_refl _, ⟨rfl, trivial⟩, X3 _⟩
 have h40' : ¬ (40 : Int) < (l.map Xp).length := by omega
 rw [decide_eq_true (by omega : l.length ≤ 40), Bool.and_true]
 generalize hG : VC none l = G
 refine X0 ?_; refine JR ?_; refine Z0 ?_; refine JD ?_; refine X0 ?_; refine X0 ?_; refine JR ?_; refine Z1 ?_; refine Zd ?_; refine Zs ?_; refine JD ?_; refine JF ?_; refine X2 ?_; refine X0 ?_
 refine X0 ?_; refine JR ?_; refine Z0 ?_; refine JD ?_; refine X4 ?_
 refine Xy (fun i : Nat => i ≤ l.length ∧ VC (Yj l i) (l.drop i) = G) (fun i => ⟨36, [(0, .d (.sl 6 (l.map Xp))), (3, ai i)], []⟩) (fun i => l.length - i) 0 ⟨Nat.zero_le _, by simpa [Yj] using hG⟩
  (X8 rfl JM trivial) ?_
 rintro i ⟨hi, hg⟩
 by_cases hil : i < l.length
 case neg =>
  obtain rfl : i = l.length := by omega
  have hn : ¬ ((l.length : Nat) : Int) < (l.map Xp).length := by omega
  rw [List.drop_length, VC] at hg
  subst hg
  refine X0 ?_; refine X0 ?_; refine JR ?_; refine Z1 ?_; refine Z1 ?_; refine Zd ?_; refine Z8 ?_; refine JD ?_; refine JF ?_; refine Xj ?_; refine X0 ?_; refine JR ?_; refine Z0 ?_; refine JD ?_
  exact X1 ⟨_, St.le_refl _, ⟨rfl, trivial⟩, X3 _⟩
 have hn : (i : Int) < (l.map Xp).length := by omega
 obtain ⟨x, hx⟩ := Xu (l := l) hil
 have hxc : (l.map Xp)[i]? = some (Xp x) := XS hx
 have hc := X78 x
 rw [X8G hx] at hg
 by_cases he : YW x = 0
 case neg =>
  rw [decide_eq_false (fun h => he h.1), Bool.false_and] at hg
  subst hg
  generalize YW x = e at *
  obtain ⟨k, n, name, key, src, dst⟩ := x
  simp only [XW, Xp] at hc hxc
  refine X0 ?_; refine X0 ?_; refine JR ?_; refine Z1 ?_; refine Z1 ?_; refine Zd ?_; refine Z8 ?_; refine JD ?_; refine JT ?_; refine X2 ?_; refine X0 ?_; refine X4 ?_; refine X0 ?_
  refine JR ?_; refine Z1 ?_; refine Z1 ?_; refine Zj ?_; refine ZK ?_; refine Z9 (hcon := hc) ?_; refine Zv ?_; refine Z1 ?_; refine Zo ?_; refine Zo ?_; refine Zo ?_; refine Zp ?_; refine Zp ?_; refine Zp ?_
  refine Zp ?_; refine Zp ?_; refine Zp ?_; refine Zp ?_; refine Zp ?_; refine Zp ?_; refine Zp ?_; refine Zp ?_; refine Zo ?_; refine Zn ?_; refine JD ?_; refine JT ?_; refine X0 ?_; refine JR ?_; refine Z0 ?_
  refine JD ?_
  exact X1 ⟨_, St.le_refl _, ⟨rfl, trivial⟩, X3 _⟩
 by_cases h0 : i = 0
 ·subst h0
  rw [decide_eq_true ⟨he, fun q h => by simp [Yj] at h⟩, Bool.true_and] at hg
  rw [he] at hc
  obtain ⟨k, n, name, key, src, dst⟩ := x
  simp only [XW, Xp] at hc hxc
  refine X0 ?_; refine X0 ?_; refine JR ?_; refine Z1 ?_; refine Z1 ?_; refine Zd ?_; refine Z8 ?_; refine JD ?_; refine JT ?_; refine X2 ?_; refine X0 ?_; refine X4 ?_; refine X0 ?_
  refine JR ?_; refine Z1 ?_; refine Z1 ?_; refine Zj ?_; refine ZK ?_; refine Z9 (hcon := hc) ?_; refine Zv ?_; refine Z1 ?_; refine Z1 ?_; refine Zs ?_; refine Z1 ?_; refine Zo ?_; refine Zo ?_; refine Zo ?_
  refine Zo ?_; refine Zo ?_; refine Zo ?_; refine Zo ?_; refine Zo ?_; refine Zo ?_; refine Zo ?_; refine Zo ?_; refine Zq ?_; refine Zq ?_; refine JD ?_; refine JF ?_; refine X2 ?_; refine JR ?_; refine Z1 ?_
  refine Zb ?_; refine Z0 ?_; refine JD ?_
  exact ⟨0 + 1, ⟨by omega, hg⟩, by omega, X8 rfl JM trivial⟩
 obtain ⟨j, rfl⟩ : ∃ j, i = j + 1 := ⟨i - 1, by omega⟩
 obtain ⟨p, hp⟩ := Xu (l := l) (k := j) (by omega)
 have hpp : (l.map Xp)[j]? = some (Xp p) := XS hp
 have ho := XdO p x
 rw [he] at hc
 by_cases hlt : UW p x < 0
 ·rw [decide_eq_true ⟨he, fun q h => by rw [X0Q, hp] at h; injection h with h; rw [← h]; exact hlt⟩, Bool.true_and] at hg
  generalize UW p x = o at *
  obtain ⟨k, n, name, key, src, dst⟩ := x
  obtain ⟨k', n', name', key', src', dst'⟩ := p
  simp only [XW, Xp] at hc hxc ho hpp
  refine X0 ?_; refine X0 ?_; refine JR ?_; refine Z1 ?_; refine Z1 ?_; refine Zd ?_; refine Z8 ?_; refine JD ?_; refine JT ?_; refine X2 ?_; refine X0 ?_; refine X4 ?_; refine X0 ?_
  refine JR ?_; refine Z1 ?_; refine Z1 ?_; refine Zj ?_; refine ZK ?_; refine Z9 (hcon := hc) ?_; refine Zv ?_; refine Z1 ?_; refine Z1 ?_; refine Zs ?_; refine Z1 ?_; refine Z1 ?_; refine Z1 ?_
  refine Z4 (op := .sub) (r' := .int .i64 ((j : Nat) : Int)) (u := .int .i64 ((j + 1 : Nat) : Int)) (v := .int .i64 1) ?_ (hr' := by exact congrArg (Value.int .i64) (show (((j + 1 : Nat) : Int) - 1) = (j : Int) by omega)) (hr := by exact Ya (by unfold Y7; omega))
  refine Zj ?_; refine ZK ?_; refine Z1 ?_; refine Z1 ?_; refine Zj ?_; refine ZK ?_; refine Z9 (hcon := ho) ?_; refine Z2 ?_; refine Zn ?_; refine Zq ?_; refine JD ?_; refine JF ?_; refine X2 ?_; refine JR ?_
  refine Z1 ?_; refine Zb ?_; refine Z0 ?_; refine JD ?_
  exact ⟨j + 1 + 1, ⟨by omega, hg⟩, by omega, X8 rfl JM trivial⟩
 ·rw [decide_eq_false (fun h => hlt (h.2 p (by rw [X0Q, hp]))), Bool.false_and] at hg
  subst hg
  have hge : UW p x ≥ 0 := by omega
  generalize UW p x = o at *
  obtain ⟨k, n, name, key, src, dst⟩ := x
  obtain ⟨k', n', name', key', src', dst'⟩ := p
  simp only [XW, Xp] at hc hxc ho hpp
  refine X0 ?_; refine X0 ?_; refine JR ?_; refine Z1 ?_; refine Z1 ?_; refine Zd ?_; refine Z8 ?_; refine JD ?_; refine JT ?_; refine X2 ?_; refine X0 ?_; refine X4 ?_; refine X0 ?_
  refine JR ?_; refine Z1 ?_; refine Z1 ?_; refine Zj ?_; refine ZK ?_; refine Z9 (hcon := hc) ?_; refine Zv ?_; refine Z1 ?_; refine Z1 ?_; refine Zs ?_; refine Z1 ?_; refine Z1 ?_; refine Z1 ?_
  refine Z4 (op := .sub) (r' := .int .i64 ((j : Nat) : Int)) (u := .int .i64 ((j + 1 : Nat) : Int)) (v := .int .i64 1) ?_ (hr' := by exact congrArg (Value.int .i64) (show (((j + 1 : Nat) : Int) - 1) = (j : Int) by omega)) (hr := by exact Ya (by unfold Y7; omega))
  refine Zj ?_; refine ZK ?_; refine Z1 ?_; refine Z1 ?_; refine Zj ?_; refine ZK ?_; refine Z9 (hcon := ho) ?_; refine Z2 ?_; refine Zn ?_; refine Zq ?_; refine JD ?_; refine JT ?_; refine X0 ?_; refine JR ?_
  refine Z0 ?_; refine JD ?_
  exact X1 ⟨_, St.le_refl _, ⟨rfl, trivial⟩, X3 _⟩
end Go.Fw
