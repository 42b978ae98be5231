/- The order of rules, valid schemas; the program's and the reference's. -/
import Derived.Test.YtbhleedlnaakkaaGreatK19
import Derived.Test.YtbhleedlnaakkaaGreatK29
set_option maxHeartbeats 16000000
namespace Go.Fw
open Go Go.Proofs
set_option maxRecDepth 100000
set_option linter.unusedVariables false
set_option linter.unusedSimpArgs false
theorem X1g (s t : List UInt8) : Con Tryz.prog 161 [] [.d (.v (.string (X7 s))), .d (.v (.string (X7 t)))] [] (ai (XX s t)) := by
 refine Xa (xs := [ai (XX s t)]) Tryz.func161 rfl Tryz.ntmps161 rfl rfl rfl (fun E => ?_)
 unfold XX
 cases h1 : Op.bytesLess s t with
 | true =>
  rw [if_pos rfl]
  refine X0 ?_; refine JR ?_; refine Z0 ?_; refine JD ?_; refine X0 ?_; refine X0 ?_; refine JR ?_; refine Z1 ?_; refine Z1 ?_; refine Z08 ?_; refine JD ?_; refine JT ?_; refine X0 ?_; refine JR ?_
  refine Z0 ?_; refine JD ?_
  exact X1 ⟨_, St.le_refl _, ⟨rfl, trivial⟩, X2 _⟩
 | false =>
  rw [if_neg (by simp)]
  by_cases h2 : s = t
  ·rw [if_pos h2]
   have h3 : (!(Op.bytesLess s t || decide (s = t))) = false := by simp [h2]
   refine X0 ?_; refine JR ?_; refine Z0 ?_; refine JD ?_; refine X0 ?_; refine X0 ?_; refine JR ?_; refine Z1 ?_; refine Z1 ?_; refine Z08 ?_; refine JD ?_; refine JF ?_; refine X3 ?_
   refine X0 ?_; refine X0 ?_; refine JR ?_; refine Z1 ?_; refine Z1 ?_; refine Z09 ?_; refine JD ?_; refine JF ?_; refine X3 ?_; refine X0 ?_; refine JR ?_; refine Z0 ?_; refine JD ?_
   exact X1 ⟨_, St.le_refl _, ⟨rfl, trivial⟩, X2 _⟩
  ·rw [if_neg h2]
   have h3 : (!(Op.bytesLess s t || decide (s = t))) = true := by simp [h1, h2]
   refine X0 ?_; refine JR ?_; refine Z0 ?_; refine JD ?_; refine X0 ?_; refine X0 ?_; refine JR ?_; refine Z1 ?_; refine Z1 ?_; refine Z08 ?_; refine JD ?_; refine JF ?_; refine X3 ?_
   refine X0 ?_; refine X0 ?_; refine JR ?_; refine Z1 ?_; refine Z1 ?_; refine Z09 ?_; refine JD ?_; refine JT ?_; refine X0 ?_; refine JR ?_; refine Z0 ?_; refine JD ?_
   exact X1 ⟨_, St.le_refl _, ⟨rfl, trivial⟩, X2 _⟩
theorem X9z (a b : Rul) : Con Tryz.prog 102 [] [Xv a, Xv b] [] (ai (YG a b)) := by
 refine Xa (xs := [ai (YG a b)]) Tryz.func102 rfl Tryz.ntmps102 rfl rfl rfl (fun E => ?_)
 have c2 := X1g a.name b.name
 have c3 := X1g a.key b.key
 have c5 := X1g a.src b.src
 have c6 := X1g a.dst b.dst
 unfold YG
 generalize XX a.name b.name = r2 at *
 generalize XX a.key b.key = r3 at *
 generalize XX a.src b.src = r5 at *
 generalize XX a.dst b.dst = r6 at *
 obtain ⟨k, n, name, key, src, dst⟩ := a
 obtain ⟨k', n', name', key', src', dst'⟩ := b
 simp only [Xv] at *
 by_cases h1 : k < k'
 ·rw [if_pos h1]
  have h1' : k ≠ k' := by omega
  refine X0 ?_; refine JR ?_; refine ZA (γ := 100) ?_; refine ZA (γ := 101) ?_; refine Z0 ?_; refine JD ?_; refine X0 ?_; refine X0 ?_; refine JR ?_; refine ZB ?_; refine ZC ?_; refine ZB ?_; refine ZC ?_
  refine Zv ?_; refine JD ?_; refine JT ?_; refine X0 ?_; refine X0 ?_; refine JR ?_; refine ZB ?_; refine ZC ?_; refine ZB ?_; refine ZC ?_; refine Z8 ?_; refine JD ?_; refine JT ?_; refine X0 ?_
  refine JR ?_; refine Z0 ?_; refine JD ?_
  exact X1 ⟨_, St.le_refl _, ⟨rfl, trivial⟩, X2 _⟩
 rw [if_neg h1]
 by_cases h2 : k' < k
 ·rw [if_pos h2]
  have h2' : k ≠ k' := by omega
  refine X0 ?_; refine JR ?_; refine ZA (γ := 100) ?_; refine ZA (γ := 101) ?_; refine Z0 ?_; refine JD ?_; refine X0 ?_; refine X0 ?_; refine JR ?_; refine ZB ?_; refine ZC ?_; refine ZB ?_; refine ZC ?_
  refine Zv ?_; refine JD ?_; refine JT ?_; refine X0 ?_; refine X0 ?_; refine JR ?_; refine ZB ?_; refine ZC ?_; refine ZB ?_; refine ZC ?_; refine Z8 ?_; refine JD ?_; refine JF ?_; refine X3 ?_
  refine X0 ?_; refine JR ?_; refine Z0 ?_; refine JD ?_
  exact X1 ⟨_, St.le_refl _, ⟨rfl, trivial⟩, X2 _⟩
 rw [if_neg h2]
 obtain rfl : k = k' := by omega
 by_cases h3 : r2 ≠ 0
 ·rw [if_pos h3]
  refine X0 ?_; refine JR ?_; refine ZA (γ := 100) ?_; refine ZA (γ := 101) ?_; refine Z0 ?_; refine JD ?_; refine X0 ?_; refine X0 ?_; refine JR ?_; refine ZB ?_; refine ZC ?_; refine ZB ?_; refine ZC ?_
  refine Zv ?_; refine JD ?_; refine JF ?_; refine X3 ?_; refine X0 ?_; refine X0 ?_; refine JR ?_; refine ZB ?_; refine ZC ?_; refine ZB ?_; refine ZC ?_; refine Z9 (hcon := c2) ?_; refine Z0 ?_
  refine JD ?_; refine X0 ?_; refine JR ?_; refine Z1 ?_; refine Zv ?_; refine JD ?_; refine JT ?_; refine X0 ?_; refine JR ?_; refine Z1 ?_; refine Z0 ?_; refine JD ?_
  exact X1 ⟨_, St.le_refl _, ⟨rfl, trivial⟩, X2 _⟩
 rw [if_neg h3]
 obtain rfl : r2 = 0 := by omega
 by_cases h4 : r3 ≠ 0
 ·rw [if_pos h4]
  refine X0 ?_; refine JR ?_; refine ZA (γ := 100) ?_; refine ZA (γ := 101) ?_; refine Z0 ?_; refine JD ?_; refine X0 ?_; refine X0 ?_; refine JR ?_; refine ZB ?_; refine ZC ?_; refine ZB ?_; refine ZC ?_
  refine Zv ?_; refine JD ?_; refine JF ?_; refine X3 ?_; refine X0 ?_; refine X0 ?_; refine JR ?_; refine ZB ?_; refine ZC ?_; refine ZB ?_; refine ZC ?_; refine Z9 (hcon := c2) ?_; refine Z0 ?_
  refine JD ?_; refine X0 ?_; refine JR ?_; refine Z1 ?_; refine Zv ?_; refine JD ?_; refine JF ?_; refine X3 ?_; refine X0 ?_; refine X0 ?_; refine JR ?_; refine ZB ?_; refine ZC ?_; refine ZB ?_
  refine ZC ?_; refine Z9 (hcon := c3) ?_; refine Z0 ?_; refine JD ?_; refine X0 ?_; refine JR ?_; refine Z1 ?_; refine Zv ?_; refine JD ?_; refine JT ?_; refine X0 ?_; refine JR ?_; refine Z1 ?_; refine Z0 ?_
  refine JD ?_
  exact X1 ⟨_, St.le_refl _, ⟨rfl, trivial⟩, X2 _⟩
 rw [if_neg h4]
 obtain rfl : r3 = 0 := by omega
 by_cases h5 : n < n'
 ·rw [if_pos h5]
  have h5' : n ≠ n' := by omega
  refine X0 ?_; refine JR ?_; refine ZA (γ := 100) ?_; refine ZA (γ := 101) ?_; refine Z0 ?_; refine JD ?_; refine X0 ?_; refine X0 ?_; refine JR ?_; refine ZB ?_; refine ZC ?_; refine ZB ?_; refine ZC ?_
  refine Zv ?_; refine JD ?_; refine JF ?_; refine X3 ?_; refine X0 ?_; refine X0 ?_; refine JR ?_; refine ZB ?_; refine ZC ?_; refine ZB ?_; refine ZC ?_; refine Z9 (hcon := c2) ?_; refine Z0 ?_
  refine JD ?_; refine X0 ?_; refine JR ?_; refine Z1 ?_; refine Zv ?_; refine JD ?_; refine JF ?_; refine X3 ?_; refine X0 ?_; refine X0 ?_; refine JR ?_; refine ZB ?_; refine ZC ?_; refine ZB ?_
  refine ZC ?_; refine Z9 (hcon := c3) ?_; refine Z0 ?_; refine JD ?_; refine X0 ?_; refine JR ?_; refine Z1 ?_; refine Zv ?_; refine JD ?_; refine JF ?_; refine X3 ?_; refine X0 ?_; refine X0 ?_
  refine JR ?_; refine ZB ?_; refine ZC ?_; refine ZB ?_; refine ZC ?_; refine Zv ?_; refine JD ?_; refine JT ?_; refine X0 ?_; refine X0 ?_; refine JR ?_; refine ZB ?_; refine ZC ?_; refine ZB ?_; refine ZC ?_
  refine Z8 ?_; refine JD ?_; refine JT ?_; refine X0 ?_; refine JR ?_; refine Z0 ?_; refine JD ?_
  exact X1 ⟨_, St.le_refl _, ⟨rfl, trivial⟩, X2 _⟩
 rw [if_neg h5]
 by_cases h6 : n' < n
 ·rw [if_pos h6]
  have h6' : n ≠ n' := by omega
  refine X0 ?_; refine JR ?_; refine ZA (γ := 100) ?_; refine ZA (γ := 101) ?_; refine Z0 ?_; refine JD ?_; refine X0 ?_; refine X0 ?_; refine JR ?_; refine ZB ?_; refine ZC ?_; refine ZB ?_; refine ZC ?_
  refine Zv ?_; refine JD ?_; refine JF ?_; refine X3 ?_; refine X0 ?_; refine X0 ?_; refine JR ?_; refine ZB ?_; refine ZC ?_; refine ZB ?_; refine ZC ?_; refine Z9 (hcon := c2) ?_; refine Z0 ?_
  refine JD ?_; refine X0 ?_; refine JR ?_; refine Z1 ?_; refine Zv ?_; refine JD ?_; refine JF ?_; refine X3 ?_; refine X0 ?_; refine X0 ?_; refine JR ?_; refine ZB ?_; refine ZC ?_; refine ZB ?_
  refine ZC ?_; refine Z9 (hcon := c3) ?_; refine Z0 ?_; refine JD ?_; refine X0 ?_; refine JR ?_; refine Z1 ?_; refine Zv ?_; refine JD ?_; refine JF ?_; refine X3 ?_; refine X0 ?_; refine X0 ?_
  refine JR ?_; refine ZB ?_; refine ZC ?_; refine ZB ?_; refine ZC ?_; refine Zv ?_; refine JD ?_; refine JT ?_; refine X0 ?_; refine X0 ?_; refine JR ?_; refine ZB ?_; refine ZC ?_; refine ZB ?_; refine ZC ?_
  refine Z8 ?_; refine JD ?_; refine JF ?_; refine X3 ?_; refine X0 ?_; refine JR ?_; refine Z0 ?_; refine JD ?_
  exact X1 ⟨_, St.le_refl _, ⟨rfl, trivial⟩, X2 _⟩
 rw [if_neg h6]
 obtain rfl : n = n' := by omega
 by_cases h7 : r5 ≠ 0
 ·rw [if_pos h7]
  refine X0 ?_; refine JR ?_; refine ZA (γ := 100) ?_; refine ZA (γ := 101) ?_; refine Z0 ?_; refine JD ?_; refine X0 ?_; refine X0 ?_; refine JR ?_; refine ZB ?_; refine ZC ?_; refine ZB ?_; refine ZC ?_
  refine Zv ?_; refine JD ?_; refine JF ?_; refine X3 ?_; refine X0 ?_; refine X0 ?_; refine JR ?_; refine ZB ?_; refine ZC ?_; refine ZB ?_; refine ZC ?_; refine Z9 (hcon := c2) ?_; refine Z0 ?_
  refine JD ?_; refine X0 ?_; refine JR ?_; refine Z1 ?_; refine Zv ?_; refine JD ?_; refine JF ?_; refine X3 ?_; refine X0 ?_; refine X0 ?_; refine JR ?_; refine ZB ?_; refine ZC ?_; refine ZB ?_
  refine ZC ?_; refine Z9 (hcon := c3) ?_; refine Z0 ?_; refine JD ?_; refine X0 ?_; refine JR ?_; refine Z1 ?_; refine Zv ?_; refine JD ?_; refine JF ?_; refine X3 ?_; refine X0 ?_; refine X0 ?_
  refine JR ?_; refine ZB ?_; refine ZC ?_; refine ZB ?_; refine ZC ?_; refine Zv ?_; refine JD ?_; refine JF ?_; refine X3 ?_; refine X0 ?_; refine X0 ?_; refine JR ?_; refine ZB ?_; refine ZC ?_
  refine ZB ?_; refine ZC ?_; refine Z9 (hcon := c5) ?_; refine Z0 ?_; refine JD ?_; refine X0 ?_; refine JR ?_; refine Z1 ?_; refine Zv ?_; refine JD ?_; refine JT ?_; refine X0 ?_; refine JR ?_; refine Z1 ?_
  refine Z0 ?_; refine JD ?_
  exact X1 ⟨_, St.le_refl _, ⟨rfl, trivial⟩, X2 _⟩
 rw [if_neg h7]
 obtain rfl : r5 = 0 := by omega
 refine X0 ?_; refine JR ?_; refine ZA (γ := 100) ?_; refine ZA (γ := 101) ?_; refine Z0 ?_; refine JD ?_; refine X0 ?_; refine X0 ?_; refine JR ?_; refine ZB ?_; refine ZC ?_; refine ZB ?_; refine ZC ?_
 refine Zv ?_; refine JD ?_; refine JF ?_; refine X3 ?_; refine X0 ?_; refine X0 ?_; refine JR ?_; refine ZB ?_; refine ZC ?_; refine ZB ?_; refine ZC ?_; refine Z9 (hcon := c2) ?_; refine Z0 ?_
 refine JD ?_; refine X0 ?_; refine JR ?_; refine Z1 ?_; refine Zv ?_; refine JD ?_; refine JF ?_; refine X3 ?_; refine X0 ?_; refine X0 ?_; refine JR ?_; refine ZB ?_; refine ZC ?_; refine ZB ?_
 refine ZC ?_; refine Z9 (hcon := c3) ?_; refine Z0 ?_; refine JD ?_; refine X0 ?_; refine JR ?_; refine Z1 ?_; refine Zv ?_; refine JD ?_; refine JF ?_; refine X3 ?_; refine X0 ?_; refine X0 ?_
 refine JR ?_; refine ZB ?_; refine ZC ?_; refine ZB ?_; refine ZC ?_; refine Zv ?_; refine JD ?_; refine JF ?_; refine X3 ?_; refine X0 ?_; refine X0 ?_; refine JR ?_; refine ZB ?_; refine ZC ?_
 refine ZB ?_; refine ZC ?_; refine Z9 (hcon := c5) ?_; refine Z0 ?_; refine JD ?_; refine X0 ?_; refine JR ?_; refine Z1 ?_; refine Zv ?_; refine JD ?_; refine JF ?_; refine X3 ?_; refine X0 ?_
 refine JR ?_; refine ZB ?_; refine ZC ?_; refine ZB ?_; refine ZC ?_; refine Z9 (hcon := c6) ?_; refine Z0 ?_; refine JD ?_
 exact X1 ⟨_, St.le_refl _, ⟨rfl, trivial⟩, X2 _⟩
theorem X8J (l : List Rul) (hl : l.length ≤ 9223372036854775807) : Con Tryz.prog 48 [] [.d (.sl 6 (l.map Xo))] [] (ab (YY l)) := by
 refine Xa (xs := [ab (YY l)]) Tryz.func48 rfl Tryz.ntmps48 rfl rfl rfl (fun E => ?_)
 have hlm : (l.map Xo).length = l.length := by simp
 unfold YY
 by_cases h40 : 40 < l.length
 ·rw [decide_eq_false (by omega : ¬ l.length ≤ 40), Bool.and_false]
  have h40' : (40 : Int) < (l.map Xo).length := by omega
  refine X0 ?_; refine JR ?_; refine Z0 ?_; refine JD ?_; refine X0 ?_; refine X0 ?_; refine JR ?_; refine Z1 ?_; refine Zd ?_; refine Zs ?_; refine JD ?_; refine JT ?_; refine X0 ?_; refine JR ?_
  refine Z0 ?_; refine JD ?_
  exact X1 ⟨_, St.le_refl _, ⟨rfl, trivial⟩, X2 _⟩
 have h40' : ¬ (40 : Int) < (l.map Xo).length := by omega
 rw [decide_eq_true (by omega : l.length ≤ 40), Bool.and_true]
 generalize hG : Ul none l = G
 refine X0 ?_; refine JR ?_; refine Z0 ?_; refine JD ?_; refine X0 ?_; refine X0 ?_; refine JR ?_; refine Z1 ?_; refine Zd ?_; refine Zs ?_; refine JD ?_; refine JF ?_; refine X3 ?_; refine X0 ?_
 refine X0 ?_; refine JR ?_; refine Z0 ?_; refine JD ?_; refine X4 ?_
 refine Xt (fun i : Nat => i ≤ l.length ∧ Ul (XF l i) (l.drop i) = G) (fun i => ⟨36, [(0, .d (.sl 6 (l.map Xo))), (3, ai i)], []⟩) (fun i => l.length - i) 0 ⟨Nat.zero_le _, by simpa [XF] using hG⟩
  (X6 rfl JM trivial) ?_
 rintro i ⟨hi, hg⟩
 by_cases hil : i < l.length
 case neg =>
  obtain rfl : i = l.length := by omega
  have hn : ¬ ((l.length : Nat) : Int) < (l.map Xo).length := by omega
  rw [List.drop_length, Ul] at hg
  subst hg
  refine X0 ?_; refine X0 ?_; refine JR ?_; refine Z1 ?_; refine Z1 ?_; refine Zd ?_; refine Z8 ?_; refine JD ?_; refine JF ?_; refine Xp ?_; refine X0 ?_; refine JR ?_; refine Z0 ?_; refine JD ?_
  exact X1 ⟨_, St.le_refl _, ⟨rfl, trivial⟩, X2 _⟩
 have hn : (i : Int) < (l.map Xo).length := by omega
 obtain ⟨x, hx⟩ := Xm (l := l) hil
 have hxc : (l.map Xo)[i]? = some (Xo x) := Xq hx
 have hc := X5n x
 rw [X5h hx] at hg
 by_cases he : Yr x = 0
 case neg =>
  rw [decide_eq_false (fun h => he h.1), Bool.false_and] at hg
  subst hg
  generalize Yr x = e at *
  obtain ⟨k, n, name, key, src, dst⟩ := x
  simp only [Xv, Xo] at hc hxc
  refine X0 ?_; refine X0 ?_; refine JR ?_; refine Z1 ?_; refine Z1 ?_; refine Zd ?_; refine Z8 ?_; refine JD ?_; refine JT ?_; refine X3 ?_; refine X0 ?_; refine X4 ?_; refine X0 ?_
  refine JR ?_; refine Z1 ?_; refine Z1 ?_; refine Zj ?_; refine ZK ?_; refine Z9 (hcon := hc) ?_; refine Zv ?_; refine Z1 ?_; refine Zo ?_; refine Zo ?_; refine Zo ?_; refine Zp ?_; refine Zp ?_; refine Zp ?_
  refine Zp ?_; refine Zp ?_; refine Zp ?_; refine Zp ?_; refine Zp ?_; refine Zp ?_; refine Zp ?_; refine Zp ?_; refine Zo ?_; refine Zn ?_; refine JD ?_; refine JT ?_; refine X0 ?_; refine JR ?_; refine Z0 ?_
  refine JD ?_
  exact X1 ⟨_, St.le_refl _, ⟨rfl, trivial⟩, X2 _⟩
 by_cases h0 : i = 0
 ·subst h0
  rw [decide_eq_true ⟨he, fun q h => by simp [XF] at h⟩, Bool.true_and] at hg
  rw [he] at hc
  obtain ⟨k, n, name, key, src, dst⟩ := x
  simp only [Xv, Xo] at hc hxc
  refine X0 ?_; refine X0 ?_; refine JR ?_; refine Z1 ?_; refine Z1 ?_; refine Zd ?_; refine Z8 ?_; refine JD ?_; refine JT ?_; refine X3 ?_; refine X0 ?_; refine X4 ?_; refine X0 ?_
  refine JR ?_; refine Z1 ?_; refine Z1 ?_; refine Zj ?_; refine ZK ?_; refine Z9 (hcon := hc) ?_; refine Zv ?_; refine Z1 ?_; refine Z1 ?_; refine Zs ?_; refine Z1 ?_; refine Zo ?_; refine Zo ?_; refine Zo ?_
  refine Zo ?_; refine Zo ?_; refine Zo ?_; refine Zo ?_; refine Zo ?_; refine Zo ?_; refine Zo ?_; refine Zo ?_; refine Zq ?_; refine Zq ?_; refine JD ?_; refine JF ?_; refine X3 ?_; refine JR ?_; refine Z1 ?_
  refine Zb ?_; refine Z0 ?_; refine JD ?_
  exact ⟨0 + 1, ⟨by omega, hg⟩, by omega, X6 rfl JM trivial⟩
 obtain ⟨j, rfl⟩ : ∃ j, i = j + 1 := ⟨i - 1, by omega⟩
 obtain ⟨p, hp⟩ := Xm (l := l) (k := j) (by omega)
 have hpp : (l.map Xo)[j]? = some (Xo p) := Xq hp
 have ho := X9z p x
 rw [he] at hc
 by_cases hlt : YG p x < 0
 ·rw [decide_eq_true ⟨he, fun q h => by rw [V6, hp] at h; injection h with h; rw [← h]; exact hlt⟩, Bool.true_and] at hg
  generalize YG p x = o at *
  obtain ⟨k, n, name, key, src, dst⟩ := x
  obtain ⟨k', n', name', key', src', dst'⟩ := p
  simp only [Xv, Xo] at hc hxc ho hpp
  refine X0 ?_; refine X0 ?_; refine JR ?_; refine Z1 ?_; refine Z1 ?_; refine Zd ?_; refine Z8 ?_; refine JD ?_; refine JT ?_; refine X3 ?_; refine X0 ?_; refine X4 ?_; refine X0 ?_
  refine JR ?_; refine Z1 ?_; refine Z1 ?_; refine Zj ?_; refine ZK ?_; refine Z9 (hcon := hc) ?_; refine Zv ?_; refine Z1 ?_; refine Z1 ?_; refine Zs ?_; refine Z1 ?_; refine Z1 ?_; refine Z1 ?_
  refine Z4 (op := .sub) (r' := .int .i64 ((j : Nat) : Int)) (u := .int .i64 ((j + 1 : Nat) : Int)) (v := .int .i64 1) ?_ (hr' := by exact congrArg (Value.int .i64) (show (((j + 1 : Nat) : Int) - 1) = (j : Int) by omega)) (hr := by exact XJ (by unfold XB; omega))
  refine Zj ?_; refine ZK ?_; refine Z1 ?_; refine Z1 ?_; refine Zj ?_; refine ZK ?_; refine Z9 (hcon := ho) ?_; refine Z2 ?_; refine Zn ?_; refine Zq ?_; refine JD ?_; refine JF ?_; refine X3 ?_; refine JR ?_
  refine Z1 ?_; refine Zb ?_; refine Z0 ?_; refine JD ?_
  exact ⟨j + 1 + 1, ⟨by omega, hg⟩, by omega, X6 rfl JM trivial⟩
 ·rw [decide_eq_false (fun h => hlt (h.2 p (by rw [V6, hp]))), Bool.false_and] at hg
  subst hg
  have hge : YG p x ≥ 0 := by omega
  generalize YG p x = o at *
  obtain ⟨k, n, name, key, src, dst⟩ := x
  obtain ⟨k', n', name', key', src', dst'⟩ := p
  simp only [Xv, Xo] at hc hxc ho hpp
  refine X0 ?_; refine X0 ?_; refine JR ?_; refine Z1 ?_; refine Z1 ?_; refine Zd ?_; refine Z8 ?_; refine JD ?_; refine JT ?_; refine X3 ?_; refine X0 ?_; refine X4 ?_; refine X0 ?_
  refine JR ?_; refine Z1 ?_; refine Z1 ?_; refine Zj ?_; refine ZK ?_; refine Z9 (hcon := hc) ?_; refine Zv ?_; refine Z1 ?_; refine Z1 ?_; refine Zs ?_; refine Z1 ?_; refine Z1 ?_; refine Z1 ?_
  refine Z4 (op := .sub) (r' := .int .i64 ((j : Nat) : Int)) (u := .int .i64 ((j + 1 : Nat) : Int)) (v := .int .i64 1) ?_ (hr' := by exact congrArg (Value.int .i64) (show (((j + 1 : Nat) : Int) - 1) = (j : Int) by omega)) (hr := by exact XJ (by unfold XB; omega))
  refine Zj ?_; refine ZK ?_; refine Z1 ?_; refine Z1 ?_; refine Zj ?_; refine ZK ?_; refine Z9 (hcon := ho) ?_; refine Z2 ?_; refine Zn ?_; refine Zq ?_; refine JD ?_; refine JT ?_; refine X0 ?_; refine JR ?_
  refine Z0 ?_; refine JD ?_
  exact X1 ⟨_, St.le_refl _, ⟨rfl, trivial⟩, X2 _⟩
end Go.Fw
