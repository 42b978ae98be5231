/- The order of rules, valid schemas; the program's and the reference's. -/
import Derived.Test.YtbhleedlnaakkaaK12
set_option maxHeartbeats 16000000
namespace Go.Fw
open Go Go.Proofs
set_option maxRecDepth 100000
set_option linter.unusedVariables false
set_option linter.unusedSimpArgs false
theorem X0w (s t : List UInt8) : Con Try.prog 35 [] [.d (.v (.string (X5 s))), .d (.v (.string (X5 t)))] [] (ai (Xy s t)) := by
 refine Xf (xs := [ai (Xy s t)]) Try.func35 rfl Try.ntmps35 rfl rfl rfl (fun E => ?_)
 have n1 := X2K s
 have n2 := X2K t
 unfold Xy
 cases h1 : Op.bytesLess s t with
 | true =>
  rw [if_pos rfl]
  refine X0 ?_; refine JR ?_; refine Z0 ?_; refine JD ?_; refine X0 ?_; refine JR ?_; refine Z1 ?_; refine Zc (hcon := n1) ?_; refine Z0 ?_; refine JD ?_; refine X0 ?_; refine JR ?_; refine Z1 ?_
  refine Zc (hcon := n2) ?_; refine Z0 ?_; refine JD ?_; refine X0 ?_; refine X0 ?_; refine JR ?_; refine Z1 ?_; refine JD ?_; refine JF ?_; refine X3 ?_; refine X0 ?_; refine X0 ?_; refine JR ?_
  refine Z1 ?_; refine JD ?_; refine JF ?_; refine X3 ?_; refine X0 ?_; refine X0 ?_; refine JR ?_; refine Z1 ?_; refine Z1 ?_; refine ZK ?_; refine JD ?_; refine JT ?_; refine X0 ?_; refine JR ?_
  refine Z0 ?_; refine JD ?_
  exact X1 ⟨_, St.le_refl _, ⟨rfl, trivial⟩, X2 _⟩
 | false =>
  rw [if_neg (by simp)]
  by_cases h2 : s = t
  ·rw [if_pos h2]
   have h3 : (!(Op.bytesLess s t || decide (s = t))) = false := by simp [h2]
   refine X0 ?_; refine JR ?_; refine Z0 ?_; refine JD ?_; refine X0 ?_; refine JR ?_; refine Z1 ?_; refine Zc (hcon := n1) ?_; refine Z0 ?_; refine JD ?_; refine X0 ?_; refine JR ?_; refine Z1 ?_
   refine Zc (hcon := n2) ?_; refine Z0 ?_; refine JD ?_; refine X0 ?_; refine X0 ?_; refine JR ?_; refine Z1 ?_; refine JD ?_; refine JF ?_; refine X3 ?_; refine X0 ?_; refine X0 ?_; refine JR ?_
   refine Z1 ?_; refine JD ?_; refine JF ?_; refine X3 ?_; refine X0 ?_; refine X0 ?_; refine JR ?_; refine Z1 ?_; refine Z1 ?_; refine ZK ?_; refine JD ?_; refine JF ?_; refine X3 ?_
   refine X0 ?_; refine X0 ?_; refine JR ?_; refine Z1 ?_; refine Z1 ?_; refine ZL ?_; refine JD ?_; refine JF ?_; refine X3 ?_; refine X0 ?_; refine JR ?_; refine Z0 ?_; refine JD ?_
   exact X1 ⟨_, St.le_refl _, ⟨rfl, trivial⟩, X2 _⟩
  ·rw [if_neg h2]
   have h3 : (!(Op.bytesLess s t || decide (s = t))) = true := by simp [h1, h2]
   refine X0 ?_; refine JR ?_; refine Z0 ?_; refine JD ?_; refine X0 ?_; refine JR ?_; refine Z1 ?_; refine Zc (hcon := n1) ?_; refine Z0 ?_; refine JD ?_; refine X0 ?_; refine JR ?_; refine Z1 ?_
   refine Zc (hcon := n2) ?_; refine Z0 ?_; refine JD ?_; refine X0 ?_; refine X0 ?_; refine JR ?_; refine Z1 ?_; refine JD ?_; refine JF ?_; refine X3 ?_; refine X0 ?_; refine X0 ?_; refine JR ?_
   refine Z1 ?_; refine JD ?_; refine JF ?_; refine X3 ?_; refine X0 ?_; refine X0 ?_; refine JR ?_; refine Z1 ?_; refine Z1 ?_; refine ZK ?_; refine JD ?_; refine JF ?_; refine X3 ?_
   refine X0 ?_; refine X0 ?_; refine JR ?_; refine Z1 ?_; refine Z1 ?_; refine ZL ?_; refine JD ?_; refine JT ?_; refine X0 ?_; refine JR ?_; refine Z0 ?_; refine JD ?_
   exact X1 ⟨_, St.le_refl _, ⟨rfl, trivial⟩, X2 _⟩
theorem X0V (s t : List UInt8) : Con Try.prog 21 [] [.d (.v (.string (X5 s))), .d (.v (.string (X5 t)))] [] (ai (Xy s t)) := by
 refine Xf (xs := [ai (Xy s t)]) Try.func21 rfl Try.ntmps21 rfl rfl rfl (fun E => ?_)
 unfold Xy
 cases h1 : Op.bytesLess s t with
 | true =>
  rw [if_pos rfl]
  refine X0 ?_; refine JR ?_; refine Z0 ?_; refine JD ?_; refine X0 ?_; refine X0 ?_; refine JR ?_; refine Z1 ?_; refine Z1 ?_; refine ZK ?_; refine JD ?_; refine JT ?_; refine X0 ?_; refine JR ?_
  refine Z0 ?_; refine JD ?_
  exact X1 ⟨_, St.le_refl _, ⟨rfl, trivial⟩, X2 _⟩
 | false =>
  rw [if_neg (by simp)]
  by_cases h2 : s = t
  ·rw [if_pos h2]
   have h3 : (!(Op.bytesLess s t || decide (s = t))) = false := by simp [h2]
   refine X0 ?_; refine JR ?_; refine Z0 ?_; refine JD ?_; refine X0 ?_; refine X0 ?_; refine JR ?_; refine Z1 ?_; refine Z1 ?_; refine ZK ?_; refine JD ?_; refine JF ?_; refine X3 ?_; refine X0 ?_
   refine X0 ?_; refine JR ?_; refine Z1 ?_; refine Z1 ?_; refine ZL ?_; refine JD ?_; refine JF ?_; refine X3 ?_; refine X0 ?_; refine JR ?_; refine Z0 ?_; refine JD ?_
   exact X1 ⟨_, St.le_refl _, ⟨rfl, trivial⟩, X2 _⟩
  ·rw [if_neg h2]
   have h3 : (!(Op.bytesLess s t || decide (s = t))) = true := by simp [h1, h2]
   refine X0 ?_; refine JR ?_; refine Z0 ?_; refine JD ?_; refine X0 ?_; refine X0 ?_; refine JR ?_; refine Z1 ?_; refine Z1 ?_; refine ZK ?_; refine JD ?_; refine JF ?_; refine X3 ?_; refine X0 ?_
   refine X0 ?_; refine JR ?_; refine Z1 ?_; refine Z1 ?_; refine ZL ?_; refine JD ?_; refine JT ?_; refine X0 ?_; refine JR ?_; refine Z0 ?_; refine JD ?_
   exact X1 ⟨_, St.le_refl _, ⟨rfl, trivial⟩, X2 _⟩
theorem X55 (a b : Rul) : XZ a b = orI [XR a.kind b.kind, Xy a.name b.name, Xy a.key b.key, XR a.n b.n, Xy a.src b.src, Xy a.dst b.dst] := by
 unfold XZ XR
 simp only [orI]
 repeat' split
 all_goals first | rfl | omega | simp_all
theorem X5b (a b : Rul) : Con Try.prog 23 [] [XA a, XA b] [] (ai (XZ a b)) := by
 refine Xf (xs := [ai (XZ a b)]) Try.func23 rfl Try.ntmps23 rfl rfl rfl (fun E => ?_)
 have c1 := X28 a.kind b.kind
 have c2 := X0w a.name b.name
 have c3 := X0w a.key b.key
 have c4 := X28 a.n b.n
 have c5 := X0w a.src b.src
 have c6 := X0w a.dst b.dst
 have co := X5i [XR a.kind b.kind, Xy a.name b.name, Xy a.key b.key, XR a.n b.n, Xy a.src b.src, Xy a.dst b.dst] (by simp)
 rw [← X55] at co
 simp only [List.map_cons, List.map_nil] at co
 generalize XZ a b = o at *
 generalize XR a.kind b.kind = r1 at *
 generalize Xy a.name b.name = r2 at *
 generalize Xy a.key b.key = r3 at *
 generalize XR a.n b.n = r4 at *
 generalize Xy a.src b.src = r5 at *
 generalize Xy a.dst b.dst = r6 at *
 obtain ⟨k, n, name, key, src, dst⟩ := a
 obtain ⟨k', n', name', key', src', dst'⟩ := b
 simp only [XA] at *
 refine X0 ?_; refine JR ?_; refine Zn (γ := 100) ?_; refine Zn (γ := 101) ?_; refine Z0 ?_; refine JD ?_; refine X0 ?_; refine JR ?_; refine Zo ?_; refine Zp ?_; refine Zo ?_; refine Zp ?_
 refine Zc (hcon := c1) ?_; refine Zo ?_; refine Zp ?_; refine Zo ?_; refine Zp ?_; refine Zc (hcon := c2) ?_; refine Zo ?_; refine Zp ?_; refine Zo ?_; refine Zp ?_; refine Zc (hcon := c3) ?_; refine Zo ?_; refine Zp ?_
 refine Zo ?_; refine Zp ?_; refine Zc (hcon := c4) ?_; refine Zo ?_; refine Zp ?_; refine Zo ?_; refine Zp ?_; refine Zc (hcon := c5) ?_; refine Zo ?_; refine Zp ?_; refine Zo ?_; refine Zp ?_; refine Zc (hcon := c6) ?_
 refine ZA ?_; refine Zc (hcon := co) ?_; refine Z0 ?_; refine JD ?_
 exact X1 ⟨_, St.le_refl _, ⟨rfl, trivial⟩, X2 _⟩
theorem X7O (a b : Rul) : Con Try.prog 11 [] [XA a, XA b] [] (ai (XZ a b)) := by
 refine Xf (xs := [ai (XZ a b)]) Try.func11 rfl Try.ntmps11 rfl rfl rfl (fun E => ?_)
 have c2 := X0V a.name b.name
 have c3 := X0V a.key b.key
 have c5 := X0V a.src b.src
 have c6 := X0V a.dst b.dst
 unfold XZ
 generalize Xy a.name b.name = r2 at *
 generalize Xy a.key b.key = r3 at *
 generalize Xy a.src b.src = r5 at *
 generalize Xy a.dst b.dst = r6 at *
 obtain ⟨k, n, name, key, src, dst⟩ := a
 obtain ⟨k', n', name', key', src', dst'⟩ := b
 simp only [XA] at *
 by_cases h1 : k < k'
 ·rw [if_pos h1]
  have h1' : k ≠ k' := by omega
  refine X0 ?_; refine JR ?_; refine Zn (γ := 100) ?_; refine Zn (γ := 101) ?_; refine Z0 ?_; refine JD ?_; refine X0 ?_; refine X0 ?_; refine JR ?_; refine Zo ?_; refine Zp ?_; refine Zo ?_; refine Zp ?_
  refine Zg ?_; refine JD ?_; refine JT ?_; refine X0 ?_; refine X0 ?_; refine JR ?_; refine Zo ?_; refine Zp ?_; refine Zo ?_; refine Zp ?_; refine Ze ?_; refine JD ?_; refine JT ?_; refine X0 ?_
  refine JR ?_; refine Z0 ?_; refine JD ?_
  exact X1 ⟨_, St.le_refl _, ⟨rfl, trivial⟩, X2 _⟩
 rw [if_neg h1]
 by_cases h2 : k' < k
 ·rw [if_pos h2]
  have h2' : k ≠ k' := by omega
  refine X0 ?_; refine JR ?_; refine Zn (γ := 100) ?_; refine Zn (γ := 101) ?_; refine Z0 ?_; refine JD ?_; refine X0 ?_; refine X0 ?_; refine JR ?_; refine Zo ?_; refine Zp ?_; refine Zo ?_; refine Zp ?_
  refine Zg ?_; refine JD ?_; refine JT ?_; refine X0 ?_; refine X0 ?_; refine JR ?_; refine Zo ?_; refine Zp ?_; refine Zo ?_; refine Zp ?_; refine Ze ?_; refine JD ?_; refine JF ?_; refine X3 ?_
  refine X0 ?_; refine JR ?_; refine Z0 ?_; refine JD ?_
  exact X1 ⟨_, St.le_refl _, ⟨rfl, trivial⟩, X2 _⟩
 rw [if_neg h2]
 obtain rfl : k = k' := by omega
 by_cases h3 : r2 ≠ 0
 ·rw [if_pos h3]
  refine X0 ?_; refine JR ?_; refine Zn (γ := 100) ?_; refine Zn (γ := 101) ?_; refine Z0 ?_; refine JD ?_; refine X0 ?_; refine X0 ?_; refine JR ?_; refine Zo ?_; refine Zp ?_; refine Zo ?_; refine Zp ?_
  refine Zg ?_; refine JD ?_; refine JF ?_; refine X3 ?_; refine X0 ?_; refine X0 ?_; refine JR ?_; refine Zo ?_; refine Zp ?_; refine Zo ?_; refine Zp ?_; refine Zc (hcon := c2) ?_; refine Z0 ?_
  refine JD ?_; refine X0 ?_; refine JR ?_; refine Z1 ?_; refine Zg ?_; refine JD ?_; refine JT ?_; refine X0 ?_; refine JR ?_; refine Z1 ?_; refine Z0 ?_; refine JD ?_
  exact X1 ⟨_, St.le_refl _, ⟨rfl, trivial⟩, X2 _⟩
 rw [if_neg h3]
 obtain rfl : r2 = 0 := by omega
 by_cases h4 : r3 ≠ 0
 ·rw [if_pos h4]
  refine X0 ?_; refine JR ?_; refine Zn (γ := 100) ?_; refine Zn (γ := 101) ?_; refine Z0 ?_; refine JD ?_; refine X0 ?_; refine X0 ?_; refine JR ?_; refine Zo ?_; refine Zp ?_; refine Zo ?_; refine Zp ?_
  refine Zg ?_; refine JD ?_; refine JF ?_; refine X3 ?_; refine X0 ?_; refine X0 ?_; refine JR ?_; refine Zo ?_; refine Zp ?_; refine Zo ?_; refine Zp ?_; refine Zc (hcon := c2) ?_; refine Z0 ?_
  refine JD ?_; refine X0 ?_; refine JR ?_; refine Z1 ?_; refine Zg ?_; refine JD ?_; refine JF ?_; refine X3 ?_; refine X0 ?_; refine X0 ?_; refine JR ?_; refine Zo ?_; refine Zp ?_; refine Zo ?_
  refine Zp ?_; refine Zc (hcon := c3) ?_; refine Z0 ?_; refine JD ?_; refine X0 ?_; refine JR ?_; refine Z1 ?_; refine Zg ?_; refine JD ?_; refine JT ?_; refine X0 ?_; refine JR ?_; refine Z1 ?_; refine Z0 ?_
  refine JD ?_
  exact X1 ⟨_, St.le_refl _, ⟨rfl, trivial⟩, X2 _⟩
 rw [if_neg h4]
 obtain rfl : r3 = 0 := by omega
 by_cases h5 : n < n'
 ·rw [if_pos h5]
  have h5' : n ≠ n' := by omega
  refine X0 ?_; refine JR ?_; refine Zn (γ := 100) ?_; refine Zn (γ := 101) ?_; refine Z0 ?_; refine JD ?_; refine X0 ?_; refine X0 ?_; refine JR ?_; refine Zo ?_; refine Zp ?_; refine Zo ?_; refine Zp ?_
  refine Zg ?_; refine JD ?_; refine JF ?_; refine X3 ?_; refine X0 ?_; refine X0 ?_; refine JR ?_; refine Zo ?_; refine Zp ?_; refine Zo ?_; refine Zp ?_; refine Zc (hcon := c2) ?_; refine Z0 ?_
  refine JD ?_; refine X0 ?_; refine JR ?_; refine Z1 ?_; refine Zg ?_; refine JD ?_; refine JF ?_; refine X3 ?_; refine X0 ?_; refine X0 ?_; refine JR ?_; refine Zo ?_; refine Zp ?_; refine Zo ?_
  refine Zp ?_; refine Zc (hcon := c3) ?_; refine Z0 ?_; refine JD ?_; refine X0 ?_; refine JR ?_; refine Z1 ?_; refine Zg ?_; refine JD ?_; refine JF ?_; refine X3 ?_; refine X0 ?_; refine X0 ?_
  refine JR ?_; refine Zo ?_; refine Zp ?_; refine Zo ?_; refine Zp ?_; refine Zg ?_; refine JD ?_; refine JT ?_; refine X0 ?_; refine X0 ?_; refine JR ?_; refine Zo ?_; refine Zp ?_; refine Zo ?_; refine Zp ?_
  refine Ze ?_; refine JD ?_; refine JT ?_; refine X0 ?_; refine JR ?_; refine Z0 ?_; refine JD ?_
  exact X1 ⟨_, St.le_refl _, ⟨rfl, trivial⟩, X2 _⟩
 rw [if_neg h5]
 by_cases h6 : n' < n
 ·rw [if_pos h6]
  have h6' : n ≠ n' := by omega
  refine X0 ?_; refine JR ?_; refine Zn (γ := 100) ?_; refine Zn (γ := 101) ?_; refine Z0 ?_; refine JD ?_; refine X0 ?_; refine X0 ?_; refine JR ?_; refine Zo ?_; refine Zp ?_; refine Zo ?_; refine Zp ?_
  refine Zg ?_; refine JD ?_; refine JF ?_; refine X3 ?_; refine X0 ?_; refine X0 ?_; refine JR ?_; refine Zo ?_; refine Zp ?_; refine Zo ?_; refine Zp ?_; refine Zc (hcon := c2) ?_; refine Z0 ?_
  refine JD ?_; refine X0 ?_; refine JR ?_; refine Z1 ?_; refine Zg ?_; refine JD ?_; refine JF ?_; refine X3 ?_; refine X0 ?_; refine X0 ?_; refine JR ?_; refine Zo ?_; refine Zp ?_; refine Zo ?_
  refine Zp ?_; refine Zc (hcon := c3) ?_; refine Z0 ?_; refine JD ?_; refine X0 ?_; refine JR ?_; refine Z1 ?_; refine Zg ?_; refine JD ?_; refine JF ?_; refine X3 ?_; refine X0 ?_; refine X0 ?_
  refine JR ?_; refine Zo ?_; refine Zp ?_; refine Zo ?_; refine Zp ?_; refine Zg ?_; refine JD ?_; refine JT ?_; refine X0 ?_; refine X0 ?_; refine JR ?_; refine Zo ?_; refine Zp ?_; refine Zo ?_; refine Zp ?_
  refine Ze ?_; refine JD ?_; refine JF ?_; refine X3 ?_; refine X0 ?_; refine JR ?_; refine Z0 ?_; refine JD ?_
  exact X1 ⟨_, St.le_refl _, ⟨rfl, trivial⟩, X2 _⟩
 rw [if_neg h6]
 obtain rfl : n = n' := by omega
 by_cases h7 : r5 ≠ 0
 ·rw [if_pos h7]
  refine X0 ?_; refine JR ?_; refine Zn (γ := 100) ?_; refine Zn (γ := 101) ?_; refine Z0 ?_; refine JD ?_; refine X0 ?_; refine X0 ?_; refine JR ?_; refine Zo ?_; refine Zp ?_; refine Zo ?_; refine Zp ?_
  refine Zg ?_; refine JD ?_; refine JF ?_; refine X3 ?_; refine X0 ?_; refine X0 ?_; refine JR ?_; refine Zo ?_; refine Zp ?_; refine Zo ?_; refine Zp ?_; refine Zc (hcon := c2) ?_; refine Z0 ?_
  refine JD ?_; refine X0 ?_; refine JR ?_; refine Z1 ?_; refine Zg ?_; refine JD ?_; refine JF ?_; refine X3 ?_; refine X0 ?_; refine X0 ?_; refine JR ?_; refine Zo ?_; refine Zp ?_; refine Zo ?_
  refine Zp ?_; refine Zc (hcon := c3) ?_; refine Z0 ?_; refine JD ?_; refine X0 ?_; refine JR ?_; refine Z1 ?_; refine Zg ?_; refine JD ?_; refine JF ?_; refine X3 ?_; refine X0 ?_; refine X0 ?_
  refine JR ?_; refine Zo ?_; refine Zp ?_; refine Zo ?_; refine Zp ?_; refine Zg ?_; refine JD ?_; refine JF ?_; refine X3 ?_; refine X0 ?_; refine X0 ?_; refine JR ?_; refine Zo ?_; refine Zp ?_
  refine Zo ?_; refine Zp ?_; refine Zc (hcon := c5) ?_; refine Z0 ?_; refine JD ?_; refine X0 ?_; refine JR ?_; refine Z1 ?_; refine Zg ?_; refine JD ?_; refine JT ?_; refine X0 ?_; refine JR ?_; refine Z1 ?_
  refine Z0 ?_; refine JD ?_
  exact X1 ⟨_, St.le_refl _, ⟨rfl, trivial⟩, X2 _⟩
 rw [if_neg h7]
 obtain rfl : r5 = 0 := by omega
 refine X0 ?_; refine JR ?_; refine Zn (γ := 100) ?_; refine Zn (γ := 101) ?_; refine Z0 ?_; refine JD ?_; refine X0 ?_; refine X0 ?_; refine JR ?_; refine Zo ?_; refine Zp ?_; refine Zo ?_; refine Zp ?_
 refine Zg ?_; refine JD ?_; refine JF ?_; refine X3 ?_; refine X0 ?_; refine X0 ?_; refine JR ?_; refine Zo ?_; refine Zp ?_; refine Zo ?_; refine Zp ?_; refine Zc (hcon := c2) ?_; refine Z0 ?_
 refine JD ?_; refine X0 ?_; refine JR ?_; refine Z1 ?_; refine Zg ?_; refine JD ?_; refine JF ?_; refine X3 ?_; refine X0 ?_; refine X0 ?_; refine JR ?_; refine Zo ?_; refine Zp ?_; refine Zo ?_
 refine Zp ?_; refine Zc (hcon := c3) ?_; refine Z0 ?_; refine JD ?_; refine X0 ?_; refine JR ?_; refine Z1 ?_; refine Zg ?_; refine JD ?_; refine JF ?_; refine X3 ?_; refine X0 ?_; refine X0 ?_
 refine JR ?_; refine Zo ?_; refine Zp ?_; refine Zo ?_; refine Zp ?_; refine Zg ?_; refine JD ?_; refine JF ?_; refine X3 ?_; refine X0 ?_; refine X0 ?_; refine JR ?_; refine Zo ?_; refine Zp ?_
 refine Zo ?_; refine Zp ?_; refine Zc (hcon := c5) ?_; refine Z0 ?_; refine JD ?_; refine X0 ?_; refine JR ?_; refine Z1 ?_; refine Zg ?_; refine JD ?_; refine JF ?_; refine X3 ?_; refine X0 ?_
 refine JR ?_; refine Zo ?_; refine Zp ?_; refine Zo ?_; refine Zp ?_; refine Zc (hcon := c6) ?_; refine Z0 ?_; refine JD ?_
 exact X1 ⟨_, St.le_refl _, ⟨rfl, trivial⟩, X2 _⟩
def Xe (r : Rul) : List D := [.v (.int .i64 r.kind), .v (.int .i64 r.n), .v (.string (X5 r.name)), .v (.string (X5 r.key)), .v (.string (X5 r.src)), .v (.string (X5 r.dst))]
theorem X3o {l : List Rul} {i : Nat} {r : Rul} (h : l[i]? = some r) : Ym (XL l i) (l.drop i) = (decide (Yy r = 0 ∧ ∀ q, XL l i = some q → XZ q r < 0) && Ym (XL l (i + 1)) (l.drop (i + 1))) := by
 obtain ⟨hi, h⟩ := List.getElem?_eq_some_iff.1 h
 rw [List.drop_eq_getElem_cons hi, h, Ym, UB, List.getElem?_eq_getElem hi, h]
theorem X6a (l : List Rul) (hl : l.length ≤ 9223372036854775807) : Con Try.prog 14 [] [.d (.sl 6 (l.map Xe))] [] (ab (Y1 l)) := by
 refine Xf (xs := [ab (Y1 l)]) Try.func14 rfl Try.ntmps14 rfl rfl rfl (fun E => ?_)
 have hlm : (l.map Xe).length = l.length := by simp
 unfold Y1
 generalize hG : Ym none l = G
 refine X0 ?_; refine JR ?_; refine Z0 ?_; refine JD ?_; refine X0 ?_; refine X0 ?_; refine JR ?_; refine Z1 ?_; refine Zw ?_; refine Z1 ?_; refine JD ?_; refine X4 ?_
 refine XD (fun i : Nat => i ≤ l.length ∧ Ym (XL l i) (l.drop i) = G) (fun i => ⟨33, [(0, .d (.sl 6 (l.map Xe))), (5, .d (.sl 6 (l.map Xe))), (6, ai (l.map Xe).length), (7, ai i)], []⟩) (fun i => l.length - i) 0 ⟨Nat.zero_le _, by simpa [XL] using hG⟩
  (X8 rfl JM trivial) ?_
 rintro i ⟨hi, hg⟩
 by_cases hil : i < l.length
 case neg =>
  obtain rfl : i = l.length := by omega
  have hn : ¬ ((l.length : Nat) : Int) < (l.map Xe).length := by omega
  rw [List.drop_length, Ym] at hg
  subst hg
  rw [Bool.true_and, ← hlm, show decide ((l.map Xe).length ≤ 40) = decide (((l.map Xe).length : Int) ≤ 40) from decide_eq_decide.2 (by omega)]
  refine X0 ?_; refine JR ?_; refine Ze ?_; refine JD ?_; refine X0 ?_; refine JF ?_; refine Xz ?_; refine X0 ?_; refine JR ?_; refine Z1 ?_; refine Zw ?_; refine Z3 ?_; refine Z0 ?_; refine JD ?_
  exact X1 ⟨_, St.le_refl _, ⟨rfl, trivial⟩, X2 _⟩
 have hn : (i : Int) < (l.map Xe).length := by omega
 obtain ⟨x, hx⟩ := Xs (l := l) hil
 have hxc : (l.map Xe)[i]? = some (Xe x) := Xw hx
 have hc := X2v x
 rw [X3o hx] at hg
 by_cases he : Yy x = 0
 case neg =>
  rw [decide_eq_false (fun h => he h.1), Bool.false_and] at hg
  subst hg
  rw [Bool.false_and]
  generalize Yy x = e at *
  obtain ⟨k, n, name, key, src, dst⟩ := x
  simp only [XA, Xe] at hc hxc
  refine X0 ?_; refine JR ?_; refine Ze ?_; refine JD ?_; refine X0 ?_; refine JT ?_; refine X3 ?_; refine X0 ?_; refine X4 ?_; refine X0 ?_; refine JR ?_; refine Z1 ?_; refine Zy ?_
  refine Zz ?_; refine Zh (γ := 100) ?_; refine Z0 ?_; refine Zk ?_; refine JD ?_; refine X0 ?_; refine JR ?_; refine ZD ?_; refine Zc (hcon := hc) ?_; refine Zg ?_; refine Z1 ?_; refine Z5 ?_; refine Z5 ?_
  refine Z5 ?_; refine Z6 ?_; refine Z6 ?_; refine Z6 ?_; refine Z6 ?_; refine Z6 ?_; refine Z6 ?_; refine Z6 ?_; refine Z6 ?_; refine Z5 ?_; refine Z4 ?_; refine JD ?_; refine JT ?_; refine X0 ?_; refine JR ?_
  refine Z0 ?_; refine JD ?_
  exact X1 ⟨_, St.le_refl _, ⟨rfl, trivial⟩, X2 _⟩
 by_cases h0 : i = 0
 ·subst h0
  rw [decide_eq_true ⟨he, fun q h => by simp [XL] at h⟩, Bool.true_and] at hg
  rw [he] at hc
  obtain ⟨k, n, name, key, src, dst⟩ := x
  simp only [XA, Xe] at hc hxc
  refine X0 ?_; refine JR ?_; refine Ze ?_; refine JD ?_; refine X0 ?_; refine JT ?_; refine X3 ?_; refine X0 ?_; refine X4 ?_; refine X0 ?_; refine JR ?_; refine Z1 ?_; refine Zy ?_
  refine Zz ?_; refine Zh (γ := 100) ?_; refine Z0 ?_; refine Zk ?_; refine JD ?_; refine X0 ?_; refine JR ?_; refine ZD ?_; refine Zc (hcon := hc) ?_; refine Zg ?_; refine Z1 ?_; refine Z1 ?_; refine Za ?_
  refine Z1 ?_; refine Z5 ?_; refine Z5 ?_; refine Z5 ?_; refine Z5 ?_; refine Z5 ?_; refine Z5 ?_; refine Z5 ?_; refine Z5 ?_; refine Z7 ?_; refine Z7 ?_; refine JD ?_; refine JF ?_; refine X3 ?_; refine JR ?_
  refine Zf ?_; refine Z1 ?_; refine JD ?_
  exact ⟨0 + 1, ⟨by omega, hg⟩, by omega, X8 rfl JM trivial⟩
 obtain ⟨j, rfl⟩ : ∃ j, i = j + 1 := ⟨i - 1, by omega⟩
 obtain ⟨p, hp⟩ := Xs (l := l) (k := j) (by omega)
 have hpp : (l.map Xe)[j]? = some (Xe p) := Xw hp
 have ho := X5b p x
 rw [he] at hc
 by_cases hlt : XZ p x < 0
 ·rw [decide_eq_true ⟨he, fun q h => by rw [UB, hp] at h; injection h with h; rw [← h]; exact hlt⟩, Bool.true_and] at hg
  generalize XZ p x = o at *
  obtain ⟨k, n, name, key, src, dst⟩ := x
  obtain ⟨k', n', name', key', src', dst'⟩ := p
  simp only [XA, Xe] at hc hxc ho hpp
  refine X0 ?_; refine JR ?_; refine Ze ?_; refine JD ?_; refine X0 ?_; refine JT ?_; refine X3 ?_; refine X0 ?_; refine X4 ?_; refine X0 ?_; refine JR ?_; refine Z1 ?_; refine Zy ?_
  refine Zz ?_; refine Zh (γ := 100) ?_; refine Z0 ?_; refine Zk ?_; refine JD ?_; refine X0 ?_; refine JR ?_; refine ZD ?_; refine Zc (hcon := hc) ?_; refine Zg ?_; refine Z1 ?_; refine Z1 ?_; refine Za ?_
  refine Z1 ?_; refine Z1 ?_; refine Z1 ?_
  refine ZB (op := .sub) (r' := .int .i64 ((j : Nat) : Int)) (u := .int .i64 ((j + 1 : Nat) : Int)) (v := .int .i64 1) ?_ (hr' := by exact congrArg (Value.int .i64) (show (((j + 1 : Nat) : Int) - 1) = (j : Int) by omega)) (hr := by exact Yb (by unfold XV; omega))
  refine Zy ?_; refine Zz ?_; refine ZD ?_; refine Zc (hcon := ho) ?_; refine Z2 ?_; refine Z4 ?_; refine Z7 ?_; refine JD ?_; refine JF ?_; refine X3 ?_; refine JR ?_; refine Zf ?_; refine Z1 ?_; refine JD ?_
  exact ⟨j + 1 + 1, ⟨by omega, hg⟩, by omega, X8 rfl JM trivial⟩
 ·rw [decide_eq_false (fun h => hlt (h.2 p (by rw [UB, hp]))), Bool.false_and] at hg
  subst hg
  rw [Bool.false_and]
  have hge : XZ p x ≥ 0 := by omega
  generalize XZ p x = o at *
  obtain ⟨k, n, name, key, src, dst⟩ := x
  obtain ⟨k', n', name', key', src', dst'⟩ := p
  simp only [XA, Xe] at hc hxc ho hpp
  refine X0 ?_; refine JR ?_; refine Ze ?_; refine JD ?_; refine X0 ?_; refine JT ?_; refine X3 ?_; refine X0 ?_; refine X4 ?_; refine X0 ?_; refine JR ?_; refine Z1 ?_; refine Zy ?_
  refine Zz ?_; refine Zh (γ := 100) ?_; refine Z0 ?_; refine Zk ?_; refine JD ?_; refine X0 ?_; refine JR ?_; refine ZD ?_; refine Zc (hcon := hc) ?_; refine Zg ?_; refine Z1 ?_; refine Z1 ?_; refine Za ?_
  refine Z1 ?_; refine Z1 ?_; refine Z1 ?_
  refine ZB (op := .sub) (r' := .int .i64 ((j : Nat) : Int)) (u := .int .i64 ((j + 1 : Nat) : Int)) (v := .int .i64 1) ?_ (hr' := by exact congrArg (Value.int .i64) (show (((j + 1 : Nat) : Int) - 1) = (j : Int) by omega)) (hr := by exact Yb (by unfold XV; omega))
  refine Zy ?_; refine Zz ?_; refine ZD ?_; refine Zc (hcon := ho) ?_; refine Z2 ?_; refine Z4 ?_; refine Z7 ?_; refine JD ?_; refine JT ?_; refine X0 ?_; refine JR ?_; refine Z0 ?_; refine JD ?_
  exact X1 ⟨_, St.le_refl _, ⟨rfl, trivial⟩, X2 _⟩
theorem X5t (l : List Rul) (hl : l.length ≤ 9223372036854775807) : Con Try.prog 5 [] [.d (.sl 6 (l.map Xe))] [] (ab (Y1 l)) := by
 refine Xf (xs := [ab (Y1 l)]) Try.func5 rfl Try.ntmps5 rfl rfl rfl (fun E => ?_)
 have hlm : (l.map Xe).length = l.length := by simp
 unfold Y1
 by_cases h40 : 40 < l.length
 ·rw [decide_eq_false (by omega : ¬ l.length ≤ 40), Bool.and_false]
  have h40' : (40 : Int) < (l.map Xe).length := by omega
  refine X0 ?_; refine JR ?_; refine Z0 ?_; refine JD ?_; refine X0 ?_; refine X0 ?_; refine JR ?_; refine Z1 ?_; refine Zw ?_; refine Za ?_; refine JD ?_; refine JT ?_; refine X0 ?_; refine JR ?_
  refine Z0 ?_; refine JD ?_
  exact X1 ⟨_, St.le_refl _, ⟨rfl, trivial⟩, X2 _⟩
 have h40' : ¬ (40 : Int) < (l.map Xe).length := by omega
 rw [decide_eq_true (by omega : l.length ≤ 40), Bool.and_true]
 generalize hG : Ym none l = G
 refine X0 ?_; refine JR ?_; refine Z0 ?_; refine JD ?_; refine X0 ?_; refine X0 ?_; refine JR ?_; refine Z1 ?_; refine Zw ?_; refine Za ?_; refine JD ?_; refine JF ?_; refine X3 ?_; refine X0 ?_
 refine X0 ?_; refine JR ?_; refine Z0 ?_; refine JD ?_; refine X4 ?_
 refine XD (fun i : Nat => i ≤ l.length ∧ Ym (XL l i) (l.drop i) = G) (fun i => ⟨36, [(0, .d (.sl 6 (l.map Xe))), (3, ai i)], []⟩) (fun i => l.length - i) 0 ⟨Nat.zero_le _, by simpa [XL] using hG⟩
  (X8 rfl JM trivial) ?_
 rintro i ⟨hi, hg⟩
 by_cases hil : i < l.length
 case neg =>
  obtain rfl : i = l.length := by omega
  have hn : ¬ ((l.length : Nat) : Int) < (l.map Xe).length := by omega
  rw [List.drop_length, Ym] at hg
  subst hg
  refine X0 ?_; refine X0 ?_; refine JR ?_; refine Z1 ?_; refine Z1 ?_; refine Zw ?_; refine Ze ?_; refine JD ?_; refine JF ?_; refine Xz ?_; refine X0 ?_; refine JR ?_; refine Z0 ?_; refine JD ?_
  exact X1 ⟨_, St.le_refl _, ⟨rfl, trivial⟩, X2 _⟩
 have hn : (i : Int) < (l.map Xe).length := by omega
 obtain ⟨x, hx⟩ := Xs (l := l) hil
 have hxc : (l.map Xe)[i]? = some (Xe x) := Xw hx
 have hc := X7B x
 rw [X3o hx] at hg
 by_cases he : Yy x = 0
 case neg =>
  rw [decide_eq_false (fun h => he h.1), Bool.false_and] at hg
  subst hg
  generalize Yy x = e at *
  obtain ⟨k, n, name, key, src, dst⟩ := x
  simp only [XA, Xe] at hc hxc
  refine X0 ?_; refine X0 ?_; refine JR ?_; refine Z1 ?_; refine Z1 ?_; refine Zw ?_; refine Ze ?_; refine JD ?_; refine JT ?_; refine X3 ?_; refine X0 ?_; refine X4 ?_; refine X0 ?_
  refine JR ?_; refine Z1 ?_; refine Z1 ?_; refine Zy ?_; refine Zz ?_; refine Zc (hcon := hc) ?_; refine Zg ?_; refine Z1 ?_; refine Z5 ?_; refine Z5 ?_; refine Z5 ?_; refine Z6 ?_; refine Z6 ?_; refine Z6 ?_
  refine Z6 ?_; refine Z6 ?_; refine Z6 ?_; refine Z6 ?_; refine Z6 ?_; refine Z6 ?_; refine Z6 ?_; refine Z6 ?_; refine Z5 ?_; refine Z4 ?_; refine JD ?_; refine JT ?_; refine X0 ?_; refine JR ?_; refine Z0 ?_
  refine JD ?_
  exact X1 ⟨_, St.le_refl _, ⟨rfl, trivial⟩, X2 _⟩
 by_cases h0 : i = 0
 ·subst h0
  rw [decide_eq_true ⟨he, fun q h => by simp [XL] at h⟩, Bool.true_and] at hg
  rw [he] at hc
  obtain ⟨k, n, name, key, src, dst⟩ := x
  simp only [XA, Xe] at hc hxc
  refine X0 ?_; refine X0 ?_; refine JR ?_; refine Z1 ?_; refine Z1 ?_; refine Zw ?_; refine Ze ?_; refine JD ?_; refine JT ?_; refine X3 ?_; refine X0 ?_; refine X4 ?_; refine X0 ?_
  refine JR ?_; refine Z1 ?_; refine Z1 ?_; refine Zy ?_; refine Zz ?_; refine Zc (hcon := hc) ?_; refine Zg ?_; refine Z1 ?_; refine Z1 ?_; refine Za ?_; refine Z1 ?_; refine Z5 ?_; refine Z5 ?_; refine Z5 ?_
  refine Z5 ?_; refine Z5 ?_; refine Z5 ?_; refine Z5 ?_; refine Z5 ?_; refine Z5 ?_; refine Z5 ?_; refine Z5 ?_; refine Z7 ?_; refine Z7 ?_; refine JD ?_; refine JF ?_; refine X3 ?_; refine JR ?_; refine Z1 ?_
  refine Zf ?_; refine Z0 ?_; refine JD ?_
  exact ⟨0 + 1, ⟨by omega, hg⟩, by omega, X8 rfl JM trivial⟩
 obtain ⟨j, rfl⟩ : ∃ j, i = j + 1 := ⟨i - 1, by omega⟩
 obtain ⟨p, hp⟩ := Xs (l := l) (k := j) (by omega)
 have hpp : (l.map Xe)[j]? = some (Xe p) := Xw hp
 have ho := X7O p x
 rw [he] at hc
 by_cases hlt : XZ p x < 0
 ·rw [decide_eq_true ⟨he, fun q h => by rw [UB, hp] at h; injection h with h; rw [← h]; exact hlt⟩, Bool.true_and] at hg
  generalize XZ p x = o at *
  obtain ⟨k, n, name, key, src, dst⟩ := x
  obtain ⟨k', n', name', key', src', dst'⟩ := p
  simp only [XA, Xe] at hc hxc ho hpp
  refine X0 ?_; refine X0 ?_; refine JR ?_; refine Z1 ?_; refine Z1 ?_; refine Zw ?_; refine Ze ?_; refine JD ?_; refine JT ?_; refine X3 ?_; refine X0 ?_; refine X4 ?_; refine X0 ?_
  refine JR ?_; refine Z1 ?_; refine Z1 ?_; refine Zy ?_; refine Zz ?_; refine Zc (hcon := hc) ?_; refine Zg ?_; refine Z1 ?_; refine Z1 ?_; refine Za ?_; refine Z1 ?_; refine Z1 ?_; refine Z1 ?_
  refine ZB (op := .sub) (r' := .int .i64 ((j : Nat) : Int)) (u := .int .i64 ((j + 1 : Nat) : Int)) (v := .int .i64 1) ?_ (hr' := by exact congrArg (Value.int .i64) (show (((j + 1 : Nat) : Int) - 1) = (j : Int) by omega)) (hr := by exact Yb (by unfold XV; omega))
  refine Zy ?_; refine Zz ?_; refine Z1 ?_; refine Z1 ?_; refine Zy ?_; refine Zz ?_; refine Zc (hcon := ho) ?_; refine Z2 ?_; refine Z4 ?_; refine Z7 ?_; refine JD ?_; refine JF ?_; refine X3 ?_; refine JR ?_
  refine Z1 ?_; refine Zf ?_; refine Z0 ?_; refine JD ?_
  exact ⟨j + 1 + 1, ⟨by omega, hg⟩, by omega, X8 rfl JM trivial⟩
 ·rw [decide_eq_false (fun h => hlt (h.2 p (by rw [UB, hp]))), Bool.false_and] at hg
  subst hg
  have hge : XZ p x ≥ 0 := by omega
  generalize XZ p x = o at *
  obtain ⟨k, n, name, key, src, dst⟩ := x
  obtain ⟨k', n', name', key', src', dst'⟩ := p
  simp only [XA, Xe] at hc hxc ho hpp
  refine X0 ?_; refine X0 ?_; refine JR ?_; refine Z1 ?_; refine Z1 ?_; refine Zw ?_; refine Ze ?_; refine JD ?_; refine JT ?_; refine X3 ?_; refine X0 ?_; refine X4 ?_; refine X0 ?_
  refine JR ?_; refine Z1 ?_; refine Z1 ?_; refine Zy ?_; refine Zz ?_; refine Zc (hcon := hc) ?_; refine Zg ?_; refine Z1 ?_; refine Z1 ?_; refine Za ?_; refine Z1 ?_; refine Z1 ?_; refine Z1 ?_
  refine ZB (op := .sub) (r' := .int .i64 ((j : Nat) : Int)) (u := .int .i64 ((j + 1 : Nat) : Int)) (v := .int .i64 1) ?_ (hr' := by exact congrArg (Value.int .i64) (show (((j + 1 : Nat) : Int) - 1) = (j : Int) by omega)) (hr := by exact Yb (by unfold XV; omega))
  refine Zy ?_; refine Zz ?_; refine Z1 ?_; refine Z1 ?_; refine Zy ?_; refine Zz ?_; refine Zc (hcon := ho) ?_; refine Z2 ?_; refine Z4 ?_; refine Z7 ?_; refine JD ?_; refine JT ?_; refine X0 ?_; refine JR ?_
  refine Z0 ?_; refine JD ?_
  exact X1 ⟨_, St.le_refl _, ⟨rfl, trivial⟩, X2 _⟩
end Go.Fw
