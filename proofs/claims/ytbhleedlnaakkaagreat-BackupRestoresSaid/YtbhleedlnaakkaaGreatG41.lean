/- Changes, rules and records read: the reference's. -/
import Derived.Test.YtbhleedlnaakkaaGreatG29
import Derived.Test.YtbhleedlnaakkaaGreatG30
import Derived.Test.YtbhleedlnaakkaaGreatG40
set_option maxHeartbeats 16000000
namespace Go.Fw
open Go Go.Proofs
set_option maxRecDepth 100000
set_option linter.unusedVariables false
set_option linter.unusedSimpArgs false
theorem Xcl (b : List UInt8) (a : Int) (hb : b.length ≤ 281474976710656) : Con Tryz.prog 118 [] [.d (Xa b), ai a] [] (.tup [XW (U3 b a).1, ai (U3 b a).2.1, ai (U3 b a).2.2]) := by
 refine X9 (xs := [XW (U3 b a).1, ai (U3 b a).2.1, ai (U3 b a).2.2]) Tryz.func118 rfl Tryz.ntmps118 rfl rfl rfl (fun E => ?_)
 have hlm : (b.map X6).length = b.length := by simp
 unfold U3
 by_cases h1 : a < 0
 ·rw [if_pos (.inl h1)]
  refine X0 ?_; refine JR ?_; refine Zw (γ := 100) ?_; refine Z0 ?_; refine Z0 ?_; refine JD ?_; refine X0 ?_; refine X0 ?_; refine JR ?_; refine Z1 ?_; refine Z8 ?_; refine Z1 ?_; refine Zo ?_; refine Zo ?_
  refine Zo ?_; refine Zo ?_; refine Zn ?_; refine JD ?_; refine JT ?_; refine X0 ?_; refine JR ?_; refine Zx ?_; refine Zy ?_; refine Z0 ?_; refine Z0 ?_; refine JD ?_
  exact X1 ⟨_, St.le_refl _, ⟨⟨100, 0, _, rfl, rfl, .inr ⟨6, _, rfl, rfl, rfl, rfl⟩⟩, rfl, rfl, trivial⟩, X3 _⟩
 by_cases h2 : (b.length : Int) < a
 ·rw [if_pos (.inr h2)]
  have h2' : ((b.map X6).length : Int) < a := by omega
  refine X0 ?_; refine JR ?_; refine Zw (γ := 100) ?_; refine Z0 ?_; refine Z0 ?_; refine JD ?_; refine X0 ?_; refine X0 ?_; refine JR ?_; refine Z1 ?_; refine Z8 ?_; refine Z1 ?_; refine Z1 ?_; refine Z1 ?_
  refine Zd ?_; refine Zs ?_; refine Zq ?_; refine JD ?_; refine JT ?_; refine X0 ?_; refine JR ?_; refine Zx ?_; refine Zy ?_; refine Z0 ?_; refine Z0 ?_; refine JD ?_
  exact X1 ⟨_, St.le_refl _, ⟨⟨100, 0, _, rfl, rfl, .inr ⟨6, _, rfl, rfl, rfl, rfl⟩⟩, rfl, rfl, trivial⟩, X3 _⟩
 rw [if_neg (by omega)]
 have h2' : ¬ ((b.map X6).length : Int) < a := by omega
 have hr := XbN b a 0 hb (fun _ => by omega)
 have hc := X78 (U5 b a 0).1
 generalize U5 b a 0 = r at *
 obtain ⟨c, at_, e⟩ := r
 simp only at hr hc ⊢
 generalize YW c = ce at *
 obtain ⟨k, n, name, key, src, dst⟩ := c
 simp only [XW] at hr hc ⊢
 by_cases he : e = 0
 ·subst he
  rw [if_pos rfl]
  by_cases h3 : ce = 0
  ·subst h3
   rw [if_neg (by simp)]
   repeat first | refine X0 ?_ | (refine JR ?_; (repeat first | refine Z1 ?_ | refine Z0 ?_ | refine ZB ?_ | refine ZC ?_ | refine ZL ?_ | refine Zd ?_ | refine Z8 ?_ | refine Zs ?_ | refine Zl ?_ | refine Zv ?_ | refine Zw (γ := 100) ?_ | refine Zw (γ := 101) ?_ | refine Zw (γ := 102) ?_ | refine Zy ?_ | refine Zx ?_ | refine ZF ?_ | refine Zq ?_ | refine Z9 (hcon := hr) ?_ | refine Z9 (hcon := hc) ?_); refine JD ?_) | refine JT ?_ | refine JF ?_ | refine X2 ?_
   exact X1 ⟨_, St.le_refl _, ⟨⟨100, 0, _, rfl, rfl, .inr ⟨6, _, rfl, rfl, rfl, rfl⟩⟩, rfl, rfl, trivial⟩, X3 _⟩
  ·rw [if_pos h3]
   repeat first | refine X0 ?_ | (refine JR ?_; (repeat first | refine Z1 ?_ | refine Z0 ?_ | refine ZB ?_ | refine ZC ?_ | refine ZL ?_ | refine Zd ?_ | refine Z8 ?_ | refine Zs ?_ | refine Zl ?_ | refine Zv ?_ | refine Zw (γ := 100) ?_ | refine Zw (γ := 101) ?_ | refine Zw (γ := 102) ?_ | refine Zy ?_ | refine Zx ?_ | refine ZF ?_ | refine Zq ?_ | refine Z9 (hcon := hr) ?_ | refine Z9 (hcon := hc) ?_); refine JD ?_) | refine JT ?_ | refine JF ?_ | refine X2 ?_
   exact X1 ⟨_, St.le_refl _, ⟨⟨100, 0, _, rfl, rfl, .inr ⟨6, _, rfl, rfl, rfl, rfl⟩⟩, rfl, rfl, trivial⟩, X3 _⟩
 ·rw [if_neg he, if_pos he]
  repeat first | refine X0 ?_ | (refine JR ?_; (repeat first | refine Z1 ?_ | refine Z0 ?_ | refine ZB ?_ | refine ZC ?_ | refine Zd ?_ | refine Z8 ?_ | refine Zs ?_ | refine Zl ?_ | refine Zv ?_ | refine Zw (γ := 100) ?_ | refine Zw (γ := 101) ?_ | refine Zw (γ := 102) ?_ | refine Zy ?_ | refine Zx ?_ | refine ZF ?_ | refine Zq ?_ | refine Z9 (hcon := hr) ?_); refine JD ?_) | refine JT ?_ | refine JF ?_ | refine X2 ?_
  exact X1 ⟨_, St.le_refl _, ⟨⟨100, 0, _, rfl, rfl, .inr ⟨6, _, rfl, rfl, rfl, rfl⟩⟩, rfl, rfl, trivial⟩, X3 _⟩
end Go.Fw
namespace Go.Fw
open Go
set_option linter.unusedVariables false
set_option linter.unusedSimpArgs false
def X1w {α : Type} (a : Int) (r : α × Int × Int) : α × Int × Int := (r.1, if r.2.2 = 0 then r.2.1 + a else r.2.1, r.2.2)
theorem Xcv {b : List UInt8} {a : Nat} (h : a ≤ b.length) : XH b a = X1w a (XH (b.drop a) 0) := by
 have c1 : ¬ ((a : Int) < 0 ∨ (b.length : Int) < a) := by omega
 have c0 : ¬ ((0 : Int) < 0 ∨ (((b.drop a).length : Nat) : Int) < 0) := by omega
 unfold XH X1w
 rw [if_neg c1, if_neg c0]
 simp only [Int.toNat_natCast, Int.toNat_zero, List.drop_zero]
 generalize b.drop a = l
 by_cases q1 : Y6 l = 10
 ·simp only [q1, if_true]
  simp
 by_cases q2 : l.length ≤ Y6 l
 ·simp only [q1, q2, if_true, if_false]
  simp
 by_cases q3 : Y6 l = 9 ∧ 1 < ((l[Y6 l]?).getD 0).toNat
 ·simp only [if_neg q1, if_neg q2, if_pos q3]
  simp
 ·simp only [q1, q2, q3, if_true, if_false]
  refine Prod.ext rfl (Prod.ext ?_ rfl)
  simp only
  omega
theorem XdM {b : List UInt8} {a : Nat} (h : a ≤ b.length) : Xe b a = X1w a (Xe (b.drop a) 0) := by
 have hp : YX b a = YX (b.drop a) 0 := by
  unfold YX
  simp only [Int.toNat_natCast, Int.toNat_zero, List.drop_zero]
 unfold Xe
 rw [hp, Xcv h]
 generalize XH (b.drop a) 0 = r
 obtain ⟨n, m, e⟩ := r
 unfold X1w
 simp only
 by_cases he : e = 0
 ·subst he
  simp only [ne_eq, not_true_eq_false, if_false, if_true]
  split
  ·simp
  ·split
   ·simp
   ·simp
 ·rw [if_pos he, if_pos he]
  simp [he]
theorem XhX {b : List UInt8} {a : Nat} (h : a ≤ b.length) : YQ b a = X1w a (YQ (b.drop a) 0) := by
 have hu := XdM h
 have hf := X3q (b := b.drop a) (a := 0)
 unfold YQ
 rw [hu]
 generalize Xe (b.drop a) 0 = r at *
 obtain ⟨n, m, e⟩ := r
 unfold X1w
 simp only at hf ⊢
 by_cases he : e = 0
 ·subst he
  obtain ⟨n', m', h1, h2, h3, h4⟩ := hf rfl
  subst h1 h2
  simp only [ne_eq, not_true_eq_false, if_false, if_true, List.length_drop]
  have e1 : ((m' : Int) + a).toNat = a + m' := by omega
  have e2 : ((m' : Int) + a + n').toNat = a + (m' + n') := by omega
  have e3 : ((m' : Int) + n').toNat = m' + n' := by omega
  have e4 : UX b (a + (m' + n')) = UX (b.drop a) (m' + n') := by
   unfold UX
   simp only [List.getElem?_drop, Nat.add_assoc]
  simp only [List.length_drop] at h3
  rw [e1, e2, e3, e4, Int.toNat_natCast, Int.toNat_natCast, List.drop_drop]
  have c1 : ((b.length : Int) - (m' + a) < 4 ∨ (b.length : Int) - (m' + a) - 4 < n') ↔ (((b.length - a : Nat) : Int) - m' < 4 ∨ ((b.length - a : Nat) : Int) - m' - 4 < n') := by
   constructor <;> intro h <;> rcases h with h | h <;> omega
  by_cases q : (((b.length - a : Nat) : Int) - m' < 4 ∨ ((b.length - a : Nat) : Int) - m' - 4 < n')
  ·rw [if_pos (c1.2 q), if_pos q]
   simp
  ·rw [if_neg (fun h => q (c1.1 h)), if_neg q]
   by_cases q2 : UX (b.drop a) (m' + n') = XT ((b.drop (a + m')).take n')
   ·rw [if_neg (by simp [q2]), if_neg (by simp [q2])]
    simp only [if_true]
    refine Prod.ext rfl (Prod.ext ?_ rfl)
    simp only
    omega
   ·rw [if_pos q2, if_pos q2]
    simp
 ·rw [if_pos he, if_pos he]
  simp [he]
end Go.Fw
namespace Go.Fw
open Go Go.Proofs
set_option maxRecDepth 100000
set_option linter.unusedVariables false
set_option linter.unusedSimpArgs false
def oR (B : List UInt8) (s : Rd) : AObj := .box [.d (Xa B), .d (Xa s.c), ai ((s.k : Int) + 4), ai s.a, ai s.e]
theorem X4o (B : List UInt8) (s : Rd) (m er : Int) : Con Tryz.prog 117 [(0, oR B s)] [.ptr 0 0, ai m, ai er] [(0, oR B (s.put (if er = 0 then m else s.a) er))] (.tup []) := by
 refine X9 (xs := []) Tryz.func117 rfl Tryz.ntmps117 rfl rfl rfl (fun E => ?_)
 obtain ⟨k, c, a, e⟩ := s
 unfold oR Rd.put
 simp only
 by_cases h : er = 0
 ·subst h
  rw [if_pos rfl]
  refine X0 ?_; refine JR ?_; refine Z1 ?_; refine Z1 ?_; refine Z01 ?_; refine ZB ?_; refine Zy ?_; refine JD ?_; refine X0 ?_; refine JR ?_; refine Z1 ?_; refine Zl ?_; refine JD ?_; refine JT ?_; refine JR ?_
  refine Z1 ?_; refine Z1 ?_; refine Z01 ?_; refine ZB ?_; refine Zy ?_; refine JD ?_
  exact (show Yo _ _ _ _ _ from ⟨_, St.le_refl _, trivial, Xd ⟨rfl, trivial⟩⟩)
 ·rw [if_neg h]
  refine X0 ?_; refine JR ?_; refine Z1 ?_; refine Z1 ?_; refine Z01 ?_; refine ZB ?_; refine Zy ?_; refine JD ?_; refine X0 ?_; refine JR ?_; refine Z1 ?_; refine Zl ?_; refine JD ?_; refine JF ?_
  refine X2 ?_
  exact (show Yo _ _ _ _ _ from ⟨_, St.le_refl _, trivial, Xd ⟨rfl, trivial⟩⟩)
theorem X3N (B : List UInt8) (s : Rd) (hs : Yg s) : Con Tryz.prog 67 [(0, oR B s)] [.ptr 0 0] [(0, oR B (YD s))] (.tup []) := by
 refine X9 (xs := []) Tryz.func67 rfl Tryz.ntmps67 rfl rfl rfl (fun E => ?_)
 obtain ⟨k, c, a, e⟩ := s
 obtain ⟨a0, a1⟩ := hs
 simp only at a0 a1
 have hlm : (c.map X6).length = c.length := by simp
 unfold YD oR Rd.put
 simp only
 by_cases he : e = 0
 case neg =>
  rw [if_neg (fun h => he h.1)]
  simp only
  refine X0 ?_; refine JR ?_; refine Z1 ?_; refine Z01 ?_; refine ZB ?_; refine ZC ?_; refine Zl ?_; refine Z1 ?_; refine Zo ?_; refine Zo ?_; refine Zo ?_; refine Zo ?_; refine Zo ?_; refine Zo ?_; refine Zo ?_
  refine Zo ?_; refine Zo ?_; refine Zo ?_; refine Zq ?_; refine JD ?_; refine JF ?_; refine X2 ?_
  exact (show Yo _ _ _ _ _ from ⟨_, St.le_refl _, trivial, Xd ⟨rfl, trivial⟩⟩)
 subst he
 by_cases ha : a < c.length
 ·have ha' : a ≠ (c.map X6).length := by omega
  rw [if_pos ⟨rfl, ha⟩]
  simp only
  refine X0 ?_; refine JR ?_; refine Z1 ?_; refine Z01 ?_; refine ZB ?_; refine ZC ?_; refine Zl ?_; refine Z1 ?_; refine Z1 ?_; refine Z01 ?_; refine ZB ?_; refine ZC ?_; refine Z1 ?_; refine Z01 ?_; refine ZB ?_
  refine ZC ?_; refine Zd ?_; refine Zv ?_; refine Zn ?_; refine JD ?_; refine JT ?_; refine JR ?_; refine Z1 ?_; refine Z01 ?_; refine ZB ?_; refine Zy ?_; refine JD ?_
  exact (show Yo _ _ _ _ _ from ⟨_, St.le_refl _, trivial, Xd ⟨rfl, trivial⟩⟩)
 ·have ha' : ¬ a ≠ (c.map X6).length := by omega
  rw [if_neg (fun h => ha h.2)]
  simp only
  refine X0 ?_; refine JR ?_; refine Z1 ?_; refine Z01 ?_; refine ZB ?_; refine ZC ?_; refine Zl ?_; refine Z1 ?_; refine Z1 ?_; refine Z01 ?_; refine ZB ?_; refine ZC ?_; refine Z1 ?_; refine Z01 ?_; refine ZB ?_
  refine ZC ?_; refine Zd ?_; refine Zv ?_; refine Zn ?_; refine JD ?_; refine JF ?_; refine X2 ?_
  exact (show Yo _ _ _ _ _ from ⟨_, St.le_refl _, trivial, Xd ⟨rfl, trivial⟩⟩)
theorem X3U (B b : List UInt8) (s : Rd) (hB : B.length ≤ 1073741824) (h4 : s.e = 0 → 4 ≤ B.length ∧ B.drop 4 = b) (hk : s.k ≤ b.length) : Con Tryz.prog 65 [(0, oR B s)] [.ptr 0 0] [(0, oR B (XF b s))] (.tup []) := by
 refine X9 (xs := []) Tryz.func65 rfl Tryz.ntmps65 rfl rfl rfl (fun E => ?_)
 obtain ⟨k, c0, a, e⟩ := s
 simp only at h4 hk
 unfold XF oR
 simp only
 by_cases he : e = 0
 case neg =>
  rw [if_pos he]
  simp only
  refine X0 ?_; refine X0 ?_; refine JR ?_; refine Z1 ?_; refine Z01 ?_; refine ZB ?_; refine ZC ?_; refine Zv ?_; refine JD ?_; refine JT ?_
  exact X1 ⟨_, St.le_refl _, trivial, Xd ⟨rfl, trivial⟩⟩
 subst he
 obtain ⟨h4l, h4⟩ := h4 rfl
 rw [if_neg (by simp)]
 have hc := Xcz B ((k : Int) + 4) (by omega)
 have hlb : b.length = B.length - 4 := by rw [← h4, List.length_drop]
 have hsh := XhX (b := B) (a := k + 4) (by omega)
 have hdd : B.drop (k + 4) = b.drop k := by rw [← h4, List.drop_drop, Nat.add_comm]
 rw [hdd, show (((k + 4 : Nat) : Nat) : Int) = (k : Int) + 4 by omega] at hsh
 rw [hsh] at hc
 generalize hu : YQ (b.drop k) 0 = u at *
 obtain ⟨c, z, er⟩ := u
 unfold X1w at hc
 simp only at hc ⊢
 by_cases her : er = 0
 ·subst her
  obtain ⟨f, rfl, hf⟩ := X8v hu
  rw [if_pos rfl] at hc ⊢
  rw [Int.toNat_natCast]
  have hz : (((k + f : Nat) : Nat) : Int) + 4 = (f : Int) + ((k : Int) + 4) := by omega
  rw [hz]
  repeat first | refine X0 ?_ | (refine JR ?_; (repeat first | refine Z1 ?_ | refine Z0 ?_ | refine Z01 ?_ | refine ZB ?_ | refine ZC ?_ | refine Zl ?_ | refine Zv ?_ | refine Zy ?_ | refine ZF ?_ | refine Z9 (hcon := hc) ?_); refine JD ?_) | refine JT ?_ | refine JF ?_ | refine X2 ?_
  exact (show Yo _ _ _ _ _ from ⟨_, St.le_refl _, trivial, Xd ⟨rfl, trivial⟩⟩)
 ·rw [if_neg her] at hc ⊢
  repeat first | refine X0 ?_ | (refine JR ?_; (repeat first | refine Z1 ?_ | refine Z0 ?_ | refine Z01 ?_ | refine ZB ?_ | refine ZC ?_ | refine Zl ?_ | refine Zv ?_ | refine Zy ?_ | refine ZF ?_ | refine Z9 (hcon := hc) ?_); refine JD ?_) | refine JF ?_ | refine X2 ?_
  exact (show Yo _ _ _ _ _ from ⟨_, St.le_refl _, trivial, Xd ⟨rfl, trivial⟩⟩)
theorem X1q (B : List UInt8) (s : Rd) (hc : s.c.length ≤ 281474976710656) : Con Tryz.prog 66 [(0, oR B s)] [.ptr 0 0] [(0, oR B (Xb s).2)] (ai (Xb s).1) := by
 refine X9 (xs := [ai (Xb s).1]) Tryz.func66 rfl Tryz.ntmps66 rfl rfl rfl (fun E => ?_)
 obtain ⟨k, c, a, e⟩ := s
 simp only at hc
 have hf := X3w c a hc
 unfold Xb U4
 simp only
 by_cases he : e = 0
 case neg =>
  rw [if_pos he]
  unfold oR
  simp only
  refine X0 ?_; refine JR ?_; refine Z0 ?_; refine JD ?_; refine X0 ?_; refine X0 ?_; refine JR ?_; refine Z1 ?_; refine Z01 ?_; refine ZB ?_; refine ZC ?_; refine Zv ?_; refine JD ?_; refine JT ?_
  refine X0 ?_; refine JR ?_; refine Z0 ?_; refine JD ?_
  exact X1 ⟨_, St.le_refl _, ⟨rfl, trivial⟩, Xd ⟨rfl, trivial⟩⟩
 subst he
 rw [if_neg (by simp)]
 generalize Xe c a = r at *
 obtain ⟨x, m, er⟩ := r
 simp only at hf ⊢
 have hst := X4o B ⟨k, c, a, 0⟩ m er
 generalize Rd.put ⟨k, c, a, 0⟩ (if er = 0 then m else a) er = s' at *
 obtain ⟨k', c', a', e'⟩ := s'
 unfold oR at hst ⊢
 simp only at hst ⊢
 refine X0 ?_; refine JR ?_; refine Z0 ?_; refine JD ?_; refine X0 ?_; refine X0 ?_; refine JR ?_; refine Z1 ?_; refine Z01 ?_; refine ZB ?_; refine ZC ?_; refine Zv ?_; refine JD ?_; refine JF ?_
 refine X2 ?_; refine X0 ?_; refine JR ?_; refine Z1 ?_; refine Z01 ?_; refine ZB ?_; refine ZC ?_; refine Z1 ?_; refine Z01 ?_; refine ZB ?_; refine ZC ?_; refine Z9 (hcon := hf) ?_; refine Z1 ?_; refine ZF ?_
 refine ZF ?_; refine ZF ?_; refine Z0 ?_; refine Z0 ?_; refine Z0 ?_; refine JD ?_; refine X0 ?_; refine JR ?_; refine Z1 ?_; refine Z1 ?_; refine Z1 ?_; refine Z9 (hcon := hst) ?_; refine JD ?_; refine X0 ?_
 refine JR ?_; refine Z1 ?_; refine Z0 ?_; refine JD ?_
 exact X1 ⟨_, St.le_refl _, ⟨rfl, trivial⟩, Xd ⟨rfl, trivial⟩⟩
theorem X58 (B : List UInt8) (s : Rd) (hc : s.c.length ≤ 281474976710656) : Con Tryz.prog 119 [(0, oR B s)] [.ptr 0 0] [(0, oR B (XR s).2)] (XD (XR s).1) := by
 refine X9 (xs := [XD (XR s).1]) Tryz.func119 rfl Tryz.ntmps119 rfl rfl rfl (fun E => ?_)
 obtain ⟨k, c, a, e⟩ := s
 simp only at hc
 have hf := X6w c a 20 hc
 unfold XR U4
 simp only
 by_cases he : e = 0
 case neg =>
  rw [if_pos he]
  unfold oR
  simp only
  refine X0 ?_; refine JR ?_; refine Z0 ?_; refine JD ?_; refine X0 ?_; refine X0 ?_; refine JR ?_; refine Z1 ?_; refine Z01 ?_; refine ZB ?_; refine ZC ?_; refine Zv ?_; refine JD ?_; refine JT ?_
  refine X0 ?_; refine JR ?_; refine Z0 ?_; refine JD ?_
  exact X1 ⟨_, St.le_refl _, ⟨rfl, trivial⟩, Xd ⟨rfl, trivial⟩⟩
 subst he
 rw [if_neg (by simp)]
 generalize Y9 c a 20 = r at *
 obtain ⟨x, m, er⟩ := r
 simp only at hf ⊢
 have hst := X4o B ⟨k, c, a, 0⟩ m er
 generalize Rd.put ⟨k, c, a, 0⟩ (if er = 0 then m else a) er = s' at *
 obtain ⟨k', c', a', e'⟩ := s'
 unfold oR at hst ⊢
 simp only at hst ⊢
 refine X0 ?_; refine JR ?_; refine Z0 ?_; refine JD ?_; refine X0 ?_; refine X0 ?_; refine JR ?_; refine Z1 ?_; refine Z01 ?_; refine ZB ?_; refine ZC ?_; refine Zv ?_; refine JD ?_; refine JF ?_
 refine X2 ?_; refine X0 ?_; refine JR ?_; refine Z1 ?_; refine Z01 ?_; refine ZB ?_; refine ZC ?_; refine Z1 ?_; refine Z01 ?_; refine ZB ?_; refine ZC ?_; refine Z9 (hcon := hf) ?_; refine Z1 ?_; refine ZF ?_
 refine ZF ?_; refine ZF ?_; refine Z0 ?_; refine Z0 ?_; refine Z0 ?_; refine JD ?_; refine X0 ?_; refine JR ?_; refine Z1 ?_; refine Z1 ?_; refine Z1 ?_; refine Z9 (hcon := hst) ?_; refine JD ?_; refine X0 ?_
 refine JR ?_; refine Z1 ?_; refine Z0 ?_; refine JD ?_
 exact X1 ⟨_, St.le_refl _, ⟨rfl, trivial⟩, Xd ⟨rfl, trivial⟩⟩
end Go.Fw
namespace Go.Fw
open Go Go.Proofs
set_option maxRecDepth 100000
set_option linter.unusedVariables false
set_option linter.unusedSimpArgs false
theorem XgW (s : Rd) : Um s = if s.e ≠ 0 then (zV, s) else ((Yf s.c s.a).1, s.put (if (Yf s.c s.a).2.2 = 0 then (Yf s.c s.a).2.1 else s.a) (Yf s.c s.a).2.2) := rfl
theorem Xgg (s : Rd) : Yi s = if s.e ≠ 0 then (zR, s) else ((U3 s.c s.a).1, s.put (if (U3 s.c s.a).2.2 = 0 then (U3 s.c s.a).2.1 else s.a) (U3 s.c s.a).2.2) := rfl
theorem X9o (B : List UInt8) (s : Rd) (hs : Yg s) (hc : s.c.length ≤ 1073741824) : Con Tryz.prog 120 [(0, oR B s)] [.ptr 0 0] [(0, oR B (Yr Yl s).2)] (.d (.sl 6 ((Yr Yl s).1.map Xk))) := by
 refine X9 (xs := [.d (.sl 6 ((Yr Yl s).1.map Xk))]) Tryz.func120 rfl Tryz.ntmps120 rfl rfl rfl (fun E => ?_)
 have hN := X1q B s (by omega)
 obtain ⟨m, hm, hml⟩ := Vw s
 have hok := Yn.ok s hs
 have hcs := (XQ.keep s).2
 unfold Yr
 simp only
 rw [hm] at hN ⊢
 rw [Int.toNat_natCast]
 generalize (Xb s).2 = s1 at *
 rw [← hcs] at hc
 have hLb := X37 Vx X1c (n := m) hok hc
 generalize hL : Xt Yl m s1 = L at *
 obtain ⟨k0, c0, a0, e0⟩ := s
 obtain ⟨k1, c1, a1, e1⟩ := s1
 simp only at hcs hc
 subst hcs
 unfold oR at hN ⊢
 simp only at hN ⊢
 refine X0 ?_; refine JR ?_; refine Z0 ?_; refine JD ?_; refine X0 ?_; refine JR ?_; refine Z1 ?_; refine Z9 (hcon := hN) ?_; refine Z0 ?_; refine JD ?_; refine X0 ?_; refine JR ?_; refine Z0 ?_
 refine JD ?_; refine X0 ?_; refine X0 ?_; refine JR ?_; refine Z0 ?_; refine JD ?_; refine X4 ?_
 refine Xm (VR 4 130 6 rfl rfl rfl) ?_
 refine Xy (ι := List Prp × Nat × Nat × Rd) (fun q => q.1 ++ (Xt Yl q.2.2.1 q.2.2.2).1 = L.1 ∧ (Xt Yl q.2.2.1 q.2.2.2).2 = L.2 ∧ q.2.2.2.c.length ≤ 1073741824 ∧ Yg q.2.2.2 ∧ q.2.1 + q.2.2.1 = m)
  (fun q => ⟨56, [(0, .ptr 0 0), (3, ai (m : Nat)), (4, .own 130 (q.1.map Xk).length), (5, ai (q.2.1 : Nat))], [(0, .box [.d (Xa B), .d (Xa q.2.2.2.c), ai ((q.2.2.2.k : Int) + 4), ai q.2.2.2.a, ai q.2.2.2.e]), (130, .row 6 (q.1.map Xk))]⟩) (fun q => q.2.2.1) ([], 0, m, ⟨k1, c1, a1, e1⟩)
  ⟨by rw [hL]; rfl, by rw [hL], hc, hok, by simp⟩
  (X8 rfl JM ⟨rfl, rfl, trivial⟩) ?_
 rintro ⟨acc, i, j, s⟩ ⟨h1, h2, h3, h4, h5⟩
 simp only at h1 h2 h3 h4 h5
 have hroom0 := X3K h1 hLb
 have hroom : (acc.map Xk).length ≤ 1073741825 := by rw [List.length_map]; exact hroom0
 by_cases hj : j = 0 ∨ s.e ≠ 0
 ·have hLL := X0h h1 h2 hj
  subst hLL
  have hgd : (¬ (i : Int) < (m : Nat)) ∨ ((i : Int) < (m : Nat) ∧ s.e ≠ 0) := by
   rcases hj with rfl | h
   ·exact .inl (by omega)
   ·by_cases h0 : (i : Int) < (m : Nat)
    ·exact .inr ⟨h0, h⟩
    ·exact .inl h0
  simp only
  obtain ⟨k, c, a, e⟩ := s
  simp only at hgd ⊢
  rcases hgd with hj' | ⟨hj', he⟩
  ·refine X0 ?_; refine X0 ?_; refine JR ?_; refine Z1 ?_; refine Z1 ?_; refine Z8 ?_; refine Z1 ?_; refine Zo ?_; refine Zo ?_; refine Zo ?_; refine Zo ?_; refine Zo ?_; refine Zq ?_; refine JD ?_; refine JF ?_
   refine Xj ?_; refine X0 ?_; refine JR ?_; refine Z1 ?_; refine Z0 ?_; refine JD ?_
   refine Xm (Y0 130 rfl) ?_
   refine Xm (YC 2 130 rfl rfl rfl) ?_
   exact X1 ⟨_, St.le_refl _, ⟨rfl, trivial⟩, Xd ⟨rfl, trivial⟩⟩
  ·refine X0 ?_; refine X0 ?_; refine JR ?_; refine Z1 ?_; refine Z1 ?_; refine Z8 ?_; refine Z1 ?_; refine Z1 ?_; refine Z01 ?_; refine ZB ?_; refine ZC ?_; refine Zl ?_; refine Zn ?_; refine JD ?_; refine JF ?_
   refine Xj ?_; refine X0 ?_; refine JR ?_; refine Z1 ?_; refine Z0 ?_; refine JD ?_
   refine Xm (Y0 130 rfl) ?_
   refine Xm (YC 2 130 rfl rfl rfl) ?_
   exact X1 ⟨_, St.le_refl _, ⟨rfl, trivial⟩, Xd ⟨rfl, trivial⟩⟩
 obtain ⟨j, rfl⟩ : ∃ i, j = i + 1 := ⟨j - 1, by omega⟩
 have hj' : (i : Int) < (m : Nat) := by omega
 have he : s.e = 0 := by
  by_cases q : s.e = 0
  ·exact q
  ·exact absurd (.inr q) hj
 clear hj
 rw [X0v he] at h1 h2
 simp only at h1 h2
 have hn := X58 B s (by omega)
 have hc2 := (Uq.keep s).2
 have hok2 := Vb.ok s h4
 have hpe : Yl s = (⟨(XR s).1, (Um (XR s).2).1⟩, (Um (XR s).2).2) := rfl
 rw [hpe] at h1 h2
 generalize (XR s).1 = nm at *
 generalize (XR s).2 = s2 at *
 have hc3 := (X35.keep s2).2
 have hok3 := X4E.ok s2 hok2
 have h3' : (Um s2).2.c.length ≤ 1073741824 := by rw [hc3, hc2]; exact h3
 have hvE := XgW s2
 by_cases he2 : s2.e = 0
 case neg =>
  rw [if_pos he2] at hvE
  rw [hvE] at h1 h2 hok3 h3'
  have happ : (acc ++ [(⟨nm, zV⟩ : Prp)]).map Xk = acc.map Xk ++ [Xk ⟨nm, zV⟩] := by simp
  obtain ⟨k, c, a, e⟩ := s
  obtain ⟨k2, c2, a2, e2⟩ := s2
  simp only at he he2
  subst he
  unfold oR at hn
  simp only at hn
  refine X0 ?_; refine X0 ?_; refine JR ?_; refine Z1 ?_; refine Z1 ?_; refine Z8 ?_; refine Z1 ?_; refine Z1 ?_; refine Z01 ?_; refine ZB ?_; refine ZC ?_; refine Zl ?_; refine Zn ?_; refine JD ?_; refine JT ?_
  refine X2 ?_; refine X0 ?_; refine X4 ?_; refine X0 ?_; refine JR ?_; refine Z1 ?_; refine Z9 (hcon := hn) ?_; refine Zx ?_; refine Zw (γ := 100) ?_; refine Zy ?_; refine JD ?_; refine X0 ?_
  refine X0 ?_; refine JR ?_; refine Z1 ?_; refine Z01 ?_; refine ZB ?_; refine ZC ?_; refine Zl ?_; refine JD ?_; refine JF ?_; refine X2 ?_
  refine Xm (XI 100 (cs' := [XD nm, ai 0, ai 0, ai 0, XD [], .d (.sl 5 [])]) rfl JM rfl) ?_
  refine JR ?_; refine Z1 ?_; refine ZL ?_; refine Z5 ?_; refine Z6 ?_; refine Z0 ?_; refine JD ?_; refine JR ?_; refine Z1 ?_; refine Zb ?_; refine Z0 ?_; refine JD ?_
  refine ⟨(acc ++ [(⟨nm, zV⟩ : Prp)], i + 1, j, ⟨k2, c2, a2, e2⟩), ⟨by simpa using h1, h2, h3', hok3, by simp only; omega⟩, by show j < j + 1; omega, ?_⟩
  rw [happ]
  exact X8 rfl ⟨JL, JL, AVal.le_of_eq (by refine Eq.trans (b := AVal.own 130 (_ + _)) rfl ?_; simp only [List.length_append, List.length_cons, List.length_nil]), JL, trivial⟩ ⟨rfl, rfl, trivial⟩
 rw [if_neg (by simp [he2])] at hvE
 have hv := Xfr s2.c (by rw [hc2]; omega) s2.a
 generalize Yf s2.c s2.a = v at *
 obtain ⟨v, at', er⟩ := v
 simp only at hvE
 have hst := X4o B s2 at' er
 rw [hvE] at h1 h2 hok3 h3'
 simp only at h1 h2 hok3 h3'
 generalize s2.put (if er = 0 then at' else s2.a) er = s3 at *
 have happ : (acc ++ [(⟨nm, v⟩ : Prp)]).map Xk = acc.map Xk ++ [Xk ⟨nm, v⟩] := by simp
 clear hvE
 obtain ⟨k, c, a, e⟩ := s
 obtain ⟨k2, c2, a2, e2⟩ := s2
 obtain ⟨k3, c3, a3, e3⟩ := s3
 obtain ⟨vk, vn, vd, vs, vl⟩ := v
 simp only at he he2
 subst he
 subst he2
 unfold oR at hn hst
 simp only [Xv] at hn hv hst
 refine X0 ?_; refine X0 ?_; refine JR ?_; refine Z1 ?_; refine Z1 ?_; refine Z8 ?_; refine Z1 ?_; refine Z1 ?_; refine Z01 ?_; refine ZB ?_; refine ZC ?_; refine Zl ?_; refine Zn ?_; refine JD ?_; refine JT ?_
 refine X2 ?_; refine X0 ?_; refine X4 ?_; refine X0 ?_; refine JR ?_; refine Z1 ?_; refine Z9 (hcon := hn) ?_; refine Zx ?_; refine Zw (γ := 100) ?_; refine Zy ?_; refine JD ?_; refine X0 ?_
 refine X0 ?_; refine JR ?_; refine Z1 ?_; refine Z01 ?_; refine ZB ?_; refine ZC ?_; refine Zl ?_; refine JD ?_; refine JT ?_; refine X0 ?_; refine JR ?_; refine Z1 ?_; refine Z01 ?_; refine ZB ?_; refine ZC ?_
 refine Z1 ?_; refine Z01 ?_; refine ZB ?_; refine ZC ?_; refine Z9 (hcon := hv) ?_; refine Z1 ?_; refine ZF ?_; refine ZF ?_; refine ZF ?_; refine Zw (γ := 101) ?_; refine Zy ?_; refine Z0 ?_; refine Z0 ?_; refine JD ?_
 refine X0 ?_; refine JR ?_; refine Z1 ?_; refine Z1 ?_; refine Z1 ?_; refine Z9 (hcon := hst) ?_; refine JD ?_; refine JR ?_; refine ZL ?_; refine ZB ?_; refine Zy ?_; refine JD ?_; refine JR ?_; refine Z1 ?_
 refine ZL ?_; refine Z5 ?_; refine Z6 ?_; refine Z0 ?_; refine JD ?_; refine JR ?_; refine Z1 ?_; refine Zb ?_; refine Z0 ?_; refine JD ?_
 refine ⟨(acc ++ [(⟨nm, .mk vk vn vd vs vl⟩ : Prp)], i + 1, j, ⟨k3, c3, a3, e3⟩), ⟨by simpa using h1, h2, h3', hok3, by simp only; omega⟩, by show j < j + 1; omega, ?_⟩
 rw [happ]
 exact X8 rfl ⟨JL, JL, AVal.le_of_eq (by refine Eq.trans (b := AVal.own 130 (_ + _)) rfl ?_; simp only [List.length_append, List.length_cons, List.length_nil]), JL, trivial⟩ ⟨rfl, rfl, trivial⟩
end Go.Fw
namespace Go.Fw
open Go Go.Proofs
set_option maxRecDepth 100000
set_option linter.unusedVariables false
set_option linter.unusedSimpArgs false
theorem XbV (B b : List UInt8) (s : Rd) (hB : B.length ≤ 1073741824) (hbl : b.length ≤ 1073741824) (h4 : s.e = 0 → 4 ≤ B.length ∧ B.drop 4 = b) (hi : RdInv b s) : Con Tryz.prog 69 [(0, oR B s)] [.ptr 0 0] [(0, oR B (Xs b Ym s).2)] (Ub (Xs b Ym s).1) := by
 refine X9 (xs := [Ub (Xs b Ym s).1]) Tryz.func69 rfl Tryz.ntmps69 rfl rfl rfl (fun E => ?_)
 have ho := X3U B b s hB h4 hi.k
 have hi1 := (X0t hi).1
 have hnd : Xs b Ym s = (⟨(Xb (XF b s)).1, (Xt XR (Xb (Xb (XF b s)).2).1.toNat (Xb (Xb (XF b s)).2).2).1, (Yr Yl (Xt XR (Xb (Xb (XF b s)).2).1.toNat (Xb (Xb (XF b s)).2).2).2).1⟩, YD (Yr Yl (Xt XR (Xb (Xb (XF b s)).2).1.toNat (Xb (Xb (XF b s)).2).2).2).2) := rfl
 rw [hnd]
 clear hnd
 generalize XF b s = sA at *
 have hc := hi1.c
 have hN1 := X1q B sA (by omega)
 have hok0 := Yn.ok sA hi1.ok
 have hcs0 := (XQ.keep sA).2
 generalize (Xb sA).1 = id at *
 generalize (Xb sA).2 = s0 at *
 have hN := X1q B s0 (by rw [hcs0]; omega)
 obtain ⟨m, hm, hml⟩ := Vw s0
 have hok := Yn.ok s0 hok0
 have hcs := (XQ.keep s0).2
 rw [hm] at hN ⊢
 rw [Int.toNat_natCast]
 generalize (Xb s0).2 = s1 at *
 rw [← hcs0, ← hcs] at hc
 replace hc : s1.c.length ≤ 1073741824 := by omega
 have hLb := X37 Uq Vb (n := m) hok hc
 generalize hL : Xt XR m s1 = L at *
 clear hi1 h4 hi
 obtain ⟨k9, c9, a9, e9⟩ := s
 obtain ⟨k8, c8, a8, e8⟩ := sA
 obtain ⟨k0, c0, a0, e0⟩ := s0
 obtain ⟨k1, c1, a1, e1⟩ := s1
 simp only at hcs0 hcs hc
 subst hcs
 subst hcs0
 unfold oR at ho hN1 hN ⊢
 simp only at ho hN1 hN ⊢
 unfold Ub
 refine X0 ?_; refine JR ?_; refine Zw (γ := 100) ?_; refine JD ?_; refine X0 ?_; refine JR ?_; refine Z1 ?_; refine Z9 (hcon := ho) ?_; refine JD ?_; refine X0 ?_; refine JR ?_; refine Z1 ?_
 refine Z9 (hcon := hN1) ?_; refine Zx ?_; refine Zw (γ := 101) ?_; refine Zy ?_; refine JD ?_; refine X0 ?_; refine JR ?_; refine Z1 ?_; refine Z9 (hcon := hN) ?_; refine Z0 ?_; refine JD ?_; refine X0 ?_
 refine X0 ?_; refine JR ?_; refine Z0 ?_; refine JD ?_; refine X4 ?_
 refine Xm (X0u 101 1 130 1 rfl rfl rfl rfl rfl) ?_
 clear ho hN1 hN hm
 refine Xy (ι := List (List UInt8) × Nat × Nat × Rd) (fun q => q.1 ++ (Xt XR q.2.2.1 q.2.2.2).1 = L.1 ∧ (Xt XR q.2.2.1 q.2.2.2).2 = L.2 ∧ q.2.2.2.c.length ≤ 1073741824 ∧ Yg q.2.2.2 ∧ q.2.1 + q.2.2.1 = m)
  (fun q => ⟨38, [(0, .ptr 0 0), (2, .ptr 100 0), (3, .ptr 101 0), (4, ai (m : Nat)), (5, ai (q.2.1 : Nat))], [(0, .box [.d (Xa B), .d (Xa q.2.2.2.c), ai ((q.2.2.2.k : Int) + 4), ai q.2.2.2.a, ai q.2.2.2.e]), (100, .box [ai 0, ani, ani]), (101, .box [ai id, .own 130 (q.1.map Xn).length, ani]), (130, .row 1 (q.1.map Xn))]⟩) (fun q => q.2.2.1) ([], 0, m, ⟨k1, c1, a1, e1⟩)
  ⟨by rw [hL]; rfl, by rw [hL], hc, hok, by simp⟩
  (X8 rfl JM ⟨rfl, rfl, rfl, rfl, trivial⟩) ?_
 rintro ⟨acc, i, j, s⟩ ⟨h1, h2, h3, h4, h5⟩
 simp only at h1 h2 h3 h4 h5
 have hroom0 := X3K h1 hLb
 have hroom : (acc.map Xn).length ≤ 1073741825 := by rw [List.length_map]; exact hroom0
 by_cases hj : j = 0 ∨ s.e ≠ 0
 ·have hLL := X0h h1 h2 hj
  subst hLL
  have hgd : (¬ (i : Int) < (m : Nat)) ∨ ((i : Int) < (m : Nat) ∧ s.e ≠ 0) := by
   rcases hj with rfl | h
   ·exact .inl (by omega)
   ·by_cases h0 : (i : Int) < (m : Nat)
    ·exact .inr ⟨h0, h⟩
    ·exact .inl h0
  have hp := X9o B s h4 h3
  have hcl := X3N B (Yr Yl s).2 (X2i X1c h4)
  simp only
  generalize (Yr Yl s).1 = ps at *
  generalize (Yr Yl s).2 = s' at *
  generalize YD s' = s'' at *
  unfold oR at hp hcl
  obtain ⟨k, c, a, e⟩ := s
  obtain ⟨k', c', a', e'⟩ := s'
  obtain ⟨k'', c'', a'', e''⟩ := s''
  simp only at hp hcl hgd ⊢
  rcases hgd with hj' | ⟨hj', he⟩
  ·refine X0 ?_; refine X0 ?_; refine JR ?_; refine Z1 ?_; refine Z1 ?_; refine Z8 ?_; refine Z1 ?_; refine Zo ?_; refine Zo ?_; refine Zo ?_; refine Zo ?_; refine Zo ?_; refine Zq ?_; refine JD ?_; refine JF ?_
   refine Xj ?_; refine X0 ?_
   refine Xm (Y0 130 rfl) ?_
   refine Xm (UG 101 1 130 rfl rfl rfl rfl) ?_
   refine JR ?_; refine Z1 ?_; refine Z9 (hcon := hp) ?_; refine ZB ?_; refine Zy ?_; refine JD ?_; refine X0 ?_; refine JR ?_; refine Z1 ?_; refine Z9 (hcon := hcl) ?_; refine JD ?_; refine X0 ?_; refine JR ?_
   refine ZL ?_; refine Zy ?_; refine JD ?_
   exact X1 ⟨_, St.le_refl _, ⟨⟨100, 0, _, rfl, rfl, .inr ⟨3, _, rfl, rfl, rfl, rfl⟩⟩, trivial⟩, Xd ⟨rfl, trivial⟩⟩
  ·refine X0 ?_; refine X0 ?_; refine JR ?_; refine Z1 ?_; refine Z1 ?_; refine Z8 ?_; refine Z1 ?_; refine Z1 ?_; refine Z01 ?_; refine ZB ?_; refine ZC ?_; refine Zl ?_; refine Zn ?_; refine JD ?_; refine JF ?_
   refine Xj ?_; refine X0 ?_
   refine Xm (Y0 130 rfl) ?_
   refine Xm (UG 101 1 130 rfl rfl rfl rfl) ?_
   refine JR ?_; refine Z1 ?_; refine Z9 (hcon := hp) ?_; refine ZB ?_; refine Zy ?_; refine JD ?_; refine X0 ?_; refine JR ?_; refine Z1 ?_; refine Z9 (hcon := hcl) ?_; refine JD ?_; refine X0 ?_; refine JR ?_
   refine ZL ?_; refine Zy ?_; refine JD ?_
   exact X1 ⟨_, St.le_refl _, ⟨⟨100, 0, _, rfl, rfl, .inr ⟨3, _, rfl, rfl, rfl, rfl⟩⟩, trivial⟩, Xd ⟨rfl, trivial⟩⟩
 obtain ⟨j, rfl⟩ : ∃ i, j = i + 1 := ⟨j - 1, by omega⟩
 have hj' : (i : Int) < (m : Nat) := by omega
 have he : s.e = 0 := by
  by_cases q : s.e = 0
  ·exact q
  ·exact absurd (.inr q) hj
 clear hj
 rw [X0v he] at h1 h2
 simp only at h1 h2
 have hn := X58 B s (by omega)
 have hc2 := (Uq.keep s).2
 have hok3 := Vb.ok s h4
 generalize (XR s).1 = nm at *
 generalize (XR s).2 = s2 at *
 have h3' : s2.c.length ≤ 1073741824 := by rw [hc2]; exact h3
 have happ : (acc ++ [nm]).map Xn = acc.map Xn ++ [Xn nm] := by simp
 obtain ⟨k, c, a, e⟩ := s
 obtain ⟨k2, c2, a2, e2⟩ := s2
 simp only at he
 subst he
 unfold oR at hn
 simp only at hn
 refine X0 ?_; refine X0 ?_; refine JR ?_; refine Z1 ?_; refine Z1 ?_; refine Z8 ?_; refine Z1 ?_; refine Z1 ?_; refine Z01 ?_; refine ZB ?_; refine ZC ?_; refine Zl ?_; refine Zn ?_; refine JD ?_; refine JT ?_
 refine X2 ?_; refine X0 ?_; refine X4 ?_; refine JR ?_; refine ZB ?_; refine ZC ?_; refine Z1 ?_; refine Z9 (hcon := hn) ?_; refine Z5 ?_; refine Z6 ?_; refine ZB ?_; refine Zy ?_; refine JD ?_
 refine JR ?_; refine Z1 ?_; refine Zb ?_; refine Z0 ?_; refine JD ?_
 refine ⟨(acc ++ [nm], i + 1, j, ⟨k2, c2, a2, e2⟩), ⟨by simpa using h1, h2, h3', hok3, by simp only; omega⟩, by show j < j + 1; omega, ?_⟩
 rw [happ]
 exact X8 rfl JM ⟨rfl, rfl, by refine Eq.trans (b := AObj.box [_, .own 130 (_ + _), _]) rfl ?_; simp only [List.length_append, List.length_cons, List.length_nil], rfl, trivial⟩
theorem XfE (B b : List UInt8) (s : Rd) (hB : B.length ≤ 1073741824) (hbl : b.length ≤ 1073741824) (h4 : s.e = 0 → 4 ≤ B.length ∧ B.drop 4 = b) (hi : RdInv b s) : Con Tryz.prog 70 [(0, oR B s)] [.ptr 0 0] [(0, oR B (Xs b XO s).2)] (.agg [ai (Xs b XO s).1.id, ai (Xs b XO s).1.src, ai (Xs b XO s).1.dst, XD (Xs b XO s).1.typ, .d (.sl 6 ((Xs b XO s).1.props.map Xk))]) := by
 refine X9 (xs := [.agg [ai (Xs b XO s).1.id, ai (Xs b XO s).1.src, ai (Xs b XO s).1.dst, XD (Xs b XO s).1.typ, .d (.sl 6 ((Xs b XO s).1.props.map Xk))]]) Tryz.func70 rfl Tryz.ntmps70 rfl rfl rfl (fun E => ?_)
 have ho := X3U B b s hB h4 hi.k
 have hi1 := (X0t hi).1
 unfold Xs XO
 simp only
 generalize XF b s = s0 at *
 have hc := hi1.c
 have hs := hi1.ok
 have h1 := X1q B s0 (by omega)
 have o1 := Yn.ok s0 hs
 have c1 := (XQ.keep s0).2
 generalize (Xb s0).1 = x1 at *
 generalize (Xb s0).2 = s1 at *
 have h2 := X1q B s1 (by rw [c1]; omega)
 have o2 := Yn.ok s1 o1
 have c2 := (XQ.keep s1).2
 generalize (Xb s1).1 = x2 at *
 generalize (Xb s1).2 = s2 at *
 have h3 := X1q B s2 (by rw [c2, c1]; omega)
 have o3 := Yn.ok s2 o2
 have c3 := (XQ.keep s2).2
 generalize (Xb s2).1 = x3 at *
 generalize (Xb s2).2 = s3 at *
 have h4' := X58 B s3 (by rw [c3, c2, c1]; omega)
 have o4 := Vb.ok s3 o3
 have c4 := (Uq.keep s3).2
 generalize (XR s3).1 = x4 at *
 generalize (XR s3).2 = s4 at *
 have h5 := X9o B s4 o4 (by rw [c4, c3, c2, c1]; omega)
 have h6 := X3N B (Yr Yl s4).2 (X2i X1c o4)
 generalize (Yr Yl s4).1 = x5 at *
 generalize (Yr Yl s4).2 = s5 at *
 generalize YD s5 = s6 at *
 clear o1 o2 o3 o4 c1 c2 c3 c4 hs h4 hi hi1 hc
 obtain ⟨k9, c9, a9, e9⟩ := s
 obtain ⟨k0, c0, a0, e0⟩ := s0
 obtain ⟨k1, c1, a1, e1⟩ := s1
 obtain ⟨k2, c2, a2, e2⟩ := s2
 obtain ⟨k3, c3, a3, e3⟩ := s3
 obtain ⟨k4, c4, a4, e4⟩ := s4
 obtain ⟨k5, c5, a5, e5⟩ := s5
 obtain ⟨k6, c6, a6, e6⟩ := s6
 unfold oR at *
 simp only at *
 refine X0 ?_; refine JR ?_; refine Zw (γ := 100) ?_; refine JD ?_; refine X0 ?_; refine JR ?_; refine Z1 ?_; refine Z9 (hcon := ho) ?_; refine JD ?_; refine X0 ?_; refine JR ?_; refine Z1 ?_
 refine Z9 (hcon := h1) ?_; refine Zx ?_; refine Zw (γ := 101) ?_; refine Zy ?_; refine JD ?_; refine X0 ?_; refine JR ?_; refine Z1 ?_; refine Z9 (hcon := h2) ?_; refine ZB ?_; refine Zy ?_; refine JD ?_
 refine X0 ?_; refine JR ?_; refine Z1 ?_; refine Z9 (hcon := h3) ?_; refine ZB ?_; refine Zy ?_; refine JD ?_; refine X0 ?_; refine JR ?_; refine Z1 ?_; refine Z9 (hcon := h4') ?_; refine ZB ?_; refine Zy ?_
 refine JD ?_; refine X0 ?_; refine JR ?_; refine Z1 ?_; refine Z9 (hcon := h5) ?_; refine ZB ?_; refine Zy ?_; refine JD ?_; refine X0 ?_; refine JR ?_; refine Z1 ?_; refine Z9 (hcon := h6) ?_; refine JD ?_
 refine X0 ?_; refine JR ?_; refine ZL ?_; refine Zy ?_; refine JD ?_
 exact X1 ⟨_, St.le_refl _, ⟨⟨100, 0, _, rfl, rfl, .inr ⟨5, _, rfl, rfl, rfl, rfl⟩⟩, trivial⟩, Xd ⟨rfl, trivial⟩⟩
theorem Xes (B b : List UInt8) (s : Rd) (hB : B.length ≤ 1073741824) (hbl : b.length ≤ 1073741824) (h4 : s.e = 0 → 4 ≤ B.length ∧ B.drop 4 = b) (hi : RdInv b s) : Con Tryz.prog 68 [(0, oR B s)] [.ptr 0 0] [(0, oR B (Xs b Yi s).2)] (XW (Xs b Yi s).1) := by
 refine X9 (xs := [XW (Xs b Yi s).1]) Tryz.func68 rfl Tryz.ntmps68 rfl rfl rfl (fun E => ?_)
 have ho := X3U B b s hB h4 hi.k
 have hi1 := (X0t hi).1
 unfold Xs
 simp only
 generalize XF b s = s0 at *
 have hc := hi1.c
 have hcl := X3N B (Yi s0).2 (X1z s0 hi1.ok)
 clear h4 hi hi1
 rw [Xgg] at hcl ⊢
 by_cases he : s0.e = 0
 case neg =>
  rw [if_pos he] at hcl ⊢
  simp only at hcl ⊢
  generalize YD s0 = s1 at *
  obtain ⟨k9, c9, a9, e9⟩ := s
  obtain ⟨k0, c0, a0, e0⟩ := s0
  obtain ⟨k1, c1, a1, e1⟩ := s1
  unfold oR at *
  simp only at *
  refine X0 ?_; refine JR ?_; refine Zw (γ := 100) ?_; refine JD ?_; refine X0 ?_; refine JR ?_; refine Z1 ?_; refine Z9 (hcon := ho) ?_; refine JD ?_; refine X0 ?_; refine JR ?_; refine Zw (γ := 101) ?_
  refine JD ?_; refine X0 ?_; refine X0 ?_; refine JR ?_; refine Z1 ?_; refine Z01 ?_; refine ZB ?_; refine ZC ?_; refine Zl ?_; refine JD ?_; refine JF ?_; refine X2 ?_; refine X0 ?_; refine JR ?_
  refine Z1 ?_; refine Z9 (hcon := hcl) ?_; refine JD ?_; refine X0 ?_; refine JR ?_; refine ZL ?_; refine Zy ?_; refine JD ?_
  exact X1 ⟨_, XI 100 (cs' := [ai 0, ai 0, XD [], XD [], XD [], XD []]) rfl JM rfl, ⟨⟨100, 0, _, rfl, rfl, .inr ⟨6, _, rfl, rfl, rfl, rfl⟩⟩, trivial⟩, Xd ⟨rfl, trivial⟩⟩
 rw [if_neg (by simp [he])] at hcl ⊢
 have hv := Xcl s0.c s0.a (by omega)
 generalize U3 s0.c s0.a = v at *
 obtain ⟨⟨rk, rn, rname, rkey, rsrc, rdst⟩, at', er⟩ := v
 simp only at hcl ⊢
 have hst := X4o B s0 at' er
 generalize s0.put (if er = 0 then at' else s0.a) er = s1 at *
 generalize YD s1 = s2 at *
 obtain ⟨k9, c9, a9, e9⟩ := s
 obtain ⟨k0, c0, a0, e0⟩ := s0
 obtain ⟨k1, c1, a1, e1⟩ := s1
 obtain ⟨k2, c2, a2, e2⟩ := s2
 simp only at he
 subst he
 unfold oR at *
 simp only [XW] at *
 refine X0 ?_; refine JR ?_; refine Zw (γ := 100) ?_; refine JD ?_; refine X0 ?_; refine JR ?_; refine Z1 ?_; refine Z9 (hcon := ho) ?_; refine JD ?_; refine X0 ?_; refine JR ?_; refine Zw (γ := 101) ?_
 refine JD ?_; refine X0 ?_; refine X0 ?_; refine JR ?_; refine Z1 ?_; refine Z01 ?_; refine ZB ?_; refine ZC ?_; refine Zl ?_; refine JD ?_; refine JT ?_; refine X0 ?_; refine JR ?_; refine Z1 ?_
 refine Z01 ?_; refine ZB ?_; refine ZC ?_; refine Z1 ?_; refine Z01 ?_; refine ZB ?_; refine ZC ?_; refine Z9 (hcon := hv) ?_; refine Z1 ?_; refine ZF ?_; refine ZF ?_; refine ZF ?_; refine Zw (γ := 102) ?_; refine Zy ?_
 refine Z0 ?_; refine Z0 ?_; refine JD ?_; refine X0 ?_; refine JR ?_; refine Z1 ?_; refine Z1 ?_; refine Z1 ?_; refine Z9 (hcon := hst) ?_; refine JD ?_; refine JR ?_; refine ZL ?_; refine Zy ?_; refine JD ?_
 refine X0 ?_; refine JR ?_; refine Z1 ?_; refine Z9 (hcon := hcl) ?_; refine JD ?_; refine X0 ?_; refine JR ?_; refine ZL ?_; refine Zy ?_; refine JD ?_
 exact X1 ⟨_, St.le_refl _, ⟨⟨100, 0, _, rfl, rfl, .inr ⟨6, _, rfl, rfl, rfl, rfl⟩⟩, trivial⟩, Xd ⟨rfl, trivial⟩⟩
theorem XhY (B b : List UInt8) (s : Rd) (h4 : s.e = 0 → 4 ≤ B.length ∧ B.drop 4 = b) (hk : s.k ≤ b.length) : Con Tryz.prog 71 [(0, oR B s)] [.ptr 0 0] [(0, oR B (Vg b s))] (.tup []) := by
 refine X9 (xs := []) Tryz.func71 rfl Tryz.ntmps71 rfl rfl rfl (fun E => ?_)
 obtain ⟨k, c, a, e⟩ := s
 have hlm : (B.map X6).length = B.length := by simp
 simp only at h4 hk
 unfold Vg oR Rd.put
 simp only
 by_cases he : e = 0
 case neg =>
  rw [if_neg (fun h => he h.1)]
  simp only
  refine X0 ?_; refine JR ?_; refine Z1 ?_; refine Z01 ?_; refine ZB ?_; refine ZC ?_; refine Zl ?_; refine Z1 ?_; refine Zo ?_; refine Zo ?_; refine Zo ?_; refine Zo ?_; refine Zo ?_; refine Zo ?_; refine Zo ?_
  refine Zo ?_; refine Zo ?_; refine Zo ?_; refine Zq ?_; refine JD ?_; refine JF ?_; refine X2 ?_
  exact (show Yo _ _ _ _ _ from ⟨_, St.le_refl _, trivial, Xd ⟨rfl, trivial⟩⟩)
 subst he
 obtain ⟨h4l, h4⟩ := h4 rfl
 have hlb : b.length = B.length - 4 := by rw [← h4, List.length_drop]
 by_cases ha : k < b.length
 ·have ha' : (k : Int) + 4 ≠ (B.map X6).length := by omega
  rw [if_pos ⟨rfl, ha⟩]
  simp only
  refine X0 ?_; refine JR ?_; refine Z1 ?_; refine Z01 ?_; refine ZB ?_; refine ZC ?_; refine Zl ?_; refine Z1 ?_; refine Z1 ?_; refine Z01 ?_; refine ZB ?_; refine ZC ?_; refine Z1 ?_; refine Z01 ?_; refine ZB ?_
  refine ZC ?_; refine Zd ?_; refine Zv ?_; refine Zn ?_; refine JD ?_; refine JT ?_; refine JR ?_; refine Z1 ?_; refine Z01 ?_; refine ZB ?_; refine Zy ?_; refine JD ?_
  exact (show Yo _ _ _ _ _ from ⟨_, St.le_refl _, trivial, Xd ⟨rfl, trivial⟩⟩)
 ·have ha' : ¬ (k : Int) + 4 ≠ (B.map X6).length := by omega
  rw [if_neg (fun h => ha h.2)]
  simp only
  refine X0 ?_; refine JR ?_; refine Z1 ?_; refine Z01 ?_; refine ZB ?_; refine ZC ?_; refine Zl ?_; refine Z1 ?_; refine Z1 ?_; refine Z01 ?_; refine ZB ?_; refine ZC ?_; refine Z1 ?_; refine Z01 ?_; refine ZB ?_
  refine ZC ?_; refine Zd ?_; refine Zv ?_; refine Zn ?_; refine JD ?_; refine JF ?_; refine X2 ?_
  exact (show Yo _ _ _ _ _ from ⟨_, St.le_refl _, trivial, Xd ⟨rfl, trivial⟩⟩)
theorem Xh5 (B : List UInt8) : Con Tryz.prog 64 [] [.d (Xa B), XD Xw] [(100, oR B (YL B))] (.ptr 100 0) := by
 refine X9 (xs := [.ptr 100 0]) Tryz.func64 rfl Tryz.ntmps64 rfl rfl rfl (fun E => ?_)
 have hlm : (B.map X6).length = B.length := by simp
 have hg4 : Xw.length = 4 := rfl
 unfold YL oR
 simp only
 by_cases h4 : B.length < 4
 ·have h4' : ((B.map X6).length : Int) < 4 := by omega
  rw [if_neg (fun h => by have := congrArg List.length h; simp [Xw] at this; omega)]
  refine X0 ?_; refine JR ?_; refine Z0 ?_; refine JD ?_; refine X0 ?_; refine JR ?_; refine Z1 ?_; refine Zx ?_; refine ZA (γ := 100) ?_; refine Z0 ?_; refine JD ?_; refine X0 ?_; refine X0 ?_
  refine JR ?_; refine Z1 ?_; refine Zd ?_; refine Z8 ?_; refine Z1 ?_; refine Zo ?_; refine Zo ?_; refine Zo ?_; refine Zo ?_; refine Zo ?_; refine Zn ?_; refine JD ?_; refine JT ?_; refine JR ?_; refine Z1 ?_
  refine Z01 ?_; refine ZB ?_; refine Zy ?_; refine JD ?_; refine X0 ?_; refine JR ?_; refine Z1 ?_; refine Z0 ?_; refine JD ?_
  exact X1 ⟨_, XI 100 (cs' := [.d (Xa B), .d (Xa []), ai 4, ai 0, ai 2]) rfl JM rfl, ⟨rfl, trivial⟩, Xd ⟨rfl, trivial⟩⟩
 have h4' : ¬ ((B.map X6).length : Int) < 4 := by omega
 have hle : 4 ≤ (B.map X6).length := by omega
 have hsl : ((B.map X6).take 4).drop 0 = (B.take 4).map X6 := by rw [List.drop_zero, List.map_take]
 by_cases h : B.take 4 = Xw
 ·rw [if_pos h]
  have hn : ¬ B.take 4 ≠ Xw := by simpa using h
  refine X0 ?_; refine JR ?_; refine Z0 ?_; refine JD ?_; refine X0 ?_; refine JR ?_; refine Z1 ?_; refine Zx ?_; refine ZA (γ := 100) ?_; refine Z0 ?_; refine JD ?_; refine X0 ?_; refine X0 ?_
  refine JR ?_; refine Z1 ?_; refine Zd ?_; refine Z8 ?_; refine Z1 ?_; refine Z1 ?_; refine ZV (lb := 0) (hb := 4) (ys := (B.take 4).map X6) ?_ (hys := by exact hsl); refine ZW ?_; refine Z1 ?_; refine ZM ?_
  refine Zq ?_; refine JD ?_; refine JF ?_; refine X2 ?_; refine X0 ?_; refine JR ?_; refine Z1 ?_; refine Z0 ?_; refine JD ?_
  exact X1 ⟨_, XI 100 (cs' := [.d (Xa B), .d (Xa []), ai 4, ai 0, ai 0]) rfl JM rfl, ⟨rfl, trivial⟩, Xd ⟨rfl, trivial⟩⟩
 ·rw [if_neg h]
  refine X0 ?_; refine JR ?_; refine Z0 ?_; refine JD ?_; refine X0 ?_; refine JR ?_; refine Z1 ?_; refine Zx ?_; refine ZA (γ := 100) ?_; refine Z0 ?_; refine JD ?_; refine X0 ?_; refine X0 ?_
  refine JR ?_; refine Z1 ?_; refine Zd ?_; refine Z8 ?_; refine Z1 ?_; refine Z1 ?_; refine ZV (lb := 0) (hb := 4) (ys := (B.take 4).map X6) ?_ (hys := by exact hsl); refine ZW ?_; refine Z1 ?_; refine ZM ?_
  refine Zq ?_; refine JD ?_; refine JT ?_; refine JR ?_; refine Z1 ?_; refine Z01 ?_; refine ZB ?_; refine Zy ?_; refine JD ?_; refine X0 ?_; refine JR ?_; refine Z1 ?_; refine Z0 ?_; refine JD ?_
  exact X1 ⟨_, XI 100 (cs' := [.d (Xa B), .d (Xa []), ai 4, ai 0, ai 2]) rfl JM rfl, ⟨rfl, trivial⟩, Xd ⟨rfl, trivial⟩⟩
end Go.Fw
