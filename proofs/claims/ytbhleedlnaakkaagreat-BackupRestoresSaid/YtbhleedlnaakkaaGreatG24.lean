/- The program's reader of backups: frames and parts. -/
import Derived.Test.YtbhleedlnaakkaaGreatG23
set_option maxHeartbeats 16000000
namespace Go.Fw
open Go Go.Proofs
set_option maxRecDepth 100000
set_option linter.unusedVariables false
set_option linter.unusedSimpArgs false
def oB (b : List UInt8) (s : Rd) : AObj := .box [.d (Xa (b.drop s.k)), .d (Xa s.c), ai s.a, ai s.e]
theorem X8v {b : List UInt8} {k : Nat} {z : Int} {c : List UInt8} (h : YQ (b.drop k) 0 = (c, z, 0)) : ∃ f : Nat, z = f ∧ f ≤ (b.drop k).length := by
 obtain ⟨h1, h2, h3, _⟩ := X5h h
 exact ⟨z.toNat, by omega, by omega⟩
theorem Xg2 (b : List UInt8) (s : Rd) (hb : b.length ≤ 140737488355328) : Con Tryz.prog 56 [(0, oB b s)] [.ptr 0 0] [(0, oB b (XF b s))] (.tup []) := by
 refine X9 (xs := []) Tryz.func56 rfl Tryz.ntmps56 rfl rfl rfl (fun E => ?_)
 obtain ⟨k, c0, a, e⟩ := s
 have hc := XbM (b.drop k) 0 (by rw [List.length_drop]; omega)
 unfold XF oB
 simp only
 by_cases he : e = 0
 case neg =>
  rw [if_pos he]
  simp only
  refine X0 ?_; refine X0 ?_; refine JR ?_; refine Z1 ?_; refine Z01 ?_; refine ZB ?_; refine ZC ?_; refine Zv ?_; refine JD ?_; refine JT ?_
  exact X1 ⟨_, St.le_refl _, trivial, Xd ⟨rfl, trivial⟩⟩
 subst he
 rw [if_neg (by simp)]
 generalize hu : YQ (b.drop k) 0 = u at *
 obtain ⟨c, z, er⟩ := u
 simp only at hc ⊢
 by_cases her : er = 0
 ·subst her
  obtain ⟨f, rfl, hf⟩ := X8v hu
  rw [if_pos rfl, Int.toNat_natCast]
  have hsl : (((b.drop k).map X6).take ((b.drop k).map X6).length).drop f = (b.drop (k + f)).map X6 := by rw [List.take_length, ← List.map_drop, List.drop_drop]
  have hf' : f ≤ ((b.drop k).map X6).length := by rw [List.length_map]; exact hf
  refine X0 ?_; refine X0 ?_; refine JR ?_; refine Z1 ?_; refine Z01 ?_; refine ZB ?_; refine ZC ?_; refine Zv ?_; refine JD ?_; refine JF ?_; refine X2 ?_; refine X0 ?_; refine JR ?_; refine Z0 ?_
  refine JD ?_; refine X0 ?_; refine JR ?_; refine Z1 ?_; refine Z1 ?_; refine Z1 ?_; refine Z01 ?_; refine ZB ?_; refine ZC ?_; refine Z9 (hcon := hc) ?_; refine Z1 ?_; refine ZF ?_; refine ZF ?_; refine ZF ?_
  refine Z01 ?_; refine ZB ?_; refine Zy ?_; refine Z0 ?_; refine Z01 ?_; refine ZB ?_; refine Zy ?_; refine JD ?_; refine X0 ?_; refine JR ?_; refine Z1 ?_; refine Z01 ?_; refine ZB ?_; refine Zy ?_; refine JD ?_
  refine X0 ?_; refine JR ?_; refine Z1 ?_; refine Z01 ?_; refine ZB ?_; refine ZC ?_; refine Zl ?_; refine JD ?_; refine JT ?_; refine JR ?_; refine Z1 ?_; refine Z1 ?_; refine Z01 ?_; refine ZB ?_; refine ZC ?_
  refine Z1 ?_; refine ZV (lb := f) (hb := ((b.drop k).map X6).length) (ys := (b.drop (k + f)).map X6) ?_ (hys := by exact hsl); refine Z01 ?_; refine ZB ?_; refine Zy ?_; refine JD ?_
  exact (show Yo _ _ _ _ _ from ⟨_, St.le_refl _, trivial, Xd ⟨rfl, trivial⟩⟩)
 ·rw [if_neg her]
  refine X0 ?_; refine X0 ?_; refine JR ?_; refine Z1 ?_; refine Z01 ?_; refine ZB ?_; refine ZC ?_; refine Zv ?_; refine JD ?_; refine JF ?_; refine X2 ?_; refine X0 ?_; refine JR ?_; refine Z0 ?_
  refine JD ?_; refine X0 ?_; refine JR ?_; refine Z1 ?_; refine Z1 ?_; refine Z1 ?_; refine Z01 ?_; refine ZB ?_; refine ZC ?_; refine Z9 (hcon := hc) ?_; refine Z1 ?_; refine ZF ?_; refine ZF ?_; refine ZF ?_
  refine Z01 ?_; refine ZB ?_; refine Zy ?_; refine Z0 ?_; refine Z01 ?_; refine ZB ?_; refine Zy ?_; refine JD ?_; refine X0 ?_; refine JR ?_; refine Z1 ?_; refine Z01 ?_; refine ZB ?_; refine Zy ?_; refine JD ?_
  refine X0 ?_; refine JR ?_; refine Z1 ?_; refine Z01 ?_; refine ZB ?_; refine ZC ?_; refine Zl ?_; refine JD ?_; refine JF ?_; refine X2 ?_
  exact (show Yo _ _ _ _ _ from ⟨_, St.le_refl _, trivial, Xd ⟨rfl, trivial⟩⟩)
theorem XgD (b : List UInt8) (s : Rd) : Con Tryz.prog 58 [(0, oB b s)] [.ptr 0 0] [(0, oB b (YD s))] (.tup []) := by
 refine X9 (xs := []) Tryz.func58 rfl Tryz.ntmps58 rfl rfl rfl (fun E => ?_)
 obtain ⟨k, c, a, e⟩ := s
 have hlm : (c.map X6).length = c.length := by simp
 unfold YD oB Rd.put
 simp only
 by_cases he : e = 0
 case neg =>
  rw [if_neg (fun h => he h.1)]
  simp only
  refine X0 ?_; refine JR ?_; refine Z1 ?_; refine Z01 ?_; refine ZB ?_; refine ZC ?_; refine Zl ?_; refine Z1 ?_; refine Zo ?_; refine Zo ?_; refine Zo ?_; refine Zo ?_; refine Zo ?_; refine Zo ?_; refine Zo ?_
  refine Zo ?_; refine Zo ?_; refine Zo ?_; refine Zq ?_; refine JD ?_; refine JF ?_; refine X2 ?_
  exact (show Yo _ _ _ _ _ from ⟨_, St.le_refl _, trivial, Xd ⟨rfl, trivial⟩⟩)
 subst he
 by_cases ha : a < c.length
 ·have ha' : a < (c.map X6).length := by omega
  rw [if_pos ⟨rfl, ha⟩]
  simp only
  refine X0 ?_; refine JR ?_; refine Z1 ?_; refine Z01 ?_; refine ZB ?_; refine ZC ?_; refine Zl ?_; refine Z1 ?_; refine Z1 ?_; refine Z01 ?_; refine ZB ?_; refine ZC ?_; refine Z1 ?_; refine Z01 ?_; refine ZB ?_
  refine ZC ?_; refine Zd ?_; refine Z8 ?_; refine Zn ?_; refine JD ?_; refine JT ?_; refine JR ?_; refine Z1 ?_; refine Z01 ?_; refine ZB ?_; refine Zy ?_; refine JD ?_
  exact (show Yo _ _ _ _ _ from ⟨_, St.le_refl _, trivial, Xd ⟨rfl, trivial⟩⟩)
 ·have ha' : ¬ a < (c.map X6).length := by omega
  rw [if_neg (fun h => ha h.2)]
  simp only
  refine X0 ?_; refine JR ?_; refine Z1 ?_; refine Z01 ?_; refine ZB ?_; refine ZC ?_; refine Zl ?_; refine Z1 ?_; refine Z1 ?_; refine Z01 ?_; refine ZB ?_; refine ZC ?_; refine Z1 ?_; refine Z01 ?_; refine ZB ?_
  refine ZC ?_; refine Zd ?_; refine Z8 ?_; refine Zn ?_; refine JD ?_; refine JF ?_; refine X2 ?_
  exact (show Yo _ _ _ _ _ from ⟨_, St.le_refl _, trivial, Xd ⟨rfl, trivial⟩⟩)
theorem Xeu (b : List UInt8) (s : Rd) (hk : s.k ≤ b.length) : Con Tryz.prog 63 [(0, oB b s)] [.ptr 0 0] [(0, oB b (Vg b s))] (ai (Vg b s).e) := by
 refine X9 (xs := [ai (Vg b s).e]) Tryz.func63 rfl Tryz.ntmps63 rfl rfl rfl (fun E => ?_)
 obtain ⟨k, c, a, e⟩ := s
 simp only at hk
 have hlm : ((b.drop k).map X6).length = b.length - k := by simp
 unfold Vg oB Rd.put
 simp only
 by_cases he : e = 0
 case neg =>
  rw [if_neg (fun h => he h.1)]
  simp only
  refine X0 ?_; refine JR ?_; refine Z0 ?_; refine JD ?_; refine X0 ?_; refine X0 ?_; refine JR ?_; refine Z1 ?_; refine Z01 ?_; refine ZB ?_; refine ZC ?_; refine Zl ?_; refine Z1 ?_; refine Zo ?_
  refine Zo ?_; refine Zo ?_; refine Zo ?_; refine Zo ?_; refine Zo ?_; refine Zq ?_; refine JD ?_; refine JF ?_; refine X2 ?_; refine X0 ?_; refine JR ?_; refine Z1 ?_; refine Z01 ?_; refine ZB ?_; refine ZC ?_
  refine Z0 ?_; refine JD ?_
  exact X1 ⟨_, St.le_refl _, ⟨rfl, trivial⟩, Xd ⟨rfl, trivial⟩⟩
 subst he
 by_cases ha : k < b.length
 ·have ha' : (0 : Int) < ((b.drop k).map X6).length := by omega
  rw [if_pos ⟨rfl, ha⟩]
  simp only
  refine X0 ?_; refine JR ?_; refine Z0 ?_; refine JD ?_; refine X0 ?_; refine X0 ?_; refine JR ?_; refine Z1 ?_; refine Z01 ?_; refine ZB ?_; refine ZC ?_; refine Zl ?_; refine Z1 ?_; refine Z1 ?_
  refine Z01 ?_; refine ZB ?_; refine ZC ?_; refine Zd ?_; refine Zs ?_; refine Zn ?_; refine JD ?_; refine JT ?_; refine JR ?_; refine Z1 ?_; refine Z01 ?_; refine ZB ?_; refine Zy ?_; refine JD ?_; refine X0 ?_
  refine JR ?_; refine Z1 ?_; refine Z01 ?_; refine ZB ?_; refine ZC ?_; refine Z0 ?_; refine JD ?_
  exact X1 ⟨_, St.le_refl _, ⟨rfl, trivial⟩, Xd ⟨rfl, trivial⟩⟩
 ·have ha' : ¬ (0 : Int) < ((b.drop k).map X6).length := by omega
  rw [if_neg (fun h => ha h.2)]
  simp only
  refine X0 ?_; refine JR ?_; refine Z0 ?_; refine JD ?_; refine X0 ?_; refine X0 ?_; refine JR ?_; refine Z1 ?_; refine Z01 ?_; refine ZB ?_; refine ZC ?_; refine Zl ?_; refine Z1 ?_; refine Z1 ?_
  refine Z01 ?_; refine ZB ?_; refine ZC ?_; refine Zd ?_; refine Zs ?_; refine Zn ?_; refine JD ?_; refine JF ?_; refine X2 ?_; refine X0 ?_; refine JR ?_; refine Z1 ?_; refine Z01 ?_; refine ZB ?_
  refine ZC ?_; refine Z0 ?_; refine JD ?_
  exact X1 ⟨_, St.le_refl _, ⟨rfl, trivial⟩, Xd ⟨rfl, trivial⟩⟩
theorem XcV (c : List UInt8) (a : Int) (hc : c.length ≤ 281474976710656) : Con Tryz.prog 171 [] [.d (Xa c), ai a] [] (.tup [XD (Y9 c a 20).1, ai (Y9 c a 20).2.1, ai (Y9 c a 20).2.2]) := by
 refine X9 (xs := [XD (Y9 c a 20).1, ai (Y9 c a 20).2.1, ai (Y9 c a 20).2.2]) Tryz.func171 rfl Tryz.ntmps171 rfl rfl rfl (fun E => ?_)
 have hs := X5P c a 20 hc
 generalize Y9 c a 20 = u at *
 obtain ⟨u1, u2, u3⟩ := u
 refine X0 ?_; refine JR ?_; refine Z0 ?_; refine Z0 ?_; refine Z0 ?_; refine JD ?_; refine X0 ?_; refine JR ?_; refine Z1 ?_; refine Z1 ?_; refine Z9 (hcon := hs) ?_; refine ZF ?_; refine ZF ?_; refine ZF ?_
 refine Z0 ?_; refine Z0 ?_; refine Z0 ?_; refine JD ?_
 exact X1 ⟨_, St.le_refl _, ⟨rfl, rfl, rfl, trivial⟩, X3 _⟩
theorem XcF (b : List UInt8) (s : Rd) (hc : s.c.length ≤ 281474976710656) : Con Tryz.prog 110 [(0, oB b s)] [.ptr 0 0, .fn 111 []] [(0, oB b (Xb s).2)] (ai (Xb s).1) := by
 refine X9 (xs := [ai (Xb s).1]) Tryz.func110 rfl Tryz.ntmps110 rfl rfl rfl (fun E => ?_)
 obtain ⟨k, c, a, e⟩ := s
 simp only at hc
 have hf := X3e c a hc
 unfold Xb U4 oB Rd.put
 simp only
 by_cases he : e = 0
 case neg =>
  rw [if_pos he]
  simp only
  refine X0 ?_; refine JR ?_; refine Z0 ?_; refine JD ?_; refine X0 ?_; refine JR ?_; refine Z0 ?_; refine JD ?_; refine X0 ?_; refine X0 ?_; refine JR ?_; refine Z1 ?_; refine Z01 ?_; refine ZB ?_
  refine ZC ?_; refine Zv ?_; refine JD ?_; refine JT ?_; refine X0 ?_; refine JR ?_; refine Z1 ?_; refine Z0 ?_; refine JD ?_
  exact X1 ⟨_, St.le_refl _, ⟨rfl, trivial⟩, Xd ⟨rfl, trivial⟩⟩
 subst he
 rw [if_neg (by simp)]
 generalize Xe c a = r at *
 obtain ⟨x, m, er⟩ := r
 simp only at hf ⊢
 by_cases her : er = 0
 ·subst her
  rw [if_pos rfl]
  repeat first | refine X0 ?_ | (refine JR ?_; (repeat first | refine Z1 ?_ | refine Z0 ?_ | refine Z01 ?_ | refine ZB ?_ | refine ZC ?_ | refine Zl ?_ | refine Zv ?_ | refine Zy ?_ | refine ZF ?_ | refine ZG (hcon := hf) ?_); refine JD ?_) | refine JT ?_ | refine JF ?_ | refine X2 ?_
  exact X1 ⟨_, St.le_refl _, ⟨rfl, trivial⟩, Xd ⟨rfl, trivial⟩⟩
 ·rw [if_neg her]
  repeat first | refine X0 ?_ | (refine JR ?_; (repeat first | refine Z1 ?_ | refine Z0 ?_ | refine Z01 ?_ | refine ZB ?_ | refine ZC ?_ | refine Zl ?_ | refine Zv ?_ | refine Zy ?_ | refine ZF ?_ | refine ZG (hcon := hf) ?_); refine JD ?_) | refine JF ?_ | refine X2 ?_
  exact X1 ⟨_, St.le_refl _, ⟨rfl, trivial⟩, Xd ⟨rfl, trivial⟩⟩
theorem Xgf (b : List UInt8) (s : Rd) (hc : s.c.length ≤ 281474976710656) : Con Tryz.prog 170 [(0, oB b s)] [.ptr 0 0, .fn 171 []] [(0, oB b (XR s).2)] (XD (XR s).1) := by
 refine X9 (xs := [XD (XR s).1]) Tryz.func170 rfl Tryz.ntmps170 rfl rfl rfl (fun E => ?_)
 obtain ⟨k, c, a, e⟩ := s
 simp only at hc
 have hf := XcV c a hc
 unfold XR U4 oB Rd.put
 simp only
 by_cases he : e = 0
 case neg =>
  rw [if_pos he]
  simp only
  refine X0 ?_; refine JR ?_; refine Z0 ?_; refine JD ?_; refine X0 ?_; refine JR ?_; refine Z0 ?_; refine JD ?_; refine X0 ?_; refine X0 ?_; refine JR ?_; refine Z1 ?_; refine Z01 ?_; refine ZB ?_
  refine ZC ?_; refine Zv ?_; refine JD ?_; refine JT ?_; refine X0 ?_; refine JR ?_; refine Z1 ?_; refine Z0 ?_; refine JD ?_
  exact X1 ⟨_, St.le_refl _, ⟨rfl, trivial⟩, Xd ⟨rfl, trivial⟩⟩
 subst he
 rw [if_neg (by simp)]
 generalize Y9 c a 20 = r at *
 obtain ⟨x, m, er⟩ := r
 simp only at hf ⊢
 by_cases her : er = 0
 ·subst her
  rw [if_pos rfl]
  repeat first | refine X0 ?_ | (refine JR ?_; (repeat first | refine Z1 ?_ | refine Z0 ?_ | refine Z01 ?_ | refine ZB ?_ | refine ZC ?_ | refine Zl ?_ | refine Zv ?_ | refine Zy ?_ | refine ZF ?_ | refine ZG (hcon := hf) ?_); refine JD ?_) | refine JT ?_ | refine JF ?_ | refine X2 ?_
  exact X1 ⟨_, St.le_refl _, ⟨rfl, trivial⟩, Xd ⟨rfl, trivial⟩⟩
 ·rw [if_neg her]
  repeat first | refine X0 ?_ | (refine JR ?_; (repeat first | refine Z1 ?_ | refine Z0 ?_ | refine Z01 ?_ | refine ZB ?_ | refine ZC ?_ | refine Zl ?_ | refine Zv ?_ | refine Zy ?_ | refine ZF ?_ | refine ZG (hcon := hf) ?_); refine JD ?_) | refine JF ?_ | refine X2 ?_
  exact X1 ⟨_, St.le_refl _, ⟨rfl, trivial⟩, Xd ⟨rfl, trivial⟩⟩
theorem X1W (b : List UInt8) (s : Rd) (hc : s.c.length ≤ 281474976710656) : Con Tryz.prog 57 [(0, oB b s)] [.ptr 0 0] [(0, oB b (Xb s).2)] (ai (Xb s).1) := by
 refine X9 (xs := [ai (Xb s).1]) Tryz.func57 rfl Tryz.ntmps57 rfl rfl rfl (fun E => ?_)
 have hp := XcF b s hc
 generalize (Xb s).1 = x at *
 generalize (Xb s).2 = s' at *
 obtain ⟨k, c, a, e⟩ := s
 obtain ⟨k', c', a', e'⟩ := s'
 unfold oB at *
 simp only at *
 refine X0 ?_; refine JR ?_; refine Z0 ?_; refine JD ?_; refine X0 ?_; refine JR ?_; refine Z1 ?_; refine Z9 (hcon := hp) ?_; refine Z0 ?_; refine JD ?_
 exact X1 ⟨_, St.le_refl _, ⟨rfl, trivial⟩, Xd ⟨rfl, trivial⟩⟩
theorem X6W (b : List UInt8) (s : Rd) (hc : s.c.length ≤ 281474976710656) : Con Tryz.prog 113 [(0, oB b s)] [.ptr 0 0] [(0, oB b (XR s).2)] (XD (XR s).1) := by
 refine X9 (xs := [XD (XR s).1]) Tryz.func113 rfl Tryz.ntmps113 rfl rfl rfl (fun E => ?_)
 have hp := Xgf b s hc
 generalize (XR s).1 = x at *
 generalize (XR s).2 = s' at *
 obtain ⟨k, c, a, e⟩ := s
 obtain ⟨k', c', a', e'⟩ := s'
 unfold oB at *
 simp only at *
 refine X0 ?_; refine JR ?_; refine Z0 ?_; refine JD ?_; refine X0 ?_; refine JR ?_; refine Z1 ?_; refine Z9 (hcon := hp) ?_; refine Z0 ?_; refine JD ?_
 exact X1 ⟨_, St.le_refl _, ⟨rfl, trivial⟩, Xd ⟨rfl, trivial⟩⟩
theorem Xh7 (b : List UInt8) (s : Rd) (hc : s.c.length ≤ 281474976710656) : Con Tryz.prog 173 [(0, oB b s)] [.ptr 0 0, .fn 174 []] [(0, oB b (Um s).2)] (Xv (Um s).1) := by
 refine X9 (xs := [Xv (Um s).1]) Tryz.func173 rfl Tryz.ntmps173 rfl rfl rfl (fun E => ?_)
 obtain ⟨k, c, a, e⟩ := s
 simp only at hc
 have hf := Xdx c hc a
 unfold Um U4 oB Rd.put
 simp only
 by_cases he : e = 0
 case neg =>
  rw [if_pos he]
  simp only
  refine X0 ?_; refine JR ?_; refine Zw (γ := 100) ?_; refine JD ?_; refine X0 ?_; refine JR ?_; refine Zw (γ := 101) ?_; refine JD ?_; refine X0 ?_; refine X0 ?_; refine JR ?_; refine Z1 ?_
  refine Z01 ?_; refine ZB ?_; refine ZC ?_; refine Zv ?_; refine JD ?_; refine JT ?_; refine X0 ?_; refine JR ?_; refine ZL ?_; refine Zy ?_; refine JD ?_
  exact X1 ⟨_, XI 100 (cs' := [ai 0, ai 0, ai 0, XD [], .d (.sl 5 [])]) rfl JM rfl, ⟨⟨100, 0, _, rfl, rfl, .inr ⟨5, _, rfl, rfl, rfl, rfl⟩⟩, trivial⟩, Xd ⟨rfl, trivial⟩⟩
 subst he
 rw [if_neg (by simp)]
 generalize Yf c a = r at *
 obtain ⟨x, m, er⟩ := r
 obtain ⟨vk, vn, vd, vs, vl⟩ := x
 simp only [Xv] at hf ⊢
 by_cases her : er = 0
 ·subst her
  rw [if_pos rfl]
  refine X0 ?_; refine JR ?_; refine Zw (γ := 100) ?_; refine JD ?_; refine X0 ?_; refine JR ?_; refine Zw (γ := 101) ?_; refine JD ?_; refine X0 ?_; refine X0 ?_; refine JR ?_; refine Z1 ?_
  refine Z01 ?_; refine ZB ?_; refine ZC ?_; refine Zv ?_; refine JD ?_; refine JF ?_; refine X2 ?_; refine X0 ?_; refine JR ?_; refine Z0 ?_; refine JD ?_; refine X0 ?_; refine JR ?_; refine Z1 ?_
  refine Z1 ?_; refine Z1 ?_; refine Z01 ?_; refine ZB ?_; refine ZC ?_; refine Z1 ?_; refine Z01 ?_; refine ZB ?_; refine ZC ?_; refine ZG (hcon := hf) ?_; refine Z1 ?_; refine ZF ?_; refine ZF ?_; refine ZF ?_
  refine Zy ?_; refine Z0 ?_; refine Z01 ?_; refine ZB ?_; refine Zy ?_; refine JD ?_; refine X0 ?_; refine X0 ?_; refine JR ?_; refine Z1 ?_; refine Z01 ?_; refine ZB ?_; refine ZC ?_; refine Zl ?_; refine JD ?_
  refine JT ?_; refine JR ?_; refine Z1 ?_; refine Z1 ?_; refine Z01 ?_; refine ZB ?_; refine Zy ?_; refine JD ?_; refine X0 ?_; refine JR ?_; refine ZL ?_; refine Zy ?_; refine JD ?_
  exact X1 ⟨_, St.le_refl _, ⟨⟨100, 0, _, rfl, rfl, .inr ⟨5, _, rfl, rfl, rfl, rfl⟩⟩, trivial⟩, Xd ⟨rfl, trivial⟩⟩
 ·rw [if_neg her]
  refine X0 ?_; refine JR ?_; refine Zw (γ := 100) ?_; refine JD ?_; refine X0 ?_; refine JR ?_; refine Zw (γ := 101) ?_; refine JD ?_; refine X0 ?_; refine X0 ?_; refine JR ?_; refine Z1 ?_
  refine Z01 ?_; refine ZB ?_; refine ZC ?_; refine Zv ?_; refine JD ?_; refine JF ?_; refine X2 ?_; refine X0 ?_; refine JR ?_; refine Z0 ?_; refine JD ?_; refine X0 ?_; refine JR ?_; refine Z1 ?_
  refine Z1 ?_; refine Z1 ?_; refine Z01 ?_; refine ZB ?_; refine ZC ?_; refine Z1 ?_; refine Z01 ?_; refine ZB ?_; refine ZC ?_; refine ZG (hcon := hf) ?_; refine Z1 ?_; refine ZF ?_; refine ZF ?_; refine ZF ?_
  refine Zy ?_; refine Z0 ?_; refine Z01 ?_; refine ZB ?_; refine Zy ?_; refine JD ?_; refine X0 ?_; refine X0 ?_; refine JR ?_; refine Z1 ?_; refine Z01 ?_; refine ZB ?_; refine ZC ?_; refine Zl ?_; refine JD ?_
  refine JF ?_; refine X2 ?_; refine X0 ?_; refine JR ?_; refine ZL ?_; refine Zy ?_; refine JD ?_
  exact X1 ⟨_, St.le_refl _, ⟨⟨100, 0, _, rfl, rfl, .inr ⟨5, _, rfl, rfl, rfl, rfl⟩⟩, trivial⟩, Xd ⟨rfl, trivial⟩⟩
theorem XeX (b : List UInt8) (s : Rd) (hc : s.c.length ≤ 281474976710656) : Con Tryz.prog 59 [(0, oB b s)] [.ptr 0 0, .fn 60 []] [(0, oB b (Yi s).2)] (XW (Yi s).1) := by
 refine X9 (xs := [XW (Yi s).1]) Tryz.func59 rfl Tryz.ntmps59 rfl rfl rfl (fun E => ?_)
 obtain ⟨k, c, a, e⟩ := s
 simp only at hc
 have hf := Xht c a hc
 unfold Yi U4 oB Rd.put
 simp only
 by_cases he : e = 0
 case neg =>
  rw [if_pos he]
  simp only
  refine X0 ?_; refine JR ?_; refine Zw (γ := 100) ?_; refine JD ?_; refine X0 ?_; refine JR ?_; refine Zw (γ := 101) ?_; refine JD ?_; refine X0 ?_; refine X0 ?_; refine JR ?_; refine Z1 ?_
  refine Z01 ?_; refine ZB ?_; refine ZC ?_; refine Zv ?_; refine JD ?_; refine JT ?_; refine X0 ?_; refine JR ?_; refine ZL ?_; refine Zy ?_; refine JD ?_
  exact X1 ⟨_, St.le_refl _, ⟨⟨100, 0, _, rfl, rfl, .inr ⟨6, _, rfl, rfl, rfl, rfl⟩⟩, trivial⟩, Xd ⟨rfl, trivial⟩⟩
 subst he
 rw [if_neg (by simp)]
 generalize U3 c a = r at *
 obtain ⟨x, m, er⟩ := r
 obtain ⟨rk, rn, rname, rkey, rsrc, rdst⟩ := x
 simp only [XW] at hf ⊢
 by_cases her : er = 0
 ·subst her
  rw [if_pos rfl]
  refine X0 ?_; refine JR ?_; refine Zw (γ := 100) ?_; refine JD ?_; refine X0 ?_; refine JR ?_; refine Zw (γ := 101) ?_; refine JD ?_; refine X0 ?_; refine X0 ?_; refine JR ?_; refine Z1 ?_
  refine Z01 ?_; refine ZB ?_; refine ZC ?_; refine Zv ?_; refine JD ?_; refine JF ?_; refine X2 ?_; refine X0 ?_; refine JR ?_; refine Z0 ?_; refine JD ?_; refine X0 ?_; refine JR ?_; refine Z1 ?_
  refine Z1 ?_; refine Z1 ?_; refine Z01 ?_; refine ZB ?_; refine ZC ?_; refine Z1 ?_; refine Z01 ?_; refine ZB ?_; refine ZC ?_; refine ZG (hcon := hf) ?_; refine Z1 ?_; refine ZF ?_; refine ZF ?_; refine ZF ?_
  refine Zy ?_; refine Z0 ?_; refine Z01 ?_; refine ZB ?_; refine Zy ?_; refine JD ?_; refine X0 ?_; refine X0 ?_; refine JR ?_; refine Z1 ?_; refine Z01 ?_; refine ZB ?_; refine ZC ?_; refine Zl ?_; refine JD ?_
  refine JT ?_; refine JR ?_; refine Z1 ?_; refine Z1 ?_; refine Z01 ?_; refine ZB ?_; refine Zy ?_; refine JD ?_; refine X0 ?_; refine JR ?_; refine ZL ?_; refine Zy ?_; refine JD ?_
  exact X1 ⟨_, St.le_refl _, ⟨⟨100, 0, _, rfl, rfl, .inr ⟨6, _, rfl, rfl, rfl, rfl⟩⟩, trivial⟩, Xd ⟨rfl, trivial⟩⟩
 ·rw [if_neg her]
  refine X0 ?_; refine JR ?_; refine Zw (γ := 100) ?_; refine JD ?_; refine X0 ?_; refine JR ?_; refine Zw (γ := 101) ?_; refine JD ?_; refine X0 ?_; refine X0 ?_; refine JR ?_; refine Z1 ?_
  refine Z01 ?_; refine ZB ?_; refine ZC ?_; refine Zv ?_; refine JD ?_; refine JF ?_; refine X2 ?_; refine X0 ?_; refine JR ?_; refine Z0 ?_; refine JD ?_; refine X0 ?_; refine JR ?_; refine Z1 ?_
  refine Z1 ?_; refine Z1 ?_; refine Z01 ?_; refine ZB ?_; refine ZC ?_; refine Z1 ?_; refine Z01 ?_; refine ZB ?_; refine ZC ?_; refine ZG (hcon := hf) ?_; refine Z1 ?_; refine ZF ?_; refine ZF ?_; refine ZF ?_
  refine Zy ?_; refine Z0 ?_; refine Z01 ?_; refine ZB ?_; refine Zy ?_; refine JD ?_; refine X0 ?_; refine X0 ?_; refine JR ?_; refine Z1 ?_; refine Z01 ?_; refine ZB ?_; refine ZC ?_; refine Zl ?_; refine JD ?_
  refine JF ?_; refine X2 ?_; refine X0 ?_; refine JR ?_; refine ZL ?_; refine Zy ?_; refine JD ?_
  exact X1 ⟨_, St.le_refl _, ⟨⟨100, 0, _, rfl, rfl, .inr ⟨6, _, rfl, rfl, rfl, rfl⟩⟩, trivial⟩, Xd ⟨rfl, trivial⟩⟩
end Go.Fw
namespace Go.Fw
open Go
set_option linter.unusedVariables false
def Yg (s : Rd) : Prop := 0 ≤ s.a ∧ s.a ≤ s.c.length
structure GoR {α : Type} (d : Int) (f : Rd → α × Rd) : Prop where
 ok : ∀ s, Yg s → Yg (f s).2
 go : ∀ s, Yg s → (f s).2.e = 0 → s.a + d ≤ (f s).2.a
theorem X3O {α : Type} {z : α} {f : List UInt8 → Int → α × Int × Int} {d : Int} (hd : 0 ≤ d) (h : ∀ (c : List UInt8) (a : Int) (x : α) (e : Int), f c a = (x, e, 0) → a + d ≤ e ∧ e ≤ c.length) : GoR d (U4 z f) := by
 refine ⟨fun s hs => ?_, fun s hs he => ?_⟩
 ·unfold U4
  by_cases q : s.e = 0
  ·rw [if_neg (by simp [q])]
   simp only [Rd.put]
   by_cases q2 : (f s.c s.a).2.2 = 0
   ·have := h s.c s.a _ _ (by rw [← q2])
    rw [if_pos q2]
    exact ⟨Int.le_trans hs.1 (Int.le_trans (Int.le_add_of_nonneg_right hd) this.1), by show (f s.c s.a).2.1 ≤ s.c.length; exact this.2⟩
   ·rw [if_neg q2]; exact hs
  ·rw [if_pos q]; exact hs
 ·have hs0 := (X2q z f).back he
  unfold U4 at he ⊢
  rw [if_neg (by simp [hs0])] at he ⊢
  simp only [Rd.put] at he ⊢
  rw [if_pos he]
  exact (h s.c s.a _ _ (by rw [← he])).1
theorem Yn : GoR 1 Xb := X3O (by omega) fun c a x e h => by
 obtain ⟨h1, _, _, h2⟩ := X1v h
 exact ⟨by omega, h1.2.2.1⟩
theorem Vb : GoR 1 XR := X3O (by omega) fun c a x e h => by
 obtain ⟨h1, _, h2⟩ := X1S h
 exact ⟨by omega, h1.2.2.1⟩
theorem X4E : GoR 0 Um := X3O (by omega) fun c a x e h => by
 obtain ⟨h1, _⟩ := X6i h
 exact ⟨by have := h1.2.1; omega, h1.2.2.1⟩
theorem X1c : GoR 1 Yl := by
 refine ⟨fun s hs => X4E.ok _ (Vb.ok _ hs), fun s hs he => ?_⟩
 have he : (Um (XR s).2).2.e = 0 := he
 have h1 := X35.back he
 have h2 := Vb.go s hs h1
 have h3 := X4E.go _ (Vb.ok _ hs) he
 show s.a + 1 ≤ (Um (XR s).2).2.a
 omega
theorem Xae {α : Type} {f : Rd → α × Rd} (hp : PartR f) (hg : GoR 1 f) : ∀ (n : Nat) (s : Rd), Yg s → ((Xt f n s).1.length : Int) ≤ s.c.length - s.a + 1
 | 0, s, hs => by have := hs.2; simp only [Xt, List.length_nil]; omega
 | n + 1, s, hs => by
  have h0 := hs.2
  rw [Xt]
  by_cases q : s.e = 0
  ·rw [if_neg (by simp [q])]
   simp only [List.length_cons]
   have hc := (hp.keep s).2
   by_cases q2 : (f s).2.e = 0
   ·have h1 := Xae hp hg n (f s).2 (hg.ok s hs)
    have h2 := hg.go s hs q2
    rw [hc] at h1
    omega
   ·rw [X1e q2]
    simp only [List.length_nil]
    omega
  ·rw [if_pos q]
   simp only [List.length_nil]
   omega
theorem X9U {α : Type} {f : Rd → α × Rd} {d : Int} (hg : GoR d f) : ∀ (n : Nat) (s : Rd), Yg s → Yg (Xt f n s).2
 | 0, s, hs => hs
 | n + 1, s, hs => by
  rw [Xt]
  split
  ·exact hs
  ·exact X9U hg n _ (hg.ok s hs)
theorem X2i {α : Type} {f : Rd → α × Rd} {d : Int} (hg : GoR d f) {s : Rd} (hs : Yg s) : Yg (Yr f s).2 := X9U hg _ _ (Yn.ok s hs)
theorem Vw (s : Rd) : ∃ m : Nat, (Xb s).1 = m ∧ m ≤ 9223372036854775807 := by
 unfold Xb U4
 by_cases q : s.e = 0
 ·rw [if_neg (by simp [q])]
  simp only
  by_cases q2 : (Xe s.c s.a).2.2 = 0
  ·obtain ⟨_, h1, h2, _⟩ := X1v (b := s.c) (a := s.a) (n := (Xe s.c s.a).1) (e := (Xe s.c s.a).2.1) (by rw [← q2])
   exact ⟨(Xe s.c s.a).1.toNat, by omega, by omega⟩
  ·exact ⟨0, by rw [XgQ q2]; rfl, by omega⟩
 ·rw [if_pos q]
  exact ⟨0, rfl, by omega⟩
end Go.Fw
namespace Go.Fw
open Go Go.Proofs
set_option maxRecDepth 100000
set_option linter.unusedVariables false
set_option linter.unusedSimpArgs false
theorem X0v {α : Type} {f : Rd → α × Rd} {n : Nat} {s : Rd} (h : s.e = 0) : Xt f (n + 1) s = ((f s).1 :: (Xt f n (f s).2).1, (Xt f n (f s).2).2) := by
 rw [Xt, if_neg (by simp [h])]
theorem X0h {α : Type} {f : Rd → α × Rd} {n : Nat} {s : Rd} {acc : List α} {L : List α × Rd} (h1 : acc ++ (Xt f n s).1 = L.1) (h2 : (Xt f n s).2 = L.2) (h : n = 0 ∨ s.e ≠ 0) : L = (acc, s) := by
 have : Xt f n s = ([], s) := by
  rcases h with rfl | h
  ·rfl
  ·exact X1e h
 rw [this] at h1 h2
 simp only [List.append_nil] at h1
 exact Prod.ext h1.symm h2.symm
theorem X3K {α : Type} {f : Rd → α × Rd} {n : Nat} {s : Rd} {acc : List α} {L : List α × Rd} (h1 : acc ++ (Xt f n s).1 = L.1) (hl : L.1.length ≤ 1073741825) : acc.length ≤ 1073741825 := by
 have := congrArg List.length h1
 simp only [List.length_append] at this
 omega
theorem X37 {α : Type} {f : Rd → α × Rd} (hp : PartR f) (hg : GoR 1 f) {n : Nat} {s : Rd} (hs : Yg s) (hc : s.c.length ≤ 1073741824) : (Xt f n s).1.length ≤ 1073741825 := by
 have := Xae hp hg n s hs
 have := hs.1
 omega
theorem X8I (b : List UInt8) (s : Rd) (hs : Yg s) (hc : s.c.length ≤ 1073741824) : Con Tryz.prog 114 [(0, oB b s)] [.ptr 0 0] [(0, oB b (Yr Yl s).2)] (.d (.sl 6 ((Yr Yl s).1.map Xk))) := by
 refine X9 (xs := [.d (.sl 6 ((Yr Yl s).1.map Xk))]) Tryz.func114 rfl Tryz.ntmps114 rfl rfl rfl (fun E => ?_)
 have hN := X1W b s (by omega)
 obtain ⟨m, hm, hml⟩ := Vw s
 have hok := Yn.ok s hs
 have hcs := (XQ.keep s).2
 unfold Yr
 simp only
 rw [hm] at hN ⊢
 rw [Int.toNat_natCast]
 generalize (Xb s).2 = s1 at *
 rw [← hcs] at hc
 have hLb := X37 Vx X1c (n := m) hok hc
 generalize hL : Xt Yl m s1 = L at *
 obtain ⟨k0, c0, a0, e0⟩ := s
 obtain ⟨k1, c1, a1, e1⟩ := s1
 simp only at hcs hc
 subst hcs
 unfold oB at hN ⊢
 simp only at hN ⊢
 refine X0 ?_; refine JR ?_; refine Z0 ?_; refine JD ?_; refine X0 ?_; refine JR ?_; refine Z0 ?_; refine JD ?_; refine X0 ?_; refine X0 ?_; refine JR ?_; refine Z1 ?_; refine Z9 (hcon := hN) ?_
 refine Z0 ?_; refine JD ?_; refine X4 ?_
 refine Xm (VR 3 130 6 rfl rfl rfl) ?_
 refine Xy (ι := List Prp × Nat × Rd) (fun q => q.1 ++ (Xt Yl q.2.1 q.2.2).1 = L.1 ∧ (Xt Yl q.2.1 q.2.2).2 = L.2 ∧ q.2.2.c.length ≤ 1073741824 ∧ Yg q.2.2 ∧ q.2.1 ≤ 9223372036854775807)
  (fun q => ⟨29, [(0, .ptr 0 0), (3, .own 130 (q.1.map Xk).length), (4, ai q.2.1)], [(0, .box [.d (Xa (b.drop q.2.2.k)), .d (Xa q.2.2.c), ai q.2.2.a, ai q.2.2.e]), (130, .row 6 (q.1.map Xk))]⟩) (fun q => q.2.1) ([], m, ⟨k1, c1, a1, e1⟩)
  ⟨by rw [hL]; rfl, by rw [hL], hc, hok, hml⟩
  (X8 rfl JM ⟨rfl, rfl, trivial⟩) ?_
 rintro ⟨acc, j, s⟩ ⟨h1, h2, h3, h4, h5⟩
 simp only at h1 h2 h3 h4 h5
 have hroom0 := X3K h1 hLb
 have hroom : (acc.map Xk).length ≤ 1073741825 := by rw [List.length_map]; exact hroom0
 by_cases hj : j = 0
 ·have hLL := X0h h1 h2 (.inl hj)
  subst hj
  subst hLL
  obtain ⟨k, c, a, e⟩ := s
  simp only
  refine X0 ?_; refine X0 ?_; refine JR ?_; refine Z1 ?_; refine Zs ?_; refine Z1 ?_; refine Zo ?_; refine Zo ?_; refine Zo ?_; refine Zo ?_; refine Zo ?_; refine Zq ?_; refine JD ?_; refine JF ?_
  refine Xj ?_; refine X0 ?_; refine JR ?_; refine Z1 ?_; refine Z0 ?_; refine JD ?_
  refine Xm (Y0 130 rfl) ?_
  refine Xm (YC 2 130 rfl rfl rfl) ?_
  exact X1 ⟨_, St.le_refl _, ⟨rfl, trivial⟩, Xd ⟨rfl, trivial⟩⟩
 obtain ⟨i, rfl⟩ : ∃ i, j = i + 1 := ⟨j - 1, by omega⟩
 have hj' : (0 : Int) < (i + 1 : Nat) := by omega
 by_cases he : s.e = 0
 case neg =>
  have hLL := X0h h1 h2 (.inr he)
  subst hLL
  obtain ⟨k, c, a, e⟩ := s
  simp only at he ⊢
  refine X0 ?_; refine X0 ?_; refine JR ?_; refine Z1 ?_; refine Zs ?_; refine Z1 ?_; refine Z1 ?_; refine Z01 ?_; refine ZB ?_; refine ZC ?_; refine Zl ?_; refine Zn ?_; refine JD ?_; refine JF ?_
  refine Xj ?_; refine X0 ?_; refine JR ?_; refine Z1 ?_; refine Z0 ?_; refine JD ?_
  refine Xm (Y0 130 rfl) ?_
  refine Xm (YC 2 130 rfl rfl rfl) ?_
  exact X1 ⟨_, St.le_refl _, ⟨rfl, trivial⟩, Xd ⟨rfl, trivial⟩⟩
 rw [X0v he] at h1 h2
 simp only at h1 h2
 have hn := X6W b s (by omega)
 have hc2 := (Uq.keep s).2
 have hok2 := Vb.ok s h4
 have hpe : Yl s = (⟨(XR s).1, (Um (XR s).2).1⟩, (Um (XR s).2).2) := rfl
 rw [hpe] at h1 h2
 generalize (XR s).1 = nm at *
 generalize (XR s).2 = s2 at *
 have hv := Xh7 b s2 (by rw [hc2]; omega)
 have hc3 := (X35.keep s2).2
 have hok3 := X4E.ok s2 hok2
 generalize (Um s2).1 = v at *
 generalize (Um s2).2 = s3 at *
 have h3' : s3.c.length ≤ 1073741824 := by rw [hc3, hc2]; exact h3
 have happ : (acc ++ [(⟨nm, v⟩ : Prp)]).map Xk = acc.map Xk ++ [Xk ⟨nm, v⟩] := by simp
 obtain ⟨k, c, a, e⟩ := s
 obtain ⟨k2, c2, a2, e2⟩ := s2
 obtain ⟨k3, c3, a3, e3⟩ := s3
 obtain ⟨vk, vn, vd, vs, vl⟩ := v
 simp only at he
 subst he
 unfold oB at hn hv
 simp only [Xv] at hn hv
 refine X0 ?_; refine X0 ?_; refine JR ?_; refine Z1 ?_; refine Zs ?_; refine Z1 ?_; refine Z1 ?_; refine Z01 ?_; refine ZB ?_; refine ZC ?_; refine Zl ?_; refine Zn ?_; refine JD ?_; refine JT ?_
 refine X2 ?_; refine X0 ?_; refine X4 ?_; refine X0 ?_; refine JR ?_; refine Z1 ?_; refine Z9 (hcon := hn) ?_; refine Z0 ?_; refine JD ?_; refine JR ?_; refine Z1 ?_; refine Z1 ?_; refine Z1 ?_
 refine Z9 (hcon := hv) ?_; refine Zx ?_; refine Z5 ?_; refine Z6 ?_; refine Z0 ?_; refine JD ?_; refine JR ?_; refine Z1 ?_
 refine Z4 (op := .sub) (r' := nj i) (u := .int .i64 ((i + 1 : Nat) : Int)) (v := .int .i64 1) ?_ (hr' := by exact congrArg (Value.int .i64) (show (((i + 1 : Nat) : Int) - 1) = (i : Int) by omega)) (hr := by exact Ya (by unfold Y7; omega))
 refine Z0 ?_; refine JD ?_
 refine ⟨(acc ++ [(⟨nm, .mk vk vn vd vs vl⟩ : Prp)], i, ⟨k3, c3, a3, e3⟩), ⟨by simpa using h1, h2, h3', hok3, by simp only; omega⟩, by show i < i + 1; omega, ?_⟩
 rw [happ]
 exact X8 rfl ⟨JL, AVal.le_of_eq (by refine Eq.trans (b := AVal.own 130 (_ + _)) rfl ?_; simp only [List.length_append, List.length_cons, List.length_nil]), JL, trivial⟩ ⟨rfl, rfl, trivial⟩
end Go.Fw
namespace Go.Fw
open Go Go.Proofs
set_option maxRecDepth 100000
set_option linter.unusedVariables false
set_option linter.unusedSimpArgs false
theorem XfX (b : List UInt8) (s : Rd) (hs : Yg s) (hc : s.c.length ≤ 1073741824) : Con Tryz.prog 61 [(0, oB b s)] [.ptr 0 0] [(0, oB b (Ym s).2)] (Ub (Ym s).1) := by
 refine X9 (xs := [Ub (Ym s).1]) Tryz.func61 rfl Tryz.ntmps61 rfl rfl rfl (fun E => ?_)
 have hN1 := X1W b s (by omega)
 have hok0 := Yn.ok s hs
 have hcs0 := (XQ.keep s).2
 have hnd : Ym s = (⟨(Xb s).1, (Xt XR (Xb (Xb s).2).1.toNat (Xb (Xb s).2).2).1, (Yr Yl (Xt XR (Xb (Xb s).2).1.toNat (Xb (Xb s).2).2).2).1⟩, (Yr Yl (Xt XR (Xb (Xb s).2).1.toNat (Xb (Xb s).2).2).2).2) := rfl
 rw [hnd]
 clear hnd
 generalize (Xb s).1 = id at *
 generalize (Xb s).2 = s0 at *
 have hN := X1W b s0 (by rw [hcs0]; omega)
 obtain ⟨m, hm, hml⟩ := Vw s0
 have hok := Yn.ok s0 hok0
 have hcs := (XQ.keep s0).2
 rw [hm] at hN ⊢
 rw [Int.toNat_natCast]
 generalize (Xb s0).2 = s1 at *
 rw [← hcs0, ← hcs] at hc
 have hLb := X37 Uq Vb (n := m) hok hc
 generalize hL : Xt XR m s1 = L at *
 obtain ⟨k9, c9, a9, e9⟩ := s
 obtain ⟨k0, c0, a0, e0⟩ := s0
 obtain ⟨k1, c1, a1, e1⟩ := s1
 simp only at hcs0 hcs hc
 subst hcs
 subst hcs0
 unfold oB at hN1 hN ⊢
 simp only at hN1 hN ⊢
 unfold Ub
 refine X0 ?_; refine JR ?_; refine Zw (γ := 100) ?_; refine JD ?_; refine X0 ?_; refine JR ?_; refine Z1 ?_; refine Z9 (hcon := hN1) ?_; refine Zx ?_; refine Zw (γ := 101) ?_; refine Zy ?_; refine JD ?_
 refine X0 ?_; refine X0 ?_; refine JR ?_; refine Z1 ?_; refine Z9 (hcon := hN) ?_; refine Z0 ?_; refine JD ?_; refine X4 ?_
 refine Xm (X0u 101 1 130 1 rfl rfl rfl rfl rfl) ?_
 refine Xy (ι := List (List UInt8) × Nat × Rd) (fun q => q.1 ++ (Xt XR q.2.1 q.2.2).1 = L.1 ∧ (Xt XR q.2.1 q.2.2).2 = L.2 ∧ q.2.2.c.length ≤ 1073741824 ∧ Yg q.2.2 ∧ q.2.1 ≤ 9223372036854775807)
  (fun q => ⟨32, [(0, .ptr 0 0), (2, .ptr 100 0), (3, .ptr 101 0), (4, ai q.2.1)], [(0, .box [.d (Xa (b.drop q.2.2.k)), .d (Xa q.2.2.c), ai q.2.2.a, ai q.2.2.e]), (100, .box [ai 0, ani, ani]), (101, .box [ai id, .own 130 (q.1.map Xn).length, ani]), (130, .row 1 (q.1.map Xn))]⟩) (fun q => q.2.1) ([], m, ⟨k1, c1, a1, e1⟩)
  ⟨by rw [hL]; rfl, by rw [hL], hc, hok, hml⟩
  (X8 rfl JM ⟨rfl, rfl, rfl, rfl, trivial⟩) ?_
 clear hN hN1 hm
 rintro ⟨acc, j, s⟩ ⟨h1, h2, h3, h4, h5⟩
 simp only at h1 h2 h3 h4 h5
 have hroom0 := X3K h1 hLb
 have hroom : (acc.map Xn).length ≤ 1073741825 := by rw [List.length_map]; exact hroom0
 by_cases hj : j = 0 ∨ s.e ≠ 0
 ·have hLL := X0h h1 h2 hj
  subst hLL
  have hp := X8I b s h4 h3
  have hgd : (¬ (0 : Int) < (j : Nat)) ∨ ((0 : Int) < (j : Nat) ∧ s.e ≠ 0) := by
   rcases hj with rfl | h
   ·exact .inl (by simp)
   ·by_cases h0 : (0 : Int) < (j : Nat)
    ·exact .inr ⟨h0, h⟩
    ·exact .inl h0
  simp only
  unfold oB at hp
  generalize (Yr Yl s).1 = ps at *
  generalize (Yr Yl s).2 = s' at *
  obtain ⟨k, c, a, e⟩ := s
  obtain ⟨k', c', a', e'⟩ := s'
  simp only at hp hgd ⊢
  rcases hgd with hj' | ⟨hj', he⟩
  ·refine X0 ?_; refine X0 ?_; refine JR ?_; refine Z1 ?_; refine Zs ?_; refine Z1 ?_; refine Zo ?_; refine Zo ?_; refine Zo ?_; refine Zo ?_; refine Zo ?_; refine Zq ?_; refine JD ?_; refine JF ?_
   refine Xj ?_; refine X0 ?_
   refine Xm (Y0 130 rfl) ?_
   refine Xm (UG 101 1 130 rfl rfl rfl rfl) ?_
   refine JR ?_; refine Z1 ?_; refine Z9 (hcon := hp) ?_; refine ZB ?_; refine Zy ?_; refine JD ?_; refine X0 ?_; refine JR ?_; refine ZL ?_; refine Zy ?_; refine JD ?_
   exact X1 ⟨_, St.le_refl _, ⟨⟨100, 0, _, rfl, rfl, .inr ⟨3, _, rfl, rfl, rfl, rfl⟩⟩, trivial⟩, Xd ⟨rfl, trivial⟩⟩
  ·refine X0 ?_; refine X0 ?_; refine JR ?_; refine Z1 ?_; refine Zs ?_; refine Z1 ?_; refine Z1 ?_; refine Z01 ?_; refine ZB ?_; refine ZC ?_; refine Zl ?_; refine Zn ?_; refine JD ?_; refine JF ?_
   refine Xj ?_; refine X0 ?_
   refine Xm (Y0 130 rfl) ?_
   refine Xm (UG 101 1 130 rfl rfl rfl rfl) ?_
   refine JR ?_; refine Z1 ?_; refine Z9 (hcon := hp) ?_; refine ZB ?_; refine Zy ?_; refine JD ?_; refine X0 ?_; refine JR ?_; refine ZL ?_; refine Zy ?_; refine JD ?_
   exact X1 ⟨_, St.le_refl _, ⟨⟨100, 0, _, rfl, rfl, .inr ⟨3, _, rfl, rfl, rfl, rfl⟩⟩, trivial⟩, Xd ⟨rfl, trivial⟩⟩
 obtain ⟨i, rfl⟩ : ∃ i, j = i + 1 := ⟨j - 1, by omega⟩
 have hj' : (0 : Int) < (i + 1 : Nat) := by omega
 have he : s.e = 0 := by
  by_cases q : s.e = 0
  ·exact q
  ·exact absurd (.inr q) hj
 rw [X0v he] at h1 h2
 simp only at h1 h2
 have hn := X6W b s (by omega)
 have hc2 := (Uq.keep s).2
 have hok2 := Vb.ok s h4
 generalize (XR s).1 = nm at *
 generalize (XR s).2 = s2 at *
 have h3' : s2.c.length ≤ 1073741824 := by rw [hc2]; exact h3
 have happ : (acc ++ [nm]).map Xn = acc.map Xn ++ [Xn nm] := by simp
 obtain ⟨k, c, a, e⟩ := s
 obtain ⟨k2, c2, a2, e2⟩ := s2
 simp only at he
 subst he
 unfold oB at hn
 simp only at hn
 refine X0 ?_; refine X0 ?_; refine JR ?_; refine Z1 ?_; refine Zs ?_; refine Z1 ?_; refine Z1 ?_; refine Z01 ?_; refine ZB ?_; refine ZC ?_; refine Zl ?_; refine Zn ?_; refine JD ?_; refine JT ?_
 refine X2 ?_; refine X0 ?_; refine X4 ?_; refine JR ?_; refine ZB ?_; refine ZC ?_; refine Z1 ?_; refine Z9 (hcon := hn) ?_; refine Z5 ?_; refine Z6 ?_; refine ZB ?_; refine Zy ?_; refine JD ?_
 refine JR ?_; refine Z1 ?_
 refine Z4 (op := .sub) (r' := nj i) (u := .int .i64 ((i + 1 : Nat) : Int)) (v := .int .i64 1) ?_ (hr' := by exact congrArg (Value.int .i64) (show (((i + 1 : Nat) : Int) - 1) = (i : Int) by omega)) (hr := by exact Ya (by unfold Y7; omega))
 refine Z0 ?_; refine JD ?_
 refine ⟨(acc ++ [nm], i, ⟨k2, c2, a2, e2⟩), ⟨by simpa using h1, h2, h3', hok2, by simp only; omega⟩, by show i < i + 1; omega, ?_⟩
 rw [happ]
 exact X8 rfl JM ⟨rfl, rfl, by refine Eq.trans (b := AObj.box [_, .own 130 (_ + _), _]) rfl ?_; simp only [List.length_append, List.length_cons, List.length_nil], rfl, trivial⟩
theorem XcP (b : List UInt8) (s : Rd) (hs : Yg s) (hc : s.c.length ≤ 1073741824) : Con Tryz.prog 62 [(0, oB b s)] [.ptr 0 0] [(0, oB b (XO s).2)] (.agg [ai (XO s).1.id, ai (XO s).1.src, ai (XO s).1.dst, XD (XO s).1.typ, .d (.sl 6 ((XO s).1.props.map Xk))]) := by
 refine X9 (xs := [.agg [ai (XO s).1.id, ai (XO s).1.src, ai (XO s).1.dst, XD (XO s).1.typ, .d (.sl 6 ((XO s).1.props.map Xk))]]) Tryz.func62 rfl Tryz.ntmps62 rfl rfl rfl (fun E => ?_)
 have h1 := X1W b s (by omega)
 have o1 := Yn.ok s hs
 have c1 := (XQ.keep s).2
 unfold XO
 simp only
 generalize (Xb s).1 = x1 at *
 generalize (Xb s).2 = s1 at *
 have h2 := X1W b s1 (by rw [c1]; omega)
 have o2 := Yn.ok s1 o1
 have c2 := (XQ.keep s1).2
 generalize (Xb s1).1 = x2 at *
 generalize (Xb s1).2 = s2 at *
 have h3 := X1W b s2 (by rw [c2, c1]; omega)
 have o3 := Yn.ok s2 o2
 have c3 := (XQ.keep s2).2
 generalize (Xb s2).1 = x3 at *
 generalize (Xb s2).2 = s3 at *
 have h4 := X6W b s3 (by rw [c3, c2, c1]; omega)
 have o4 := Vb.ok s3 o3
 have c4 := (Uq.keep s3).2
 generalize (XR s3).1 = x4 at *
 generalize (XR s3).2 = s4 at *
 have h5 := X8I b s4 o4 (by rw [c4, c3, c2, c1]; omega)
 generalize (Yr Yl s4).1 = x5 at *
 generalize (Yr Yl s4).2 = s5 at *
 clear o1 o2 o3 o4 c1 c2 c3 c4 hs
 obtain ⟨k0, c0, a0, e0⟩ := s
 obtain ⟨k1, c1, a1, e1⟩ := s1
 obtain ⟨k2, c2, a2, e2⟩ := s2
 obtain ⟨k3, c3, a3, e3⟩ := s3
 obtain ⟨k4, c4, a4, e4⟩ := s4
 obtain ⟨k5, c5, a5, e5⟩ := s5
 unfold oB at *
 simp only at *
 refine X0 ?_; refine JR ?_; refine Zw (γ := 100) ?_; refine JD ?_; refine X0 ?_; refine JR ?_; refine Zw (γ := 101) ?_; refine JD ?_; refine X0 ?_; refine JR ?_; refine Z1 ?_; refine Z9 (hcon := h1) ?_
 refine ZB ?_; refine Zy ?_; refine JD ?_; refine X0 ?_; refine JR ?_; refine Z1 ?_; refine Z9 (hcon := h2) ?_; refine ZB ?_; refine Zy ?_; refine JD ?_; refine X0 ?_; refine JR ?_; refine Z1 ?_
 refine Z9 (hcon := h3) ?_; refine ZB ?_; refine Zy ?_; refine JD ?_; refine X0 ?_; refine JR ?_; refine Z1 ?_; refine Z9 (hcon := h4) ?_; refine ZB ?_; refine Zy ?_; refine JD ?_; refine X0 ?_; refine JR ?_
 refine Z1 ?_; refine Z9 (hcon := h5) ?_; refine ZB ?_; refine Zy ?_; refine JD ?_; refine X0 ?_; refine JR ?_; refine ZL ?_; refine Zy ?_; refine JD ?_
 exact X1 ⟨_, St.le_refl _, ⟨⟨100, 0, _, rfl, rfl, .inr ⟨5, _, rfl, rfl, rfl, rfl⟩⟩, trivial⟩, Xd ⟨rfl, trivial⟩⟩
end Go.Fw
namespace Go.Fw
open Go Go.Proofs
set_option maxRecDepth 100000
set_option linter.unusedVariables false
set_option linter.unusedSimpArgs false
theorem Xgh (x y : List UInt8) : Con Tryz.prog 212 [] [.d (Xa x), .d (Xa y)] [] (ab (decide (x = y))) := by
 refine X9 (xs := [ab (decide (x = y))]) Tryz.func212 rfl Tryz.ntmps212 rfl rfl rfl (fun E => ?_)
 refine X0 ?_; refine JR ?_; refine Z0 ?_; refine JD ?_; refine X0 ?_; refine JR ?_; refine Z1 ?_; refine ZW ?_; refine Z1 ?_; refine ZW ?_; refine Zr ?_; refine Z0 ?_; refine JD ?_
 exact X1 ⟨_, St.le_refl _, ⟨rfl, trivial⟩, X3 _⟩
theorem X38 : (Xw.map X6).length = 4 := rfl
theorem Xfd (b : List UInt8) : Con Tryz.prog 165 [] [.d (Xa b), .d (Xa Xw)] [] (ab (decide (b.take 4 = Xw))) := by
 refine X9 (xs := [ab (decide (b.take 4 = Xw))]) Tryz.func165 rfl Tryz.ntmps165 rfl rfl rfl (fun E => ?_)
 have hlm : (b.map X6).length = b.length := by simp
 have hc := Xgh (b.take 4) Xw
 have hg4 : Xw.length = 4 := rfl
 by_cases h4 : 4 ≤ b.length
 ·have h4' : ((Xw.map X6).length : Int) ≤ (b.map X6).length := by rw [X38]; omega
  have hsl : ((b.map X6).take (Xw.map X6).length).drop 0 = (b.take 4).map X6 := by rw [X38, List.drop_zero, List.map_take]
  have hle : (Xw.map X6).length ≤ (b.map X6).length := by omega
  generalize decide (b.take 4 = Xw) = r at *
  refine X0 ?_; refine JR ?_; refine Z0 ?_; refine JD ?_; refine X0 ?_; refine JR ?_; refine Z1 ?_; refine Zd ?_; refine Z1 ?_; refine Zd ?_; refine Z2 ?_; refine Z1 ?_; refine Z1 ?_; refine Z1 ?_; refine Zd ?_
  refine ZV (lb := 0) (hb := (Xw.map X6).length) (ys := (b.take 4).map X6) ?_ (hys := by exact hsl); refine Z1 ?_; refine Z9 (hcon := hc) ?_; refine Zn ?_; refine Z0 ?_; refine JD ?_
  exact X1 ⟨_, St.le_refl _, ⟨rfl, trivial⟩, X3 _⟩
 ·have h4' : ¬ ((Xw.map X6).length : Int) ≤ (b.map X6).length := by rw [X38]; omega
  rw [decide_eq_false (fun h => by have := congrArg List.length h; simp [Xw] at this; omega)]
  refine X0 ?_; refine JR ?_; refine Z0 ?_; refine JD ?_; refine X0 ?_; refine JR ?_; refine Z1 ?_; refine Zd ?_; refine Z1 ?_; refine Zd ?_; refine Z2 ?_; refine Z1 ?_; refine Zo ?_; refine Zo ?_; refine Zo ?_
  refine Zo ?_; refine Zo ?_; refine Zo ?_; refine Zq ?_; refine Z0 ?_; refine JD ?_
  exact X1 ⟨_, St.le_refl _, ⟨rfl, trivial⟩, X3 _⟩
theorem Xdv (b : List UInt8) : Con Tryz.prog 108 [] [.d (Xa b), .d (Xa Xw)] [] (.tup [.d (Xa (if b.take 4 = Xw then b.drop 4 else b)), ab (decide (b.take 4 = Xw))]) := by
 refine X9 (xs := [.d (Xa (if b.take 4 = Xw then b.drop 4 else b)), ab (decide (b.take 4 = Xw))]) Tryz.func108 rfl Tryz.ntmps108 rfl rfl rfl (fun E => ?_)
 have hlm : (b.map X6).length = b.length := by simp
 have hc := Xfd b
 have hg4 : Xw.length = 4 := rfl
 by_cases h : b.take 4 = Xw
 ·rw [if_pos h]
  rw [decide_eq_true h] at hc ⊢
  have h4 : (Xw.map X6).length ≤ (b.map X6).length := by
   have := congrArg List.length h
   simp only [List.length_take] at this
   have h4 : Xw.length = 4 := rfl
   rw [X38]
   omega
  have hsl : ((b.map X6).take (b.map X6).length).drop (Xw.map X6).length = (b.drop 4).map X6 := by rw [X38, List.take_length, List.map_drop]
  refine X0 ?_; refine JR ?_; refine Z0 ?_; refine Z0 ?_; refine JD ?_; refine X0 ?_; refine X0 ?_; refine JR ?_; refine Z1 ?_; refine Z1 ?_; refine Z9 (hcon := hc) ?_; refine Zu ?_; refine JD ?_
  refine JF ?_; refine X2 ?_; refine X0 ?_; refine JR ?_; refine Z1 ?_; refine Z1 ?_; refine Zd ?_
  refine ZV (lb := (Xw.map X6).length) (hb := (b.map X6).length) (ys := (b.drop 4).map X6) ?_ (hys := by exact hsl); refine Z0 ?_; refine Z0 ?_; refine JD ?_
  exact X1 ⟨_, St.le_refl _, ⟨rfl, rfl, trivial⟩, X3 _⟩
 ·rw [if_neg h]
  rw [decide_eq_false h] at hc ⊢
  refine X0 ?_; refine JR ?_; refine Z0 ?_; refine Z0 ?_; refine JD ?_; refine X0 ?_; refine X0 ?_; refine JR ?_; refine Z1 ?_; refine Z1 ?_; refine Z9 (hcon := hc) ?_; refine Zu ?_; refine JD ?_
  refine JT ?_; refine X0 ?_; refine JR ?_; refine Z1 ?_; refine Z0 ?_; refine Z0 ?_; refine JD ?_
  exact X1 ⟨_, St.le_refl _, ⟨rfl, rfl, trivial⟩, X3 _⟩
def Vj (b : List UInt8) : List UInt8 := if b.take 4 = Xw then b.drop 4 else []
def YL (b : List UInt8) : Rd := ⟨0, [], 0, if b.take 4 = Xw then 0 else 2⟩
theorem XhJ (b : List UInt8) : Con Tryz.prog 55 [] [.d (Xa b), XD Xw] [(100, oB (Vj b) (YL b))] (.ptr 100 0) := by
 refine X9 (xs := [.ptr 100 0]) Tryz.func55 rfl Tryz.ntmps55 rfl rfl rfl (fun E => ?_)
 have hc := Xdv b
 have hg4 : Xw.length ≤ 9223372036854775807 := by decide
 unfold Vj YL oB
 by_cases h : b.take 4 = Xw
 ·rw [if_pos h] at hc ⊢
  rw [if_pos h]
  rw [decide_eq_true h] at hc
  simp only [List.drop_zero]
  refine X0 ?_; refine JR ?_; refine Z0 ?_; refine JD ?_; refine X0 ?_; refine JR ?_; refine Z1 ?_; refine Z1 ?_; refine Zi ?_; refine Z9 (hcon := hc) ?_; refine Z1 ?_; refine ZF ?_; refine ZF ?_; refine Z0 ?_
  refine Z0 ?_; refine JD ?_; refine X0 ?_; refine X0 ?_; refine JR ?_; refine Z1 ?_; refine Zu ?_; refine JD ?_; refine JF ?_; refine X2 ?_; refine X0 ?_; refine JR ?_; refine Z1 ?_; refine Zx ?_
  refine ZA (γ := 100) ?_; refine Z0 ?_; refine JD ?_
  exact X1 ⟨_, XI 100 (cs' := [.d (Xa (b.drop 4)), .d (Xa []), ai 0, ai 0]) rfl JM rfl, ⟨rfl, trivial⟩, Xd ⟨rfl, trivial⟩⟩
 ·rw [if_neg h] at hc ⊢
  rw [if_neg h]
  rw [decide_eq_false h] at hc
  simp only [List.drop_zero]
  refine X0 ?_; refine JR ?_; refine Z0 ?_; refine JD ?_; refine X0 ?_; refine JR ?_; refine Z1 ?_; refine Z1 ?_; refine Zi ?_; refine Z9 (hcon := hc) ?_; refine Z1 ?_; refine ZF ?_; refine ZF ?_; refine Z0 ?_
  refine Z0 ?_; refine JD ?_; refine X0 ?_; refine X0 ?_; refine JR ?_; refine Z1 ?_; refine Zu ?_; refine JD ?_; refine JT ?_; refine X0 ?_; refine JR ?_; refine Zx ?_; refine ZA (γ := 100) ?_; refine Z0 ?_
  refine JD ?_
  exact X1 ⟨_, XI 100 (cs' := [.d (Xa []), .d (Xa []), ai 0, ai 2]) rfl JM rfl, ⟨rfl, trivial⟩, Xd ⟨rfl, trivial⟩⟩
end Go.Fw
namespace Go.Fw
open Go
set_option linter.unusedVariables false
structure RdInv (b : List UInt8) (s : Rd) : Prop where
 k : s.k ≤ b.length
 ok : Yg s
 c : s.c.length ≤ b.length
theorem XhK {b : List UInt8} {a : Int} (h : (YQ b a).2.2 ≠ 0) : (YQ b a).1 = [] := by
 unfold YQ at h ⊢
 simp only at h ⊢
 split
 ·rfl
 ·split
  ·rfl
  ·split
   ·rfl
   ·rename_i h1 h2 h3
    rw [if_neg h1, if_neg h2, if_neg h3] at h
    exact absurd rfl h
theorem X0t {b : List UInt8} {s : Rd} (hi : RdInv b s) : RdInv b (XF b s) ∧ (s.e = 0 → (XF b s).e = 0 → s.k + 1 ≤ (XF b s).k) := by
 unfold XF
 by_cases q : s.e = 0
 ·rw [if_neg (by simp [q])]
  simp only
  generalize hu : YQ (b.drop s.k) 0 = u
  obtain ⟨c, z, er⟩ := u
  simp only
  by_cases h : er = 0
  ·subst h
   rw [if_pos rfl]
   obtain ⟨h1, h2, h3, h4⟩ := X5h hu
   have hl := congrArg List.length h4
   have h4' : (Ua c).length = 4 := rfl
   simp only [Y2, List.length_take, List.length_drop, List.length_append] at hl h3
   have := hi.k
   refine ⟨⟨by simp only; omega, ⟨by simp, by simp⟩, by simp only; omega⟩, fun _ _ => by omega⟩
  ·rw [if_neg h]
   have he := XhK (b := b.drop s.k) (a := 0) (by rw [hu]; exact h)
   rw [hu] at he
   simp only at he
   subst he
   exact ⟨⟨hi.k, ⟨by simp, by simp⟩, by simp⟩, fun _ h' => absurd h' h⟩
 ·rw [if_pos q]
  exact ⟨hi, fun h => absurd h q⟩
theorem X56 {b : List UInt8} {s : Rd} (hi : RdInv b s) : RdInv b (YD s) ∧ (YD s).k = s.k ∧ ((YD s).e = 0 → s.e = 0) := by
 unfold YD
 split
 ·rename_i h
  exact ⟨⟨hi.k, hi.ok, hi.c⟩, rfl, fun _ => h.1⟩
 ·exact ⟨hi, rfl, id⟩
theorem X0c {α : Type} {f : Rd → α × Rd} {b : List UInt8} {s : Rd} (hp : PartR f) (ho : ∀ s, Yg s → Yg (f s).2) (hi : RdInv b s) : RdInv b (f s).2 := by
 obtain ⟨h1, h2⟩ := hp.keep s
 exact ⟨by rw [h1]; exact hi.k, ho s hi.ok, by rw [h2]; exact hi.c⟩
theorem X0r {α : Type} {f : Rd → α × Rd} {b : List UInt8} {s : Rd} (hp : PartR f) (ho : ∀ s, Yg s → Yg (f s).2) (hi : RdInv b s) : RdInv b (Xs b f s).2 ∧ (s.e = 0 → (Xs b f s).2.e = 0 → s.k + 1 ≤ (Xs b f s).2.k) := by
 obtain ⟨h1, h2⟩ := X0t hi
 have h3 := X0c hp ho h1
 obtain ⟨h4, h5, h6⟩ := X56 h3
 refine ⟨h4, fun q he => ?_⟩
 have e1 := h6 he
 have e2 := hp.back e1
 have := h2 q e2
 show s.k + 1 ≤ (YD (f (XF b s)).2).k
 rw [h5, (hp.keep _).1]
 exact this
theorem X0j {α : Type} {f : Rd → α × Rd} {b : List UInt8} (hp : PartR f) (ho : ∀ s, Yg s → Yg (f s).2) : ∀ (n : Nat) (s : Rd), RdInv b s → RdInv b (Xt (Xs b f) n s).2 ∧ (Xt (Xs b f) n s).1.length ≤ b.length - s.k + 1
 | 0, s, hi => ⟨hi, by simp [Xt]⟩
 | n + 1, s, hi => by
  rw [Xt]
  by_cases q : s.e = 0
  ·rw [if_neg (by simp [q])]
   simp only [List.length_cons]
   obtain ⟨h1, h2⟩ := X0r hp ho hi
   obtain ⟨h3, h4⟩ := X0j hp ho n (Xs b f s).2 h1
   refine ⟨h3, ?_⟩
   by_cases q2 : (Xs b f s).2.e = 0
   ·have := h2 q q2
    have := h1.k
    omega
   ·rw [X1e q2]
    simp
  ·rw [if_pos q]
   exact ⟨hi, by simp⟩
theorem X1z : ∀ s, Yg s → Yg (Yi s).2 := (X3O (z := zR) (f := U3) (d := 0) (by omega) fun c a x e h => by
 have ho : UC (fun r => YW r = 0) XN Yi := X9G
 by_cases ha : 0 ≤ a ∧ a ≤ c.length
 ·have := ho ⟨0, c, a, 0⟩ ha.1 ha.2 (by unfold Yi U4; rw [if_neg (by simp)]; simp only [h, Rd.put])
  unfold Yi U4 at this
  rw [if_neg (by simp)] at this
  simp only [h, Rd.put, if_true] at this
  exact ⟨by have := this.1.2.1; omega, this.1.2.2.1⟩
 ·unfold U3 at h
  rw [if_pos (by omega)] at h
  simp at h).ok
theorem X2o : ∀ s, Yg s → Yg (Ym s).2 := fun s hs => X2i X1c (X2i Vb (Yn.ok s hs))
theorem X2k : ∀ s, Yg s → Yg (XO s).2 := fun s hs => X2i X1c (Vb.ok _ (Yn.ok _ (Yn.ok _ (Yn.ok s hs))))
theorem X9q : ∀ s, Yg s → Yg (X0H s).2 := fun s hs => Yn.ok _ (Yn.ok _ (Yn.ok _ (Yn.ok _ (Yn.ok s hs))))
end Go.Fw
