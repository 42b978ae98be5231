/- Labels and properties looked up. -/
import Derived.Test.YtbhleedlnaakkaaGreatK18
import Derived.Test.YtbhleedlnaakkaaGreatK19
set_option maxHeartbeats 16000000
namespace Go.Fw
open Go Go.Proofs
set_option maxRecDepth 100000
set_option linter.unusedVariables false
set_option linter.unusedSimpArgs false
def Uf : List (List UInt8) → List UInt8 → Nat → Int
 | [], _, _ => -1
 | x :: r, s, i => if s = x then (i : Int) else Uf r s (i + 1)
theorem X9w {l : List (List UInt8)} {s : List UInt8} {i : Nat} {x : List UInt8} (h : l[i]? = some x) : Uf (l.drop i) s i = if s = x then (i : Int) else Uf (l.drop (i + 1)) s (i + 1) := by
 obtain ⟨hi, rfl⟩ := List.getElem?_eq_some_iff.1 h
 rw [List.drop_eq_getElem_cons hi, Uf]
theorem X4N : ∀ (l : List (List UInt8)) (s : List UInt8) (i : Nat), decide (0 ≤ Uf l s i) = XE l s
 | [], s, i => by simp [Uf, XE]
 | x :: r, s, i => by
  rw [Uf, XE, List.any_cons]
  by_cases h : s = x
  ·simp [h]
  ·have := X4N r s (i + 1)
   unfold XE at this
   simp [h, this]
theorem X6S {l : List (List UInt8)} {s : List UInt8} {i : Nat} {x : List UInt8} (h : l[i]? = some x) : XE (l.drop i) s = (decide (s = x) || XE (l.drop (i + 1)) s) := by
 obtain ⟨hi, rfl⟩ := List.getElem?_eq_some_iff.1 h
 unfold XE
 rw [List.drop_eq_getElem_cons hi, List.any_cons]
theorem Xar (l : List (List UInt8)) (s : List UInt8) (hl : l.length ≤ 9223372036854775807) : Con Tryz.prog 236 [] [.d (.sl 1 (l.map Xk)), Xn s] [] (ai (Uf l s 0)) := by
 refine Xa (xs := [ai (Uf l s 0)]) Tryz.func236 rfl Tryz.ntmps236 rfl rfl rfl (fun E => ?_)
 generalize hG : Uf l s 0 = G
 refine X0 ?_; refine JR ?_; refine Z0 ?_; refine JD ?_; refine X0 ?_; refine X0 ?_; refine JR ?_; refine Z1 ?_; refine Zd ?_; refine Z1 ?_; refine JD ?_; refine X4 ?_
 refine Xt (fun i : Nat => i ≤ l.length ∧ Uf (l.drop i) s i = G) (fun i => ⟨19, [(0, .d (.sl 1 (l.map Xk))), (1, Xn s), (7, ai (l.map Xk).length), (8, ai i)], []⟩) (fun i => l.length - i) 0 ⟨Nat.zero_le _, by simpa using hG⟩
  (X6 rfl JM trivial) ?_
 rintro i ⟨hi, hg⟩
 by_cases hil : i < l.length
 case neg =>
  have hn : ¬ (i : Int) < (l.map Xk).length := by rw [List.length_map]; omega
  rw [List.drop_of_length_le (by omega), Uf] at hg
  subst hg
  refine X0 ?_; refine JR ?_; refine Z8 ?_; refine JD ?_; refine X0 ?_; refine JF ?_; refine Xp ?_; refine X0 ?_; refine JR ?_; refine Z0 ?_; refine JD ?_
  exact X1 ⟨_, St.le_refl _, ⟨rfl, trivial⟩, X2 _⟩
 have hn : (i : Int) < (l.map Xk).length := by rw [List.length_map]; omega
 obtain ⟨x, hx⟩ := Xm (l := l) hil
 have hxc : (l.map Xk)[i]? = some (Xk x) := Xq hx
 rw [X9w hx] at hg
 by_cases hq : s = x
 ·rw [if_pos hq] at hg
  subst hg
  refine X0 ?_; refine JR ?_; refine Z8 ?_; refine JD ?_; refine X0 ?_; refine JT ?_; refine X3 ?_; refine X0 ?_; refine X4 ?_; refine X0 ?_; refine JR ?_; refine Z1 ?_; refine Z0 ?_
  refine JD ?_; refine X0 ?_; refine JR ?_; refine Z1 ?_; refine Z1 ?_; refine Z1 ?_; refine Zj ?_; refine Zk ?_; refine Zr ?_; refine JD ?_; refine JT ?_; refine X0 ?_; refine JR ?_; refine Z1 ?_; refine Z0 ?_
  refine JD ?_
  exact X1 ⟨_, St.le_refl _, ⟨rfl, trivial⟩, X2 _⟩
 rw [if_neg hq] at hg
 refine X0 ?_; refine JR ?_; refine Z8 ?_; refine JD ?_; refine X0 ?_; refine JT ?_; refine X3 ?_; refine X0 ?_; refine X4 ?_; refine X0 ?_; refine JR ?_; refine Z1 ?_; refine Z0 ?_
 refine JD ?_; refine X0 ?_; refine JR ?_; refine Z1 ?_; refine Z1 ?_; refine Z1 ?_; refine Zj ?_; refine Zk ?_; refine Zr ?_; refine JD ?_; refine JF ?_; refine X3 ?_; refine JR ?_; refine Zb ?_; refine Z1 ?_
 refine JD ?_
 exact ⟨i + 1, ⟨by omega, hg⟩, by omega, X6 rfl JM trivial⟩
theorem X78 (l : List (List UInt8)) (s : List UInt8) (hl : l.length ≤ 9223372036854775807) : Con Tryz.prog 221 [] [.d (.sl 1 (l.map Xk)), Xn s] [] (ab (XE l s)) := by
 refine Xa (xs := [ab (XE l s)]) Tryz.func221 rfl Tryz.ntmps221 rfl rfl rfl (fun E => ?_)
 have hi := Xar l s hl
 rw [← X4N l s 0]
 generalize Uf l s 0 = q at *
 refine X0 ?_; refine JR ?_; refine Z0 ?_; refine JD ?_; refine X0 ?_; refine JR ?_; refine Z1 ?_; refine Z1 ?_; refine Z9 (hcon := hi) ?_; refine Z2 ?_; refine Z0 ?_; refine JD ?_
 exact X1 ⟨_, St.le_refl _, ⟨rfl, trivial⟩, X2 _⟩
theorem X2V (n : Nod) (s : List UInt8) (hl : n.labels.length ≤ 9223372036854775807) : Con Tryz.prog 182 [] [.agg [ai n.id, .d (.sl 1 (n.labels.map Xk)), .d (.sl 6 (n.props.map Xh))], Xn s] [] (ab (XE n.labels s)) := by
 refine Xa (xs := [ab (XE n.labels s)]) Tryz.func182 rfl Tryz.ntmps182 rfl rfl rfl (fun E => ?_)
 have hc := X78 n.labels s hl
 generalize XE n.labels s = q at *
 refine X0 ?_; refine JR ?_; refine ZA (γ := 100) ?_; refine Z0 ?_; refine JD ?_; refine X0 ?_; refine JR ?_; refine ZB ?_; refine ZC ?_; refine Z1 ?_; refine Z9 (hcon := hc) ?_; refine Z0 ?_; refine JD ?_
 exact X1 ⟨_, St.le_refl _, ⟨rfl, trivial⟩, X2 _⟩
theorem X6F (l : List (List UInt8)) (s : List UInt8) (hl : l.length ≤ 9223372036854775807) : Con Tryz.prog 87 [] [.d (.sl 1 (l.map Xk)), Xn s] [] (ab (XE l s)) := by
 refine Xa (xs := [ab (XE l s)]) Tryz.func87 rfl Tryz.ntmps87 rfl rfl rfl (fun E => ?_)
 generalize hG : XE l s = G
 refine X0 ?_; refine JR ?_; refine Z0 ?_; refine JD ?_; refine X0 ?_; refine X0 ?_; refine JR ?_; refine Z0 ?_; refine JD ?_; refine X4 ?_
 refine Xt (fun i : Nat => i ≤ l.length ∧ XE (l.drop i) s = G) (fun i => ⟨18, [(0, .d (.sl 1 (l.map Xk))), (1, Xn s), (5, ai i)], []⟩) (fun i => l.length - i) 0 ⟨Nat.zero_le _, by simpa using hG⟩
  (X6 rfl JM trivial) ?_
 rintro i ⟨hi, hg⟩
 by_cases hil : i < l.length
 case neg =>
  have hn : ¬ (i : Int) < (l.map Xk).length := by rw [List.length_map]; omega
  rw [List.drop_of_length_le (by omega)] at hg
  have hg : false = G := hg
  subst hg
  refine X0 ?_; refine X0 ?_; refine JR ?_; refine Z1 ?_; refine Z1 ?_; refine Zd ?_; refine Z8 ?_; refine JD ?_; refine JF ?_; refine Xp ?_; refine X0 ?_; refine JR ?_; refine Z0 ?_; refine JD ?_
  exact X1 ⟨_, St.le_refl _, ⟨rfl, trivial⟩, X2 _⟩
 have hn : (i : Int) < (l.map Xk).length := by rw [List.length_map]; omega
 obtain ⟨x, hx⟩ := Xm (l := l) hil
 have hxc : (l.map Xk)[i]? = some (Xk x) := Xq hx
 rw [X6S hx] at hg
 by_cases hq : s = x
 ·rw [decide_eq_true hq, Bool.true_or] at hg
  subst hg
  have hq' : x = s := hq.symm
  refine X0 ?_; refine X0 ?_; refine JR ?_; refine Z1 ?_; refine Z1 ?_; refine Zd ?_; refine Z8 ?_; refine JD ?_; refine JT ?_; refine X3 ?_; refine X0 ?_; refine X4 ?_; refine X0 ?_
  refine JR ?_; refine Z1 ?_; refine Z1 ?_; refine Zj ?_; refine Zk ?_; refine Z1 ?_; refine Zr ?_; refine JD ?_; refine JT ?_; refine X0 ?_; refine JR ?_; refine Z0 ?_; refine JD ?_
  exact X1 ⟨_, St.le_refl _, ⟨rfl, trivial⟩, X2 _⟩
 rw [decide_eq_false hq, Bool.false_or] at hg
 have hq' : ¬ x = s := fun e => hq e.symm
 refine X0 ?_; refine X0 ?_; refine JR ?_; refine Z1 ?_; refine Z1 ?_; refine Zd ?_; refine Z8 ?_; refine JD ?_; refine JT ?_; refine X3 ?_; refine X0 ?_; refine X4 ?_; refine X0 ?_
 refine JR ?_; refine Z1 ?_; refine Z1 ?_; refine Zj ?_; refine Zk ?_; refine Z1 ?_; refine Zr ?_; refine JD ?_; refine JF ?_; refine X3 ?_; refine JR ?_; refine Z1 ?_; refine Zb ?_; refine Z0 ?_; refine JD ?_
 exact ⟨i + 1, ⟨by omega, hg⟩, by omega, X6 rfl JM trivial⟩
theorem X1H (n : Nod) (s : List UInt8) (hl : n.labels.length ≤ 9223372036854775807) : Con Tryz.prog 34 [] [.agg [ai n.id, .d (.sl 1 (n.labels.map Xk)), .d (.sl 6 (n.props.map Xh))], Xn s] [] (ab (XE n.labels s)) := by
 refine Xa (xs := [ab (XE n.labels s)]) Tryz.func34 rfl Tryz.ntmps34 rfl rfl rfl (fun E => ?_)
 have hc := X6F n.labels s hl
 generalize XE n.labels s = q at *
 refine X0 ?_; refine JR ?_; refine ZA (γ := 100) ?_; refine Z0 ?_; refine JD ?_; refine X0 ?_; refine JR ?_; refine ZB ?_; refine ZC ?_; refine Z1 ?_; refine Z9 (hcon := hc) ?_; refine Z0 ?_; refine JD ?_
 exact X1 ⟨_, St.le_refl _, ⟨rfl, trivial⟩, X2 _⟩
theorem X3L (l : List Prp) (key : List UInt8) (hl : l.length ≤ 9223372036854775807) : Con Tryz.prog 181 [] [.d (.sl 6 (l.map Xh)), Xn key] [] (.tup [Xu ((XL l key).getD zV), ab (XL l key).isSome]) := by
 refine Xa (xs := [Xu ((XL l key).getD zV), ab (XL l key).isSome]) Tryz.func181 rfl Tryz.ntmps181 rfl rfl rfl (fun E => ?_)
 generalize hG : XL l key = G
 refine X0 ?_; refine JR ?_; refine Zw (γ := 100) ?_; refine Z0 ?_; refine JD ?_; refine X0 ?_; refine X0 ?_; refine JR ?_; refine Z1 ?_; refine Zd ?_; refine Z1 ?_; refine JD ?_; refine X4 ?_
 refine Xt (fun i : Nat => i ≤ l.length ∧ XL (l.drop i) key = G) (fun i => ⟨22, [(1, Xn key), (4, .ptr 100 0), (8, .d (.sl 6 (l.map Xh))), (9, ai (l.map Xh).length), (10, ai i)], [(100, .box [ai 0, ai 0, ai 0, Xn [], ani])]⟩) (fun i => l.length - i) 0 ⟨Nat.zero_le _, by simpa using hG⟩
  (X6 rfl JM ⟨rfl, trivial⟩) ?_
 rintro i ⟨hi, hg⟩
 by_cases hil : i < l.length
 case neg =>
  have hn : ¬ (i : Int) < (l.map Xh).length := by rw [List.length_map]; omega
  rw [List.drop_of_length_le (by omega), XL] at hg
  subst hg
  simp only [Option.getD_none, Option.isSome_none, zV, Xu]
  refine X0 ?_; refine JR ?_; refine Z8 ?_; refine JD ?_; refine X0 ?_; refine JF ?_; refine Xp ?_; refine X0 ?_; refine JR ?_; refine Zx ?_; refine Zy ?_; refine Z0 ?_; refine JD ?_
  (show AWP Tryz.prog E _ _ _; refine X1 ?_; exact (show Xd _ _ _ _ _ from ⟨_, X03 100 (cs' := [ai 0, ai 0, ai 0, Xn [], .d (.sl 5 [])]) rfl JM rfl, ⟨⟨100, 0, _, rfl, rfl, .inr ⟨5, _, rfl, rfl, rfl, rfl⟩⟩, rfl, trivial⟩, X2 _⟩))
 have hn : (i : Int) < (l.map Xh).length := by rw [List.length_map]; omega
 obtain ⟨x, hx⟩ := Xm (l := l) hil
 have hxc : (l.map Xh)[i]? = some (Xh x) := Xq hx
 rw [X3E hx] at hg
 obtain ⟨xkey, ⟨vk, vn, vd, vs, vl⟩⟩ := x
 simp only [Xh, Yd] at hxc hg
 clear hx
 by_cases hq : xkey = key
 ·rw [if_pos hq] at hg
  subst hg
  simp only [Option.getD_some, Option.isSome_some, Xu]
  refine X0 ?_; refine JR ?_; refine Z8 ?_; refine JD ?_; refine X0 ?_; refine JT ?_; refine X3 ?_; refine X0 ?_; refine X4 ?_; refine X0 ?_; refine JR ?_; refine Zj ?_; refine ZK ?_
  refine Zw (γ := 101) ?_; refine Zy ?_; refine JD ?_; refine X0 ?_; refine JR ?_; refine ZB ?_; refine ZC ?_; refine Z1 ?_; refine Zr ?_; refine JD ?_; refine JT ?_; refine X0 ?_; refine JR ?_; refine ZB ?_
  refine ZL ?_; refine Zy ?_; refine Z0 ?_; refine JD ?_
  (show AWP Tryz.prog E _ _ _; refine X1 ?_; exact (show Xd _ _ _ _ _ from ⟨_, St.le_refl _, ⟨⟨100, 0, _, rfl, rfl, .inr ⟨5, _, rfl, rfl, rfl, rfl⟩⟩, rfl, trivial⟩, X2 _⟩))
 rw [if_neg hq] at hg
 refine X0 ?_; refine JR ?_; refine Z8 ?_; refine JD ?_; refine X0 ?_; refine JT ?_; refine X3 ?_; refine X0 ?_; refine X4 ?_; refine X0 ?_; refine JR ?_; refine Zj ?_; refine ZK ?_
 refine Zw (γ := 101) ?_; refine Zy ?_; refine JD ?_; refine X0 ?_; refine JR ?_; refine ZB ?_; refine ZC ?_; refine Z1 ?_; refine Zr ?_; refine JD ?_; refine JF ?_; refine X3 ?_; refine JR ?_; refine Zb ?_
 refine Z1 ?_; refine JD ?_
 exact ⟨i + 1, ⟨by omega, hg⟩, by omega, X6 rfl JM ⟨rfl, trivial⟩⟩
theorem X26 (l : List Prp) (key : List UInt8) (hl : l.length ≤ 9223372036854775807) : Con Tryz.prog 129 [] [.d (.sl 6 (l.map Xh)), Xn key] [] (.tup [Xu ((XL l key).getD zV), ab (XL l key).isSome]) := by
 refine Xa (xs := [Xu ((XL l key).getD zV), ab (XL l key).isSome]) Tryz.func129 rfl Tryz.ntmps129 rfl rfl rfl (fun E => ?_)
 generalize hG : XL l key = G
 refine X0 ?_; refine JR ?_; refine Zw (γ := 100) ?_; refine Z0 ?_; refine JD ?_; refine X0 ?_; refine X0 ?_; refine JR ?_; refine Z0 ?_; refine JD ?_; refine X4 ?_
 refine Xt (fun i : Nat => i ≤ l.length ∧ XL (l.drop i) key = G) (fun i => ⟨26, [(0, .d (.sl 6 (l.map Xh))), (1, Xn key), (4, .ptr 100 0), (6, ai i)], [(100, .box [ai 0, ai 0, ai 0, Xn [], ani])]⟩) (fun i => l.length - i) 0 ⟨Nat.zero_le _, by simpa using hG⟩
  (X6 rfl JM ⟨rfl, trivial⟩) ?_
 rintro i ⟨hi, hg⟩
 by_cases hil : i < l.length
 case neg =>
  have hn : ¬ (i : Int) < (l.map Xh).length := by rw [List.length_map]; omega
  rw [List.drop_of_length_le (by omega), XL] at hg
  subst hg
  simp only [Option.getD_none, Option.isSome_none, zV, Xu]
  refine X0 ?_; refine X0 ?_; refine JR ?_; refine Z1 ?_; refine Z1 ?_; refine Zd ?_; refine Z8 ?_; refine JD ?_; refine JF ?_; refine Xp ?_; refine X0 ?_; refine JR ?_; refine Zx ?_; refine Zy ?_
  refine Z0 ?_; refine JD ?_
  (show AWP Tryz.prog E _ _ _; refine X1 ?_; exact (show Xd _ _ _ _ _ from ⟨_, X03 100 (cs' := [ai 0, ai 0, ai 0, Xn [], .d (.sl 5 [])]) rfl JM rfl, ⟨⟨100, 0, _, rfl, rfl, .inr ⟨5, _, rfl, rfl, rfl, rfl⟩⟩, rfl, trivial⟩, X2 _⟩))
 have hn : (i : Int) < (l.map Xh).length := by rw [List.length_map]; omega
 obtain ⟨x, hx⟩ := Xm (l := l) hil
 have hxc : (l.map Xh)[i]? = some (Xh x) := Xq hx
 rw [X3E hx] at hg
 obtain ⟨xkey, ⟨vk, vn, vd, vs, vl⟩⟩ := x
 simp only [Xh, Yd] at hxc hg
 clear hx
 by_cases hq : xkey = key
 ·rw [if_pos hq] at hg
  subst hg
  simp only [Option.getD_some, Option.isSome_some, Xu]
  refine X0 ?_; refine X0 ?_; refine JR ?_; refine Z1 ?_; refine Z1 ?_; refine Zd ?_; refine Z8 ?_; refine JD ?_; refine JT ?_; refine X3 ?_; refine X0 ?_; refine X4 ?_; refine X0 ?_
  refine JR ?_; refine Z1 ?_; refine Z1 ?_; refine Zj ?_; refine ZN ?_; refine Zk ?_; refine Z1 ?_; refine Zr ?_; refine JD ?_; refine JT ?_; refine X0 ?_; refine JR ?_; refine Z1 ?_; refine Z1 ?_; refine Zj ?_
  refine ZN ?_; refine ZK ?_; refine Zy ?_; refine Z0 ?_; refine JD ?_
  (show AWP Tryz.prog E _ _ _; refine X1 ?_; exact (show Xd _ _ _ _ _ from ⟨_, St.le_refl _, ⟨⟨100, 0, _, rfl, rfl, .inr ⟨5, _, rfl, rfl, rfl, rfl⟩⟩, rfl, trivial⟩, X2 _⟩))
 rw [if_neg hq] at hg
 refine X0 ?_; refine X0 ?_; refine JR ?_; refine Z1 ?_; refine Z1 ?_; refine Zd ?_; refine Z8 ?_; refine JD ?_; refine JT ?_; refine X3 ?_; refine X0 ?_; refine X4 ?_; refine X0 ?_
 refine JR ?_; refine Z1 ?_; refine Z1 ?_; refine Zj ?_; refine ZN ?_; refine Zk ?_; refine Z1 ?_; refine Zr ?_; refine JD ?_; refine JF ?_; refine X3 ?_; refine JR ?_; refine Z1 ?_; refine Zb ?_; refine Z0 ?_
 refine JD ?_
 exact ⟨i + 1, ⟨by omega, hg⟩, by omega, X6 rfl JM ⟨rfl, trivial⟩⟩
theorem X1w (r : Rul) (l : List Prp) (hl : l.length ≤ 9223372036854775807) : Con Tryz.prog 184 [] [Xv r, .d (.sl 6 (l.map Xh))] [] (ab (YK r l)) := by
 refine Xa (xs := [ab (YK r l)]) Tryz.func184 rfl Tryz.ntmps184 rfl rfl rfl (fun E => ?_)
 obtain ⟨rk, rn, rname, rkey, rsrc, rdst⟩ := r
 have hp := X3L l rkey hl
 unfold YK
 simp only [Xv] at hp ⊢
 generalize XL l rkey = G at *
 cases G with
 | none =>
  simp only [Option.getD_none, Option.isSome_none, Option.isNone_none, zV, Xu] at hp ⊢
  by_cases h1 : rk = 2
  ·rw [if_pos (.inl h1)]
   refine X0 ?_; refine JR ?_; refine ZA (γ := 100) ?_; refine Z0 ?_; refine JD ?_; refine X0 ?_; refine JR ?_; refine Z1 ?_; refine ZB ?_; refine ZC ?_; refine Z9 (hcon := hp) ?_; refine Z1 ?_; refine ZF ?_
   refine ZF ?_; refine Zw (γ := 101) ?_; refine Zy ?_; refine Z0 ?_; refine JD ?_; refine X0 ?_; refine X0 ?_; refine JR ?_; refine ZB ?_; refine ZC ?_; refine Zl ?_; refine Z1 ?_; refine Zo ?_; refine Zo ?_
   refine Zo ?_; refine Zn ?_; refine JD ?_; refine JT ?_; refine X0 ?_; refine JR ?_; refine Z1 ?_; refine Zu ?_; refine Z0 ?_; refine JD ?_
   (show AWP Tryz.prog E _ _ _; refine X1 ?_; exact (show Xd _ _ _ _ _ from ⟨_, St.le_refl _, ⟨rfl, trivial⟩, X2 _⟩))
  by_cases h2 : rk = 4
  ·rw [if_pos (.inr h2)]
   refine X0 ?_; refine JR ?_; refine ZA (γ := 100) ?_; refine Z0 ?_; refine JD ?_; refine X0 ?_; refine JR ?_; refine Z1 ?_; refine ZB ?_; refine ZC ?_; refine Z9 (hcon := hp) ?_; refine Z1 ?_; refine ZF ?_
   refine ZF ?_; refine Zw (γ := 101) ?_; refine Zy ?_; refine Z0 ?_; refine JD ?_; refine X0 ?_; refine X0 ?_; refine JR ?_; refine ZB ?_; refine ZC ?_; refine Zl ?_; refine Z1 ?_; refine ZB ?_; refine ZC ?_
   refine Zl ?_; refine Zq ?_; refine JD ?_; refine JT ?_; refine X0 ?_; refine JR ?_; refine Z1 ?_; refine Zu ?_; refine Z0 ?_; refine JD ?_
   (show AWP Tryz.prog E _ _ _; refine X1 ?_; exact (show Xd _ _ _ _ _ from ⟨_, St.le_refl _, ⟨rfl, trivial⟩, X2 _⟩))
  rw [if_neg (fun h => h.elim h1 h2)]
  refine X0 ?_; refine JR ?_; refine ZA (γ := 100) ?_; refine Z0 ?_; refine JD ?_; refine X0 ?_; refine JR ?_; refine Z1 ?_; refine ZB ?_; refine ZC ?_; refine Z9 (hcon := hp) ?_; refine Z1 ?_; refine ZF ?_
  refine ZF ?_; refine Zw (γ := 101) ?_; refine Zy ?_; refine Z0 ?_; refine JD ?_; refine X0 ?_; refine X0 ?_; refine JR ?_; refine ZB ?_; refine ZC ?_; refine Zl ?_; refine Z1 ?_; refine ZB ?_; refine ZC ?_
  refine Zl ?_; refine Zq ?_; refine JD ?_; refine JF ?_; refine X3 ?_; refine X0 ?_; refine JR ?_; refine Z1 ?_; refine Z1 ?_; refine Zo ?_; refine Zo ?_; refine Zo ?_; refine Zo ?_; refine Zo ?_; refine Zq ?_
  refine Z0 ?_; refine JD ?_
  (show AWP Tryz.prog E _ _ _; refine X1 ?_; exact (show Xd _ _ _ _ _ from ⟨_, St.le_refl _, ⟨rfl, trivial⟩, X2 _⟩))
 | some v =>
  obtain ⟨vk, vn, vd, vs, vl⟩ := v
  simp only [Option.getD_some, Option.isSome_some, Option.isNone_some, Xu, Val.kind] at hp ⊢
  by_cases h1 : rk = 2
  ·rw [if_pos (.inl h1)]
   refine X0 ?_; refine JR ?_; refine ZA (γ := 100) ?_; refine Z0 ?_; refine JD ?_; refine X0 ?_; refine JR ?_; refine Z1 ?_; refine ZB ?_; refine ZC ?_; refine Z9 (hcon := hp) ?_; refine Z1 ?_; refine ZF ?_
   refine ZF ?_; refine Zw (γ := 101) ?_; refine Zy ?_; refine Z0 ?_; refine JD ?_; refine X0 ?_; refine X0 ?_; refine JR ?_; refine ZB ?_; refine ZC ?_; refine Zl ?_; refine Z1 ?_; refine Zo ?_; refine Zo ?_
   refine Zo ?_; refine Zn ?_; refine JD ?_; refine JT ?_; refine X0 ?_; refine JR ?_; refine Z1 ?_; refine Zu ?_; refine Z0 ?_; refine JD ?_
   (show AWP Tryz.prog E _ _ _; refine X1 ?_; exact (show Xd _ _ _ _ _ from ⟨_, St.le_refl _, ⟨rfl, trivial⟩, X2 _⟩))
  by_cases h2 : rk = 4
  ·rw [if_pos (.inr h2)]
   refine X0 ?_; refine JR ?_; refine ZA (γ := 100) ?_; refine Z0 ?_; refine JD ?_; refine X0 ?_; refine JR ?_; refine Z1 ?_; refine ZB ?_; refine ZC ?_; refine Z9 (hcon := hp) ?_; refine Z1 ?_; refine ZF ?_
   refine ZF ?_; refine Zw (γ := 101) ?_; refine Zy ?_; refine Z0 ?_; refine JD ?_; refine X0 ?_; refine X0 ?_; refine JR ?_; refine ZB ?_; refine ZC ?_; refine Zl ?_; refine Z1 ?_; refine ZB ?_; refine ZC ?_
   refine Zl ?_; refine Zq ?_; refine JD ?_; refine JT ?_; refine X0 ?_; refine JR ?_; refine Z1 ?_; refine Zu ?_; refine Z0 ?_; refine JD ?_
   (show AWP Tryz.prog E _ _ _; refine X1 ?_; exact (show Xd _ _ _ _ _ from ⟨_, St.le_refl _, ⟨rfl, trivial⟩, X2 _⟩))
  rw [if_neg (fun h => h.elim h1 h2)]
  refine X0 ?_; refine JR ?_; refine ZA (γ := 100) ?_; refine Z0 ?_; refine JD ?_; refine X0 ?_; refine JR ?_; refine Z1 ?_; refine ZB ?_; refine ZC ?_; refine Z9 (hcon := hp) ?_; refine Z1 ?_; refine ZF ?_
  refine ZF ?_; refine Zw (γ := 101) ?_; refine Zy ?_; refine Z0 ?_; refine JD ?_; refine X0 ?_; refine X0 ?_; refine JR ?_; refine ZB ?_; refine ZC ?_; refine Zl ?_; refine Z1 ?_; refine ZB ?_; refine ZC ?_
  refine Zl ?_; refine Zq ?_; refine JD ?_; refine JF ?_; refine X3 ?_; refine X0 ?_; refine JR ?_; refine Z1 ?_; refine Z1 ?_; refine ZB ?_; refine ZC ?_; refine ZB ?_; refine ZC ?_; refine Zv ?_; refine Zn ?_
  refine Z0 ?_; refine JD ?_
  (show AWP Tryz.prog E _ _ _; refine X1 ?_; exact (show Xd _ _ _ _ _ from ⟨_, St.le_refl _, ⟨rfl, trivial⟩, X2 _⟩))
theorem X2n (r : Rul) (l : List Prp) (hl : l.length ≤ 9223372036854775807) : Con Tryz.prog 130 [] [Xv r, .d (.sl 6 (l.map Xh))] [] (ab (YK r l)) := by
 refine Xa (xs := [ab (YK r l)]) Tryz.func130 rfl Tryz.ntmps130 rfl rfl rfl (fun E => ?_)
 obtain ⟨rk, rn, rname, rkey, rsrc, rdst⟩ := r
 have hp := X26 l rkey hl
 unfold YK
 simp only [Xv] at hp ⊢
 generalize XL l rkey = G at *
 cases G with
 | none =>
  simp only [Option.getD_none, Option.isSome_none, Option.isNone_none, zV, Xu] at hp ⊢
  by_cases h1 : rk = 2
  ·rw [if_pos (.inl h1)]
   refine X0 ?_; refine JR ?_; refine ZA (γ := 100) ?_; refine Z0 ?_; refine JD ?_; refine X0 ?_; refine JR ?_; refine Z1 ?_; refine ZB ?_; refine ZC ?_; refine Z9 (hcon := hp) ?_; refine Z1 ?_; refine ZF ?_
   refine ZF ?_; refine Zw (γ := 101) ?_; refine Zy ?_; refine Z0 ?_; refine JD ?_; refine X0 ?_; refine X0 ?_; refine JR ?_; refine ZB ?_; refine ZC ?_; refine Zl ?_; refine Z1 ?_; refine Zo ?_; refine Zo ?_
   refine Zo ?_; refine Zn ?_; refine JD ?_; refine JT ?_; refine X0 ?_; refine JR ?_; refine Z1 ?_; refine Zu ?_; refine Z0 ?_; refine JD ?_
   (show AWP Tryz.prog E _ _ _; refine X1 ?_; exact (show Xd _ _ _ _ _ from ⟨_, St.le_refl _, ⟨rfl, trivial⟩, X2 _⟩))
  by_cases h2 : rk = 4
  ·rw [if_pos (.inr h2)]
   refine X0 ?_; refine JR ?_; refine ZA (γ := 100) ?_; refine Z0 ?_; refine JD ?_; refine X0 ?_; refine JR ?_; refine Z1 ?_; refine ZB ?_; refine ZC ?_; refine Z9 (hcon := hp) ?_; refine Z1 ?_; refine ZF ?_
   refine ZF ?_; refine Zw (γ := 101) ?_; refine Zy ?_; refine Z0 ?_; refine JD ?_; refine X0 ?_; refine X0 ?_; refine JR ?_; refine ZB ?_; refine ZC ?_; refine Zl ?_; refine Z1 ?_; refine ZB ?_; refine ZC ?_
   refine Zl ?_; refine Zq ?_; refine JD ?_; refine JT ?_; refine X0 ?_; refine JR ?_; refine Z1 ?_; refine Zu ?_; refine Z0 ?_; refine JD ?_
   (show AWP Tryz.prog E _ _ _; refine X1 ?_; exact (show Xd _ _ _ _ _ from ⟨_, St.le_refl _, ⟨rfl, trivial⟩, X2 _⟩))
  rw [if_neg (fun h => h.elim h1 h2)]
  refine X0 ?_; refine JR ?_; refine ZA (γ := 100) ?_; refine Z0 ?_; refine JD ?_; refine X0 ?_; refine JR ?_; refine Z1 ?_; refine ZB ?_; refine ZC ?_; refine Z9 (hcon := hp) ?_; refine Z1 ?_; refine ZF ?_
  refine ZF ?_; refine Zw (γ := 101) ?_; refine Zy ?_; refine Z0 ?_; refine JD ?_; refine X0 ?_; refine X0 ?_; refine JR ?_; refine ZB ?_; refine ZC ?_; refine Zl ?_; refine Z1 ?_; refine ZB ?_; refine ZC ?_
  refine Zl ?_; refine Zq ?_; refine JD ?_; refine JF ?_; refine X3 ?_; refine X0 ?_; refine JR ?_; refine Z1 ?_; refine Z1 ?_; refine Zo ?_; refine Zo ?_; refine Zo ?_; refine Zo ?_; refine Zo ?_; refine Zq ?_
  refine Z0 ?_; refine JD ?_
  (show AWP Tryz.prog E _ _ _; refine X1 ?_; exact (show Xd _ _ _ _ _ from ⟨_, St.le_refl _, ⟨rfl, trivial⟩, X2 _⟩))
 | some v =>
  obtain ⟨vk, vn, vd, vs, vl⟩ := v
  simp only [Option.getD_some, Option.isSome_some, Option.isNone_some, Xu, Val.kind] at hp ⊢
  by_cases h1 : rk = 2
  ·rw [if_pos (.inl h1)]
   refine X0 ?_; refine JR ?_; refine ZA (γ := 100) ?_; refine Z0 ?_; refine JD ?_; refine X0 ?_; refine JR ?_; refine Z1 ?_; refine ZB ?_; refine ZC ?_; refine Z9 (hcon := hp) ?_; refine Z1 ?_; refine ZF ?_
   refine ZF ?_; refine Zw (γ := 101) ?_; refine Zy ?_; refine Z0 ?_; refine JD ?_; refine X0 ?_; refine X0 ?_; refine JR ?_; refine ZB ?_; refine ZC ?_; refine Zl ?_; refine Z1 ?_; refine Zo ?_; refine Zo ?_
   refine Zo ?_; refine Zn ?_; refine JD ?_; refine JT ?_; refine X0 ?_; refine JR ?_; refine Z1 ?_; refine Zu ?_; refine Z0 ?_; refine JD ?_
   (show AWP Tryz.prog E _ _ _; refine X1 ?_; exact (show Xd _ _ _ _ _ from ⟨_, St.le_refl _, ⟨rfl, trivial⟩, X2 _⟩))
  by_cases h2 : rk = 4
  ·rw [if_pos (.inr h2)]
   refine X0 ?_; refine JR ?_; refine ZA (γ := 100) ?_; refine Z0 ?_; refine JD ?_; refine X0 ?_; refine JR ?_; refine Z1 ?_; refine ZB ?_; refine ZC ?_; refine Z9 (hcon := hp) ?_; refine Z1 ?_; refine ZF ?_
   refine ZF ?_; refine Zw (γ := 101) ?_; refine Zy ?_; refine Z0 ?_; refine JD ?_; refine X0 ?_; refine X0 ?_; refine JR ?_; refine ZB ?_; refine ZC ?_; refine Zl ?_; refine Z1 ?_; refine ZB ?_; refine ZC ?_
   refine Zl ?_; refine Zq ?_; refine JD ?_; refine JT ?_; refine X0 ?_; refine JR ?_; refine Z1 ?_; refine Zu ?_; refine Z0 ?_; refine JD ?_
   (show AWP Tryz.prog E _ _ _; refine X1 ?_; exact (show Xd _ _ _ _ _ from ⟨_, St.le_refl _, ⟨rfl, trivial⟩, X2 _⟩))
  rw [if_neg (fun h => h.elim h1 h2)]
  refine X0 ?_; refine JR ?_; refine ZA (γ := 100) ?_; refine Z0 ?_; refine JD ?_; refine X0 ?_; refine JR ?_; refine Z1 ?_; refine ZB ?_; refine ZC ?_; refine Z9 (hcon := hp) ?_; refine Z1 ?_; refine ZF ?_
  refine ZF ?_; refine Zw (γ := 101) ?_; refine Zy ?_; refine Z0 ?_; refine JD ?_; refine X0 ?_; refine X0 ?_; refine JR ?_; refine ZB ?_; refine ZC ?_; refine Zl ?_; refine Z1 ?_; refine ZB ?_; refine ZC ?_
  refine Zl ?_; refine Zq ?_; refine JD ?_; refine JF ?_; refine X3 ?_; refine X0 ?_; refine JR ?_; refine Z1 ?_; refine Z1 ?_; refine ZB ?_; refine ZC ?_; refine ZB ?_; refine ZC ?_; refine Zv ?_; refine Zn ?_
  refine Z0 ?_; refine JD ?_
  (show AWP Tryz.prog E _ _ _; refine X1 ?_; exact (show Xd _ _ _ _ _ from ⟨_, St.le_refl _, ⟨rfl, trivial⟩, X2 _⟩))
end Go.Fw
namespace Go.Fw
open Go Go.Proofs
set_option maxRecDepth 100000
set_option linter.unusedVariables false
set_option linter.unusedSimpArgs false
theorem X7u (xs : List (List D)) (hl : xs.length ≤ 100000) : Con Tryz.prog 240 [] [.d (.sl 1 xs)] [] (.d (.sl 1 xs)) := by
 refine Xa (xs := [.d (.sl 1 xs)]) Tryz.func240 rfl Tryz.ntmps240 rfl rfl rfl (fun E => ?_)
 refine X0 ?_; refine JR ?_; refine Z0 ?_; refine JD ?_; refine X0 ?_; refine X0 ?_; refine JR ?_; refine Z1 ?_; refine Z0a ?_; refine JD ?_
 refine X20 rfl (fun h => ?_) (fun _ => ?_)
 ·subst h
  refine X0 ?_; refine JR ?_; refine Z0 ?_; refine JD ?_
  refine X1 ?_
  exact ⟨_, Xi 2 (AVal.le_nil 1), ⟨rfl, trivial⟩, X2 _⟩
 ·refine X3 ?_; refine X0 ?_; refine JR ?_; refine ZZ (len := 0) (γ := 100) ?_; refine Z1 ?_; refine Z6 ?_; refine Z0 ?_; refine JD ?_
  refine X1 ?_
  exact ⟨_, St.le_trans (U5 100 rfl) (U7 2 100 rfl rfl (by simp)), ⟨rfl, trivial⟩, X2 _⟩
theorem X9M (xs : List (List D)) (hl : xs.length ≤ 100000) : Con Tryz.prog 252 [] [.d (.sl 5 xs)] [] (.d (.sl 5 xs)) := by
 refine Xa (xs := [.d (.sl 5 xs)]) Tryz.func252 rfl Tryz.ntmps252 rfl rfl rfl (fun E => ?_)
 refine X0 ?_; refine JR ?_; refine Z0 ?_; refine JD ?_; refine X0 ?_; refine X0 ?_; refine JR ?_; refine Z1 ?_; refine Z0a ?_; refine JD ?_
 refine X20 rfl (fun h => ?_) (fun _ => ?_)
 ·subst h
  refine X0 ?_; refine JR ?_; refine Z0 ?_; refine JD ?_
  refine X1 ?_
  exact ⟨_, Xi 2 (AVal.le_nil 5), ⟨rfl, trivial⟩, X2 _⟩
 ·refine X3 ?_; refine X0 ?_; refine JR ?_; refine ZZ (len := 0) (γ := 100) ?_; refine Z1 ?_; refine Z6 ?_; refine Z0 ?_; refine JD ?_
  refine X1 ?_
  exact ⟨_, St.le_trans (U5 100 rfl) (U7 2 100 rfl rfl (by simp)), ⟨rfl, trivial⟩, X2 _⟩
theorem X6O (xs : List (List D)) (hl : xs.length ≤ 100000) : Con Tryz.prog 249 [] [.d (.sl 6 xs)] [(130, .row 6 xs)] (.own 130 xs.length) := by
 have h : Con Tryz.prog 249 [] [.d (.sl 6 xs)] [(100, .row 6 xs)] (.own 100 xs.length) := by
  refine Xa (xs := [.own 100 xs.length]) Tryz.func249 rfl Tryz.ntmps249 rfl rfl rfl (fun E => ?_)
  refine X0 ?_; refine JR ?_; refine Z0 ?_; refine JD ?_; refine X0 ?_; refine X0 ?_; refine JR ?_; refine Z1 ?_; refine Z0a ?_; refine JD ?_
  refine X20 rfl (fun h => ?_) (fun _ => ?_)
  ·subst h
   refine X0 ?_; refine JR ?_; refine Z0 ?_; refine JD ?_
   refine X1 ?_
   exact ⟨_, Un 2 100 6 rfl rfl rfl, ⟨rfl, trivial⟩, V9 ⟨rfl, trivial⟩⟩
  ·refine X3 ?_; refine X0 ?_; refine JR ?_; refine ZZ (len := 0) (γ := 100) ?_; refine Z1 ?_; refine Z6 ?_; refine Z0 ?_; refine JD ?_
   refine X1 ?_
   refine ⟨_, St.le_refl _, ⟨?_, trivial⟩, V9 ⟨rfl, trivial⟩⟩
   simp only [X2q]; simp [St.get, St.set, St.own, Xf]
 exact X9Q 100 130 h
theorem X6J (k n d : Int) (s : List UInt8) : Con Tryz.prog 250 [] [.agg [ai k, ai n, ai d, Xn s, .d (.sl 5 [])]] [] (.agg [ai k, ai n, ai d, Xn s, .d (.sl 5 [])]) := by
 refine Xa (xs := [.agg [ai k, ai n, ai d, Xn s, .d (.sl 5 [])]]) Tryz.func250 rfl Tryz.ntmps250 rfl rfl rfl (fun E => ?_)
 have hc := X9M [] (by simp)
 refine X0 ?_; refine JR ?_; refine ZA (γ := 100) ?_; refine Zw (γ := 101) ?_; refine JD ?_; refine X0 ?_; refine JR ?_; refine ZB ?_; refine ZC ?_; refine Z9 (hcon := hc) ?_; refine ZB ?_; refine Zy ?_
 refine JD ?_; refine X0 ?_; refine X0 ?_; refine JR ?_; refine ZB ?_; refine ZC ?_; refine Zd ?_; refine Z1 ?_; refine JD ?_; refine X4 ?_
 refine Xt (ι := Unit) (fun _ => True) (fun _ => ⟨26, [(1, .ptr 100 0), (2, .ptr 101 0), (10, ai 0), (11, ai 0)], [(100, .box [ai k, ai n, ai d, Xn s, .d (.sl 5 [])]), (101, .box [ai 0, ai 0, ai 0, Xn [], ani])]⟩) (fun _ => 0) () trivial
  (X6 rfl JM ⟨rfl, rfl, trivial⟩) ?_
 rintro _ _
 have hn : ¬ (0 : Int) < 0 := by omega
 refine X0 ?_; refine JR ?_; refine Z8 ?_; refine JD ?_; refine X0 ?_; refine JF ?_; refine Xp ?_; refine X0 ?_; refine JR ?_; refine ZL ?_; refine Zy ?_; refine JD ?_
 (show AWP Tryz.prog E _ _ _; refine X1 ?_; exact (show Xd _ _ _ _ _ from ⟨_, St.le_refl _, ⟨⟨101, 0, _, rfl, rfl, .inr ⟨5, _, rfl, rfl, rfl, rfl⟩⟩, trivial⟩, X2 _⟩))
theorem Xay (l : List Prp) (hl : l.length ≤ 1000) (hp : ∀ p ∈ l, XC p.v = true) : Con Tryz.prog 241 [] [.d (.sl 6 (l.map Xh))] [] (.d (.sl 6 (l.map Xh))) := by
 refine Xa (xs := [.d (.sl 6 (l.map Xh))]) Tryz.func241 rfl Tryz.ntmps241 rfl rfl rfl (fun E => ?_)
 have hlm : (l.map Xh).length = l.length := by simp
 have hc := X6O (l.map Xh) (by omega)
 refine X0 ?_; refine JR ?_; refine Z0 ?_; refine JD ?_; refine X0 ?_; refine JR ?_; refine Z1 ?_; refine Z9 (hcon := hc) ?_; refine Z0 ?_; refine JD ?_; refine X0 ?_; refine X0 ?_; refine JR ?_
 refine Z1 ?_; refine Z0b ?_; refine Z1 ?_; refine JD ?_; refine X4 ?_
 clear hc
 refine Xt (fun i : Nat => i ≤ l.length) (fun i => ⟨24, [(3, .own 130 (l.map Xh).length), (8, ai (l.map Xh).length), (9, ai i)], [(130, .row 6 (l.map Xh))]⟩) (fun i => l.length - i) 0 (Nat.zero_le _)
  (X6 rfl JM ⟨rfl, trivial⟩) ?_
 intro i hi
 by_cases hil : i < l.length
 case neg =>
  have hn : ¬ (i : Int) < (l.map Xh).length := by omega
  refine X0 ?_; refine JR ?_; refine Z8 ?_; refine JD ?_; refine X0 ?_; refine JF ?_; refine Xp ?_; refine X0 ?_; refine JR ?_; refine Z1 ?_; refine Z0 ?_; refine JD ?_
  refine XD (U5 130 rfl) ?_
  refine XD (U7 2 130 rfl rfl rfl) ?_
  (show AWP Tryz.prog E _ _ _; refine X1 ?_; exact (show Xd _ _ _ _ _ from ⟨_, St.le_refl _, ⟨rfl, trivial⟩, X2 _⟩))
 have hn : (i : Int) < (l.map Xh).length := by omega
 have hilm : i < (l.map Xh).length := by omega
 have h0 : 0 < (l.map Xh).length := by omega
 obtain ⟨x, hx⟩ := Xm (l := l) hil
 have hxc : (l.map Xh)[i]? = some (Xh x) := Xq hx
 have hpv := hp x (List.mem_of_getElem? hx)
 have hall : ∀ r ∈ l.map Xh, r.length = 6 := by
  intro r hr
  obtain ⟨p, _, rfl⟩ := List.mem_map.1 hr
  obtain ⟨pk, ⟨pvk, pvn, pvd, pvs, pvl⟩⟩ := p
  rfl
 have hpart := X4T hall hxc (o := 1) (q := 5) (by omega)
 have hroom : i * 6 + 1 + 5 ≤ (l.map Xh).length * 6 := by omega
 obtain ⟨key, ⟨vk, vn, vd, vs, vl⟩⟩ := x
 obtain ⟨_, _, _, rfl, _⟩ := V4 hpv
 have hys : ((l.map Xh).flatten.drop (i * 6 + 1)).take 5 = [.v (.int .i64 vk), .v (.int .i64 vn), .v (.int .i64 vd), .v (.string (X7 vs)), .sl 5 []] := by
  rw [hpart]
  simp [Xh, Yd, XW]
 have hcv := X6J vk vn vd vs
 clear hx hxc hpart hall hpv hp
 generalize l.map Xh = L at *
 refine X0 ?_; refine JR ?_; refine Z8 ?_; refine JD ?_; refine X0 ?_; refine JT ?_; refine X3 ?_; refine X0 ?_; refine X4 ?_; refine X0 ?_; refine JR ?_; refine Z1 ?_; refine Z0 ?_
 refine JD ?_; refine JR ?_; refine Z1 ?_; refine Z1 ?_; refine Z1 ?_; refine Z1 ?_; refine Z0c ?_; refine Z0d ?_
 refine Z0e (q := 5) (ys := [.v (.int .i64 vk), .v (.int .i64 vn), .v (.int .i64 vd), .v (.string (X7 vs)), .sl 5 []]) ?_ (hb := by exact hroom) (hys := by exact hys); refine Z9 (hcon := hcv) ?_; refine Z0c ?_
 refine Z0d ?_; refine Z0f (q := 5) (ys := [.v (.int .i64 vk), .v (.int .i64 vn), .v (.int .i64 vd), .v (.string (X7 vs)), .sl 5 []]) ?_ (hb := by exact hroom) (hys := by exact hys); refine JD ?_; refine JR ?_
 refine Zb ?_; refine Z1 ?_; refine JD ?_
 exact ⟨i + 1, hil, by omega, X6 rfl JM ⟨rfl, trivial⟩⟩
theorem X8v (g : Gra) (id : Int) (hl : g.nodes.length ≤ 9223372036854775807) (hh : ∀ n ∈ g.nodes, VF n) : Con Tryz.prog 223 [] [Xr g, ai id] [] (.tup [Yu ((XK g.nodes id).getD U0), ab (XK g.nodes id).isSome]) := by
 refine Xa (xs := [Yu ((XK g.nodes id).getD U0), ab (XK g.nodes id).isSome]) Tryz.func223 rfl Tryz.ntmps223 rfl rfl rfl (fun E => ?_)
 obtain ⟨ns, es, nn, ne⟩ := g
 unfold Xr
 simp only at hl hh ⊢
 generalize hG : XK ns id = G
 refine X0 ?_; refine JR ?_; refine ZA (γ := 100) ?_; refine Zw (γ := 101) ?_; refine Z0 ?_; refine JD ?_; refine X0 ?_; refine X0 ?_; refine JR ?_; refine ZB ?_; refine ZC ?_; refine Zd ?_; refine Z1 ?_
 refine JD ?_; refine X4 ?_
 refine Xt (fun i : Nat => i ≤ ns.length ∧ XK (ns.drop i) id = G) (fun i => ⟨29, [(1, ai id), (2, .ptr 100 0), (4, .ptr 101 0), (9, .d (.sl 3 (ns.map X8))), (10, ai (ns.map X8).length), (11, ai i)], [(100, .box [.d (.sl 3 (ns.map X8)), .d (.sl 5 (es.map Xg)), ai nn, ai ne]), (101, .box [ai 0, ani, ani])]⟩) (fun i => ns.length - i) 0 ⟨Nat.zero_le _, by simpa using hG⟩
  (X6 rfl JM ⟨rfl, rfl, trivial⟩) ?_
 rintro i ⟨hi, hg⟩
 by_cases hil : i < ns.length
 case neg =>
  have hn : ¬ (i : Int) < (ns.map X8).length := by rw [List.length_map]; omega
  rw [List.drop_of_length_le (by omega)] at hg
  have hg : none = G := hg
  subst hg
  simp only [Option.getD_none, Option.isSome_none, U0, Yu, List.map_nil]
  refine X0 ?_; refine JR ?_; refine Z8 ?_; refine JD ?_; refine X0 ?_; refine JF ?_; refine Xp ?_; refine X0 ?_; refine JR ?_; refine Zx ?_; refine Zy ?_; refine Z0 ?_; refine JD ?_
  (show AWP Tryz.prog E _ _ _; refine X1 ?_; exact (show Xd _ _ _ _ _ from ⟨_, X03 101 (cs' := [ai 0, .d (.sl 1 []), .d (.sl 6 [])]) rfl JM rfl, ⟨⟨101, 0, _, rfl, rfl, .inr ⟨3, _, rfl, rfl, rfl, rfl⟩⟩, rfl, trivial⟩, X2 _⟩))
 have hn : (i : Int) < (ns.map X8).length := by rw [List.length_map]; omega
 obtain ⟨x, hx⟩ := Xm (l := ns) hil
 have hxc : (ns.map X8)[i]? = some (X8 x) := Xq hx
 rw [X62 hx] at hg
 obtain ⟨f1, f2, f3⟩ := hh x (List.mem_of_getElem? hx)
 obtain ⟨xid, labels, props⟩ := x
 simp only [X8] at hxc hg f1 f2 f3
 clear hx
 by_cases hq : xid = id
 ·rw [if_pos hq] at hg
  subst hg
  subst hq
  simp only [Option.getD_some, Option.isSome_some, Yu]
  have hc1 := X7u (labels.map Xk) (by rw [List.length_map]; omega)
  have hc2 := Xay props f2 f3
  clear hh f1 f2 f3
  refine X0 ?_; refine JR ?_; refine Z8 ?_; refine JD ?_; refine X0 ?_; refine JT ?_; refine X3 ?_; refine X0 ?_; refine X4 ?_; refine X0 ?_; refine JR ?_; refine Zj ?_; refine ZK ?_
  refine Zw (γ := 102) ?_; refine Zy ?_; refine JD ?_; refine X0 ?_; refine JR ?_; refine ZB ?_; refine ZC ?_; refine Z1 ?_; refine Zl ?_; refine JD ?_; refine JT ?_; refine X0 ?_; refine JR ?_; refine Z1 ?_
  refine ZB ?_; refine ZC ?_; refine Z9 (hcon := hc1) ?_; refine ZB ?_; refine ZC ?_; refine Z9 (hcon := hc2) ?_; refine Zx ?_; refine Zy ?_; refine Z0 ?_; refine JD ?_
  (show AWP Tryz.prog E _ _ _; refine X1 ?_; exact (show Xd _ _ _ _ _ from ⟨_, St.le_refl _, ⟨⟨101, 0, _, rfl, rfl, .inr ⟨3, _, rfl, rfl, rfl, rfl⟩⟩, rfl, trivial⟩, X2 _⟩))
 rw [if_neg hq] at hg
 refine X0 ?_; refine JR ?_; refine Z8 ?_; refine JD ?_; refine X0 ?_; refine JT ?_; refine X3 ?_; refine X0 ?_; refine X4 ?_; refine X0 ?_; refine JR ?_; refine Zj ?_; refine ZK ?_
 refine Zw (γ := 102) ?_; refine Zy ?_; refine JD ?_; refine X0 ?_; refine JR ?_; refine ZB ?_; refine ZC ?_; refine Z1 ?_; refine Zl ?_; refine JD ?_; refine JF ?_; refine X3 ?_; refine JR ?_; refine Zb ?_
 refine Z1 ?_; refine JD ?_
 exact ⟨i + 1, ⟨by omega, hg⟩, by omega, X6 rfl JM ⟨rfl, rfl, trivial⟩⟩
theorem Xah (g : Gra) (id : Int) (hl : g.nodes.length ≤ 9223372036854775807) (hh : ∀ n ∈ g.nodes, VF n) : Con Tryz.prog 33 [] [Xr g, ai id] [] (.tup [Yu ((XK g.nodes id).getD U0), ab (XK g.nodes id).isSome]) := by
 refine Xa (xs := [Yu ((XK g.nodes id).getD U0), ab (XK g.nodes id).isSome]) Tryz.func33 rfl Tryz.ntmps33 rfl rfl rfl (fun E => ?_)
 obtain ⟨ns, es, nn, ne⟩ := g
 unfold Xr
 simp only at hl hh ⊢
 generalize hG : XK ns id = G
 refine X0 ?_; refine JR ?_; refine ZA (γ := 100) ?_; refine Zw (γ := 101) ?_; refine Z0 ?_; refine JD ?_; refine X0 ?_; refine X0 ?_; refine JR ?_; refine Z0 ?_; refine JD ?_; refine X4 ?_
 refine Xt (fun i : Nat => i ≤ ns.length ∧ XK (ns.drop i) id = G) (fun i => ⟨28, [(1, ai id), (2, .ptr 100 0), (4, .ptr 101 0), (6, ai i)], [(100, .box [.d (.sl 3 (ns.map X8)), .d (.sl 5 (es.map Xg)), ai nn, ai ne]), (101, .box [ai 0, ani, ani])]⟩) (fun i => ns.length - i) 0 ⟨Nat.zero_le _, by simpa using hG⟩
  (X6 rfl JM ⟨rfl, rfl, trivial⟩) ?_
 rintro i ⟨hi, hg⟩
 by_cases hil : i < ns.length
 case neg =>
  have hn : ¬ (i : Int) < (ns.map X8).length := by rw [List.length_map]; omega
  rw [List.drop_of_length_le (by omega)] at hg
  have hg : none = G := hg
  subst hg
  simp only [Option.getD_none, Option.isSome_none, U0, Yu, List.map_nil]
  refine X0 ?_; refine X0 ?_; refine JR ?_; refine Z1 ?_; refine ZB ?_; refine ZC ?_; refine Zd ?_; refine Z8 ?_; refine JD ?_; refine JF ?_; refine Xp ?_; refine X0 ?_; refine JR ?_; refine Zx ?_
  refine Zy ?_; refine Z0 ?_; refine JD ?_
  (show AWP Tryz.prog E _ _ _; refine X1 ?_; exact (show Xd _ _ _ _ _ from ⟨_, X03 101 (cs' := [ai 0, .d (.sl 1 []), .d (.sl 6 [])]) rfl JM rfl, ⟨⟨101, 0, _, rfl, rfl, .inr ⟨3, _, rfl, rfl, rfl, rfl⟩⟩, rfl, trivial⟩, X2 _⟩))
 have hn : (i : Int) < (ns.map X8).length := by rw [List.length_map]; omega
 obtain ⟨x, hx⟩ := Xm (l := ns) hil
 have hxc : (ns.map X8)[i]? = some (X8 x) := Xq hx
 rw [X62 hx] at hg
 obtain ⟨f1, f2, f3⟩ := hh x (List.mem_of_getElem? hx)
 obtain ⟨xid, labels, props⟩ := x
 simp only [X8] at hxc hg f1 f2 f3
 clear hx
 by_cases hq : xid = id
 ·rw [if_pos hq] at hg
  subst hg
  subst hq
  simp only [Option.getD_some, Option.isSome_some, Yu]
  clear hh f1 f2 f3
  refine X0 ?_; refine X0 ?_; refine JR ?_; refine Z1 ?_; refine ZB ?_; refine ZC ?_; refine Zd ?_; refine Z8 ?_; refine JD ?_; refine JT ?_; refine X3 ?_; refine X0 ?_; refine X4 ?_
  refine X0 ?_; refine JR ?_; refine ZB ?_; refine ZC ?_; refine Z1 ?_; refine Zj ?_; refine ZN ?_; refine Zk ?_; refine Z1 ?_; refine Zl ?_; refine JD ?_; refine JT ?_; refine X0 ?_; refine JR ?_; refine ZB ?_
  refine ZC ?_; refine Z1 ?_; refine Zj ?_; refine ZK ?_; refine Zy ?_; refine Z0 ?_; refine JD ?_
  (show AWP Tryz.prog E _ _ _; refine X1 ?_; exact (show Xd _ _ _ _ _ from ⟨_, St.le_refl _, ⟨⟨101, 0, _, rfl, rfl, .inr ⟨3, _, rfl, rfl, rfl, rfl⟩⟩, rfl, trivial⟩, X2 _⟩))
 rw [if_neg hq] at hg
 refine X0 ?_; refine X0 ?_; refine JR ?_; refine Z1 ?_; refine ZB ?_; refine ZC ?_; refine Zd ?_; refine Z8 ?_; refine JD ?_; refine JT ?_; refine X3 ?_; refine X0 ?_; refine X4 ?_
 refine X0 ?_; refine JR ?_; refine ZB ?_; refine ZC ?_; refine Z1 ?_; refine Zj ?_; refine ZN ?_; refine Zk ?_; refine Z1 ?_; refine Zl ?_; refine JD ?_; refine JF ?_; refine X3 ?_; refine JR ?_; refine Z1 ?_
 refine Zb ?_; refine Z0 ?_; refine JD ?_
 exact ⟨i + 1, ⟨by omega, hg⟩, by omega, X6 rfl JM ⟨rfl, rfl, trivial⟩⟩
theorem X8D (g : Gra) (id : Int) (label : List UInt8) (hl : g.nodes.length ≤ 9223372036854775807) (hh : ∀ n ∈ g.nodes, VF n) : Con Tryz.prog 185 [] [Xr g, ai id, Xn label] [] (ab (UG g.nodes id label)) := by
 refine Xa (xs := [ab (UG g.nodes id label)]) Tryz.func185 rfl Tryz.ntmps185 rfl rfl rfl (fun E => ?_)
 have hc := X8v g id hl hh
 have hfit : ((XK g.nodes id).getD U0).labels.length ≤ 9223372036854775807 := by
  cases hna : XK g.nodes id with
  | none => simp
  | some n => have := (hh n (List.mem_of_find?_eq_some hna)).1; simp only [Option.getD_some]; omega
 have hd := X2V ((XK g.nodes id).getD U0) label hfit
 unfold UG
 generalize (XK g.nodes id).getD U0 = n at *
 generalize (XK g.nodes id).isSome = b at *
 generalize XE n.labels label = q at *
 clear hfit hh hl
 obtain ⟨ns, es, nn, ne⟩ := g
 obtain ⟨nid, nl, np⟩ := n
 unfold Xr Yu at *
 simp only at *
 by_cases hq : label = []
 ·have hq' : ¬ label ≠ [] := fun h => h hq
  rw [decide_eq_false hq', Bool.false_and]
  refine X0 ?_; refine JR ?_; refine ZA (γ := 100) ?_; refine Z0 ?_; refine JD ?_; refine X0 ?_; refine JR ?_; refine ZL ?_; refine Z1 ?_; refine Z9 (hcon := hc) ?_; refine Z1 ?_; refine ZF ?_; refine ZF ?_
  refine Zw (γ := 101) ?_; refine Zy ?_; refine Z0 ?_; refine JD ?_; refine X0 ?_; refine JR ?_; refine Z1 ?_; refine ZM ?_; refine Z1 ?_; refine Zo ?_; refine Zo ?_; refine Zo ?_; refine Zo ?_; refine Zq ?_
  refine Z0 ?_; refine JD ?_
  (show AWP Tryz.prog E _ _ _; refine X1 ?_; exact (show Xd _ _ _ _ _ from ⟨_, St.le_refl _, ⟨rfl, trivial⟩, X2 _⟩))
 ·have hq' : label ≠ [] := hq
  rw [decide_eq_true hq', Bool.true_and]
  refine X0 ?_; refine JR ?_; refine ZA (γ := 100) ?_; refine Z0 ?_; refine JD ?_; refine X0 ?_; refine JR ?_; refine ZL ?_; refine Z1 ?_; refine Z9 (hcon := hc) ?_; refine Z1 ?_; refine ZF ?_; refine ZF ?_
  refine Zw (γ := 101) ?_; refine Zy ?_; refine Z0 ?_; refine JD ?_; refine X0 ?_; refine JR ?_; refine Z1 ?_; refine ZM ?_; refine Z1 ?_; refine ZL ?_; refine Z1 ?_; refine Z9 (hcon := hd) ?_; refine Zu ?_
  refine Zn ?_; refine Z0 ?_; refine JD ?_
  (show AWP Tryz.prog E _ _ _; refine X1 ?_; exact (show Xd _ _ _ _ _ from ⟨_, St.le_refl _, ⟨rfl, trivial⟩, X2 _⟩))
theorem X7D (g : Gra) (id : Int) (label : List UInt8) (hl : g.nodes.length ≤ 9223372036854775807) (hh : ∀ n ∈ g.nodes, VF n) : Con Tryz.prog 131 [] [Xr g, ai id, Xn label] [] (ab ((XK g.nodes id).isSome && (decide (label = []) || XE ((XK g.nodes id).getD U0).labels label))) := by
 refine Xa (xs := [ab ((XK g.nodes id).isSome && (decide (label = []) || XE ((XK g.nodes id).getD U0).labels label))]) Tryz.func131 rfl Tryz.ntmps131 rfl rfl rfl (fun E => ?_)
 have hc := Xah g id hl hh
 have hfit : ((XK g.nodes id).getD U0).labels.length ≤ 9223372036854775807 := by
  cases hna : XK g.nodes id with
  | none => simp
  | some n => have := (hh n (List.mem_of_find?_eq_some hna)).1; simp only [Option.getD_some]; omega
 have hd := X1H ((XK g.nodes id).getD U0) label hfit
 generalize (XK g.nodes id).getD U0 = n at *
 generalize (XK g.nodes id).isSome = b at *
 generalize XE n.labels label = q at *
 clear hfit hh hl
 obtain ⟨ns, es, nn, ne⟩ := g
 obtain ⟨nid, nl, np⟩ := n
 unfold Xr Yu at *
 simp only at *
 cases b with
 | false =>
  refine X0 ?_; refine JR ?_; refine ZA (γ := 100) ?_; refine Z0 ?_; refine JD ?_; refine X0 ?_; refine JR ?_; refine ZL ?_; refine Z1 ?_; refine Z9 (hcon := hc) ?_; refine Z1 ?_; refine ZF ?_; refine ZF ?_
  refine Zw (γ := 101) ?_; refine Zy ?_; refine Z0 ?_; refine JD ?_; refine X0 ?_; refine JR ?_; refine Z1 ?_; refine Z1 ?_; refine Zo ?_; refine Zo ?_; refine Zo ?_; refine Zp ?_; refine Zp ?_; refine Zp ?_
  refine Zo ?_; refine Zq ?_; refine Z0 ?_; refine JD ?_
  (show AWP Tryz.prog E _ _ _; refine X1 ?_; exact (show Xd _ _ _ _ _ from ⟨_, St.le_refl _, ⟨rfl, trivial⟩, X2 _⟩))
 | true =>
  by_cases hq : label = []
  ·rw [decide_eq_true hq]
   refine X0 ?_; refine JR ?_; refine ZA (γ := 100) ?_; refine Z0 ?_; refine JD ?_; refine X0 ?_; refine JR ?_; refine ZL ?_; refine Z1 ?_; refine Z9 (hcon := hc) ?_; refine Z1 ?_; refine ZF ?_; refine ZF ?_
   refine Zw (γ := 101) ?_; refine Zy ?_; refine Z0 ?_; refine JD ?_; refine X0 ?_; refine JR ?_; refine Z1 ?_; refine Z1 ?_; refine Z1 ?_; refine Zr ?_; refine Z1 ?_; refine Zo ?_; refine Zo ?_; refine Zo ?_
   refine Zn ?_; refine Zn ?_; refine Z0 ?_; refine JD ?_
   (show AWP Tryz.prog E _ _ _; refine X1 ?_; exact (show Xd _ _ _ _ _ from ⟨_, St.le_refl _, ⟨rfl, trivial⟩, X2 _⟩))
  ·rw [decide_eq_false hq]
   refine X0 ?_; refine JR ?_; refine ZA (γ := 100) ?_; refine Z0 ?_; refine JD ?_; refine X0 ?_; refine JR ?_; refine ZL ?_; refine Z1 ?_; refine Z9 (hcon := hc) ?_; refine Z1 ?_; refine ZF ?_; refine ZF ?_
   refine Zw (γ := 101) ?_; refine Zy ?_; refine Z0 ?_; refine JD ?_; refine X0 ?_; refine JR ?_; refine Z1 ?_; refine Z1 ?_; refine Z1 ?_; refine Zr ?_; refine Z1 ?_; refine ZL ?_; refine Z1 ?_
   refine Z9 (hcon := hd) ?_; refine Zq ?_; refine Zn ?_; refine Z0 ?_; refine JD ?_
   (show AWP Tryz.prog E _ _ _; refine X1 ?_; exact (show Xd _ _ _ _ _ from ⟨_, St.le_refl _, ⟨rfl, trivial⟩, X2 _⟩))
end Go.Fw
namespace Go.Fw
open Go
set_option linter.unusedVariables false
set_option linter.unusedSimpArgs false
theorem X1n : ∀ {l : List Prp} {key : List UInt8} {v : Val}, XL l key = some v → ∃ p ∈ l, p.v = v
 | [], _, _, h => by simp [XL] at h
 | p :: r, key, v, h => by
  rw [XL] at h
  split at h
  ·exact ⟨p, by simp, by simpa using h⟩
  ·obtain ⟨q, hq, e⟩ := X1n h
   exact ⟨q, by simp [hq], e⟩
structure GFit (g : Gra) : Prop where
 nl : g.nodes.length ≤ 2000
 el : g.edges.length ≤ 4000
 nodes : ∀ n ∈ g.nodes, VF n
 edges : ∀ e ∈ g.edges, e.props.length ≤ 1000 ∧ (XK g.nodes e.src).isSome = true ∧ (XK g.nodes e.dst).isSome = true
theorem X66 {l : List Nod} {n : Int} (h : XP l n = true) : (XK l n).isSome = true := by
 unfold XP at h
 unfold XK
 rw [List.find?_isSome]
 rw [List.any_eq_true] at h
 exact h
theorem X1l {g : Gra} (h : Yc g = 0) : GFit g := by
 have G := X8q h
 unfold Yc at h
 by_cases c1 : 2000 < g.nodes.length ∨ 4000 < g.edges.length
 ·rw [if_pos c1] at h; simp at h
 rw [if_neg c1] at h
 by_cases c2 : g.nn < 1 ∨ 1000001 < g.nn ∨ g.ne < 1 ∨ 1000001 < g.ne
 ·rw [if_pos c2] at h; simp at h
 rw [if_neg c2] at h
 by_cases c3 : Yl g.nn none g.nodes ≠ 0
 ·rw [if_pos c3] at h; exact absurd h c3
 rw [if_neg c3] at h
 have c3 : Yl g.nn none g.nodes = 0 := by simpa using c3
 have hn := X23 _ _ c3
 have he := X2c _ _ h
 refine ⟨by omega, by omega, fun n q => ?_, fun e q => ?_⟩
 ·obtain ⟨h1, h2, h3⟩ := hn n q
  obtain ⟨⟨p1, p2⟩, p3, p4⟩ := X1D h3
  exact ⟨by omega, by omega, fun p hp => (p4 p hp).2⟩
 ·obtain ⟨h1, h2, h3, h4, h5, h6⟩ := he e q
  obtain ⟨_, p3, p4⟩ := X1D h6
  exact ⟨by omega, X66 h3, X66 h4⟩
theorem X7J {r : Rul} {n : Nod} {v : Val} (hn : VF n) (h : Yb r n = some v) : XC v = true := by
 unfold Yb at h
 cases hp : XL n.props r.key with
 | none => rw [hp] at h; simp at h
 | some w =>
  rw [hp] at h
  simp only at h
  split at h
  ·cases h
   obtain ⟨p, hp2, rfl⟩ := X1n hp
   exact hn.2.2 p hp2
  ·simp at h
theorem X6r {r : Rul} {l : List Nod} (hn : ∀ n ∈ l, VF n) : ∀ h ∈ XU r l, XC h.2 = true := by
 intro h hh
 unfold XU at hh
 rw [List.mem_filterMap] at hh
 obtain ⟨n, hm, e⟩ := hh
 cases ho : Yb r n with
 | none => rw [ho] at e; simp at e
 | some v => rw [ho] at e; simp at e; subst e; exact X7J (hn n hm) ho
theorem X4u {v : Val} (h : XC v = true) : Yq v := by
 obtain ⟨k, n, d, s, l⟩ := v
 obtain ⟨_, _, _, rfl, _, _, p7, _⟩ := V4 h
 rw [Yq]
 exact ⟨by omega, by simp, by simp [UR]⟩
def Vv (o : Option Val) (b : Bool) : Option Val := match o with
 | some v => if b then some v else none
 | none => none
theorem X3b (r : Rul) (n : Nod) : Yb r n = Vv (XL n.props r.key) (XE n.labels r.name) := by
 unfold Yb Vv
 cases XL n.props r.key <;> rfl
def eqO (a b : Option Val) : Bool := match a, b with
 | some v, some w => eqV v w
 | _, _ => false
def YH (r : Rul) (a : Nod) (l : List Nod) : List (Int × Int) := l.filterMap fun b => match Yb r a, Yb r b with
 | some v, some w => if eqV v w then some (a.id, b.id) else none
 | _, _ => none
def Ub (r : Rul) : List Nod → List (Int × Int)
 | [] => []
 | a :: l => YH r a l ++ Ub r l
def Vt (a : Int × Val) (l : List (Int × Val)) : List (Int × Int) := (l.filter fun b => eqV a.2 b.2).map fun b => (a.1, b.1)
theorem X5v (r : Rul) (a : Nod) (v : Val) (h : Yb r a = some v) : ∀ l : List Nod, YH r a l = Vt (a.id, v) (XU r l)
 | [] => rfl
 | b :: l => by
  have ih := X5v r a v h l
  unfold YH XU Vt at *
  rw [List.filterMap_cons, List.filterMap_cons, h]
  rw [h] at ih
  cases hb : Yb r b with
  | none => simpa using ih
  | some w =>
   simp only [Option.map_some, List.filter_cons]
   cases he : eqV v w <;> simpa [he] using ih
theorem X7Y (r : Rul) (a : Nod) (h : Yb r a = none) (l : List Nod) : YH r a l = [] := by
 unfold YH
 rw [h]
 induction l with
 | nil => rfl
 | cons b l ih => simp
theorem X0I (r : Rul) : ∀ l : List Nod, Ub r l = YN (XU r l)
 | [] => rfl
 | a :: l => by
  rw [Ub, X0I r l]
  cases h : Yb r a with
  | none =>
   rw [X7Y r a h]
   unfold XU
   rw [List.filterMap_cons, h]
   rfl
  | some v =>
   rw [X5v r a v h]
   have : XU r (a :: l) = (a.id, v) :: XU r l := by unfold XU; rw [List.filterMap_cons, h]; rfl
   rw [this, YN]
   rfl
theorem X9O {l : List (Int × Val)} {i : Nat} {a : Int × Val} (h : l[i]? = some a) : YN (l.drop i) = Vt a (l.drop (i + 1)) ++ YN (l.drop (i + 1)) := by
 obtain ⟨hi, rfl⟩ := List.getElem?_eq_some_iff.1 h
 rw [List.drop_eq_getElem_cons hi, YN]
 rfl
theorem X9r {a b : Int × Val} {l : List (Int × Val)} {i : Nat} (h : l[i]? = some b) : Vt a (l.drop i) = (if eqV a.2 b.2 then [(a.1, b.1)] else []) ++ Vt a (l.drop (i + 1)) := by
 obtain ⟨hi, rfl⟩ := List.getElem?_eq_some_iff.1 h
 unfold Vt
 rw [List.drop_eq_getElem_cons hi, List.filter_cons]
 split <;> rfl
theorem X6N {r : Rul} {l : List Nod} {i : Nat} {a : Nod} (h : l[i]? = some a) : Ub r (l.drop i) = YH r a (l.drop (i + 1)) ++ Ub r (l.drop (i + 1)) := by
 obtain ⟨hi, rfl⟩ := List.getElem?_eq_some_iff.1 h
 rw [List.drop_eq_getElem_cons hi, Ub]
def X1s (r : Rul) (a b : Nod) : Bool := match Yb r a, Yb r b with
 | some v, some w => eqV v w
 | _, _ => false
theorem X8Z {r : Rul} {a b : Nod} {l : List Nod} {i : Nat} (h : l[i]? = some b) : YH r a (l.drop i) = (if X1s r a b then [(a.id, b.id)] else []) ++ YH r a (l.drop (i + 1)) := by
 obtain ⟨hi, rfl⟩ := List.getElem?_eq_some_iff.1 h
 unfold YH X1s
 rw [List.drop_eq_getElem_cons hi, List.filterMap_cons]
 cases Yb r a with
 | none => rfl
 | some v =>
  cases Yb r l[i] with
  | none => rfl
  | some w =>
   simp only
   by_cases he : eqV v w = true
   ·rw [if_pos he, if_pos he]; rfl
   ·rw [if_neg he, if_neg he]; rfl
theorem Xac (r : Rul) (a b : Nod) : X1s r a b = eqO (Yb r a) (Yb r b) := by
 unfold X1s eqO
 cases Yb r a with
 | none => rfl
 | some v => cases Yb r b <;> rfl
theorem X31 {r : Rul} {l : List Nod} (h : l.length ≤ 2000) : (Ub r l).length ≤ 4000000 := by
 rw [X0I]
 have h1 := X3Y (XU r l)
 have h2 := X1S r l
 have : (XU r l).length * (XU r l).length ≤ 2000 * 2000 := Nat.mul_le_mul (by omega) (by omega)
 omega
def XR (h : Int × Val) : List D := .v (.int .i64 h.1) :: Yd h.2
theorem X73 {r : Rul} {l : List Nod} {i : Nat} {n : Nod} (h : l[i]? = some n) : XU r (l.take (i + 1)) = XU r (l.take i) ++ ((Yb r n).map fun v => (n.id, v)).toList := X7f h
theorem X2L (r : Rul) (l : List Edg) (id : Int) : XY r l id ≤ l.length := List.countP_le_length
end Go.Fw
