/- Labels and properties looked up. -/
import Derived.Test.YtbhleedlnaakkaaGreatL17
import Derived.Test.YtbhleedlnaakkaaGreatL18
set_option maxHeartbeats 16000000
namespace Go.Fw
open Go Go.Proofs
set_option maxRecDepth 100000
set_option linter.unusedVariables false
set_option linter.unusedSimpArgs false
def Uf : List (List UInt8) → List UInt8 → Nat → Int
 | [], _, _ => -1
 | x :: r, s, i => if s = x then (i : Int) else Uf r s (i + 1)
theorem X9x {l : List (List UInt8)} {s : List UInt8} {i : Nat} {x : List UInt8} (h : l[i]? = some x) : Uf (l.drop i) s i = if s = x then (i : Int) else Uf (l.drop (i + 1)) s (i + 1) := by
 obtain ⟨hi, rfl⟩ := List.getElem?_eq_some_iff.1 h
 rw [List.drop_eq_getElem_cons hi, Uf]
theorem X4w : ∀ (l : List (List UInt8)) (s : List UInt8) (i : Nat), decide (0 ≤ Uf l s i) = XM l s
 | [], s, i => by simp [Uf, XM]
 | x :: r, s, i => by
  rw [Uf, XM, List.any_cons]
  by_cases h : s = x
  ·simp [h]
  ·have := X4w r s (i + 1)
   unfold XM at this
   simp [h, this]
theorem X8G (l : List (List UInt8)) (s : List UInt8) (hl : l.length ≤ 9223372036854775807) : Con Tryz.prog 236 [] [.d (.sl 1 (l.map Xl)), Xt s] [] (ai (Uf l s 0)) := by
 refine X9 (xs := [ai (Uf l s 0)]) Tryz.func236 rfl Tryz.ntmps236 rfl rfl rfl (fun E => ?_)
 generalize hG : Uf l s 0 = G
 refine X0 ?_; refine JR ?_; refine Z0 ?_; refine JD ?_; refine X0 ?_; refine X0 ?_; refine JR ?_; refine Z1 ?_; refine Zd ?_; refine Z1 ?_; refine JD ?_; refine X4 ?_
 refine Xs (fun i : Nat => i ≤ l.length ∧ Uf (l.drop i) s i = G) (fun i => ⟨19, [(0, .d (.sl 1 (l.map Xl))), (1, Xt s), (7, ai (l.map Xl).length), (8, ai i)], []⟩) (fun i => l.length - i) 0 ⟨Nat.zero_le _, by simpa using hG⟩
  (X7 rfl JM trivial) ?_
 rintro i ⟨hi, hg⟩
 by_cases hil : i < l.length
 case neg =>
  have hn : ¬ (i : Int) < (l.map Xl).length := by rw [List.length_map]; omega
  rw [List.drop_of_length_le (by omega), Uf] at hg
  subst hg
  refine X0 ?_; refine JR ?_; refine Z8 ?_; refine JD ?_; refine X0 ?_; refine JF ?_; refine Xo ?_; refine X0 ?_; refine JR ?_; refine Z0 ?_; refine JD ?_
  exact X1 ⟨_, St.le_refl _, ⟨rfl, trivial⟩, X2 _⟩
 have hn : (i : Int) < (l.map Xl).length := by rw [List.length_map]; omega
 obtain ⟨x, hx⟩ := Xm (l := l) hil
 have hxc : (l.map Xl)[i]? = some (Xl x) := Xr hx
 rw [X9x hx] at hg
 by_cases hq : s = x
 ·rw [if_pos hq] at hg
  subst hg
  refine X0 ?_; refine JR ?_; refine Z8 ?_; refine JD ?_; refine X0 ?_; refine JT ?_; refine X3 ?_; refine X0 ?_; refine X4 ?_; refine X0 ?_; refine JR ?_; refine Z1 ?_; refine Z0 ?_
  refine JD ?_; refine X0 ?_; refine JR ?_; refine Z1 ?_; refine Z1 ?_; refine Z1 ?_; refine Zj ?_; refine Zk ?_; refine Zr ?_; refine JD ?_; refine JT ?_; refine X0 ?_; refine JR ?_; refine Z1 ?_; refine Z0 ?_
  refine JD ?_
  exact X1 ⟨_, St.le_refl _, ⟨rfl, trivial⟩, X2 _⟩
 rw [if_neg hq] at hg
 refine X0 ?_; refine JR ?_; refine Z8 ?_; refine JD ?_; refine X0 ?_; refine JT ?_; refine X3 ?_; refine X0 ?_; refine X4 ?_; refine X0 ?_; refine JR ?_; refine Z1 ?_; refine Z0 ?_
 refine JD ?_; refine X0 ?_; refine JR ?_; refine Z1 ?_; refine Z1 ?_; refine Z1 ?_; refine Zj ?_; refine Zk ?_; refine Zr ?_; refine JD ?_; refine JF ?_; refine X3 ?_; refine JR ?_; refine Zb ?_; refine Z1 ?_
 refine JD ?_
 exact ⟨i + 1, ⟨by omega, hg⟩, by omega, X7 rfl JM trivial⟩
theorem X7S (l : List (List UInt8)) (s : List UInt8) (hl : l.length ≤ 9223372036854775807) : Con Tryz.prog 221 [] [.d (.sl 1 (l.map Xl)), Xt s] [] (ab (XM l s)) := by
 refine X9 (xs := [ab (XM l s)]) Tryz.func221 rfl Tryz.ntmps221 rfl rfl rfl (fun E => ?_)
 have hi := X8G l s hl
 rw [← X4w l s 0]
 generalize Uf l s 0 = q at *
 refine X0 ?_; refine JR ?_; refine Z0 ?_; refine JD ?_; refine X0 ?_; refine JR ?_; refine Z1 ?_; refine Z1 ?_; refine Z9 (hcon := hi) ?_; refine Z2 ?_; refine Z0 ?_; refine JD ?_
 exact X1 ⟨_, St.le_refl _, ⟨rfl, trivial⟩, X2 _⟩
theorem X3l (n : Nod) (s : List UInt8) (hl : n.labels.length ≤ 9223372036854775807) : Con Tryz.prog 182 [] [.agg [ai n.id, .d (.sl 1 (n.labels.map Xl)), .d (.sl 6 (n.props.map Xg))], Xt s] [] (ab (XM n.labels s)) := by
 refine X9 (xs := [ab (XM n.labels s)]) Tryz.func182 rfl Tryz.ntmps182 rfl rfl rfl (fun E => ?_)
 have hc := X7S n.labels s hl
 generalize XM n.labels s = q at *
 refine X0 ?_; refine JR ?_; refine ZA (γ := 100) ?_; refine Z0 ?_; refine JD ?_; refine X0 ?_; refine JR ?_; refine ZB ?_; refine ZC ?_; refine Z1 ?_; refine Z9 (hcon := hc) ?_; refine Z0 ?_; refine JD ?_
 exact X1 ⟨_, St.le_refl _, ⟨rfl, trivial⟩, X2 _⟩
theorem X5i (l : List Prp) (key : List UInt8) (hl : l.length ≤ 9223372036854775807) : Con Tryz.prog 181 [] [.d (.sl 6 (l.map Xg)), Xt key] [] (.tup [Xn ((XU l key).getD zV), ab (XU l key).isSome]) := by
 refine X9 (xs := [Xn ((XU l key).getD zV), ab (XU l key).isSome]) Tryz.func181 rfl Tryz.ntmps181 rfl rfl rfl (fun E => ?_)
 generalize hG : XU l key = G
 refine X0 ?_; refine JR ?_; refine Zw (γ := 100) ?_; refine Z0 ?_; refine JD ?_; refine X0 ?_; refine X0 ?_; refine JR ?_; refine Z1 ?_; refine Zd ?_; refine Z1 ?_; refine JD ?_; refine X4 ?_
 refine Xs (fun i : Nat => i ≤ l.length ∧ XU (l.drop i) key = G) (fun i => ⟨22, [(1, Xt key), (4, .ptr 100 0), (8, .d (.sl 6 (l.map Xg))), (9, ai (l.map Xg).length), (10, ai i)], [(100, .box [ai 0, ai 0, ai 0, Xt [], ani])]⟩) (fun i => l.length - i) 0 ⟨Nat.zero_le _, by simpa using hG⟩
  (X7 rfl JM ⟨rfl, trivial⟩) ?_
 rintro i ⟨hi, hg⟩
 by_cases hil : i < l.length
 case neg =>
  have hn : ¬ (i : Int) < (l.map Xg).length := by rw [List.length_map]; omega
  rw [List.drop_of_length_le (by omega), XU] at hg
  subst hg
  simp only [Option.getD_none, Option.isSome_none, zV, Xn]
  refine X0 ?_; refine JR ?_; refine Z8 ?_; refine JD ?_; refine X0 ?_; refine JF ?_; refine Xo ?_; refine X0 ?_; refine JR ?_; refine Zx ?_; refine Zy ?_; refine Z0 ?_; refine JD ?_
  (show AWP Tryz.prog E _ _ _; refine X1 ?_; exact (show Xk _ _ _ _ _ from ⟨_, VJ 100 (cs' := [ai 0, ai 0, ai 0, Xt [], .d (.sl 5 [])]) rfl JM rfl, ⟨⟨100, 0, _, rfl, rfl, .inr ⟨5, _, rfl, rfl, rfl, rfl⟩⟩, rfl, trivial⟩, X2 _⟩))
 have hn : (i : Int) < (l.map Xg).length := by rw [List.length_map]; omega
 obtain ⟨x, hx⟩ := Xm (l := l) hil
 have hxc : (l.map Xg)[i]? = some (Xg x) := Xr hx
 rw [X4V hx] at hg
 obtain ⟨xkey, ⟨vk, vn, vd, vs, vl⟩⟩ := x
 simp only [Xg, Y8] at hxc hg
 clear hx
 by_cases hq : xkey = key
 ·rw [if_pos hq] at hg
  subst hg
  simp only [Option.getD_some, Option.isSome_some, Xn]
  refine X0 ?_; refine JR ?_; refine Z8 ?_; refine JD ?_; refine X0 ?_; refine JT ?_; refine X3 ?_; refine X0 ?_; refine X4 ?_; refine X0 ?_; refine JR ?_; refine Zj ?_; refine ZK ?_
  refine Zw (γ := 101) ?_; refine Zy ?_; refine JD ?_; refine X0 ?_; refine JR ?_; refine ZB ?_; refine ZC ?_; refine Z1 ?_; refine Zr ?_; refine JD ?_; refine JT ?_; refine X0 ?_; refine JR ?_; refine ZB ?_
  refine ZL ?_; refine Zy ?_; refine Z0 ?_; refine JD ?_
  (show AWP Tryz.prog E _ _ _; refine X1 ?_; exact (show Xk _ _ _ _ _ from ⟨_, St.le_refl _, ⟨⟨100, 0, _, rfl, rfl, .inr ⟨5, _, rfl, rfl, rfl, rfl⟩⟩, rfl, trivial⟩, X2 _⟩))
 rw [if_neg hq] at hg
 refine X0 ?_; refine JR ?_; refine Z8 ?_; refine JD ?_; refine X0 ?_; refine JT ?_; refine X3 ?_; refine X0 ?_; refine X4 ?_; refine X0 ?_; refine JR ?_; refine Zj ?_; refine ZK ?_
 refine Zw (γ := 101) ?_; refine Zy ?_; refine JD ?_; refine X0 ?_; refine JR ?_; refine ZB ?_; refine ZC ?_; refine Z1 ?_; refine Zr ?_; refine JD ?_; refine JF ?_; refine X3 ?_; refine JR ?_; refine Zb ?_
 refine Z1 ?_; refine JD ?_
 exact ⟨i + 1, ⟨by omega, hg⟩, by omega, X7 rfl JM ⟨rfl, trivial⟩⟩
theorem X1v (r : Rul) (l : List Prp) (hl : l.length ≤ 9223372036854775807) : Con Tryz.prog 184 [] [Y0 r, .d (.sl 6 (l.map Xg))] [] (ab (UV r l)) := by
 refine X9 (xs := [ab (UV r l)]) Tryz.func184 rfl Tryz.ntmps184 rfl rfl rfl (fun E => ?_)
 obtain ⟨rk, rn, rname, rkey, rsrc, rdst⟩ := r
 have hp := X5i l rkey hl
 unfold UV
 simp only [Y0] at hp ⊢
 generalize XU l rkey = G at *
 cases G with
 | none =>
  simp only [Option.getD_none, Option.isSome_none, Option.isNone_none, zV, Xn] at hp ⊢
  by_cases h1 : rk = 2
  ·rw [if_pos (.inl h1)]
   refine X0 ?_; refine JR ?_; refine ZA (γ := 100) ?_; refine Z0 ?_; refine JD ?_; refine X0 ?_; refine JR ?_; refine Z1 ?_; refine ZB ?_; refine ZC ?_; refine Z9 (hcon := hp) ?_; refine Z1 ?_; refine ZF ?_
   refine ZF ?_; refine Zw (γ := 101) ?_; refine Zy ?_; refine Z0 ?_; refine JD ?_; refine X0 ?_; refine X0 ?_; refine JR ?_; refine ZB ?_; refine ZC ?_; refine Zl ?_; refine Z1 ?_; refine Zo ?_; refine Zo ?_
   refine Zo ?_; refine Zn ?_; refine JD ?_; refine JT ?_; refine X0 ?_; refine JR ?_; refine Z1 ?_; refine Zu ?_; refine Z0 ?_; refine JD ?_
   (show AWP Tryz.prog E _ _ _; refine X1 ?_; exact (show Xk _ _ _ _ _ from ⟨_, St.le_refl _, ⟨rfl, trivial⟩, X2 _⟩))
  by_cases h2 : rk = 4
  ·rw [if_pos (.inr h2)]
   refine X0 ?_; refine JR ?_; refine ZA (γ := 100) ?_; refine Z0 ?_; refine JD ?_; refine X0 ?_; refine JR ?_; refine Z1 ?_; refine ZB ?_; refine ZC ?_; refine Z9 (hcon := hp) ?_; refine Z1 ?_; refine ZF ?_
   refine ZF ?_; refine Zw (γ := 101) ?_; refine Zy ?_; refine Z0 ?_; refine JD ?_; refine X0 ?_; refine X0 ?_; refine JR ?_; refine ZB ?_; refine ZC ?_; refine Zl ?_; refine Z1 ?_; refine ZB ?_; refine ZC ?_
   refine Zl ?_; refine Zq ?_; refine JD ?_; refine JT ?_; refine X0 ?_; refine JR ?_; refine Z1 ?_; refine Zu ?_; refine Z0 ?_; refine JD ?_
   (show AWP Tryz.prog E _ _ _; refine X1 ?_; exact (show Xk _ _ _ _ _ from ⟨_, St.le_refl _, ⟨rfl, trivial⟩, X2 _⟩))
  rw [if_neg (fun h => h.elim h1 h2)]
  refine X0 ?_; refine JR ?_; refine ZA (γ := 100) ?_; refine Z0 ?_; refine JD ?_; refine X0 ?_; refine JR ?_; refine Z1 ?_; refine ZB ?_; refine ZC ?_; refine Z9 (hcon := hp) ?_; refine Z1 ?_; refine ZF ?_
  refine ZF ?_; refine Zw (γ := 101) ?_; refine Zy ?_; refine Z0 ?_; refine JD ?_; refine X0 ?_; refine X0 ?_; refine JR ?_; refine ZB ?_; refine ZC ?_; refine Zl ?_; refine Z1 ?_; refine ZB ?_; refine ZC ?_
  refine Zl ?_; refine Zq ?_; refine JD ?_; refine JF ?_; refine X3 ?_; refine X0 ?_; refine JR ?_; refine Z1 ?_; refine Z1 ?_; refine Zo ?_; refine Zo ?_; refine Zo ?_; refine Zo ?_; refine Zo ?_; refine Zq ?_
  refine Z0 ?_; refine JD ?_
  (show AWP Tryz.prog E _ _ _; refine X1 ?_; exact (show Xk _ _ _ _ _ from ⟨_, St.le_refl _, ⟨rfl, trivial⟩, X2 _⟩))
 | some v =>
  obtain ⟨vk, vn, vd, vs, vl⟩ := v
  simp only [Option.getD_some, Option.isSome_some, Option.isNone_some, Xn, Val.kind] at hp ⊢
  by_cases h1 : rk = 2
  ·rw [if_pos (.inl h1)]
   refine X0 ?_; refine JR ?_; refine ZA (γ := 100) ?_; refine Z0 ?_; refine JD ?_; refine X0 ?_; refine JR ?_; refine Z1 ?_; refine ZB ?_; refine ZC ?_; refine Z9 (hcon := hp) ?_; refine Z1 ?_; refine ZF ?_
   refine ZF ?_; refine Zw (γ := 101) ?_; refine Zy ?_; refine Z0 ?_; refine JD ?_; refine X0 ?_; refine X0 ?_; refine JR ?_; refine ZB ?_; refine ZC ?_; refine Zl ?_; refine Z1 ?_; refine Zo ?_; refine Zo ?_
   refine Zo ?_; refine Zn ?_; refine JD ?_; refine JT ?_; refine X0 ?_; refine JR ?_; refine Z1 ?_; refine Zu ?_; refine Z0 ?_; refine JD ?_
   (show AWP Tryz.prog E _ _ _; refine X1 ?_; exact (show Xk _ _ _ _ _ from ⟨_, St.le_refl _, ⟨rfl, trivial⟩, X2 _⟩))
  by_cases h2 : rk = 4
  ·rw [if_pos (.inr h2)]
   refine X0 ?_; refine JR ?_; refine ZA (γ := 100) ?_; refine Z0 ?_; refine JD ?_; refine X0 ?_; refine JR ?_; refine Z1 ?_; refine ZB ?_; refine ZC ?_; refine Z9 (hcon := hp) ?_; refine Z1 ?_; refine ZF ?_
   refine ZF ?_; refine Zw (γ := 101) ?_; refine Zy ?_; refine Z0 ?_; refine JD ?_; refine X0 ?_; refine X0 ?_; refine JR ?_; refine ZB ?_; refine ZC ?_; refine Zl ?_; refine Z1 ?_; refine ZB ?_; refine ZC ?_
   refine Zl ?_; refine Zq ?_; refine JD ?_; refine JT ?_; refine X0 ?_; refine JR ?_; refine Z1 ?_; refine Zu ?_; refine Z0 ?_; refine JD ?_
   (show AWP Tryz.prog E _ _ _; refine X1 ?_; exact (show Xk _ _ _ _ _ from ⟨_, St.le_refl _, ⟨rfl, trivial⟩, X2 _⟩))
  rw [if_neg (fun h => h.elim h1 h2)]
  refine X0 ?_; refine JR ?_; refine ZA (γ := 100) ?_; refine Z0 ?_; refine JD ?_; refine X0 ?_; refine JR ?_; refine Z1 ?_; refine ZB ?_; refine ZC ?_; refine Z9 (hcon := hp) ?_; refine Z1 ?_; refine ZF ?_
  refine ZF ?_; refine Zw (γ := 101) ?_; refine Zy ?_; refine Z0 ?_; refine JD ?_; refine X0 ?_; refine X0 ?_; refine JR ?_; refine ZB ?_; refine ZC ?_; refine Zl ?_; refine Z1 ?_; refine ZB ?_; refine ZC ?_
  refine Zl ?_; refine Zq ?_; refine JD ?_; refine JF ?_; refine X3 ?_; refine X0 ?_; refine JR ?_; refine Z1 ?_; refine Z1 ?_; refine ZB ?_; refine ZC ?_; refine ZB ?_; refine ZC ?_; refine Zv ?_; refine Zn ?_
  refine Z0 ?_; refine JD ?_
  (show AWP Tryz.prog E _ _ _; refine X1 ?_; exact (show Xk _ _ _ _ _ from ⟨_, St.le_refl _, ⟨rfl, trivial⟩, X2 _⟩))
end Go.Fw
namespace Go.Fw
open Go Go.Proofs
set_option maxRecDepth 100000
set_option linter.unusedVariables false
set_option linter.unusedSimpArgs false
theorem X9l (xs : List (List D)) (hl : xs.length ≤ 100000) : Con Tryz.prog 240 [] [.d (.sl 1 xs)] [] (.d (.sl 1 xs)) := by
 refine X9 (xs := [.d (.sl 1 xs)]) Tryz.func240 rfl Tryz.ntmps240 rfl rfl rfl (fun E => ?_)
 refine X0 ?_; refine JR ?_; refine Z0 ?_; refine JD ?_; refine X0 ?_; refine X0 ?_; refine JR ?_; refine Z1 ?_; refine Z0a ?_; refine JD ?_
 refine X2E rfl (fun h => ?_) (fun _ => ?_)
 ·subst h
  refine X0 ?_; refine JR ?_; refine Z0 ?_; refine JD ?_
  refine X1 ?_
  exact ⟨_, Xe 2 (AVal.le_nil 1), ⟨rfl, trivial⟩, X2 _⟩
 ·refine X3 ?_; refine X0 ?_; refine JR ?_; refine ZZ (len := 0) (γ := 100) ?_; refine Z1 ?_; refine Z6 ?_; refine Z0 ?_; refine JD ?_
  refine X1 ?_
  exact ⟨_, St.le_trans (Up 100 rfl) (Uo 2 100 rfl rfl (by simp)), ⟨rfl, trivial⟩, X2 _⟩
theorem X74 (xs : List (List D)) (hl : xs.length ≤ 100000) : Con Tryz.prog 252 [] [.d (.sl 5 xs)] [] (.d (.sl 5 xs)) := by
 refine X9 (xs := [.d (.sl 5 xs)]) Tryz.func252 rfl Tryz.ntmps252 rfl rfl rfl (fun E => ?_)
 refine X0 ?_; refine JR ?_; refine Z0 ?_; refine JD ?_; refine X0 ?_; refine X0 ?_; refine JR ?_; refine Z1 ?_; refine Z0a ?_; refine JD ?_
 refine X2E rfl (fun h => ?_) (fun _ => ?_)
 ·subst h
  refine X0 ?_; refine JR ?_; refine Z0 ?_; refine JD ?_
  refine X1 ?_
  exact ⟨_, Xe 2 (AVal.le_nil 5), ⟨rfl, trivial⟩, X2 _⟩
 ·refine X3 ?_; refine X0 ?_; refine JR ?_; refine ZZ (len := 0) (γ := 100) ?_; refine Z1 ?_; refine Z6 ?_; refine Z0 ?_; refine JD ?_
  refine X1 ?_
  exact ⟨_, St.le_trans (Up 100 rfl) (Uo 2 100 rfl rfl (by simp)), ⟨rfl, trivial⟩, X2 _⟩
theorem XaW (xs : List (List D)) (hl : xs.length ≤ 100000) : Con Tryz.prog 249 [] [.d (.sl 6 xs)] [(130, .row 6 xs)] (.own 130 xs.length) := by
 have h : Con Tryz.prog 249 [] [.d (.sl 6 xs)] [(100, .row 6 xs)] (.own 100 xs.length) := by
  refine X9 (xs := [.own 100 xs.length]) Tryz.func249 rfl Tryz.ntmps249 rfl rfl rfl (fun E => ?_)
  refine X0 ?_; refine JR ?_; refine Z0 ?_; refine JD ?_; refine X0 ?_; refine X0 ?_; refine JR ?_; refine Z1 ?_; refine Z0a ?_; refine JD ?_
  refine X2E rfl (fun h => ?_) (fun _ => ?_)
  ·subst h
   refine X0 ?_; refine JR ?_; refine Z0 ?_; refine JD ?_
   refine X1 ?_
   exact ⟨_, V0 2 100 6 rfl rfl rfl, ⟨rfl, trivial⟩, V8 ⟨rfl, trivial⟩⟩
  ·refine X3 ?_; refine X0 ?_; refine JR ?_; refine ZZ (len := 0) (γ := 100) ?_; refine Z1 ?_; refine Z6 ?_; refine Z0 ?_; refine JD ?_
   refine X1 ?_
   refine ⟨_, St.le_refl _, ⟨?_, trivial⟩, V8 ⟨rfl, trivial⟩⟩
   simp only [X3a]; simp [St.get, St.set, St.own, Xd]
 exact X8k 100 130 h
theorem X7U (k n d : Int) (s : List UInt8) : Con Tryz.prog 250 [] [.agg [ai k, ai n, ai d, Xt s, .d (.sl 5 [])]] [] (.agg [ai k, ai n, ai d, Xt s, .d (.sl 5 [])]) := by
 refine X9 (xs := [.agg [ai k, ai n, ai d, Xt s, .d (.sl 5 [])]]) Tryz.func250 rfl Tryz.ntmps250 rfl rfl rfl (fun E => ?_)
 have hc := X74 [] (by simp)
 refine X0 ?_; refine JR ?_; refine ZA (γ := 100) ?_; refine Zw (γ := 101) ?_; refine JD ?_; refine X0 ?_; refine JR ?_; refine ZB ?_; refine ZC ?_; refine Z9 (hcon := hc) ?_; refine ZB ?_; refine Zy ?_
 refine JD ?_; refine X0 ?_; refine X0 ?_; refine JR ?_; refine ZB ?_; refine ZC ?_; refine Zd ?_; refine Z1 ?_; refine JD ?_; refine X4 ?_
 refine Xs (ι := Unit) (fun _ => True) (fun _ => ⟨26, [(1, .ptr 100 0), (2, .ptr 101 0), (10, ai 0), (11, ai 0)], [(100, .box [ai k, ai n, ai d, Xt s, .d (.sl 5 [])]), (101, .box [ai 0, ai 0, ai 0, Xt [], ani])]⟩) (fun _ => 0) () trivial
  (X7 rfl JM ⟨rfl, rfl, trivial⟩) ?_
 rintro _ _
 have hn : ¬ (0 : Int) < 0 := by omega
 refine X0 ?_; refine JR ?_; refine Z8 ?_; refine JD ?_; refine X0 ?_; refine JF ?_; refine Xo ?_; refine X0 ?_; refine JR ?_; refine ZL ?_; refine Zy ?_; refine JD ?_
 (show AWP Tryz.prog E _ _ _; refine X1 ?_; exact (show Xk _ _ _ _ _ from ⟨_, St.le_refl _, ⟨⟨101, 0, _, rfl, rfl, .inr ⟨5, _, rfl, rfl, rfl, rfl⟩⟩, trivial⟩, X2 _⟩))
theorem X8O (l : List Prp) (hl : l.length ≤ 1000) (hp : ∀ p ∈ l, XF p.v = true) : Con Tryz.prog 241 [] [.d (.sl 6 (l.map Xg))] [] (.d (.sl 6 (l.map Xg))) := by
 refine X9 (xs := [.d (.sl 6 (l.map Xg))]) Tryz.func241 rfl Tryz.ntmps241 rfl rfl rfl (fun E => ?_)
 have hlm : (l.map Xg).length = l.length := by simp
 have hc := XaW (l.map Xg) (by omega)
 refine X0 ?_; refine JR ?_; refine Z0 ?_; refine JD ?_; refine X0 ?_; refine JR ?_; refine Z1 ?_; refine Z9 (hcon := hc) ?_; refine Z0 ?_; refine JD ?_; refine X0 ?_; refine X0 ?_; refine JR ?_
 refine Z1 ?_; refine Z0b ?_; refine Z1 ?_; refine JD ?_; refine X4 ?_
 clear hc
 refine Xs (fun i : Nat => i ≤ l.length) (fun i => ⟨24, [(3, .own 130 (l.map Xg).length), (8, ai (l.map Xg).length), (9, ai i)], [(130, .row 6 (l.map Xg))]⟩) (fun i => l.length - i) 0 (Nat.zero_le _)
  (X7 rfl JM ⟨rfl, trivial⟩) ?_
 intro i hi
 by_cases hil : i < l.length
 case neg =>
  have hn : ¬ (i : Int) < (l.map Xg).length := by omega
  refine X0 ?_; refine JR ?_; refine Z8 ?_; refine JD ?_; refine X0 ?_; refine JF ?_; refine Xo ?_; refine X0 ?_; refine JR ?_; refine Z1 ?_; refine Z0 ?_; refine JD ?_
  refine XV (Up 130 rfl) ?_
  refine XV (Uo 2 130 rfl rfl rfl) ?_
  (show AWP Tryz.prog E _ _ _; refine X1 ?_; exact (show Xk _ _ _ _ _ from ⟨_, St.le_refl _, ⟨rfl, trivial⟩, X2 _⟩))
 have hn : (i : Int) < (l.map Xg).length := by omega
 have hilm : i < (l.map Xg).length := by omega
 have h0 : 0 < (l.map Xg).length := by omega
 obtain ⟨x, hx⟩ := Xm (l := l) hil
 have hxc : (l.map Xg)[i]? = some (Xg x) := Xr hx
 have hpv := hp x (List.mem_of_getElem? hx)
 have hall : ∀ r ∈ l.map Xg, r.length = 6 := by
  intro r hr
  obtain ⟨p, _, rfl⟩ := List.mem_map.1 hr
  obtain ⟨pk, ⟨pvk, pvn, pvd, pvs, pvl⟩⟩ := p
  rfl
 have hpart := X4D hall hxc (o := 1) (q := 5) (by omega)
 have hroom : i * 6 + 1 + 5 ≤ (l.map Xg).length * 6 := by omega
 obtain ⟨key, ⟨vk, vn, vd, vs, vl⟩⟩ := x
 obtain ⟨_, _, _, rfl, _⟩ := Ve hpv
 have hys : ((l.map Xg).flatten.drop (i * 6 + 1)).take 5 = [.v (.int .i64 vk), .v (.int .i64 vn), .v (.int .i64 vd), .v (.string (X6 vs)), .sl 5 []] := by
  rw [hpart]
  simp [Xg, Y8, XG]
 have hcv := X7U vk vn vd vs
 clear hx hxc hpart hall hpv hp
 generalize l.map Xg = L at *
 refine X0 ?_; refine JR ?_; refine Z8 ?_; refine JD ?_; refine X0 ?_; refine JT ?_; refine X3 ?_; refine X0 ?_; refine X4 ?_; refine X0 ?_; refine JR ?_; refine Z1 ?_; refine Z0 ?_
 refine JD ?_; refine JR ?_; refine Z1 ?_; refine Z1 ?_; refine Z1 ?_; refine Z1 ?_; refine Z0c ?_; refine Z0d ?_
 refine Z0e (q := 5) (ys := [.v (.int .i64 vk), .v (.int .i64 vn), .v (.int .i64 vd), .v (.string (X6 vs)), .sl 5 []]) ?_ (hb := by exact hroom) (hys := by exact hys); refine Z9 (hcon := hcv) ?_; refine Z0c ?_
 refine Z0d ?_; refine Z0f (q := 5) (ys := [.v (.int .i64 vk), .v (.int .i64 vn), .v (.int .i64 vd), .v (.string (X6 vs)), .sl 5 []]) ?_ (hb := by exact hroom) (hys := by exact hys); refine JD ?_; refine JR ?_
 refine Zb ?_; refine Z1 ?_; refine JD ?_
 exact ⟨i + 1, hil, by omega, X7 rfl JM ⟨rfl, trivial⟩⟩
theorem X9c (g : Gra) (id : Int) (hl : g.nodes.length ≤ 9223372036854775807) (hh : ∀ n ∈ g.nodes, X0p n) : Con Tryz.prog 223 [] [Xp g, ai id] [] (.tup [Yi ((XR g.nodes id).getD Ua), ab (XR g.nodes id).isSome]) := by
 refine X9 (xs := [Yi ((XR g.nodes id).getD Ua), ab (XR g.nodes id).isSome]) Tryz.func223 rfl Tryz.ntmps223 rfl rfl rfl (fun E => ?_)
 obtain ⟨ns, es, nn, ne⟩ := g
 unfold Xp
 simp only at hl hh ⊢
 generalize hG : XR ns id = G
 refine X0 ?_; refine JR ?_; refine ZA (γ := 100) ?_; refine Zw (γ := 101) ?_; refine Z0 ?_; refine JD ?_; refine X0 ?_; refine X0 ?_; refine JR ?_; refine ZB ?_; refine ZC ?_; refine Zd ?_; refine Z1 ?_
 refine JD ?_; refine X4 ?_
 refine Xs (fun i : Nat => i ≤ ns.length ∧ XR (ns.drop i) id = G) (fun i => ⟨29, [(1, ai id), (2, .ptr 100 0), (4, .ptr 101 0), (9, .d (.sl 3 (ns.map X8))), (10, ai (ns.map X8).length), (11, ai i)], [(100, .box [.d (.sl 3 (ns.map X8)), .d (.sl 5 (es.map Xi)), ai nn, ai ne]), (101, .box [ai 0, ani, ani])]⟩) (fun i => ns.length - i) 0 ⟨Nat.zero_le _, by simpa using hG⟩
  (X7 rfl JM ⟨rfl, rfl, trivial⟩) ?_
 rintro i ⟨hi, hg⟩
 by_cases hil : i < ns.length
 case neg =>
  have hn : ¬ (i : Int) < (ns.map X8).length := by rw [List.length_map]; omega
  rw [List.drop_of_length_le (by omega)] at hg
  have hg : none = G := hg
  subst hg
  simp only [Option.getD_none, Option.isSome_none, Ua, Yi, List.map_nil]
  refine X0 ?_; refine JR ?_; refine Z8 ?_; refine JD ?_; refine X0 ?_; refine JF ?_; refine Xo ?_; refine X0 ?_; refine JR ?_; refine Zx ?_; refine Zy ?_; refine Z0 ?_; refine JD ?_
  (show AWP Tryz.prog E _ _ _; refine X1 ?_; exact (show Xk _ _ _ _ _ from ⟨_, VJ 101 (cs' := [ai 0, .d (.sl 1 []), .d (.sl 6 [])]) rfl JM rfl, ⟨⟨101, 0, _, rfl, rfl, .inr ⟨3, _, rfl, rfl, rfl, rfl⟩⟩, rfl, trivial⟩, X2 _⟩))
 have hn : (i : Int) < (ns.map X8).length := by rw [List.length_map]; omega
 obtain ⟨x, hx⟩ := Xm (l := ns) hil
 have hxc : (ns.map X8)[i]? = some (X8 x) := Xr hx
 rw [X65 hx] at hg
 obtain ⟨f1, f2, f3⟩ := hh x (List.mem_of_getElem? hx)
 obtain ⟨xid, labels, props⟩ := x
 simp only [X8] at hxc hg f1 f2 f3
 clear hx
 by_cases hq : xid = id
 ·rw [if_pos hq] at hg
  subst hg
  subst hq
  simp only [Option.getD_some, Option.isSome_some, Yi]
  have hc1 := X9l (labels.map Xl) (by rw [List.length_map]; omega)
  have hc2 := X8O props f2 f3
  clear hh f1 f2 f3
  refine X0 ?_; refine JR ?_; refine Z8 ?_; refine JD ?_; refine X0 ?_; refine JT ?_; refine X3 ?_; refine X0 ?_; refine X4 ?_; refine X0 ?_; refine JR ?_; refine Zj ?_; refine ZK ?_
  refine Zw (γ := 102) ?_; refine Zy ?_; refine JD ?_; refine X0 ?_; refine JR ?_; refine ZB ?_; refine ZC ?_; refine Z1 ?_; refine Zl ?_; refine JD ?_; refine JT ?_; refine X0 ?_; refine JR ?_; refine Z1 ?_
  refine ZB ?_; refine ZC ?_; refine Z9 (hcon := hc1) ?_; refine ZB ?_; refine ZC ?_; refine Z9 (hcon := hc2) ?_; refine Zx ?_; refine Zy ?_; refine Z0 ?_; refine JD ?_
  (show AWP Tryz.prog E _ _ _; refine X1 ?_; exact (show Xk _ _ _ _ _ from ⟨_, St.le_refl _, ⟨⟨101, 0, _, rfl, rfl, .inr ⟨3, _, rfl, rfl, rfl, rfl⟩⟩, rfl, trivial⟩, X2 _⟩))
 rw [if_neg hq] at hg
 refine X0 ?_; refine JR ?_; refine Z8 ?_; refine JD ?_; refine X0 ?_; refine JT ?_; refine X3 ?_; refine X0 ?_; refine X4 ?_; refine X0 ?_; refine JR ?_; refine Zj ?_; refine ZK ?_
 refine Zw (γ := 102) ?_; refine Zy ?_; refine JD ?_; refine X0 ?_; refine JR ?_; refine ZB ?_; refine ZC ?_; refine Z1 ?_; refine Zl ?_; refine JD ?_; refine JF ?_; refine X3 ?_; refine JR ?_; refine Zb ?_
 refine Z1 ?_; refine JD ?_
 exact ⟨i + 1, ⟨by omega, hg⟩, by omega, X7 rfl JM ⟨rfl, rfl, trivial⟩⟩
theorem X3R (g : Gra) (id : Int) (hl : g.nodes.length ≤ 9223372036854775807) (hh : ∀ n ∈ g.nodes, X0p n) : Con Tryz.prog 33 [] [Xp g, ai id] [] (.tup [Yi ((XR g.nodes id).getD Ua), ab (XR g.nodes id).isSome]) := by
 refine X9 (xs := [Yi ((XR g.nodes id).getD Ua), ab (XR g.nodes id).isSome]) Tryz.func33 rfl Tryz.ntmps33 rfl rfl rfl (fun E => ?_)
 obtain ⟨ns, es, nn, ne⟩ := g
 unfold Xp
 simp only at hl hh ⊢
 generalize hG : XR ns id = G
 refine X0 ?_; refine JR ?_; refine ZA (γ := 100) ?_; refine Zw (γ := 101) ?_; refine Z0 ?_; refine JD ?_; refine X0 ?_; refine X0 ?_; refine JR ?_; refine Z0 ?_; refine JD ?_; refine X4 ?_
 refine Xs (fun i : Nat => i ≤ ns.length ∧ XR (ns.drop i) id = G) (fun i => ⟨28, [(1, ai id), (2, .ptr 100 0), (4, .ptr 101 0), (6, ai i)], [(100, .box [.d (.sl 3 (ns.map X8)), .d (.sl 5 (es.map Xi)), ai nn, ai ne]), (101, .box [ai 0, ani, ani])]⟩) (fun i => ns.length - i) 0 ⟨Nat.zero_le _, by simpa using hG⟩
  (X7 rfl JM ⟨rfl, rfl, trivial⟩) ?_
 rintro i ⟨hi, hg⟩
 by_cases hil : i < ns.length
 case neg =>
  have hn : ¬ (i : Int) < (ns.map X8).length := by rw [List.length_map]; omega
  rw [List.drop_of_length_le (by omega)] at hg
  have hg : none = G := hg
  subst hg
  simp only [Option.getD_none, Option.isSome_none, Ua, Yi, List.map_nil]
  refine X0 ?_; refine X0 ?_; refine JR ?_; refine Z1 ?_; refine ZB ?_; refine ZC ?_; refine Zd ?_; refine Z8 ?_; refine JD ?_; refine JF ?_; refine Xo ?_; refine X0 ?_; refine JR ?_; refine Zx ?_
  refine Zy ?_; refine Z0 ?_; refine JD ?_
  (show AWP Tryz.prog E _ _ _; refine X1 ?_; exact (show Xk _ _ _ _ _ from ⟨_, VJ 101 (cs' := [ai 0, .d (.sl 1 []), .d (.sl 6 [])]) rfl JM rfl, ⟨⟨101, 0, _, rfl, rfl, .inr ⟨3, _, rfl, rfl, rfl, rfl⟩⟩, rfl, trivial⟩, X2 _⟩))
 have hn : (i : Int) < (ns.map X8).length := by rw [List.length_map]; omega
 obtain ⟨x, hx⟩ := Xm (l := ns) hil
 have hxc : (ns.map X8)[i]? = some (X8 x) := Xr hx
 rw [X65 hx] at hg
 obtain ⟨f1, f2, f3⟩ := hh x (List.mem_of_getElem? hx)
 obtain ⟨xid, labels, props⟩ := x
 simp only [X8] at hxc hg f1 f2 f3
 clear hx
 by_cases hq : xid = id
 ·rw [if_pos hq] at hg
  subst hg
  subst hq
  simp only [Option.getD_some, Option.isSome_some, Yi]
  clear hh f1 f2 f3
  refine X0 ?_; refine X0 ?_; refine JR ?_; refine Z1 ?_; refine ZB ?_; refine ZC ?_; refine Zd ?_; refine Z8 ?_; refine JD ?_; refine JT ?_; refine X3 ?_; refine X0 ?_; refine X4 ?_
  refine X0 ?_; refine JR ?_; refine ZB ?_; refine ZC ?_; refine Z1 ?_; refine Zj ?_; refine ZN ?_; refine Zk ?_; refine Z1 ?_; refine Zl ?_; refine JD ?_; refine JT ?_; refine X0 ?_; refine JR ?_; refine ZB ?_
  refine ZC ?_; refine Z1 ?_; refine Zj ?_; refine ZK ?_; refine Zy ?_; refine Z0 ?_; refine JD ?_
  (show AWP Tryz.prog E _ _ _; refine X1 ?_; exact (show Xk _ _ _ _ _ from ⟨_, St.le_refl _, ⟨⟨101, 0, _, rfl, rfl, .inr ⟨3, _, rfl, rfl, rfl, rfl⟩⟩, rfl, trivial⟩, X2 _⟩))
 rw [if_neg hq] at hg
 refine X0 ?_; refine X0 ?_; refine JR ?_; refine Z1 ?_; refine ZB ?_; refine ZC ?_; refine Zd ?_; refine Z8 ?_; refine JD ?_; refine JT ?_; refine X3 ?_; refine X0 ?_; refine X4 ?_
 refine X0 ?_; refine JR ?_; refine ZB ?_; refine ZC ?_; refine Z1 ?_; refine Zj ?_; refine ZN ?_; refine Zk ?_; refine Z1 ?_; refine Zl ?_; refine JD ?_; refine JF ?_; refine X3 ?_; refine JR ?_; refine Z1 ?_
 refine Zb ?_; refine Z0 ?_; refine JD ?_
 exact ⟨i + 1, ⟨by omega, hg⟩, by omega, X7 rfl JM ⟨rfl, rfl, trivial⟩⟩
theorem X9a (g : Gra) (id : Int) (label : List UInt8) (hl : g.nodes.length ≤ 9223372036854775807) (hh : ∀ n ∈ g.nodes, X0p n) : Con Tryz.prog 185 [] [Xp g, ai id, Xt label] [] (ab (Vy g.nodes id label)) := by
 refine X9 (xs := [ab (Vy g.nodes id label)]) Tryz.func185 rfl Tryz.ntmps185 rfl rfl rfl (fun E => ?_)
 have hc := X9c g id hl hh
 have hfit : ((XR g.nodes id).getD Ua).labels.length ≤ 9223372036854775807 := by
  cases hna : XR g.nodes id with
  | none => simp
  | some n => have := (hh n (List.mem_of_find?_eq_some hna)).1; simp only [Option.getD_some]; omega
 have hd := X3l ((XR g.nodes id).getD Ua) label hfit
 unfold Vy
 generalize (XR g.nodes id).getD Ua = n at *
 generalize (XR g.nodes id).isSome = b at *
 generalize XM n.labels label = q at *
 clear hfit hh hl
 obtain ⟨ns, es, nn, ne⟩ := g
 obtain ⟨nid, nl, np⟩ := n
 unfold Xp Yi at *
 simp only at *
 by_cases hq : label = []
 ·have hq' : ¬ label ≠ [] := fun h => h hq
  rw [decide_eq_false hq', Bool.false_and]
  refine X0 ?_; refine JR ?_; refine ZA (γ := 100) ?_; refine Z0 ?_; refine JD ?_; refine X0 ?_; refine JR ?_; refine ZL ?_; refine Z1 ?_; refine Z9 (hcon := hc) ?_; refine Z1 ?_; refine ZF ?_; refine ZF ?_
  refine Zw (γ := 101) ?_; refine Zy ?_; refine Z0 ?_; refine JD ?_; refine X0 ?_; refine JR ?_; refine Z1 ?_; refine ZM ?_; refine Z1 ?_; refine Zo ?_; refine Zo ?_; refine Zo ?_; refine Zo ?_; refine Zq ?_
  refine Z0 ?_; refine JD ?_
  (show AWP Tryz.prog E _ _ _; refine X1 ?_; exact (show Xk _ _ _ _ _ from ⟨_, St.le_refl _, ⟨rfl, trivial⟩, X2 _⟩))
 ·have hq' : label ≠ [] := hq
  rw [decide_eq_true hq', Bool.true_and]
  refine X0 ?_; refine JR ?_; refine ZA (γ := 100) ?_; refine Z0 ?_; refine JD ?_; refine X0 ?_; refine JR ?_; refine ZL ?_; refine Z1 ?_; refine Z9 (hcon := hc) ?_; refine Z1 ?_; refine ZF ?_; refine ZF ?_
  refine Zw (γ := 101) ?_; refine Zy ?_; refine Z0 ?_; refine JD ?_; refine X0 ?_; refine JR ?_; refine Z1 ?_; refine ZM ?_; refine Z1 ?_; refine ZL ?_; refine Z1 ?_; refine Z9 (hcon := hd) ?_; refine Zu ?_
  refine Zn ?_; refine Z0 ?_; refine JD ?_
  (show AWP Tryz.prog E _ _ _; refine X1 ?_; exact (show Xk _ _ _ _ _ from ⟨_, St.le_refl _, ⟨rfl, trivial⟩, X2 _⟩))
end Go.Fw
namespace Go.Fw
open Go
set_option linter.unusedVariables false
set_option linter.unusedSimpArgs false
theorem X5t : ∀ {l : List Prp} {key : List UInt8} {v : Val}, XU l key = some v → ∃ p ∈ l, p.v = v
 | [], _, _, h => by simp [XU] at h
 | p :: r, key, v, h => by
  rw [XU] at h
  split at h
  ·exact ⟨p, by simp, by simpa using h⟩
  ·obtain ⟨q, hq, e⟩ := X5t h
   exact ⟨q, by simp [hq], e⟩
structure GFit (g : Gra) : Prop where
 nl : g.nodes.length ≤ 2000
 el : g.edges.length ≤ 4000
 nodes : ∀ n ∈ g.nodes, X0p n
 edges : ∀ e ∈ g.edges, e.props.length ≤ 1000 ∧ (XR g.nodes e.src).isSome = true ∧ (XR g.nodes e.dst).isSome = true
theorem X4e {l : List Nod} {n : Int} (h : XA l n = true) : (XR l n).isSome = true := by
 unfold XA at h
 unfold XR
 rw [List.find?_isSome]
 rw [List.any_eq_true] at h
 exact h
theorem X0q {g : Gra} (h : XC g = 0) : GFit g := by
 have G := X8j h
 unfold XC at h
 by_cases c1 : 2000 < g.nodes.length ∨ 4000 < g.edges.length
 ·rw [if_pos c1] at h; simp at h
 rw [if_neg c1] at h
 by_cases c2 : g.nn < 1 ∨ 1000001 < g.nn ∨ g.ne < 1 ∨ 1000001 < g.ne
 ·rw [if_pos c2] at h; simp at h
 rw [if_neg c2] at h
 by_cases c3 : XZ g.nn none g.nodes ≠ 0
 ·rw [if_pos c3] at h; exact absurd h c3
 rw [if_neg c3] at h
 have c3 : XZ g.nn none g.nodes = 0 := by simpa using c3
 have hn := X01 _ _ c3
 have he := X1G _ _ h
 refine ⟨by omega, by omega, fun n q => ?_, fun e q => ?_⟩
 ·obtain ⟨h1, h2, h3⟩ := hn n q
  obtain ⟨⟨p1, p2⟩, p3, p4⟩ := X1U h3
  exact ⟨by omega, by omega, fun p hp => (p4 p hp).2⟩
 ·obtain ⟨h1, h2, h3, h4, h5, h6⟩ := he e q
  obtain ⟨_, p3, p4⟩ := X1U h6
  exact ⟨by omega, X4e h3, X4e h4⟩
theorem X2Y {r : Rul} {n : Nod} {v : Val} (hn : X0p n) (h : Yy r n = some v) : XF v = true := by
 unfold Yy at h
 cases hp : XU n.props r.key with
 | none => rw [hp] at h; simp at h
 | some w =>
  rw [hp] at h
  simp only at h
  split at h
  ·cases h
   obtain ⟨p, hp2, rfl⟩ := X5t hp
   exact hn.2.2 p hp2
  ·simp at h
theorem XaI {r : Rul} {l : List Nod} (hn : ∀ n ∈ l, X0p n) : ∀ h ∈ XE r l, XF h.2 = true := by
 intro h hh
 unfold XE at hh
 rw [List.mem_filterMap] at hh
 obtain ⟨n, hm, e⟩ := hh
 cases ho : Yy r n with
 | none => rw [ho] at e; simp at e
 | some v => rw [ho] at e; simp at e; subst e; exact X2Y (hn n hm) ho
def X0z (r : Rul) (a : Nod) (l : List Nod) : List (Int × Int) := l.filterMap fun b => match Yy r a, Yy r b with
 | some v, some w => if eqV v w then some (a.id, b.id) else none
 | _, _ => none
def X28 (r : Rul) : List Nod → List (Int × Int)
 | [] => []
 | a :: l => X0z r a l ++ X28 r l
def Uw (a : Int × Val) (l : List (Int × Val)) : List (Int × Int) := (l.filter fun b => eqV a.2 b.2).map fun b => (a.1, b.1)
theorem X6j (r : Rul) (a : Nod) (v : Val) (h : Yy r a = some v) : ∀ l : List Nod, X0z r a l = Uw (a.id, v) (XE r l)
 | [] => rfl
 | b :: l => by
  have ih := X6j r a v h l
  unfold X0z XE Uw at *
  rw [List.filterMap_cons, List.filterMap_cons, h]
  rw [h] at ih
  cases hb : Yy r b with
  | none => simpa using ih
  | some w =>
   simp only [Option.map_some, List.filter_cons]
   cases he : eqV v w <;> simpa [he] using ih
theorem X9h (r : Rul) (a : Nod) (h : Yy r a = none) (l : List Nod) : X0z r a l = [] := by
 unfold X0z
 rw [h]
 induction l with
 | nil => rfl
 | cons b l ih => simp
theorem X1Q (r : Rul) : ∀ l : List Nod, X28 r l = XQ (XE r l)
 | [] => rfl
 | a :: l => by
  rw [X28, X1Q r l]
  cases h : Yy r a with
  | none =>
   rw [X9h r a h]
   unfold XE
   rw [List.filterMap_cons, h]
   rfl
  | some v =>
   rw [X6j r a v h]
   have : XE r (a :: l) = (a.id, v) :: XE r l := by unfold XE; rw [List.filterMap_cons, h]; rfl
   rw [this, XQ]
   rfl
theorem X9O {l : List (Int × Val)} {i : Nat} {a : Int × Val} (h : l[i]? = some a) : XQ (l.drop i) = Uw a (l.drop (i + 1)) ++ XQ (l.drop (i + 1)) := by
 obtain ⟨hi, rfl⟩ := List.getElem?_eq_some_iff.1 h
 rw [List.drop_eq_getElem_cons hi, XQ]
 rfl
theorem X6U {a b : Int × Val} {l : List (Int × Val)} {i : Nat} (h : l[i]? = some b) : Uw a (l.drop i) = (if eqV a.2 b.2 then [(a.1, b.1)] else []) ++ Uw a (l.drop (i + 1)) := by
 obtain ⟨hi, rfl⟩ := List.getElem?_eq_some_iff.1 h
 unfold Uw
 rw [List.drop_eq_getElem_cons hi, List.filter_cons]
 split <;> rfl
theorem X4k {r : Rul} {l : List Nod} (h : l.length ≤ 2000) : (X28 r l).length ≤ 4000000 := by
 rw [X1Q]
 have h1 := X4g (XE r l)
 have h2 := X2H r l
 have : (XE r l).length * (XE r l).length ≤ 2000 * 2000 := Nat.mul_le_mul (by omega) (by omega)
 omega
def XT (h : Int × Val) : List D := .v (.int .i64 h.1) :: Y8 h.2
theorem X7c {r : Rul} {l : List Nod} {i : Nat} {n : Nod} (h : l[i]? = some n) : XE r (l.take (i + 1)) = XE r (l.take i) ++ ((Yy r n).map fun v => (n.id, v)).toList := XbH h
theorem XaN (r : Rul) (l : List Edg) (id : Int) : Ut r l id ≤ l.length := List.countP_le_length
end Go.Fw
namespace Go.Fw
open Go
set_option linter.unusedVariables false
set_option linter.unusedSimpArgs false
theorem X4l {r : Rul} {g : Gra} (hf : GFit g) : (ofV r g).length ≤ 4000000 := by
 have h1 := hf.nl
 have h2 := hf.el
 unfold ofV
 split
 ·rw [← X1Q]; exact X4k h1
 ·split
  ·have := List.length_filter_le (fun n => XM n.labels r.name && UV r n.props) g.nodes
   simp only [YF, List.length_map]
   omega
  ·split
   ·have := List.length_filter_le (fun n => decide (r.n < (Ut r g.edges n.id : Nat))) g.nodes
    simp only [VY, YU, List.length_map]
    omega
   ·have := List.length_filter_le (fun e => decide (e.typ = r.name) && X0o r g.nodes e) g.edges
    simp only [Y3, List.length_map]
    omega
def Vs (i : Nat) (l : List (Int × Int)) : List Vio := l.map fun p => ⟨(i : Nat), p.1, p.2⟩
def Yd (f : Rul → List (Int × Int)) : Nat → List Rul → List Vio
 | _, [] => []
 | i, r :: s => Vs i (f r) ++ Yd f (i + 1) s
theorem X3j (g : Gra) : ∀ (i : Nat) (s : List Rul), X1K g i s = Yd (fun r => ofV r g) i s
 | _, [] => rfl
 | i, r :: s => by rw [X1K, Yd, X3j g (i + 1) s]; rfl
theorem Xbk {f : Rul → List (Int × Int)} {s : List Rul} {i : Nat} {r : Rul} (h : s[i]? = some r) : Yd f i (s.drop i) = Vs i (f r) ++ Yd f (i + 1) (s.drop (i + 1)) := by
 obtain ⟨hi, rfl⟩ := List.getElem?_eq_some_iff.1 h
 rw [List.drop_eq_getElem_cons hi, Yd]
theorem X51 {f : Rul → List (Int × Int)} (h : ∀ r, (f r).length ≤ 4000000) : ∀ (i : Nat) (s : List Rul), (Yd f i s).length ≤ s.length * 4000000
 | _, [] => by simp [Yd]
 | i, r :: s => by
  have h1 := h r
  have h2 := X51 h (i + 1) s
  rw [Yd, List.length_append, Vs, List.length_map, List.length_cons, Nat.add_mul]
  omega
theorem X8P {i k : Nat} {l : List (Int × Int)} {p : Int × Int} (h : l[k]? = some p) : Vs i (l.drop k) = ⟨(i : Nat), p.1, p.2⟩ :: Vs i (l.drop (k + 1)) := by
 obtain ⟨hk, rfl⟩ := List.getElem?_eq_some_iff.1 h
 unfold Vs
 rw [List.drop_eq_getElem_cons hk, List.map_cons]
theorem X5f {f : Rul → List (Int × Int)} : ∀ (i : Nat) (s : List Rul), ∀ v ∈ Yd f i s, ∃ (k : Nat) (r : Rul), v.rule = ((i + k : Nat) : Int) ∧ s[k]? = some r
 | _, [], v, h => by simp [Yd] at h
 | i, r :: s, v, h => by
  rw [Yd, List.mem_append] at h
  rcases h with h | h
  ·unfold Vs at h
   rw [List.mem_map] at h
   obtain ⟨p, _, rfl⟩ := h
   exact ⟨0, r, rfl, rfl⟩
  ·obtain ⟨k, r', e, hk⟩ := X5f (i + 1) s v h
   exact ⟨k + 1, r', by rw [e]; congr 1; omega, by simpa using hk⟩
theorem X2L {f h : Rul → List (Int × Int)} : ∀ (i : Nat) (s : List Rul), (∀ r ∈ s, f r = h r) → Yd f i s = Yd h i s
 | _, [], _ => rfl
 | i, r :: s, q => by rw [Yd, Yd, q r (by simp), X2L (i + 1) s fun r hr => q r (by simp [hr])]
theorem X4z : ∀ (i : Nat) (s : List Rul), Yd (fun _ => []) i s = []
 | _, [] => rfl
 | i, r :: s => by rw [Yd, X4z (i + 1) s]; rfl
theorem X5I {r : Rul} {g : Gra} : (ofS r g).length ≤ 4000000 := by
 unfold ofS
 split
 ·simp
 ·rename_i h
  exact X4l (X0q (by
   by_cases q : XC g = 0
   ·exact q
   ·exact absurd (.inr q) h))
theorem X3J {s : List Rul} {g : Gra} (h : Uj s = true) : Yl s g = Yd (fun r => ofS r g) 0 s := by
 unfold Yl
 by_cases q : XC g = 0
 ·rw [if_neg (by simp [h, q]), X3j]
  refine X2L 0 s fun r hr => ?_
  have := ((X1J h).2 r hr).1
  unfold ofS
  rw [if_neg (by simp [this, q])]
 ·rw [if_pos (.inr q)]
  have : (fun r => ofS r g) = fun _ => [] := by
   funext r
   unfold ofS
   rw [if_pos (.inr q)]
  rw [this, X4z]
theorem X2p {s : List Rul} {g : Gra} (h : Uj s = true) (q : XC g = 0) : Yl s g = Yd (fun r => ofV r g) 0 s := by
 unfold Yl
 rw [if_neg (by simp [h, q]), X3j]
theorem X9n {s : List Rul} {g : Gra} {v : Vio} {r : List Vio} (h : Yl s g = v :: r) : ∃ (k : Nat) (x : Rul), v.rule = (k : Nat) ∧ s[k]? = some x ∧ VM s g = X00 x.kind := by
 have hm : v ∈ Yl s g := by rw [h]; simp
 have hs : Uj s = true := by
  cases hs : Uj s with
  | true => rfl
  | false => unfold Yl at hm; rw [if_pos (.inl hs)] at hm; simp at hm
 rw [X3J hs] at hm
 obtain ⟨k, x, e, hk⟩ := X5f 0 s v hm
 rw [Nat.zero_add] at e
 refine ⟨k, x, e, hk, ?_⟩
 unfold VM
 rw [h]
 simp only
 rw [e, Int.toNat_natCast, hk]
theorem Xay {s : List Rul} {g : Gra} (h : Yl s g = []) : VM s g = 0 := by unfold VM; rw [h]
theorem X59 {s : List Rul} {g : Gra} : (Yl s g).length ≤ 160000000 := by
 cases hs : Uj s with
 | false => unfold Yl; rw [if_pos (.inl hs)]; simp
 | true =>
  rw [X3J hs]
  have h1 := X51 (f := fun r => ofS r g) (fun r => X5I) 0 s
  have h2 := (X1J hs).1
  have : s.length * 4000000 ≤ 40 * 4000000 := Nat.mul_le_mul_right _ h2
  omega
end Go.Fw
namespace Go.Fw
open Go Go.Proofs
set_option maxRecDepth 100000
set_option linter.unusedVariables false
set_option linter.unusedSimpArgs false
theorem X7m (r : Rul) (g : Gra) (hf : GFit g) : Con Tryz.prog 126 [] [Y0 r, Xp g] [] (.d (.sl 2 ((YF r g.nodes).map Xf))) := by
 refine X9 (xs := [.d (.sl 2 ((YF r g.nodes).map Xf))]) Tryz.func126 rfl Tryz.ntmps126 rfl rfl rfl (fun E => ?_)
 obtain ⟨ns, es, nn, ne⟩ := g
 have hbr := fun l hl => X1v r l hl
 obtain ⟨rk, rn, rname, rkey, rsrc, rdst⟩ := r
 have hnl := hf.nl
 have hfn := hf.nodes
 clear hf
 unfold Xp
 simp only [Y0] at hnl hfn hbr ⊢
 generalize hR : (Rul.mk rk rn rname rkey rsrc rdst) = R at *
 have hRn : R.name = rname := by rw [← hR]
 refine X0 ?_; refine JR ?_; refine ZA (γ := 100) ?_; refine ZA (γ := 101) ?_; refine Z0 ?_; refine JD ?_; refine X0 ?_; refine JR ?_; refine Z0 ?_; refine JD ?_; refine X0 ?_; refine X0 ?_
 refine JR ?_; refine ZB ?_; refine ZC ?_; refine Zd ?_; refine Z1 ?_; refine JD ?_; refine X4 ?_
 refine XV (V0 5 130 2 rfl rfl rfl) ?_
 refine Xs (fun i : Nat => i ≤ ns.length) (fun i => ⟨33, [(2, .ptr 100 0), (3, .ptr 101 0), (5, .own 130 ((YF R (ns.take i)).map Xf).length), (9, .d (.sl 3 (ns.map X8))), (10, ai (ns.map X8).length), (11, ai i)], [(100, .box [ai rk, ai rn, Xt rname, Xt rkey, Xt rsrc, Xt rdst]), (101, .box [.d (.sl 3 (ns.map X8)), .d (.sl 5 (es.map Xi)), ai nn, ai ne]), (130, .row 2 ((YF R (ns.take i)).map Xf))]⟩) (fun i => ns.length - i) 0 (Nat.zero_le _)
  (X7 rfl JM ⟨rfl, rfl, rfl, trivial⟩) ?_
 intro i hi
 by_cases hil : i < ns.length
 case neg =>
  obtain rfl : i = ns.length := by omega
  have hn : ¬ ((ns.length : Nat) : Int) < (ns.map X8).length := by rw [List.length_map]; omega
  rw [List.take_length]
  refine X0 ?_; refine JR ?_; refine Z8 ?_; refine JD ?_; refine X0 ?_; refine JF ?_; refine Xo ?_; refine X0 ?_; refine JR ?_; refine Z1 ?_; refine Z0 ?_; refine JD ?_
  refine XV (Up 130 rfl) ?_
  refine XV (Uo 4 130 rfl rfl rfl) ?_
  (show AWP Tryz.prog E _ _ _; refine X1 ?_; exact (show Xk _ _ _ _ _ from ⟨_, St.le_refl _, ⟨rfl, trivial⟩, X2 _⟩))
 have hn : (i : Int) < (ns.map X8).length := by rw [List.length_map]; omega
 obtain ⟨x, hx⟩ := Xm (l := ns) hil
 have hxc : (ns.map X8)[i]? = some (X8 x) := Xr hx
 obtain ⟨f1, f2, f3⟩ := hfn x (List.mem_of_getElem? hx)
 have hroom : ((YF R (ns.take i)).map Xf).length ≤ 2000 := by
  have := List.length_filter_le (fun n => XM n.labels R.name && UV R n.props) (ns.take i)
  simp only [YF, List.length_map, List.length_take] at this ⊢
  omega
 have hst : YF R (ns.take (i + 1)) = YF R (ns.take i) ++ if XM x.labels R.name && UV R x.props then [(x.id, 0)] else [] := X2r hx
 have h1 := X3l x rname (by omega)
 have h2 := hbr x.props (by omega)
 rw [hRn] at hst
 generalize XM x.labels rname = b1 at *
 generalize UV R x.props = b2 at *
 obtain ⟨xid, labels, props⟩ := x
 simp only [X8] at hxc h1 h2 hst
 clear hx hbr hR hRn hfn f1 f2 f3
 cases b1 with
 | false =>
  have hst := hst.trans (show _ = YF R (ns.take i) by simp)
  refine X0 ?_; refine JR ?_; refine Z8 ?_; refine JD ?_; refine X0 ?_; refine JT ?_; refine X3 ?_; refine X0 ?_; refine X4 ?_; refine X0 ?_; refine JR ?_; refine Zj ?_; refine ZK ?_
  refine Zw (γ := 102) ?_; refine Zy ?_; refine JD ?_; refine X0 ?_; refine JR ?_; refine ZL ?_; refine ZB ?_; refine ZC ?_; refine Z9 (hcon := h1) ?_; refine Z1 ?_; refine Zo ?_; refine Zo ?_; refine Zo ?_
  refine Zo ?_; refine Zq ?_; refine JD ?_; refine JF ?_; refine X3 ?_; refine JR ?_; refine Zb ?_; refine Z1 ?_; refine JD ?_
  refine ⟨i + 1, hil, by omega, ?_⟩
  dsimp only
  rw [hst]
  exact X7 rfl JM ⟨rfl, rfl, rfl, trivial⟩
 | true =>
  cases b2 with
  | false =>
   have hst := hst.trans (show _ = YF R (ns.take i) by simp)
   refine X0 ?_; refine JR ?_; refine Z8 ?_; refine JD ?_; refine X0 ?_; refine JT ?_; refine X3 ?_; refine X0 ?_; refine X4 ?_; refine X0 ?_; refine JR ?_; refine Zj ?_; refine ZK ?_
   refine Zw (γ := 102) ?_; refine Zy ?_; refine JD ?_; refine X0 ?_; refine JR ?_; refine ZL ?_; refine ZB ?_; refine ZC ?_; refine Z9 (hcon := h1) ?_; refine Z1 ?_; refine ZL ?_; refine ZB ?_; refine ZC ?_
   refine Z9 (hcon := h2) ?_; refine Zn ?_; refine JD ?_; refine JF ?_; refine X3 ?_; refine JR ?_; refine Zb ?_; refine Z1 ?_; refine JD ?_
   refine ⟨i + 1, hil, by omega, ?_⟩
   dsimp only
   rw [hst]
   exact X7 rfl JM ⟨rfl, rfl, rfl, trivial⟩
  | true =>
   have hst : YF R (ns.take (i + 1)) = YF R (ns.take i) ++ [(xid, 0)] := hst
   have happ : (YF R (ns.take i) ++ [(xid, (0 : Int))]).map Xf = (YF R (ns.take i)).map Xf ++ [Xf (xid, 0)] := by simp
   refine X0 ?_; refine JR ?_; refine Z8 ?_; refine JD ?_; refine X0 ?_; refine JT ?_; refine X3 ?_; refine X0 ?_; refine X4 ?_; refine X0 ?_; refine JR ?_; refine Zj ?_; refine ZK ?_
   refine Zw (γ := 102) ?_; refine Zy ?_; refine JD ?_; refine X0 ?_; refine JR ?_; refine ZL ?_; refine ZB ?_; refine ZC ?_; refine Z9 (hcon := h1) ?_; refine Z1 ?_; refine ZL ?_; refine ZB ?_; refine ZC ?_
   refine Z9 (hcon := h2) ?_; refine Zn ?_; refine JD ?_; refine JT ?_; refine JR ?_; refine Z1 ?_; refine ZB ?_; refine ZC ?_; refine Zx ?_; refine Z5 ?_; refine Z6 ?_; refine Z0 ?_; refine JD ?_; refine JR ?_
   refine Zb ?_; refine Z1 ?_; refine JD ?_
   refine ⟨i + 1, hil, by omega, ?_⟩
   dsimp only
   rw [hst, happ]
   exact X7 rfl ⟨JL, JL, AVal.le_of_eq (by refine Eq.trans (b := AVal.own 130 (_ + _)) rfl ?_; simp only [List.length_append, List.length_map, List.length_cons, List.length_nil]), JL, JL, JL, trivial⟩ ⟨rfl, rfl, rfl, trivial⟩
end Go.Fw
