/- Labels and properties looked up. -/
import Derived.Test.YtbhleedlnaakkaaK15
import Derived.Test.YtbhleedlnaakkaaK16
set_option maxHeartbeats 32000000
namespace Go.Fw
open Go Go.Proofs
set_option maxRecDepth 100000
set_option linter.unusedVariables false
set_option linter.unusedSimpArgs false
def YS : List (List UInt8) → List UInt8 → Nat → Int
 | [], _, _ => -1
 | x :: r, s, i => if s = x then (i : Int) else YS r s (i + 1)
theorem X8u {l : List (List UInt8)} {s : List UInt8} {i : Nat} {x : List UInt8} (h : l[i]? = some x) : YS (l.drop i) s i = if s = x then (i : Int) else YS (l.drop (i + 1)) s (i + 1) := by
 obtain ⟨hi, rfl⟩ := List.getElem?_eq_some_iff.1 h
 rw [List.drop_eq_getElem_cons hi, YS]
theorem X4m : ∀ (l : List (List UInt8)) (s : List UInt8) (i : Nat), decide (0 ≤ YS l s i) = Yp l s
 | [], s, i => by simp [YS, Yp]
 | x :: r, s, i => by
  rw [YS, Yp, List.any_cons]
  by_cases h : s = x
  ·simp [h]
  ·have := X4m r s (i + 1)
   unfold Yp at this
   simp [h, this]
theorem X4X (l : List (List UInt8)) (s : List UInt8) (hl : l.length ≤ 9223372036854775807) : Con Try.prog 56 [] [.d (.sl 1 (l.map Xo)), Xu s] [] (ai (YS l s 0)) := by
 refine Xf (xs := [ai (YS l s 0)]) Try.func56 rfl Try.ntmps56 rfl rfl rfl (fun E => ?_)
 generalize hG : YS l s 0 = G
 refine X0 ?_; refine JR ?_; refine Z0 ?_; refine JD ?_; refine X0 ?_; refine X0 ?_; refine JR ?_; refine Z1 ?_; refine Zw ?_; refine Z1 ?_; refine JD ?_; refine X4 ?_
 refine XD (fun i : Nat => i ≤ l.length ∧ YS (l.drop i) s i = G) (fun i => ⟨19, [(0, .d (.sl 1 (l.map Xo))), (1, Xu s), (7, ai (l.map Xo).length), (8, ai i)], []⟩) (fun i => l.length - i) 0 ⟨Nat.zero_le _, by simpa using hG⟩
  (X8 rfl JM trivial) ?_
 rintro i ⟨hi, hg⟩
 by_cases hil : i < l.length
 case neg =>
  have hn : ¬ (i : Int) < (l.map Xo).length := by rw [List.length_map]; omega
  rw [List.drop_of_length_le (by omega), YS] at hg
  subst hg
  refine X0 ?_; refine JR ?_; refine Ze ?_; refine JD ?_; refine X0 ?_; refine JF ?_; refine Xz ?_; refine X0 ?_; refine JR ?_; refine Z0 ?_; refine JD ?_
  exact X1 ⟨_, St.le_refl _, ⟨rfl, trivial⟩, X2 _⟩
 have hn : (i : Int) < (l.map Xo).length := by rw [List.length_map]; omega
 obtain ⟨x, hx⟩ := Xs (l := l) hil
 have hxc : (l.map Xo)[i]? = some (Xo x) := Xw hx
 rw [X8u hx] at hg
 by_cases hq : s = x
 ·rw [if_pos hq] at hg
  subst hg
  refine X0 ?_; refine JR ?_; refine Ze ?_; refine JD ?_; refine X0 ?_; refine JT ?_; refine X3 ?_; refine X0 ?_; refine X4 ?_; refine X0 ?_; refine JR ?_; refine Z1 ?_; refine Z0 ?_
  refine JD ?_; refine X0 ?_; refine JR ?_; refine Z1 ?_; refine Z1 ?_; refine Z1 ?_; refine Zy ?_; refine ZC ?_; refine Z8 ?_; refine JD ?_; refine JT ?_; refine X0 ?_; refine JR ?_; refine Z1 ?_; refine Z0 ?_
  refine JD ?_
  exact X1 ⟨_, St.le_refl _, ⟨rfl, trivial⟩, X2 _⟩
 rw [if_neg hq] at hg
 refine X0 ?_; refine JR ?_; refine Ze ?_; refine JD ?_; refine X0 ?_; refine JT ?_; refine X3 ?_; refine X0 ?_; refine X4 ?_; refine X0 ?_; refine JR ?_; refine Z1 ?_; refine Z0 ?_
 refine JD ?_; refine X0 ?_; refine JR ?_; refine Z1 ?_; refine Z1 ?_; refine Z1 ?_; refine Zy ?_; refine ZC ?_; refine Z8 ?_; refine JD ?_; refine JF ?_; refine X3 ?_; refine JR ?_; refine Zf ?_; refine Z1 ?_
 refine JD ?_
 exact ⟨i + 1, ⟨by omega, hg⟩, by omega, X8 rfl JM trivial⟩
theorem X91 (l : List (List UInt8)) (s : List UInt8) (hl : l.length ≤ 9223372036854775807) : Con Try.prog 52 [] [.d (.sl 1 (l.map Xo)), Xu s] [] (ab (Yp l s)) := by
 refine Xf (xs := [ab (Yp l s)]) Try.func52 rfl Try.ntmps52 rfl rfl rfl (fun E => ?_)
 have hi := X4X l s hl
 rw [← X4m l s 0]
 generalize YS l s 0 = q at *
 refine X0 ?_; refine JR ?_; refine Z0 ?_; refine JD ?_; refine X0 ?_; refine JR ?_; refine Z1 ?_; refine Z1 ?_; refine Zc (hcon := hi) ?_; refine Z2 ?_; refine Z0 ?_; refine JD ?_
 exact X1 ⟨_, St.le_refl _, ⟨rfl, trivial⟩, X2 _⟩
theorem X1e (n : Nod) (s : List UInt8) (hl : n.labels.length ≤ 9223372036854775807) : Con Try.prog 44 [] [.agg [ai n.id, .d (.sl 1 (n.labels.map Xo)), .d (.sl 6 (n.props.map Xi))], Xu s] [] (ab (Yp n.labels s)) := by
 refine Xf (xs := [ab (Yp n.labels s)]) Try.func44 rfl Try.ntmps44 rfl rfl rfl (fun E => ?_)
 have hc := X91 n.labels s hl
 generalize Yp n.labels s = q at *
 refine X0 ?_; refine JR ?_; refine Zn (γ := 100) ?_; refine Z0 ?_; refine JD ?_; refine X0 ?_; refine JR ?_; refine Zo ?_; refine Zp ?_; refine Z1 ?_; refine Zc (hcon := hc) ?_; refine Z0 ?_; refine JD ?_
 exact X1 ⟨_, St.le_refl _, ⟨rfl, trivial⟩, X2 _⟩
theorem X2k (l : List Prp) (key : List UInt8) (hl : l.length ≤ 9223372036854775807) : Con Try.prog 43 [] [.d (.sl 6 (l.map Xi)), Xu key] [] (.tup [XS ((Ye l key).getD zV), ab (Ye l key).isSome]) := by
 refine Xf (xs := [XS ((Ye l key).getD zV), ab (Ye l key).isSome]) Try.func43 rfl Try.ntmps43 rfl rfl rfl (fun E => ?_)
 generalize hG : Ye l key = G
 refine X0 ?_; refine JR ?_; refine Zh (γ := 100) ?_; refine Z0 ?_; refine JD ?_; refine X0 ?_; refine X0 ?_; refine JR ?_; refine Z1 ?_; refine Zw ?_; refine Z1 ?_; refine JD ?_; refine X4 ?_
 refine XD (fun i : Nat => i ≤ l.length ∧ Ye (l.drop i) key = G) (fun i => ⟨22, [(1, Xu key), (4, .ptr 100 0), (8, .d (.sl 6 (l.map Xi))), (9, ai (l.map Xi).length), (10, ai i)], [(100, .box [ai 0, ai 0, ai 0, Xu [], ani])]⟩) (fun i => l.length - i) 0 ⟨Nat.zero_le _, by simpa using hG⟩
  (X8 rfl JM ⟨rfl, trivial⟩) ?_
 rintro i ⟨hi, hg⟩
 by_cases hil : i < l.length
 case neg =>
  have hn : ¬ (i : Int) < (l.map Xi).length := by rw [List.length_map]; omega
  rw [List.drop_of_length_le (by omega), Ye] at hg
  subst hg
  simp only [Option.getD_none, Option.isSome_none, zV, XS]
  refine X0 ?_; refine JR ?_; refine Ze ?_; refine JD ?_; refine X0 ?_; refine JF ?_; refine Xz ?_; refine X0 ?_; refine JR ?_; refine Zj ?_; refine Zk ?_; refine Z0 ?_; refine JD ?_
  (show AWP Try.prog E _ _ _; refine X1 ?_; exact (show Xj _ _ _ _ _ from ⟨_, X1E 100 (cs' := [ai 0, ai 0, ai 0, Xu [], .d (.sl 5 [])]) rfl JM rfl, ⟨⟨100, 0, _, rfl, rfl, .inr ⟨5, _, rfl, rfl, rfl, rfl⟩⟩, rfl, trivial⟩, X2 _⟩))
 have hn : (i : Int) < (l.map Xi).length := by rw [List.length_map]; omega
 obtain ⟨x, hx⟩ := Xs (l := l) hil
 have hxc : (l.map Xi)[i]? = some (Xi x) := Xw hx
 rw [X5v hx] at hg
 obtain ⟨xkey, ⟨vk, vn, vd, vs, vl⟩⟩ := x
 simp only [Xi, Y9] at hxc hg
 clear hx
 by_cases hq : xkey = key
 ·rw [if_pos hq] at hg
  subst hg
  simp only [Option.getD_some, Option.isSome_some, XS]
  refine X0 ?_; refine JR ?_; refine Ze ?_; refine JD ?_; refine X0 ?_; refine JT ?_; refine X3 ?_; refine X0 ?_; refine X4 ?_; refine X0 ?_; refine JR ?_; refine Zy ?_; refine Zz ?_
  refine Zh (γ := 101) ?_; refine Zk ?_; refine JD ?_; refine X0 ?_; refine JR ?_; refine Zo ?_; refine Zp ?_; refine Z1 ?_; refine Z8 ?_; refine JD ?_; refine JT ?_; refine X0 ?_; refine JR ?_; refine Zo ?_
  refine ZD ?_; refine Zk ?_; refine Z0 ?_; refine JD ?_
  (show AWP Try.prog E _ _ _; refine X1 ?_; exact (show Xj _ _ _ _ _ from ⟨_, St.le_refl _, ⟨⟨100, 0, _, rfl, rfl, .inr ⟨5, _, rfl, rfl, rfl, rfl⟩⟩, rfl, trivial⟩, X2 _⟩))
 rw [if_neg hq] at hg
 refine X0 ?_; refine JR ?_; refine Ze ?_; refine JD ?_; refine X0 ?_; refine JT ?_; refine X3 ?_; refine X0 ?_; refine X4 ?_; refine X0 ?_; refine JR ?_; refine Zy ?_; refine Zz ?_
 refine Zh (γ := 101) ?_; refine Zk ?_; refine JD ?_; refine X0 ?_; refine JR ?_; refine Zo ?_; refine Zp ?_; refine Z1 ?_; refine Z8 ?_; refine JD ?_; refine JF ?_; refine X3 ?_; refine JR ?_; refine Zf ?_
 refine Z1 ?_; refine JD ?_
 exact ⟨i + 1, ⟨by omega, hg⟩, by omega, X8 rfl JM ⟨rfl, trivial⟩⟩
theorem X12 (r : Rul) (l : List Prp) (hl : l.length ≤ 9223372036854775807) : Con Try.prog 46 [] [XA r, .d (.sl 6 (l.map Xi))] [] (ab (Uo r l)) := by
 refine Xf (xs := [ab (Uo r l)]) Try.func46 rfl Try.ntmps46 rfl rfl rfl (fun E => ?_)
 obtain ⟨rk, rn, rname, rkey, rsrc, rdst⟩ := r
 have hp := X2k l rkey hl
 unfold Uo
 simp only [XA] at hp ⊢
 generalize Ye l rkey = G at *
 cases G with
 | none =>
  simp only [Option.getD_none, Option.isSome_none, Option.isNone_none, zV, XS] at hp ⊢
  by_cases h1 : rk = 2
  ·rw [if_pos (.inl h1)]
   refine X0 ?_; refine JR ?_; refine Zn (γ := 100) ?_; refine Z0 ?_; refine JD ?_; refine X0 ?_; refine JR ?_; refine Z1 ?_; refine Zo ?_; refine Zp ?_; refine Zc (hcon := hp) ?_; refine Z1 ?_; refine Zs ?_
   refine Zs ?_; refine Zh (γ := 101) ?_; refine Zk ?_; refine Z0 ?_; refine JD ?_; refine X0 ?_; refine X0 ?_; refine JR ?_; refine Zo ?_; refine Zp ?_; refine Zi ?_; refine Z1 ?_; refine Z5 ?_; refine Z5 ?_
   refine Z5 ?_; refine Z4 ?_; refine JD ?_; refine JT ?_; refine X0 ?_; refine JR ?_; refine Z1 ?_; refine Zd ?_; refine Z0 ?_; refine JD ?_
   (show AWP Try.prog E _ _ _; refine X1 ?_; exact (show Xj _ _ _ _ _ from ⟨_, St.le_refl _, ⟨rfl, trivial⟩, X2 _⟩))
  by_cases h2 : rk = 4
  ·rw [if_pos (.inr h2)]
   refine X0 ?_; refine JR ?_; refine Zn (γ := 100) ?_; refine Z0 ?_; refine JD ?_; refine X0 ?_; refine JR ?_; refine Z1 ?_; refine Zo ?_; refine Zp ?_; refine Zc (hcon := hp) ?_; refine Z1 ?_; refine Zs ?_
   refine Zs ?_; refine Zh (γ := 101) ?_; refine Zk ?_; refine Z0 ?_; refine JD ?_; refine X0 ?_; refine X0 ?_; refine JR ?_; refine Zo ?_; refine Zp ?_; refine Zi ?_; refine Z1 ?_; refine Zo ?_; refine Zp ?_
   refine Zi ?_; refine Z7 ?_; refine JD ?_; refine JT ?_; refine X0 ?_; refine JR ?_; refine Z1 ?_; refine Zd ?_; refine Z0 ?_; refine JD ?_
   (show AWP Try.prog E _ _ _; refine X1 ?_; exact (show Xj _ _ _ _ _ from ⟨_, St.le_refl _, ⟨rfl, trivial⟩, X2 _⟩))
  rw [if_neg (fun h => h.elim h1 h2)]
  refine X0 ?_; refine JR ?_; refine Zn (γ := 100) ?_; refine Z0 ?_; refine JD ?_; refine X0 ?_; refine JR ?_; refine Z1 ?_; refine Zo ?_; refine Zp ?_; refine Zc (hcon := hp) ?_; refine Z1 ?_; refine Zs ?_
  refine Zs ?_; refine Zh (γ := 101) ?_; refine Zk ?_; refine Z0 ?_; refine JD ?_; refine X0 ?_; refine X0 ?_; refine JR ?_; refine Zo ?_; refine Zp ?_; refine Zi ?_; refine Z1 ?_; refine Zo ?_; refine Zp ?_
  refine Zi ?_; refine Z7 ?_; refine JD ?_; refine JF ?_; refine X3 ?_; refine X0 ?_; refine JR ?_; refine Z1 ?_; refine Z1 ?_; refine Z5 ?_; refine Z5 ?_; refine Z5 ?_; refine Z5 ?_; refine Z5 ?_; refine Z7 ?_
  refine Z0 ?_; refine JD ?_
  (show AWP Try.prog E _ _ _; refine X1 ?_; exact (show Xj _ _ _ _ _ from ⟨_, St.le_refl _, ⟨rfl, trivial⟩, X2 _⟩))
 | some v =>
  obtain ⟨vk, vn, vd, vs, vl⟩ := v
  simp only [Option.getD_some, Option.isSome_some, Option.isNone_some, XS, Val.kind] at hp ⊢
  by_cases h1 : rk = 2
  ·rw [if_pos (.inl h1)]
   refine X0 ?_; refine JR ?_; refine Zn (γ := 100) ?_; refine Z0 ?_; refine JD ?_; refine X0 ?_; refine JR ?_; refine Z1 ?_; refine Zo ?_; refine Zp ?_; refine Zc (hcon := hp) ?_; refine Z1 ?_; refine Zs ?_
   refine Zs ?_; refine Zh (γ := 101) ?_; refine Zk ?_; refine Z0 ?_; refine JD ?_; refine X0 ?_; refine X0 ?_; refine JR ?_; refine Zo ?_; refine Zp ?_; refine Zi ?_; refine Z1 ?_; refine Z5 ?_; refine Z5 ?_
   refine Z5 ?_; refine Z4 ?_; refine JD ?_; refine JT ?_; refine X0 ?_; refine JR ?_; refine Z1 ?_; refine Zd ?_; refine Z0 ?_; refine JD ?_
   (show AWP Try.prog E _ _ _; refine X1 ?_; exact (show Xj _ _ _ _ _ from ⟨_, St.le_refl _, ⟨rfl, trivial⟩, X2 _⟩))
  by_cases h2 : rk = 4
  ·rw [if_pos (.inr h2)]
   refine X0 ?_; refine JR ?_; refine Zn (γ := 100) ?_; refine Z0 ?_; refine JD ?_; refine X0 ?_; refine JR ?_; refine Z1 ?_; refine Zo ?_; refine Zp ?_; refine Zc (hcon := hp) ?_; refine Z1 ?_; refine Zs ?_
   refine Zs ?_; refine Zh (γ := 101) ?_; refine Zk ?_; refine Z0 ?_; refine JD ?_; refine X0 ?_; refine X0 ?_; refine JR ?_; refine Zo ?_; refine Zp ?_; refine Zi ?_; refine Z1 ?_; refine Zo ?_; refine Zp ?_
   refine Zi ?_; refine Z7 ?_; refine JD ?_; refine JT ?_; refine X0 ?_; refine JR ?_; refine Z1 ?_; refine Zd ?_; refine Z0 ?_; refine JD ?_
   (show AWP Try.prog E _ _ _; refine X1 ?_; exact (show Xj _ _ _ _ _ from ⟨_, St.le_refl _, ⟨rfl, trivial⟩, X2 _⟩))
  rw [if_neg (fun h => h.elim h1 h2)]
  refine X0 ?_; refine JR ?_; refine Zn (γ := 100) ?_; refine Z0 ?_; refine JD ?_; refine X0 ?_; refine JR ?_; refine Z1 ?_; refine Zo ?_; refine Zp ?_; refine Zc (hcon := hp) ?_; refine Z1 ?_; refine Zs ?_
  refine Zs ?_; refine Zh (γ := 101) ?_; refine Zk ?_; refine Z0 ?_; refine JD ?_; refine X0 ?_; refine X0 ?_; refine JR ?_; refine Zo ?_; refine Zp ?_; refine Zi ?_; refine Z1 ?_; refine Zo ?_; refine Zp ?_
  refine Zi ?_; refine Z7 ?_; refine JD ?_; refine JF ?_; refine X3 ?_; refine X0 ?_; refine JR ?_; refine Z1 ?_; refine Z1 ?_; refine Zo ?_; refine Zp ?_; refine Zo ?_; refine Zp ?_; refine Zg ?_; refine Z4 ?_
  refine Z0 ?_; refine JD ?_
  (show AWP Try.prog E _ _ _; refine X1 ?_; exact (show Xj _ _ _ _ _ from ⟨_, St.le_refl _, ⟨rfl, trivial⟩, X2 _⟩))
end Go.Fw
namespace Go.Fw
open Go Go.Proofs
set_option maxRecDepth 100000
set_option linter.unusedVariables false
set_option linter.unusedSimpArgs false
theorem X5h (xs : List (List D)) (hl : xs.length ≤ 100000) : Con Try.prog 60 [] [.d (.sl 1 xs)] [] (.d (.sl 1 xs)) := by
 refine Xf (xs := [.d (.sl 1 xs)]) Try.func60 rfl Try.ntmps60 rfl rfl rfl (fun E => ?_)
 refine X0 ?_; refine JR ?_; refine Z0 ?_; refine JD ?_; refine X0 ?_; refine X0 ?_; refine JR ?_; refine Z1 ?_; refine ZM ?_; refine JD ?_
 refine X26 rfl (fun h => ?_) (fun _ => ?_)
 ·subst h
  refine X0 ?_; refine JR ?_; refine Z0 ?_; refine JD ?_
  refine X1 ?_
  exact ⟨_, Xn 2 (AVal.le_nil 1), ⟨rfl, trivial⟩, X2 _⟩
 ·refine X3 ?_; refine X0 ?_; refine JR ?_; refine ZN (len := 0) (γ := 100) ?_; refine Z1 ?_; refine ZG ?_; refine Z0 ?_; refine JD ?_
  refine X1 ?_
  exact ⟨_, St.le_trans (U0 100 rfl) (U3 2 100 rfl rfl (by simp)), ⟨rfl, trivial⟩, X2 _⟩
theorem X6t (xs : List (List D)) (hl : xs.length ≤ 100000) : Con Try.prog 72 [] [.d (.sl 5 xs)] [] (.d (.sl 5 xs)) := by
 refine Xf (xs := [.d (.sl 5 xs)]) Try.func72 rfl Try.ntmps72 rfl rfl rfl (fun E => ?_)
 refine X0 ?_; refine JR ?_; refine Z0 ?_; refine JD ?_; refine X0 ?_; refine X0 ?_; refine JR ?_; refine Z1 ?_; refine ZM ?_; refine JD ?_
 refine X26 rfl (fun h => ?_) (fun _ => ?_)
 ·subst h
  refine X0 ?_; refine JR ?_; refine Z0 ?_; refine JD ?_
  refine X1 ?_
  exact ⟨_, Xn 2 (AVal.le_nil 5), ⟨rfl, trivial⟩, X2 _⟩
 ·refine X3 ?_; refine X0 ?_; refine JR ?_; refine ZN (len := 0) (γ := 100) ?_; refine Z1 ?_; refine ZG ?_; refine Z0 ?_; refine JD ?_
  refine X1 ?_
  exact ⟨_, St.le_trans (U0 100 rfl) (U3 2 100 rfl rfl (by simp)), ⟨rfl, trivial⟩, X2 _⟩
theorem X5O (xs : List (List D)) (hl : xs.length ≤ 100000) : Con Try.prog 68 [] [.d (.sl 6 xs)] [(130, .row 6 xs)] (.own 130 xs.length) := by
 have h : Con Try.prog 68 [] [.d (.sl 6 xs)] [(100, .row 6 xs)] (.own 100 xs.length) := by
  refine Xf (xs := [.own 100 xs.length]) Try.func68 rfl Try.ntmps68 rfl rfl rfl (fun E => ?_)
  refine X0 ?_; refine JR ?_; refine Z0 ?_; refine JD ?_; refine X0 ?_; refine X0 ?_; refine JR ?_; refine Z1 ?_; refine ZM ?_; refine JD ?_
  refine X26 rfl (fun h => ?_) (fun _ => ?_)
  ·subst h
   refine X0 ?_; refine JR ?_; refine Z0 ?_; refine JD ?_
   refine X1 ?_
   exact ⟨_, Ut 2 100 6 rfl rfl rfl, ⟨rfl, trivial⟩, Vi ⟨rfl, trivial⟩⟩
  ·refine X3 ?_; refine X0 ?_; refine JR ?_; refine ZN (len := 0) (γ := 100) ?_; refine Z1 ?_; refine ZG ?_; refine Z0 ?_; refine JD ?_
   refine X1 ?_
   refine ⟨_, St.le_refl _, ⟨?_, trivial⟩, Vi ⟨rfl, trivial⟩⟩
   simp only [X1S]; simp [St.get, St.set, St.own, Xb]
 exact X63 100 130 h
theorem X5k (k n d : Int) (s : List UInt8) : Con Try.prog 69 [] [.agg [ai k, ai n, ai d, Xu s, .d (.sl 5 [])]] [] (.agg [ai k, ai n, ai d, Xu s, .d (.sl 5 [])]) := by
 refine Xf (xs := [.agg [ai k, ai n, ai d, Xu s, .d (.sl 5 [])]]) Try.func69 rfl Try.ntmps69 rfl rfl rfl (fun E => ?_)
 have hc := X6t [] (by simp)
 refine X0 ?_; refine JR ?_; refine Zn (γ := 100) ?_; refine Zh (γ := 101) ?_; refine JD ?_; refine X0 ?_; refine JR ?_; refine Zo ?_; refine Zp ?_; refine Zc (hcon := hc) ?_; refine Zo ?_; refine Zk ?_
 refine JD ?_; refine X0 ?_; refine X0 ?_; refine JR ?_; refine Zo ?_; refine Zp ?_; refine Zw ?_; refine Z1 ?_; refine JD ?_; refine X4 ?_
 refine XD (ι := Unit) (fun _ => True) (fun _ => ⟨26, [(1, .ptr 100 0), (2, .ptr 101 0), (10, ai 0), (11, ai 0)], [(100, .box [ai k, ai n, ai d, Xu s, .d (.sl 5 [])]), (101, .box [ai 0, ai 0, ai 0, Xu [], ani])]⟩) (fun _ => 0) () trivial
  (X8 rfl JM ⟨rfl, rfl, trivial⟩) ?_
 rintro _ _
 have hn : ¬ (0 : Int) < 0 := by omega
 refine X0 ?_; refine JR ?_; refine Ze ?_; refine JD ?_; refine X0 ?_; refine JF ?_; refine Xz ?_; refine X0 ?_; refine JR ?_; refine ZD ?_; refine Zk ?_; refine JD ?_
 (show AWP Try.prog E _ _ _; refine X1 ?_; exact (show Xj _ _ _ _ _ from ⟨_, St.le_refl _, ⟨⟨101, 0, _, rfl, rfl, .inr ⟨5, _, rfl, rfl, rfl, rfl⟩⟩, trivial⟩, X2 _⟩))
theorem X5n (l : List Prp) (hl : l.length ≤ 1000) (hp : ∀ p ∈ l, XJ p.v = true) : Con Try.prog 61 [] [.d (.sl 6 (l.map Xi))] [] (.d (.sl 6 (l.map Xi))) := by
 refine Xf (xs := [.d (.sl 6 (l.map Xi))]) Try.func61 rfl Try.ntmps61 rfl rfl rfl (fun E => ?_)
 have hlm : (l.map Xi).length = l.length := by simp
 have hc := X5O (l.map Xi) (by omega)
 refine X0 ?_; refine JR ?_; refine Z0 ?_; refine JD ?_; refine X0 ?_; refine JR ?_; refine Z1 ?_; refine Zc (hcon := hc) ?_; refine Z0 ?_; refine JD ?_; refine X0 ?_; refine X0 ?_; refine JR ?_
 refine Z1 ?_; refine ZO ?_; refine Z1 ?_; refine JD ?_; refine X4 ?_
 clear hc
 refine XD (fun i : Nat => i ≤ l.length) (fun i => ⟨24, [(3, .own 130 (l.map Xi).length), (8, ai (l.map Xi).length), (9, ai i)], [(130, .row 6 (l.map Xi))]⟩) (fun i => l.length - i) 0 (Nat.zero_le _)
  (X8 rfl JM ⟨rfl, trivial⟩) ?_
 intro i hi
 by_cases hil : i < l.length
 case neg =>
  have hn : ¬ (i : Int) < (l.map Xi).length := by omega
  refine X0 ?_; refine JR ?_; refine Ze ?_; refine JD ?_; refine X0 ?_; refine JF ?_; refine Xz ?_; refine X0 ?_; refine JR ?_; refine Z1 ?_; refine Z0 ?_; refine JD ?_
  refine XH (U0 130 rfl) ?_
  refine XH (U3 2 130 rfl rfl rfl) ?_
  (show AWP Try.prog E _ _ _; refine X1 ?_; exact (show Xj _ _ _ _ _ from ⟨_, St.le_refl _, ⟨rfl, trivial⟩, X2 _⟩))
 have hn : (i : Int) < (l.map Xi).length := by omega
 have hilm : i < (l.map Xi).length := by omega
 have h0 : 0 < (l.map Xi).length := by omega
 obtain ⟨x, hx⟩ := Xs (l := l) hil
 have hxc : (l.map Xi)[i]? = some (Xi x) := Xw hx
 have hpv := hp x (List.mem_of_getElem? hx)
 have hall : ∀ r ∈ l.map Xi, r.length = 6 := by
  intro r hr
  obtain ⟨p, _, rfl⟩ := List.mem_map.1 hr
  obtain ⟨pk, ⟨pvk, pvn, pvd, pvs, pvl⟩⟩ := p
  rfl
 have hpart := X3T hall hxc (o := 1) (q := 5) (by omega)
 have hroom : i * 6 + 1 + 5 ≤ (l.map Xi).length * 6 := by omega
 obtain ⟨key, ⟨vk, vn, vd, vs, vl⟩⟩ := x
 obtain ⟨_, _, _, rfl, _⟩ := Vv hpv
 have hys : ((l.map Xi).flatten.drop (i * 6 + 1)).take 5 = [.v (.int .i64 vk), .v (.int .i64 vn), .v (.int .i64 vd), .v (.string (X5 vs)), .sl 5 []] := by
  rw [hpart]
  simp [Xi, Y9, Yx]
 have hcv := X5k vk vn vd vs
 clear hx hxc hpart hall hpv hp
 generalize l.map Xi = L at *
 refine X0 ?_; refine JR ?_; refine Ze ?_; refine JD ?_; refine X0 ?_; refine JT ?_; refine X3 ?_; refine X0 ?_; refine X4 ?_; refine X0 ?_; refine JR ?_; refine Z1 ?_; refine Z0 ?_
 refine JD ?_; refine JR ?_; refine Z1 ?_; refine Z1 ?_; refine Z1 ?_; refine Z1 ?_; refine ZP ?_; refine ZQ ?_
 refine ZR (q := 5) (ys := [.v (.int .i64 vk), .v (.int .i64 vn), .v (.int .i64 vd), .v (.string (X5 vs)), .sl 5 []]) ?_ (hb := by exact hroom) (hys := by exact hys); refine Zc (hcon := hcv) ?_; refine ZP ?_
 refine ZQ ?_; refine ZS (q := 5) (ys := [.v (.int .i64 vk), .v (.int .i64 vn), .v (.int .i64 vd), .v (.string (X5 vs)), .sl 5 []]) ?_ (hb := by exact hroom) (hys := by exact hys); refine JD ?_; refine JR ?_
 refine Zf ?_; refine Z1 ?_; refine JD ?_
 exact ⟨i + 1, hil, by omega, X8 rfl JM ⟨rfl, trivial⟩⟩
theorem X6G (g : Gra) (id : Int) (hl : g.nodes.length ≤ 9223372036854775807) (hh : ∀ n ∈ g.nodes, VZ n) : Con Try.prog 54 [] [Xq g, ai id] [] (.tup [Uj ((Yh g.nodes id).getD V4), ab (Yh g.nodes id).isSome]) := by
 refine Xf (xs := [Uj ((Yh g.nodes id).getD V4), ab (Yh g.nodes id).isSome]) Try.func54 rfl Try.ntmps54 rfl rfl rfl (fun E => ?_)
 obtain ⟨ns, es, nn, ne⟩ := g
 unfold Xq
 simp only at hl hh ⊢
 generalize hG : Yh ns id = G
 refine X0 ?_; refine JR ?_; refine Zn (γ := 100) ?_; refine Zh (γ := 101) ?_; refine Z0 ?_; refine JD ?_; refine X0 ?_; refine X0 ?_; refine JR ?_; refine Zo ?_; refine Zp ?_; refine Zw ?_; refine Z1 ?_
 refine JD ?_; refine X4 ?_
 refine XD (fun i : Nat => i ≤ ns.length ∧ Yh (ns.drop i) id = G) (fun i => ⟨29, [(1, ai id), (2, .ptr 100 0), (4, .ptr 101 0), (9, .d (.sl 3 (ns.map Xd))), (10, ai (ns.map Xd).length), (11, ai i)], [(100, .box [.d (.sl 3 (ns.map Xd)), .d (.sl 5 (es.map Xl)), ai nn, ai ne]), (101, .box [ai 0, ani, ani])]⟩) (fun i => ns.length - i) 0 ⟨Nat.zero_le _, by simpa using hG⟩
  (X8 rfl JM ⟨rfl, rfl, trivial⟩) ?_
 rintro i ⟨hi, hg⟩
 by_cases hil : i < ns.length
 case neg =>
  have hn : ¬ (i : Int) < (ns.map Xd).length := by rw [List.length_map]; omega
  rw [List.drop_of_length_le (by omega)] at hg
  have hg : none = G := hg
  subst hg
  simp only [Option.getD_none, Option.isSome_none, V4, Uj, List.map_nil]
  refine X0 ?_; refine JR ?_; refine Ze ?_; refine JD ?_; refine X0 ?_; refine JF ?_; refine Xz ?_; refine X0 ?_; refine JR ?_; refine Zj ?_; refine Zk ?_; refine Z0 ?_; refine JD ?_
  (show AWP Try.prog E _ _ _; refine X1 ?_; exact (show Xj _ _ _ _ _ from ⟨_, X1E 101 (cs' := [ai 0, .d (.sl 1 []), .d (.sl 6 [])]) rfl JM rfl, ⟨⟨101, 0, _, rfl, rfl, .inr ⟨3, _, rfl, rfl, rfl, rfl⟩⟩, rfl, trivial⟩, X2 _⟩))
 have hn : (i : Int) < (ns.map Xd).length := by rw [List.length_map]; omega
 obtain ⟨x, hx⟩ := Xs (l := ns) hil
 have hxc : (ns.map Xd)[i]? = some (Xd x) := Xw hx
 rw [X6P hx] at hg
 obtain ⟨f1, f2, f3⟩ := hh x (List.mem_of_getElem? hx)
 obtain ⟨xid, labels, props⟩ := x
 simp only [Xd] at hxc hg f1 f2 f3
 clear hx
 by_cases hq : xid = id
 ·rw [if_pos hq] at hg
  subst hg
  subst hq
  simp only [Option.getD_some, Option.isSome_some, Uj]
  have hc1 := X5h (labels.map Xo) (by rw [List.length_map]; omega)
  have hc2 := X5n props f2 f3
  clear hh f1 f2 f3
  refine X0 ?_; refine JR ?_; refine Ze ?_; refine JD ?_; refine X0 ?_; refine JT ?_; refine X3 ?_; refine X0 ?_; refine X4 ?_; refine X0 ?_; refine JR ?_; refine Zy ?_; refine Zz ?_
  refine Zh (γ := 102) ?_; refine Zk ?_; refine JD ?_; refine X0 ?_; refine JR ?_; refine Zo ?_; refine Zp ?_; refine Z1 ?_; refine Zi ?_; refine JD ?_; refine JT ?_; refine X0 ?_; refine JR ?_; refine Z1 ?_
  refine Zo ?_; refine Zp ?_; refine Zc (hcon := hc1) ?_; refine Zo ?_; refine Zp ?_; refine Zc (hcon := hc2) ?_; refine Zj ?_; refine Zk ?_; refine Z0 ?_; refine JD ?_
  (show AWP Try.prog E _ _ _; refine X1 ?_; exact (show Xj _ _ _ _ _ from ⟨_, St.le_refl _, ⟨⟨101, 0, _, rfl, rfl, .inr ⟨3, _, rfl, rfl, rfl, rfl⟩⟩, rfl, trivial⟩, X2 _⟩))
 rw [if_neg hq] at hg
 refine X0 ?_; refine JR ?_; refine Ze ?_; refine JD ?_; refine X0 ?_; refine JT ?_; refine X3 ?_; refine X0 ?_; refine X4 ?_; refine X0 ?_; refine JR ?_; refine Zy ?_; refine Zz ?_
 refine Zh (γ := 102) ?_; refine Zk ?_; refine JD ?_; refine X0 ?_; refine JR ?_; refine Zo ?_; refine Zp ?_; refine Z1 ?_; refine Zi ?_; refine JD ?_; refine JF ?_; refine X3 ?_; refine JR ?_; refine Zf ?_
 refine Z1 ?_; refine JD ?_
 exact ⟨i + 1, ⟨by omega, hg⟩, by omega, X8 rfl JM ⟨rfl, rfl, trivial⟩⟩
theorem X5A (g : Gra) (id : Int) (label : List UInt8) (hl : g.nodes.length ≤ 9223372036854775807) (hh : ∀ n ∈ g.nodes, VZ n) : Con Try.prog 47 [] [Xq g, ai id, Xu label] [] (ab (V2 g.nodes id label)) := by
 refine Xf (xs := [ab (V2 g.nodes id label)]) Try.func47 rfl Try.ntmps47 rfl rfl rfl (fun E => ?_)
 have hc := X6G g id hl hh
 have hfit : ((Yh g.nodes id).getD V4).labels.length ≤ 9223372036854775807 := by
  cases hna : Yh g.nodes id with
  | none => simp
  | some n => have := (hh n (List.mem_of_find?_eq_some hna)).1; simp only [Option.getD_some]; omega
 have hd := X1e ((Yh g.nodes id).getD V4) label hfit
 unfold V2
 generalize (Yh g.nodes id).getD V4 = n at *
 generalize (Yh g.nodes id).isSome = b at *
 generalize Yp n.labels label = q at *
 clear hfit hh hl
 obtain ⟨ns, es, nn, ne⟩ := g
 obtain ⟨nid, nl, np⟩ := n
 unfold Xq Uj at *
 simp only at *
 by_cases hq : label = []
 ·have hq' : ¬ label ≠ [] := fun h => h hq
  rw [decide_eq_false hq', Bool.false_and]
  refine X0 ?_; refine JR ?_; refine Zn (γ := 100) ?_; refine Z0 ?_; refine JD ?_; refine X0 ?_; refine JR ?_; refine ZD ?_; refine Z1 ?_; refine Zc (hcon := hc) ?_; refine Z1 ?_; refine Zs ?_; refine Zs ?_
  refine Zh (γ := 101) ?_; refine Zk ?_; refine Z0 ?_; refine JD ?_; refine X0 ?_; refine JR ?_; refine Z1 ?_; refine ZE ?_; refine Z1 ?_; refine Z5 ?_; refine Z5 ?_; refine Z5 ?_; refine Z5 ?_; refine Z7 ?_
  refine Z0 ?_; refine JD ?_
  (show AWP Try.prog E _ _ _; refine X1 ?_; exact (show Xj _ _ _ _ _ from ⟨_, St.le_refl _, ⟨rfl, trivial⟩, X2 _⟩))
 ·have hq' : label ≠ [] := hq
  rw [decide_eq_true hq', Bool.true_and]
  refine X0 ?_; refine JR ?_; refine Zn (γ := 100) ?_; refine Z0 ?_; refine JD ?_; refine X0 ?_; refine JR ?_; refine ZD ?_; refine Z1 ?_; refine Zc (hcon := hc) ?_; refine Z1 ?_; refine Zs ?_; refine Zs ?_
  refine Zh (γ := 101) ?_; refine Zk ?_; refine Z0 ?_; refine JD ?_; refine X0 ?_; refine JR ?_; refine Z1 ?_; refine ZE ?_; refine Z1 ?_; refine ZD ?_; refine Z1 ?_; refine Zc (hcon := hd) ?_; refine Zd ?_
  refine Z4 ?_; refine Z0 ?_; refine JD ?_
  (show AWP Try.prog E _ _ _; refine X1 ?_; exact (show Xj _ _ _ _ _ from ⟨_, St.le_refl _, ⟨rfl, trivial⟩, X2 _⟩))
end Go.Fw
namespace Go.Fw
open Go
set_option linter.unusedVariables false
set_option linter.unusedSimpArgs false
theorem X3s : ∀ {l : List Prp} {key : List UInt8} {v : Val}, Ye l key = some v → ∃ p ∈ l, p.v = v
 | [], _, _, h => by simp [Ye] at h
 | p :: r, key, v, h => by
  rw [Ye] at h
  split at h
  ·exact ⟨p, by simp, by simpa using h⟩
  ·obtain ⟨q, hq, e⟩ := X3s h
   exact ⟨q, by simp [hq], e⟩
structure GFit (g : Gra) : Prop where
 nl : g.nodes.length ≤ 2000
 el : g.edges.length ≤ 4000
 nodes : ∀ n ∈ g.nodes, VZ n
 edges : ∀ e ∈ g.edges, e.props.length ≤ 1000 ∧ (Yh g.nodes e.src).isSome = true ∧ (Yh g.nodes e.dst).isSome = true
theorem X3t {l : List Nod} {n : Int} (h : XO l n = true) : (Yh l n).isSome = true := by
 unfold XO at h
 unfold Yh
 rw [List.find?_isSome]
 rw [List.any_eq_true] at h
 exact h
theorem X1i {g : Gra} (h : Ya g = 0) : GFit g := by
 have G := X5H h
 unfold Ya at h
 by_cases c1 : 2000 < g.nodes.length ∨ 4000 < g.edges.length
 ·rw [if_pos c1] at h; simp at h
 rw [if_neg c1] at h
 by_cases c2 : g.nn < 1 ∨ 1000001 < g.nn ∨ g.ne < 1 ∨ 1000001 < g.ne
 ·rw [if_pos c2] at h; simp at h
 rw [if_neg c2] at h
 by_cases c3 : Yl g.nn none g.nodes ≠ 0
 ·rw [if_pos c3] at h; exact absurd h c3
 rw [if_neg c3] at h
 have c3 : Yl g.nn none g.nodes = 0 := by simpa using c3
 have hn := X1B _ _ c3
 have he := X1a _ _ h
 refine ⟨by omega, by omega, fun n q => ?_, fun e q => ?_⟩
 ·obtain ⟨h1, h2, h3⟩ := hn n q
  obtain ⟨⟨p1, p2⟩, p3, p4⟩ := X0M h3
  exact ⟨by omega, by omega, fun p hp => (p4 p hp).2⟩
 ·obtain ⟨h1, h2, h3, h4, h5, h6⟩ := he e q
  obtain ⟨_, p3, p4⟩ := X0M h6
  exact ⟨by omega, X3t h3, X3t h4⟩
theorem X94 {r : Rul} {n : Nod} {v : Val} (hn : VZ n) (h : U2 r n = some v) : XJ v = true := by
 unfold U2 at h
 cases hp : Ye n.props r.key with
 | none => rw [hp] at h; simp at h
 | some w =>
  rw [hp] at h
  simp only at h
  split at h
  ·cases h
   obtain ⟨p, hp2, rfl⟩ := X3s hp
   exact hn.2.2 p hp2
  ·simp at h
theorem X7n {r : Rul} {l : List Nod} (hn : ∀ n ∈ l, VZ n) : ∀ h ∈ XK r l, XJ h.2 = true := by
 intro h hh
 unfold XK at hh
 rw [List.mem_filterMap] at hh
 obtain ⟨n, hm, e⟩ := hh
 cases ho : U2 r n with
 | none => rw [ho] at e; simp at e
 | some v => rw [ho] at e; simp at e; subst e; exact X94 (hn n hm) ho
def VU (r : Rul) (a : Nod) (l : List Nod) : List (Int × Int) := l.filterMap fun b => match U2 r a, U2 r b with
 | some v, some w => if eqV v w then some (a.id, b.id) else none
 | _, _ => none
def X0B (r : Rul) : List Nod → List (Int × Int)
 | [] => []
 | a :: l => VU r a l ++ X0B r l
def V0 (a : Int × Val) (l : List (Int × Val)) : List (Int × Int) := (l.filter fun b => eqV a.2 b.2).map fun b => (a.1, b.1)
theorem X2D (r : Rul) (a : Nod) (v : Val) (h : U2 r a = some v) : ∀ l : List Nod, VU r a l = V0 (a.id, v) (XK r l)
 | [] => rfl
 | b :: l => by
  have ih := X2D r a v h l
  unfold VU XK V0 at *
  rw [List.filterMap_cons, List.filterMap_cons, h]
  rw [h] at ih
  cases hb : U2 r b with
  | none => simpa using ih
  | some w =>
   simp only [Option.map_some, List.filter_cons]
   cases he : eqV v w <;> simpa [he] using ih
theorem X5U (r : Rul) (a : Nod) (h : U2 r a = none) (l : List Nod) : VU r a l = [] := by
 unfold VU
 rw [h]
 induction l with
 | nil => rfl
 | cons b l ih => simp
theorem X0y (r : Rul) : ∀ l : List Nod, X0B r l = Yt (XK r l)
 | [] => rfl
 | a :: l => by
  rw [X0B, X0y r l]
  cases h : U2 r a with
  | none =>
   rw [X5U r a h]
   unfold XK
   rw [List.filterMap_cons, h]
   rfl
  | some v =>
   rw [X2D r a v h]
   have : XK r (a :: l) = (a.id, v) :: XK r l := by unfold XK; rw [List.filterMap_cons, h]; rfl
   rw [this, Yt]
   rfl
theorem X7S {l : List (Int × Val)} {i : Nat} {a : Int × Val} (h : l[i]? = some a) : Yt (l.drop i) = V0 a (l.drop (i + 1)) ++ Yt (l.drop (i + 1)) := by
 obtain ⟨hi, rfl⟩ := List.getElem?_eq_some_iff.1 h
 rw [List.drop_eq_getElem_cons hi, Yt]
 rfl
theorem X66 {a b : Int × Val} {l : List (Int × Val)} {i : Nat} (h : l[i]? = some b) : V0 a (l.drop i) = (if eqV a.2 b.2 then [(a.1, b.1)] else []) ++ V0 a (l.drop (i + 1)) := by
 obtain ⟨hi, rfl⟩ := List.getElem?_eq_some_iff.1 h
 unfold V0
 rw [List.drop_eq_getElem_cons hi, List.filter_cons]
 split <;> rfl
theorem X3P {r : Rul} {l : List Nod} (h : l.length ≤ 2000) : (X0B r l).length ≤ 4000000 := by
 rw [X0y]
 have h1 := X3J (XK r l)
 have h2 := X1K r l
 have : (XK r l).length * (XK r l).length ≤ 2000 * 2000 := Nat.mul_le_mul (by omega) (by omega)
 omega
def XF (h : Int × Val) : List D := .v (.int .i64 h.1) :: Y9 h.2
theorem X7g {r : Rul} {l : List Nod} {i : Nat} {n : Nod} (h : l[i]? = some n) : XK r (l.take (i + 1)) = XK r (l.take i) ++ ((U2 r n).map fun v => (n.id, v)).toList := X6C h
theorem X6o (r : Rul) (l : List Edg) (id : Int) : Us r l id ≤ l.length := List.countP_le_length
end Go.Fw
namespace Go.Fw
open Go
set_option linter.unusedVariables false
set_option linter.unusedSimpArgs false
theorem X4t {r : Rul} {g : Gra} (hf : GFit g) : (ofV r g).length ≤ 4000000 := by
 have h1 := hf.nl
 have h2 := hf.el
 unfold ofV
 split
 ·rw [← X0y]; exact X3P h1
 ·split
  ·have := List.length_filter_le (fun n => Yp n.labels r.name && Uo r n.props) g.nodes
   simp only [YA, List.length_map]
   omega
  ·split
   ·have := List.length_filter_le (fun n => decide (r.n < (Us r g.edges n.id : Nat))) g.nodes
    simp only [X1w, YD, List.length_map]
    omega
   ·have := List.length_filter_le (fun e => decide (e.typ = r.name) && X0m r g.nodes e) g.edges
    simp only [XQ, List.length_map]
    omega
def Yc (i : Nat) (l : List (Int × Int)) : List Vio := l.map fun p => ⟨(i : Nat), p.1, p.2⟩
def Xv (f : Rul → List (Int × Int)) : Nat → List Rul → List Vio
 | _, [] => []
 | i, r :: s => Yc i (f r) ++ Xv f (i + 1) s
theorem X21 (g : Gra) : ∀ (i : Nat) (s : List Rul), X0z g i s = Xv (fun r => ofV r g) i s
 | _, [] => rfl
 | i, r :: s => by rw [X0z, Xv, X21 g (i + 1) s]; rfl
theorem X5K {f : Rul → List (Int × Int)} {s : List Rul} {i : Nat} {r : Rul} (h : s[i]? = some r) : Xv f i (s.drop i) = Yc i (f r) ++ Xv f (i + 1) (s.drop (i + 1)) := by
 obtain ⟨hi, rfl⟩ := List.getElem?_eq_some_iff.1 h
 rw [List.drop_eq_getElem_cons hi, Xv]
theorem X2W {f : Rul → List (Int × Int)} (h : ∀ r, (f r).length ≤ 4000000) : ∀ (i : Nat) (s : List Rul), (Xv f i s).length ≤ s.length * 4000000
 | _, [] => by simp [Xv]
 | i, r :: s => by
  have h1 := h r
  have h2 := X2W h (i + 1) s
  rw [Xv, List.length_append, Yc, List.length_map, List.length_cons, Nat.add_mul]
  omega
theorem X8W {i k : Nat} {l : List (Int × Int)} {p : Int × Int} (h : l[k]? = some p) : Yc i (l.drop k) = ⟨(i : Nat), p.1, p.2⟩ :: Yc i (l.drop (k + 1)) := by
 obtain ⟨hk, rfl⟩ := List.getElem?_eq_some_iff.1 h
 unfold Yc
 rw [List.drop_eq_getElem_cons hk, List.map_cons]
theorem X1x {f : Rul → List (Int × Int)} : ∀ (i : Nat) (s : List Rul), ∀ v ∈ Xv f i s, ∃ (k : Nat) (r : Rul), v.rule = ((i + k : Nat) : Int) ∧ s[k]? = some r
 | _, [], v, h => by simp [Xv] at h
 | i, r :: s, v, h => by
  rw [Xv, List.mem_append] at h
  rcases h with h | h
  ·unfold Yc at h
   rw [List.mem_map] at h
   obtain ⟨p, _, rfl⟩ := h
   exact ⟨0, r, rfl, rfl⟩
  ·obtain ⟨k, r', e, hk⟩ := X1x (i + 1) s v h
   exact ⟨k + 1, r', by rw [e]; congr 1; omega, by simpa using hk⟩
theorem X3S {f h : Rul → List (Int × Int)} : ∀ (i : Nat) (s : List Rul), (∀ r ∈ s, f r = h r) → Xv f i s = Xv h i s
 | _, [], _ => rfl
 | i, r :: s, q => by rw [Xv, Xv, q r (by simp), X3S (i + 1) s fun r hr => q r (by simp [hr])]
theorem X3E : ∀ (i : Nat) (s : List Rul), Xv (fun _ => []) i s = []
 | _, [] => rfl
 | i, r :: s => by rw [Xv, X3E (i + 1) s]; rfl
theorem X6h {r : Rul} {g : Gra} : (ofS r g).length ≤ 4000000 := by
 unfold ofS
 split
 ·simp
 ·rename_i h
  exact X4t (X1i (by
   by_cases q : Ya g = 0
   ·exact q
   ·exact absurd (.inr q) h))
theorem Vj {s : List Rul} {g : Gra} (h : Y1 s = true) : XY s g = Xv (fun r => ofS r g) 0 s := by
 unfold XY
 by_cases q : Ya g = 0
 ·rw [if_neg (by simp [h, q]), X21]
  refine X3S 0 s fun r hr => ?_
  have := ((X29 h).2 r hr).1
  unfold ofS
  rw [if_neg (by simp [this, q])]
 ·rw [if_pos (.inr q)]
  have : (fun r => ofS r g) = fun _ => [] := by
   funext r
   unfold ofS
   rw [if_pos (.inr q)]
  rw [this, X3E]
theorem X5g {s : List Rul} {g : Gra} (h : Y1 s = true) (q : Ya g = 0) : XY s g = Xv (fun r => ofV r g) 0 s := by
 unfold XY
 rw [if_neg (by simp [h, q]), X21]
theorem X8m {s : List Rul} {g : Gra} {v : Vio} {r : List Vio} (h : XY s g = v :: r) : ∃ (k : Nat) (x : Rul), v.rule = (k : Nat) ∧ s[k]? = some x ∧ UU s g = VB x.kind := by
 have hm : v ∈ XY s g := by rw [h]; simp
 have hs : Y1 s = true := by
  cases hs : Y1 s with
  | true => rfl
  | false => unfold XY at hm; rw [if_pos (.inl hs)] at hm; simp at hm
 rw [Vj hs] at hm
 obtain ⟨k, x, e, hk⟩ := X1x 0 s v hm
 rw [Nat.zero_add] at e
 refine ⟨k, x, e, hk, ?_⟩
 unfold UU
 rw [h]
 simp only
 rw [e, Int.toNat_natCast, hk]
theorem X5D {s : List Rul} {g : Gra} (h : XY s g = []) : UU s g = 0 := by unfold UU; rw [h]
theorem X2j {s : List Rul} {g : Gra} : (XY s g).length ≤ 160000000 := by
 cases hs : Y1 s with
 | false => unfold XY; rw [if_pos (.inl hs)]; simp
 | true =>
  rw [Vj hs]
  have h1 := X2W (f := fun r => ofS r g) (fun r => X6h) 0 s
  have h2 := (X29 hs).1
  have : s.length * 4000000 ≤ 40 * 4000000 := Nat.mul_le_mul_right _ h2
  omega
end Go.Fw
namespace Go.Fw
open Go Go.Proofs
set_option maxRecDepth 100000
set_option linter.unusedVariables false
set_option linter.unusedSimpArgs false
theorem X7Y (r : Rul) (g : Gra) (hf : GFit g) : Con Try.prog 28 [] [XA r, Xq g] [] (.d (.sl 2 ((YA r g.nodes).map Xk))) := by
 refine Xf (xs := [.d (.sl 2 ((YA r g.nodes).map Xk))]) Try.func28 rfl Try.ntmps28 rfl rfl rfl (fun E => ?_)
 obtain ⟨ns, es, nn, ne⟩ := g
 have hbr := fun l hl => X12 r l hl
 obtain ⟨rk, rn, rname, rkey, rsrc, rdst⟩ := r
 have hnl := hf.nl
 have hfn := hf.nodes
 clear hf
 unfold Xq
 simp only [XA] at hnl hfn hbr ⊢
 generalize hR : (Rul.mk rk rn rname rkey rsrc rdst) = R at *
 have hRn : R.name = rname := by rw [← hR]
 refine X0 ?_; refine JR ?_; refine Zn (γ := 100) ?_; refine Zn (γ := 101) ?_; refine Z0 ?_; refine JD ?_; refine X0 ?_; refine JR ?_; refine Z0 ?_; refine JD ?_; refine X0 ?_; refine X0 ?_
 refine JR ?_; refine Zo ?_; refine Zp ?_; refine Zw ?_; refine Z1 ?_; refine JD ?_; refine X4 ?_
 refine XH (Ut 5 130 2 rfl rfl rfl) ?_
 refine XD (fun i : Nat => i ≤ ns.length) (fun i => ⟨33, [(2, .ptr 100 0), (3, .ptr 101 0), (5, .own 130 ((YA R (ns.take i)).map Xk).length), (9, .d (.sl 3 (ns.map Xd))), (10, ai (ns.map Xd).length), (11, ai i)], [(100, .box [ai rk, ai rn, Xu rname, Xu rkey, Xu rsrc, Xu rdst]), (101, .box [.d (.sl 3 (ns.map Xd)), .d (.sl 5 (es.map Xl)), ai nn, ai ne]), (130, .row 2 ((YA R (ns.take i)).map Xk))]⟩) (fun i => ns.length - i) 0 (Nat.zero_le _)
  (X8 rfl JM ⟨rfl, rfl, rfl, trivial⟩) ?_
 intro i hi
 by_cases hil : i < ns.length
 case neg =>
  obtain rfl : i = ns.length := by omega
  have hn : ¬ ((ns.length : Nat) : Int) < (ns.map Xd).length := by rw [List.length_map]; omega
  rw [List.take_length]
  refine X0 ?_; refine JR ?_; refine Ze ?_; refine JD ?_; refine X0 ?_; refine JF ?_; refine Xz ?_; refine X0 ?_; refine JR ?_; refine Z1 ?_; refine Z0 ?_; refine JD ?_
  refine XH (U0 130 rfl) ?_
  refine XH (U3 4 130 rfl rfl rfl) ?_
  (show AWP Try.prog E _ _ _; refine X1 ?_; exact (show Xj _ _ _ _ _ from ⟨_, St.le_refl _, ⟨rfl, trivial⟩, X2 _⟩))
 have hn : (i : Int) < (ns.map Xd).length := by rw [List.length_map]; omega
 obtain ⟨x, hx⟩ := Xs (l := ns) hil
 have hxc : (ns.map Xd)[i]? = some (Xd x) := Xw hx
 obtain ⟨f1, f2, f3⟩ := hfn x (List.mem_of_getElem? hx)
 have hroom : ((YA R (ns.take i)).map Xk).length ≤ 2000 := by
  have := List.length_filter_le (fun n => Yp n.labels R.name && Uo R n.props) (ns.take i)
  simp only [YA, List.length_map, List.length_take] at this ⊢
  omega
 have hst : YA R (ns.take (i + 1)) = YA R (ns.take i) ++ if Yp x.labels R.name && Uo R x.props then [(x.id, 0)] else [] := X1G hx
 have h1 := X1e x rname (by omega)
 have h2 := hbr x.props (by omega)
 rw [hRn] at hst
 generalize Yp x.labels rname = b1 at *
 generalize Uo R x.props = b2 at *
 obtain ⟨xid, labels, props⟩ := x
 simp only [Xd] at hxc h1 h2 hst
 clear hx hbr hR hRn hfn f1 f2 f3
 cases b1 with
 | false =>
  have hst := hst.trans (show _ = YA R (ns.take i) by simp)
  refine X0 ?_; refine JR ?_; refine Ze ?_; refine JD ?_; refine X0 ?_; refine JT ?_; refine X3 ?_; refine X0 ?_; refine X4 ?_; refine X0 ?_; refine JR ?_; refine Zy ?_; refine Zz ?_
  refine Zh (γ := 102) ?_; refine Zk ?_; refine JD ?_; refine X0 ?_; refine JR ?_; refine ZD ?_; refine Zo ?_; refine Zp ?_; refine Zc (hcon := h1) ?_; refine Z1 ?_; refine Z5 ?_; refine Z5 ?_; refine Z5 ?_
  refine Z5 ?_; refine Z7 ?_; refine JD ?_; refine JF ?_; refine X3 ?_; refine JR ?_; refine Zf ?_; refine Z1 ?_; refine JD ?_
  refine ⟨i + 1, hil, by omega, ?_⟩
  dsimp only
  rw [hst]
  exact X8 rfl JM ⟨rfl, rfl, rfl, trivial⟩
 | true =>
  cases b2 with
  | false =>
   have hst := hst.trans (show _ = YA R (ns.take i) by simp)
   refine X0 ?_; refine JR ?_; refine Ze ?_; refine JD ?_; refine X0 ?_; refine JT ?_; refine X3 ?_; refine X0 ?_; refine X4 ?_; refine X0 ?_; refine JR ?_; refine Zy ?_; refine Zz ?_
   refine Zh (γ := 102) ?_; refine Zk ?_; refine JD ?_; refine X0 ?_; refine JR ?_; refine ZD ?_; refine Zo ?_; refine Zp ?_; refine Zc (hcon := h1) ?_; refine Z1 ?_; refine ZD ?_; refine Zo ?_; refine Zp ?_
   refine Zc (hcon := h2) ?_; refine Z4 ?_; refine JD ?_; refine JF ?_; refine X3 ?_; refine JR ?_; refine Zf ?_; refine Z1 ?_; refine JD ?_
   refine ⟨i + 1, hil, by omega, ?_⟩
   dsimp only
   rw [hst]
   exact X8 rfl JM ⟨rfl, rfl, rfl, trivial⟩
  | true =>
   have hst : YA R (ns.take (i + 1)) = YA R (ns.take i) ++ [(xid, 0)] := hst
   have happ : (YA R (ns.take i) ++ [(xid, (0 : Int))]).map Xk = (YA R (ns.take i)).map Xk ++ [Xk (xid, 0)] := by simp
   refine X0 ?_; refine JR ?_; refine Ze ?_; refine JD ?_; refine X0 ?_; refine JT ?_; refine X3 ?_; refine X0 ?_; refine X4 ?_; refine X0 ?_; refine JR ?_; refine Zy ?_; refine Zz ?_
   refine Zh (γ := 102) ?_; refine Zk ?_; refine JD ?_; refine X0 ?_; refine JR ?_; refine ZD ?_; refine Zo ?_; refine Zp ?_; refine Zc (hcon := h1) ?_; refine Z1 ?_; refine ZD ?_; refine Zo ?_; refine Zp ?_
   refine Zc (hcon := h2) ?_; refine Z4 ?_; refine JD ?_; refine JT ?_; refine JR ?_; refine Z1 ?_; refine Zo ?_; refine Zp ?_; refine Zj ?_; refine ZA ?_; refine ZG ?_; refine Z0 ?_; refine JD ?_; refine JR ?_
   refine Zf ?_; refine Z1 ?_; refine JD ?_
   refine ⟨i + 1, hil, by omega, ?_⟩
   dsimp only
   rw [hst, happ]
   exact X8 rfl ⟨JL, JL, AVal.le_of_eq (by refine Eq.trans (b := AVal.own 130 (_ + _)) rfl ?_; simp only [List.length_append, List.length_map, List.length_cons, List.length_nil]), JL, JL, JL, trivial⟩ ⟨rfl, rfl, rfl, trivial⟩
end Go.Fw
namespace Go.Fw
open Go Go.Proofs
set_option maxRecDepth 100000
set_option linter.unusedVariables false
set_option linter.unusedSimpArgs false
theorem X5y (r : Rul) (g : Gra) (hf : GFit g) : Con Try.prog 30 [] [XA r, Xq g] [] (.d (.sl 2 ((XQ r g.nodes g.edges).map Xk))) := by
 refine Xf (xs := [.d (.sl 2 ((XQ r g.nodes g.edges).map Xk))]) Try.func30 rfl Try.ntmps30 rfl rfl rfl (fun E => ?_)
 obtain ⟨ns, es, nn, ne⟩ := g
 have hbr := fun l hl => X12 r l hl
 have hlk := fun id label => X5A ⟨ns, es, nn, ne⟩ id label (by have := hf.nl; omega) hf.nodes
 obtain ⟨rk, rn, rname, rkey, rsrc, rdst⟩ := r
 have hnl := hf.nl
 have hel := hf.el
 have hfn := hf.nodes
 have hfe := hf.edges
 clear hf
 unfold Xq
 unfold Xq at hlk
 simp only [XA] at hnl hel hfn hfe hbr hlk ⊢
 generalize hR : (Rul.mk rk rn rname rkey rsrc rdst) = R at *
 have hRn : R.name = rname := by rw [← hR]
 have hRk : R.kind = rk := by rw [← hR]
 have hRm : R.n = rn := by rw [← hR]
 have hRs : R.src = rsrc := by rw [← hR]
 have hRd : R.dst = rdst := by rw [← hR]
 refine X0 ?_; refine JR ?_; refine Zn (γ := 100) ?_; refine Zn (γ := 101) ?_; refine Z0 ?_; refine JD ?_; refine X0 ?_; refine JR ?_; refine Z0 ?_; refine JD ?_; refine X0 ?_; refine X0 ?_
 refine JR ?_; refine Zo ?_; refine Zp ?_; refine Zw ?_; refine Z1 ?_; refine JD ?_; refine X4 ?_
 refine XH (Ut 5 130 2 rfl rfl rfl) ?_
 refine XD (fun i : Nat => i ≤ es.length) (fun i => ⟨51, [(2, .ptr 100 0), (3, .ptr 101 0), (5, .own 130 ((XQ R ns (es.take i)).map Xk).length), (10, .d (.sl 5 (es.map Xl))), (11, ai (es.map Xl).length), (12, ai i)], [(100, .box [ai rk, ai rn, Xu rname, Xu rkey, Xu rsrc, Xu rdst]), (101, .box [.d (.sl 3 (ns.map Xd)), .d (.sl 5 (es.map Xl)), ai nn, ai ne]), (130, .row 2 ((XQ R ns (es.take i)).map Xk))]⟩) (fun i => es.length - i) 0 (Nat.zero_le _)
  (X8 rfl JM ⟨rfl, rfl, rfl, trivial⟩) ?_
 intro i hi
 by_cases hil : i < es.length
 case neg =>
  obtain rfl : i = es.length := by omega
  have hn : ¬ ((es.length : Nat) : Int) < (es.map Xl).length := by rw [List.length_map]; omega
  rw [List.take_length]
  refine X0 ?_; refine JR ?_; refine Ze ?_; refine JD ?_; refine X0 ?_; refine JF ?_; refine Xz ?_; refine X0 ?_; refine JR ?_; refine Z1 ?_; refine Z0 ?_; refine JD ?_
  refine XH (U0 130 rfl) ?_
  refine XH (U3 4 130 rfl rfl rfl) ?_
  (show AWP Try.prog E _ _ _; refine X1 ?_; exact (show Xj _ _ _ _ _ from ⟨_, St.le_refl _, ⟨rfl, trivial⟩, X2 _⟩))
 have hn : (i : Int) < (es.map Xl).length := by rw [List.length_map]; omega
 obtain ⟨x, hx⟩ := Xs (l := es) hil
 have hxc : (es.map Xl)[i]? = some (Xl x) := Xw hx
 obtain ⟨f1, f2, f3⟩ := hfe x (List.mem_of_getElem? hx)
 have hroom : ((XQ R ns (es.take i)).map Xk).length ≤ 4000 := by
  have := List.length_filter_le (fun e => decide (e.typ = R.name) && X0m R ns e) (es.take i)
  simp only [XQ, List.length_map, List.length_take] at this ⊢
  omega
 have hst : XQ R ns (es.take (i + 1)) = XQ R ns (es.take i) ++ if decide (x.typ = R.name) && X0m R ns x then [(x.id, 0)] else [] := X1G hx
 have h1 := hbr x.props (by omega)
 have h2 := hlk x.src rsrc
 have h3 := hlk x.dst rdst
 unfold X0m at hst
 rw [hRn, hRk, hRs, hRd] at hst
 generalize V2 ns x.src rsrc = b2 at *
 generalize V2 ns x.dst rdst = b3 at *
 generalize Uo R x.props = b1 at *
 obtain ⟨xid, src, dst, typ, props⟩ := x
 simp only [Xl] at hxc h1 h2 h3 hst
 clear hx hbr hlk hR hRn hRk hRm hRs hRd hfn hfe f1 f2 f3
 by_cases ht : typ = rname
 case neg =>
  have ht' : ¬ typ = rname := ht
  rw [decide_eq_false ht] at hst
  have hst := hst.trans (show _ = XQ R ns (es.take i) by simp)
  refine X0 ?_; refine JR ?_; refine Ze ?_; refine JD ?_; refine X0 ?_; refine JT ?_; refine X3 ?_; refine X0 ?_; refine X4 ?_; refine X0 ?_; refine JR ?_; refine Zy ?_; refine Zz ?_
  refine Zh (γ := 102) ?_; refine Zk ?_; refine JD ?_; refine X0 ?_; refine X0 ?_; refine JR ?_; refine Zo ?_; refine Zp ?_; refine Zo ?_; refine Zp ?_; refine ZE ?_; refine JD ?_; refine JT ?_
  refine Xz ?_; refine JR ?_; refine Zf ?_; refine Z1 ?_; refine JD ?_
  refine ⟨i + 1, hil, by omega, ?_⟩
  dsimp only
  rw [hst]
  exact X8 rfl JM ⟨rfl, rfl, rfl, trivial⟩
 rw [decide_eq_true ht, Bool.true_and] at hst
 by_cases h6 : rk = 6
 ·rw [if_pos h6] at hst
  cases b2 with
  | true =>
   have hst : XQ R ns (es.take (i + 1)) = XQ R ns (es.take i) ++ [(xid, 0)] := hst.trans (by simp)
   have happ : (XQ R ns (es.take i) ++ [((xid, 0) : Int × Int)]).map Xk = (XQ R ns (es.take i)).map Xk ++ [Xk (xid, 0)] := by simp
   refine X0 ?_; refine JR ?_; refine Ze ?_; refine JD ?_; refine X0 ?_; refine JT ?_; refine X3 ?_; refine X0 ?_; refine X4 ?_; refine X0 ?_; refine JR ?_; refine Zy ?_; refine Zz ?_
   refine Zh (γ := 102) ?_; refine Zk ?_; refine JD ?_; refine X0 ?_; refine X0 ?_; refine JR ?_; refine Zo ?_; refine Zp ?_; refine Zo ?_; refine Zp ?_; refine ZE ?_; refine JD ?_; refine JF ?_
   refine X3 ?_; refine X0 ?_; refine JR ?_; refine Z0 ?_; refine JD ?_; refine X0 ?_; refine X0 ?_; refine JR ?_; refine Zo ?_; refine Zp ?_; refine Zi ?_; refine JD ?_; refine JT ?_; refine JR ?_
   refine ZD ?_; refine Zo ?_; refine Zp ?_; refine Zo ?_; refine Zp ?_; refine Zc (hcon := h2) ?_; refine Z1 ?_; refine Z5 ?_; refine Z5 ?_; refine Z5 ?_; refine Z5 ?_; refine Z5 ?_; refine Z5 ?_; refine Z4 ?_
   refine Z0 ?_; refine JD ?_; refine X0 ?_; refine JR ?_; refine Z1 ?_; refine JD ?_; refine JT ?_; refine JR ?_; refine Z1 ?_; refine Zo ?_; refine Zp ?_; refine Zj ?_; refine ZA ?_; refine ZG ?_; refine Z0 ?_
   refine JD ?_; refine JR ?_; refine Zf ?_; refine Z1 ?_; refine JD ?_
   refine ⟨i + 1, hil, by omega, ?_⟩
   dsimp only
   rw [hst, happ]
   exact X8 rfl ⟨JL, JL, AVal.le_of_eq (by refine Eq.trans (b := AVal.own 130 (_ + _)) rfl ?_; simp only [List.length_append, List.length_map, List.length_cons, List.length_nil]), JL, JL, JL, trivial⟩ ⟨rfl, rfl, rfl, trivial⟩
  | false =>
   cases b3 with
   | true =>
    have hst : XQ R ns (es.take (i + 1)) = XQ R ns (es.take i) ++ [(xid, 0)] := hst.trans (by simp)
    have happ : (XQ R ns (es.take i) ++ [((xid, 0) : Int × Int)]).map Xk = (XQ R ns (es.take i)).map Xk ++ [Xk (xid, 0)] := by simp
    refine X0 ?_; refine JR ?_; refine Ze ?_; refine JD ?_; refine X0 ?_; refine JT ?_; refine X3 ?_; refine X0 ?_; refine X4 ?_; refine X0 ?_; refine JR ?_; refine Zy ?_; refine Zz ?_
    refine Zh (γ := 102) ?_; refine Zk ?_; refine JD ?_; refine X0 ?_; refine X0 ?_; refine JR ?_; refine Zo ?_; refine Zp ?_; refine Zo ?_; refine Zp ?_; refine ZE ?_; refine JD ?_; refine JF ?_
    refine X3 ?_; refine X0 ?_; refine JR ?_; refine Z0 ?_; refine JD ?_; refine X0 ?_; refine X0 ?_; refine JR ?_; refine Zo ?_; refine Zp ?_; refine Zi ?_; refine JD ?_; refine JT ?_; refine JR ?_
    refine ZD ?_; refine Zo ?_; refine Zp ?_; refine Zo ?_; refine Zp ?_; refine Zc (hcon := h2) ?_; refine Z1 ?_; refine ZD ?_; refine Zo ?_; refine Zp ?_; refine Zo ?_; refine Zp ?_; refine Zc (hcon := h3) ?_; refine Z7 ?_
    refine Z0 ?_; refine JD ?_; refine X0 ?_; refine JR ?_; refine Z1 ?_; refine JD ?_; refine JT ?_; refine JR ?_; refine Z1 ?_; refine Zo ?_; refine Zp ?_; refine Zj ?_; refine ZA ?_; refine ZG ?_; refine Z0 ?_
    refine JD ?_; refine JR ?_; refine Zf ?_; refine Z1 ?_; refine JD ?_
    refine ⟨i + 1, hil, by omega, ?_⟩
    dsimp only
    rw [hst, happ]
    exact X8 rfl ⟨JL, JL, AVal.le_of_eq (by refine Eq.trans (b := AVal.own 130 (_ + _)) rfl ?_; simp only [List.length_append, List.length_map, List.length_cons, List.length_nil]), JL, JL, JL, trivial⟩ ⟨rfl, rfl, rfl, trivial⟩
   | false =>
    have hst := hst.trans (show _ = XQ R ns (es.take i) by simp)
    refine X0 ?_; refine JR ?_; refine Ze ?_; refine JD ?_; refine X0 ?_; refine JT ?_; refine X3 ?_; refine X0 ?_; refine X4 ?_; refine X0 ?_; refine JR ?_; refine Zy ?_; refine Zz ?_
    refine Zh (γ := 102) ?_; refine Zk ?_; refine JD ?_; refine X0 ?_; refine X0 ?_; refine JR ?_; refine Zo ?_; refine Zp ?_; refine Zo ?_; refine Zp ?_; refine ZE ?_; refine JD ?_; refine JF ?_
    refine X3 ?_; refine X0 ?_; refine JR ?_; refine Z0 ?_; refine JD ?_; refine X0 ?_; refine X0 ?_; refine JR ?_; refine Zo ?_; refine Zp ?_; refine Zi ?_; refine JD ?_; refine JT ?_; refine JR ?_
    refine ZD ?_; refine Zo ?_; refine Zp ?_; refine Zo ?_; refine Zp ?_; refine Zc (hcon := h2) ?_; refine Z1 ?_; refine ZD ?_; refine Zo ?_; refine Zp ?_; refine Zo ?_; refine Zp ?_; refine Zc (hcon := h3) ?_; refine Z7 ?_
    refine Z0 ?_; refine JD ?_; refine X0 ?_; refine JR ?_; refine Z1 ?_; refine JD ?_; refine JF ?_; refine X3 ?_; refine JR ?_; refine Zf ?_; refine Z1 ?_; refine JD ?_
    refine ⟨i + 1, hil, by omega, ?_⟩
    dsimp only
    rw [hst]
    exact X8 rfl JM ⟨rfl, rfl, rfl, trivial⟩
 ·rw [if_neg h6] at hst
  cases b1 with
  | true =>
   have hst : XQ R ns (es.take (i + 1)) = XQ R ns (es.take i) ++ [(xid, 0)] := hst.trans (by simp)
   have happ : (XQ R ns (es.take i) ++ [((xid, 0) : Int × Int)]).map Xk = (XQ R ns (es.take i)).map Xk ++ [Xk (xid, 0)] := by simp
   refine X0 ?_; refine JR ?_; refine Ze ?_; refine JD ?_; refine X0 ?_; refine JT ?_; refine X3 ?_; refine X0 ?_; refine X4 ?_; refine X0 ?_; refine JR ?_; refine Zy ?_; refine Zz ?_
   refine Zh (γ := 102) ?_; refine Zk ?_; refine JD ?_; refine X0 ?_; refine X0 ?_; refine JR ?_; refine Zo ?_; refine Zp ?_; refine Zo ?_; refine Zp ?_; refine ZE ?_; refine JD ?_; refine JF ?_
   refine X3 ?_; refine X0 ?_; refine JR ?_; refine Z0 ?_; refine JD ?_; refine X0 ?_; refine X0 ?_; refine JR ?_; refine Zo ?_; refine Zp ?_; refine Zi ?_; refine JD ?_; refine JF ?_; refine JR ?_
   refine ZD ?_; refine Zo ?_; refine Zp ?_; refine Zc (hcon := h1) ?_; refine Z0 ?_; refine JD ?_; refine X0 ?_; refine JR ?_; refine Z1 ?_; refine JD ?_; refine JT ?_; refine JR ?_; refine Z1 ?_; refine Zo ?_
   refine Zp ?_; refine Zj ?_; refine ZA ?_; refine ZG ?_; refine Z0 ?_; refine JD ?_; refine JR ?_; refine Zf ?_; refine Z1 ?_; refine JD ?_
   refine ⟨i + 1, hil, by omega, ?_⟩
   dsimp only
   rw [hst, happ]
   exact X8 rfl ⟨JL, JL, AVal.le_of_eq (by refine Eq.trans (b := AVal.own 130 (_ + _)) rfl ?_; simp only [List.length_append, List.length_map, List.length_cons, List.length_nil]), JL, JL, JL, trivial⟩ ⟨rfl, rfl, rfl, trivial⟩
  | false =>
   have hst := hst.trans (show _ = XQ R ns (es.take i) by simp)
   refine X0 ?_; refine JR ?_; refine Ze ?_; refine JD ?_; refine X0 ?_; refine JT ?_; refine X3 ?_; refine X0 ?_; refine X4 ?_; refine X0 ?_; refine JR ?_; refine Zy ?_; refine Zz ?_
   refine Zh (γ := 102) ?_; refine Zk ?_; refine JD ?_; refine X0 ?_; refine X0 ?_; refine JR ?_; refine Zo ?_; refine Zp ?_; refine Zo ?_; refine Zp ?_; refine ZE ?_; refine JD ?_; refine JF ?_
   refine X3 ?_; refine X0 ?_; refine JR ?_; refine Z0 ?_; refine JD ?_; refine X0 ?_; refine X0 ?_; refine JR ?_; refine Zo ?_; refine Zp ?_; refine Zi ?_; refine JD ?_; refine JF ?_; refine JR ?_
   refine ZD ?_; refine Zo ?_; refine Zp ?_; refine Zc (hcon := h1) ?_; refine Z0 ?_; refine JD ?_; refine X0 ?_; refine JR ?_; refine Z1 ?_; refine JD ?_; refine JF ?_; refine X3 ?_; refine JR ?_; refine Zf ?_
   refine Z1 ?_; refine JD ?_
   refine ⟨i + 1, hil, by omega, ?_⟩
   dsimp only
   rw [hst]
   exact X8 rfl JM ⟨rfl, rfl, rfl, trivial⟩
end Go.Fw
