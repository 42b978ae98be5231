/- The order of rules, valid schemas; the program's and the reference's. -/
import Derived.Test.YtbhleedlnaakkaaGreatG16
set_option maxHeartbeats 16000000
namespace Go.Fw
open Go Go.Proofs
set_option maxRecDepth 100000
set_option linter.unusedVariables false
set_option linter.unusedSimpArgs false
theorem X4N (s t : List UInt8) : Con Tryz.prog 157 [] [.d (.v (.string (X5 s))), .d (.v (.string (X5 t)))] [] (ai (YU s t)) := by
 refine X9 (xs := [ai (YU s t)]) Tryz.func157 rfl Tryz.ntmps157 rfl rfl rfl (fun E => ?_)
 have n1 := X8j s
 have n2 := X8j t
 unfold YU
 cases h1 : Op.bytesLess s t with
 | true =>
  rw [if_pos rfl]
  refine X0 ?_; refine JR ?_; refine Z0 ?_; refine JD ?_; refine X0 ?_; refine JR ?_; refine Z1 ?_; refine Z9 (hcon := n1) ?_; refine Z0 ?_; refine JD ?_; refine X0 ?_; refine JR ?_; refine Z1 ?_
  refine Z9 (hcon := n2) ?_; refine Z0 ?_; refine JD ?_; refine X0 ?_; refine X0 ?_; refine JR ?_; refine Z1 ?_; refine JD ?_; refine JF ?_; refine X2 ?_; refine X0 ?_; refine X0 ?_; refine JR ?_
  refine Z1 ?_; refine JD ?_; refine JF ?_; refine X2 ?_; refine X0 ?_; refine X0 ?_; refine JR ?_; refine Z1 ?_; refine Z1 ?_; refine Z07 ?_; refine JD ?_; refine JT ?_; refine X0 ?_; refine JR ?_
  refine Z0 ?_; refine JD ?_
  exact X1 ⟨_, St.le_refl _, ⟨rfl, trivial⟩, X3 _⟩
 | false =>
  rw [if_neg (by simp)]
  by_cases h2 : s = t
  ·rw [if_pos h2]
   have h3 : (!(Op.bytesLess s t || decide (s = t))) = false := by simp [h2]
   refine X0 ?_; refine JR ?_; refine Z0 ?_; refine JD ?_; refine X0 ?_; refine JR ?_; refine Z1 ?_; refine Z9 (hcon := n1) ?_; refine Z0 ?_; refine JD ?_; refine X0 ?_; refine JR ?_; refine Z1 ?_
   refine Z9 (hcon := n2) ?_; refine Z0 ?_; refine JD ?_; refine X0 ?_; refine X0 ?_; refine JR ?_; refine Z1 ?_; refine JD ?_; refine JF ?_; refine X2 ?_; refine X0 ?_; refine X0 ?_; refine JR ?_
   refine Z1 ?_; refine JD ?_; refine JF ?_; refine X2 ?_; refine X0 ?_; refine X0 ?_; refine JR ?_; refine Z1 ?_; refine Z1 ?_; refine Z07 ?_; refine JD ?_; refine JF ?_; refine X2 ?_
   refine X0 ?_; refine X0 ?_; refine JR ?_; refine Z1 ?_; refine Z1 ?_; refine Z08 ?_; refine JD ?_; refine JF ?_; refine X2 ?_; refine X0 ?_; refine JR ?_; refine Z0 ?_; refine JD ?_
   exact X1 ⟨_, St.le_refl _, ⟨rfl, trivial⟩, X3 _⟩
  ·rw [if_neg h2]
   have h3 : (!(Op.bytesLess s t || decide (s = t))) = true := by simp [h1, h2]
   refine X0 ?_; refine JR ?_; refine Z0 ?_; refine JD ?_; refine X0 ?_; refine JR ?_; refine Z1 ?_; refine Z9 (hcon := n1) ?_; refine Z0 ?_; refine JD ?_; refine X0 ?_; refine JR ?_; refine Z1 ?_
   refine Z9 (hcon := n2) ?_; refine Z0 ?_; refine JD ?_; refine X0 ?_; refine X0 ?_; refine JR ?_; refine Z1 ?_; refine JD ?_; refine JF ?_; refine X2 ?_; refine X0 ?_; refine X0 ?_; refine JR ?_
   refine Z1 ?_; refine JD ?_; refine JF ?_; refine X2 ?_; refine X0 ?_; refine X0 ?_; refine JR ?_; refine Z1 ?_; refine Z1 ?_; refine Z07 ?_; refine JD ?_; refine JF ?_; refine X2 ?_
   refine X0 ?_; refine X0 ?_; refine JR ?_; refine Z1 ?_; refine Z1 ?_; refine Z08 ?_; refine JD ?_; refine JT ?_; refine X0 ?_; refine JR ?_; refine Z0 ?_; refine JD ?_
   exact X1 ⟨_, St.le_refl _, ⟨rfl, trivial⟩, X3 _⟩
theorem Xhf (a b : Rul) : UW a b = orI [U2 a.kind b.kind, YU a.name b.name, YU a.key b.key, U2 a.n b.n, YU a.src b.src, YU a.dst b.dst] := by
 unfold UW U2
 simp only [orI]
 repeat' split
 all_goals first | rfl | omega | simp_all
theorem Xh6 (a b : Rul) : Con Tryz.prog 99 [] [XW a, XW b] [] (ai (UW a b)) := by
 refine X9 (xs := [ai (UW a b)]) Tryz.func99 rfl Tryz.ntmps99 rfl rfl rfl (fun E => ?_)
 have c1 := X5R a.kind b.kind
 have c2 := X4N a.name b.name
 have c3 := X4N a.key b.key
 have c4 := X5R a.n b.n
 have c5 := X4N a.src b.src
 have c6 := X4N a.dst b.dst
 have co := XgA [U2 a.kind b.kind, YU a.name b.name, YU a.key b.key, U2 a.n b.n, YU a.src b.src, YU a.dst b.dst] (by simp)
 rw [← Xhf] at co
 simp only [List.map_cons, List.map_nil] at co
 generalize UW a b = o at *
 generalize U2 a.kind b.kind = r1 at *
 generalize YU a.name b.name = r2 at *
 generalize YU a.key b.key = r3 at *
 generalize U2 a.n b.n = r4 at *
 generalize YU a.src b.src = r5 at *
 generalize YU a.dst b.dst = r6 at *
 obtain ⟨k, n, name, key, src, dst⟩ := a
 obtain ⟨k', n', name', key', src', dst'⟩ := b
 simp only [XW] at *
 refine X0 ?_; refine JR ?_; refine ZA (γ := 100) ?_; refine ZA (γ := 101) ?_; refine Z0 ?_; refine JD ?_; refine X0 ?_; refine JR ?_; refine ZB ?_; refine ZC ?_; refine ZB ?_; refine ZC ?_
 refine Z9 (hcon := c1) ?_; refine ZB ?_; refine ZC ?_; refine ZB ?_; refine ZC ?_; refine Z9 (hcon := c2) ?_; refine ZB ?_; refine ZC ?_; refine ZB ?_; refine ZC ?_; refine Z9 (hcon := c3) ?_; refine ZB ?_; refine ZC ?_
 refine ZB ?_; refine ZC ?_; refine Z9 (hcon := c4) ?_; refine ZB ?_; refine ZC ?_; refine ZB ?_; refine ZC ?_; refine Z9 (hcon := c5) ?_; refine ZB ?_; refine ZC ?_; refine ZB ?_; refine ZC ?_; refine Z9 (hcon := c6) ?_
 refine Z5 ?_; refine Z9 (hcon := co) ?_; refine Z0 ?_; refine JD ?_
 exact X1 ⟨_, St.le_refl _, ⟨rfl, trivial⟩, X3 _⟩
def Xp (r : Rul) : List D := [.v (.int .i64 r.kind), .v (.int .i64 r.n), .v (.string (X5 r.name)), .v (.string (X5 r.key)), .v (.string (X5 r.src)), .v (.string (X5 r.dst))]
theorem X8G {l : List Rul} {i : Nat} {r : Rul} (h : l[i]? = some r) : VC (Yj l i) (l.drop i) = (decide (YW r = 0 ∧ ∀ q, Yj l i = some q → UW q r < 0) && VC (Yj l (i + 1)) (l.drop (i + 1))) := by
 obtain ⟨hi, h⟩ := List.getElem?_eq_some_iff.1 h
 rw [List.drop_eq_getElem_cons hi, h, VC, X0Q, List.getElem?_eq_getElem hi, h]
theorem Xbi (l : List Rul) (hl : l.length ≤ 9223372036854775807) : Con Tryz.prog 42 [] [.d (.sl 6 (l.map Xp))] [] (ab (Uj l)) := by
 refine X9 (xs := [ab (Uj l)]) Tryz.func42 rfl Tryz.ntmps42 rfl rfl rfl (fun E => ?_)
 have hlm : (l.map Xp).length = l.length := by simp
 unfold Uj
 generalize hG : VC none l = G
 refine X0 ?_; refine JR ?_; refine Z0 ?_; refine JD ?_; refine X0 ?_; refine X0 ?_; refine JR ?_; refine Z1 ?_; refine Zd ?_; refine Z1 ?_; refine JD ?_; refine X4 ?_
 refine Xy (fun i : Nat => i ≤ l.length ∧ VC (Yj l i) (l.drop i) = G) (fun i => ⟨33, [(0, .d (.sl 6 (l.map Xp))), (5, .d (.sl 6 (l.map Xp))), (6, ai (l.map Xp).length), (7, ai i)], []⟩) (fun i => l.length - i) 0 ⟨Nat.zero_le _, by simpa [Yj] using hG⟩
  (X8 rfl JM trivial) ?_
 rintro i ⟨hi, hg⟩
 by_cases hil : i < l.length
 case neg =>
  obtain rfl : i = l.length := by omega
  have hn : ¬ ((l.length : Nat) : Int) < (l.map Xp).length := by omega
  rw [List.drop_length, VC] at hg
  subst hg
  rw [Bool.true_and, ← hlm, show decide ((l.map Xp).length ≤ 40) = decide (((l.map Xp).length : Int) ≤ 40) from decide_eq_decide.2 (by omega)]
  refine X0 ?_; refine JR ?_; refine Z8 ?_; refine JD ?_; refine X0 ?_; refine JF ?_; refine Xj ?_; refine X0 ?_; refine JR ?_; refine Z1 ?_; refine Zd ?_; refine Zm ?_; refine Z0 ?_; refine JD ?_
  exact X1 ⟨_, St.le_refl _, ⟨rfl, trivial⟩, X3 _⟩
 have hn : (i : Int) < (l.map Xp).length := by omega
 obtain ⟨x, hx⟩ := Xu (l := l) hil
 have hxc : (l.map Xp)[i]? = some (Xp x) := XS hx
 have hc := X5n x
 rw [X8G hx] at hg
 by_cases he : YW x = 0
 case neg =>
  rw [decide_eq_false (fun h => he h.1), Bool.false_and] at hg
  subst hg
  rw [Bool.false_and]
  generalize YW x = e at *
  obtain ⟨k, n, name, key, src, dst⟩ := x
  simp only [XW, Xp] at hc hxc
  refine X0 ?_; refine JR ?_; refine Z8 ?_; refine JD ?_; refine X0 ?_; refine JT ?_; refine X2 ?_; refine X0 ?_; refine X4 ?_; refine X0 ?_; refine JR ?_; refine Z1 ?_; refine Zj ?_
  refine ZK ?_; refine Zw (γ := 100) ?_; refine Z0 ?_; refine Zy ?_; refine JD ?_; refine X0 ?_; refine JR ?_; refine ZL ?_; refine Z9 (hcon := hc) ?_; refine Zv ?_; refine Z1 ?_; refine Zo ?_; refine Zo ?_
  refine Zo ?_; refine Zp ?_; refine Zp ?_; refine Zp ?_; refine Zp ?_; refine Zp ?_; refine Zp ?_; refine Zp ?_; refine Zp ?_; refine Zo ?_; refine Zn ?_; refine JD ?_; refine JT ?_; refine X0 ?_; refine JR ?_
  refine Z0 ?_; refine JD ?_
  exact X1 ⟨_, St.le_refl _, ⟨rfl, trivial⟩, X3 _⟩
 by_cases h0 : i = 0
 ·subst h0
  rw [decide_eq_true ⟨he, fun q h => by simp [Yj] at h⟩, Bool.true_and] at hg
  rw [he] at hc
  obtain ⟨k, n, name, key, src, dst⟩ := x
  simp only [XW, Xp] at hc hxc
  refine X0 ?_; refine JR ?_; refine Z8 ?_; refine JD ?_; refine X0 ?_; refine JT ?_; refine X2 ?_; refine X0 ?_; refine X4 ?_; refine X0 ?_; refine JR ?_; refine Z1 ?_; refine Zj ?_
  refine ZK ?_; refine Zw (γ := 100) ?_; refine Z0 ?_; refine Zy ?_; refine JD ?_; refine X0 ?_; refine JR ?_; refine ZL ?_; refine Z9 (hcon := hc) ?_; refine Zv ?_; refine Z1 ?_; refine Z1 ?_; refine Zs ?_
  refine Z1 ?_; refine Zo ?_; refine Zo ?_; refine Zo ?_; refine Zo ?_; refine Zo ?_; refine Zo ?_; refine Zo ?_; refine Zo ?_; refine Zq ?_; refine Zq ?_; refine JD ?_; refine JF ?_; refine X2 ?_; refine JR ?_
  refine Zb ?_; refine Z1 ?_; refine JD ?_
  exact ⟨0 + 1, ⟨by omega, hg⟩, by omega, X8 rfl JM trivial⟩
 obtain ⟨j, rfl⟩ : ∃ j, i = j + 1 := ⟨i - 1, by omega⟩
 obtain ⟨p, hp⟩ := Xu (l := l) (k := j) (by omega)
 have hpp : (l.map Xp)[j]? = some (Xp p) := XS hp
 have ho := Xh6 p x
 rw [he] at hc
 by_cases hlt : UW p x < 0
 ·rw [decide_eq_true ⟨he, fun q h => by rw [X0Q, hp] at h; injection h with h; rw [← h]; exact hlt⟩, Bool.true_and] at hg
  generalize UW p x = o at *
  obtain ⟨k, n, name, key, src, dst⟩ := x
  obtain ⟨k', n', name', key', src', dst'⟩ := p
  simp only [XW, Xp] at hc hxc ho hpp
  refine X0 ?_; refine JR ?_; refine Z8 ?_; refine JD ?_; refine X0 ?_; refine JT ?_; refine X2 ?_; refine X0 ?_; refine X4 ?_; refine X0 ?_; refine JR ?_; refine Z1 ?_; refine Zj ?_
  refine ZK ?_; refine Zw (γ := 100) ?_; refine Z0 ?_; refine Zy ?_; refine JD ?_; refine X0 ?_; refine JR ?_; refine ZL ?_; refine Z9 (hcon := hc) ?_; refine Zv ?_; refine Z1 ?_; refine Z1 ?_; refine Zs ?_
  refine Z1 ?_; refine Z1 ?_; refine Z1 ?_
  refine Z4 (op := .sub) (r' := .int .i64 ((j : Nat) : Int)) (u := .int .i64 ((j + 1 : Nat) : Int)) (v := .int .i64 1) ?_ (hr' := by exact congrArg (Value.int .i64) (show (((j + 1 : Nat) : Int) - 1) = (j : Int) by omega)) (hr := by exact Ya (by unfold Y7; omega))
  refine Zj ?_; refine ZK ?_; refine ZL ?_; refine Z9 (hcon := ho) ?_; refine Z2 ?_; refine Zn ?_; refine Zq ?_; refine JD ?_; refine JF ?_; refine X2 ?_; refine JR ?_; refine Zb ?_; refine Z1 ?_; refine JD ?_
  exact ⟨j + 1 + 1, ⟨by omega, hg⟩, by omega, X8 rfl JM trivial⟩
 ·rw [decide_eq_false (fun h => hlt (h.2 p (by rw [X0Q, hp]))), Bool.false_and] at hg
  subst hg
  rw [Bool.false_and]
  have hge : UW p x ≥ 0 := by omega
  generalize UW p x = o at *
  obtain ⟨k, n, name, key, src, dst⟩ := x
  obtain ⟨k', n', name', key', src', dst'⟩ := p
  simp only [XW, Xp] at hc hxc ho hpp
  refine X0 ?_; refine JR ?_; refine Z8 ?_; refine JD ?_; refine X0 ?_; refine JT ?_; refine X2 ?_; refine X0 ?_; refine X4 ?_; refine X0 ?_; refine JR ?_; refine Z1 ?_; refine Zj ?_
  refine ZK ?_; refine Zw (γ := 100) ?_; refine Z0 ?_; refine Zy ?_; refine JD ?_; refine X0 ?_; refine JR ?_; refine ZL ?_; refine Z9 (hcon := hc) ?_; refine Zv ?_; refine Z1 ?_; refine Z1 ?_; refine Zs ?_
  refine Z1 ?_; refine Z1 ?_; refine Z1 ?_
  refine Z4 (op := .sub) (r' := .int .i64 ((j : Nat) : Int)) (u := .int .i64 ((j + 1 : Nat) : Int)) (v := .int .i64 1) ?_ (hr' := by exact congrArg (Value.int .i64) (show (((j + 1 : Nat) : Int) - 1) = (j : Int) by omega)) (hr := by exact Ya (by unfold Y7; omega))
  refine Zj ?_; refine ZK ?_; refine ZL ?_; refine Z9 (hcon := ho) ?_; refine Z2 ?_; refine Zn ?_; refine Zq ?_; refine JD ?_; refine JT ?_; refine X0 ?_; refine JR ?_; refine Z0 ?_; refine JD ?_
  exact X1 ⟨_, St.le_refl _, ⟨rfl, trivial⟩, X3 _⟩
end Go.Fw
