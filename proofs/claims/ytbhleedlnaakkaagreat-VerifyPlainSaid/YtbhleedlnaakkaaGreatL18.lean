/- The order of rules, valid schemas; the program's and the reference's. -/
import Derived.Test.YtbhleedlnaakkaaGreatL14
set_option maxHeartbeats 16000000
namespace Go.Fw
open Go Go.Proofs
set_option maxRecDepth 100000
set_option linter.unusedVariables false
set_option linter.unusedSimpArgs false
theorem X1r (s t : List UInt8) : Con Tryz.prog 157 [] [.d (.v (.string (X6 s))), .d (.v (.string (X6 t)))] [] (ai (Yo s t)) := by
 refine X9 (xs := [ai (Yo s t)]) Tryz.func157 rfl Tryz.ntmps157 rfl rfl rfl (fun E => ?_)
 have n1 := X6d s
 have n2 := X6d t
 unfold Yo
 cases h1 : Op.bytesLess s t with
 | true =>
  rw [if_pos rfl]
  refine X0 ?_; refine JR ?_; refine Z0 ?_; refine JD ?_; refine X0 ?_; refine JR ?_; refine Z1 ?_; refine Z9 (hcon := n1) ?_; refine Z0 ?_; refine JD ?_; refine X0 ?_; refine JR ?_; refine Z1 ?_
  refine Z9 (hcon := n2) ?_; refine Z0 ?_; refine JD ?_; refine X0 ?_; refine X0 ?_; refine JR ?_; refine Z1 ?_; refine JD ?_; refine JF ?_; refine X3 ?_; refine X0 ?_; refine X0 ?_; refine JR ?_
  refine Z1 ?_; refine JD ?_; refine JF ?_; refine X3 ?_; refine X0 ?_; refine X0 ?_; refine JR ?_; refine Z1 ?_; refine Z1 ?_; refine Z08 ?_; refine JD ?_; refine JT ?_; refine X0 ?_; refine JR ?_
  refine Z0 ?_; refine JD ?_
  exact X1 ⟨_, St.le_refl _, ⟨rfl, trivial⟩, X2 _⟩
 | false =>
  rw [if_neg (by simp)]
  by_cases h2 : s = t
  ·rw [if_pos h2]
   have h3 : (!(Op.bytesLess s t || decide (s = t))) = false := by simp [h2]
   refine X0 ?_; refine JR ?_; refine Z0 ?_; refine JD ?_; refine X0 ?_; refine JR ?_; refine Z1 ?_; refine Z9 (hcon := n1) ?_; refine Z0 ?_; refine JD ?_; refine X0 ?_; refine JR ?_; refine Z1 ?_
   refine Z9 (hcon := n2) ?_; refine Z0 ?_; refine JD ?_; refine X0 ?_; refine X0 ?_; refine JR ?_; refine Z1 ?_; refine JD ?_; refine JF ?_; refine X3 ?_; refine X0 ?_; refine X0 ?_; refine JR ?_
   refine Z1 ?_; refine JD ?_; refine JF ?_; refine X3 ?_; refine X0 ?_; refine X0 ?_; refine JR ?_; refine Z1 ?_; refine Z1 ?_; refine Z08 ?_; refine JD ?_; refine JF ?_; refine X3 ?_
   refine X0 ?_; refine X0 ?_; refine JR ?_; refine Z1 ?_; refine Z1 ?_; refine Z09 ?_; refine JD ?_; refine JF ?_; refine X3 ?_; refine X0 ?_; refine JR ?_; refine Z0 ?_; refine JD ?_
   exact X1 ⟨_, St.le_refl _, ⟨rfl, trivial⟩, X2 _⟩
  ·rw [if_neg h2]
   have h3 : (!(Op.bytesLess s t || decide (s = t))) = true := by simp [h1, h2]
   refine X0 ?_; refine JR ?_; refine Z0 ?_; refine JD ?_; refine X0 ?_; refine JR ?_; refine Z1 ?_; refine Z9 (hcon := n1) ?_; refine Z0 ?_; refine JD ?_; refine X0 ?_; refine JR ?_; refine Z1 ?_
   refine Z9 (hcon := n2) ?_; refine Z0 ?_; refine JD ?_; refine X0 ?_; refine X0 ?_; refine JR ?_; refine Z1 ?_; refine JD ?_; refine JF ?_; refine X3 ?_; refine X0 ?_; refine X0 ?_; refine JR ?_
   refine Z1 ?_; refine JD ?_; refine JF ?_; refine X3 ?_; refine X0 ?_; refine X0 ?_; refine JR ?_; refine Z1 ?_; refine Z1 ?_; refine Z08 ?_; refine JD ?_; refine JF ?_; refine X3 ?_
   refine X0 ?_; refine X0 ?_; refine JR ?_; refine Z1 ?_; refine Z1 ?_; refine Z09 ?_; refine JD ?_; refine JT ?_; refine X0 ?_; refine JR ?_; refine Z0 ?_; refine JD ?_
   exact X1 ⟨_, St.le_refl _, ⟨rfl, trivial⟩, X2 _⟩
theorem X7Q (a b : Rul) : UA a b = orI [XK a.kind b.kind, Yo a.name b.name, Yo a.key b.key, XK a.n b.n, Yo a.src b.src, Yo a.dst b.dst] := by
 unfold UA XK
 simp only [orI]
 repeat' split
 all_goals first | rfl | omega | simp_all
theorem Xbo (a b : Rul) : Con Tryz.prog 99 [] [Y0 a, Y0 b] [] (ai (UA a b)) := by
 refine X9 (xs := [ai (UA a b)]) Tryz.func99 rfl Tryz.ntmps99 rfl rfl rfl (fun E => ?_)
 have c1 := X2F a.kind b.kind
 have c2 := X1r a.name b.name
 have c3 := X1r a.key b.key
 have c4 := X2F a.n b.n
 have c5 := X1r a.src b.src
 have c6 := X1r a.dst b.dst
 have co := XaQ [XK a.kind b.kind, Yo a.name b.name, Yo a.key b.key, XK a.n b.n, Yo a.src b.src, Yo a.dst b.dst] (by simp)
 rw [← X7Q] at co
 simp only [List.map_cons, List.map_nil] at co
 generalize UA a b = o at *
 generalize XK a.kind b.kind = r1 at *
 generalize Yo a.name b.name = r2 at *
 generalize Yo a.key b.key = r3 at *
 generalize XK a.n b.n = r4 at *
 generalize Yo a.src b.src = r5 at *
 generalize Yo a.dst b.dst = r6 at *
 obtain ⟨k, n, name, key, src, dst⟩ := a
 obtain ⟨k', n', name', key', src', dst'⟩ := b
 simp only [Y0] at *
 refine X0 ?_; refine JR ?_; refine ZA (γ := 100) ?_; refine ZA (γ := 101) ?_; refine Z0 ?_; refine JD ?_; refine X0 ?_; refine JR ?_; refine ZB ?_; refine ZC ?_; refine ZB ?_; refine ZC ?_
 refine Z9 (hcon := c1) ?_; refine ZB ?_; refine ZC ?_; refine ZB ?_; refine ZC ?_; refine Z9 (hcon := c2) ?_; refine ZB ?_; refine ZC ?_; refine ZB ?_; refine ZC ?_; refine Z9 (hcon := c3) ?_; refine ZB ?_; refine ZC ?_
 refine ZB ?_; refine ZC ?_; refine Z9 (hcon := c4) ?_; refine ZB ?_; refine ZC ?_; refine ZB ?_; refine ZC ?_; refine Z9 (hcon := c5) ?_; refine ZB ?_; refine ZC ?_; refine ZB ?_; refine ZC ?_; refine Z9 (hcon := c6) ?_
 refine Z5 ?_; refine Z9 (hcon := co) ?_; refine Z0 ?_; refine JD ?_
 exact X1 ⟨_, St.le_refl _, ⟨rfl, trivial⟩, X2 _⟩
def XI (r : Rul) : List D := [.v (.int .i64 r.kind), .v (.int .i64 r.n), .v (.string (X6 r.name)), .v (.string (X6 r.key)), .v (.string (X6 r.src)), .v (.string (X6 r.dst))]
theorem X9r {l : List Rul} {i : Nat} {r : Rul} (h : l[i]? = some r) : UT (XN l i) (l.drop i) = (decide (Yq r = 0 ∧ ∀ q, XN l i = some q → UA q r < 0) && UT (XN l (i + 1)) (l.drop (i + 1))) := by
 obtain ⟨hi, h⟩ := List.getElem?_eq_some_iff.1 h
 rw [List.drop_eq_getElem_cons hi, h, UT, VW, List.getElem?_eq_getElem hi, h]
theorem X8t (l : List Rul) (hl : l.length ≤ 9223372036854775807) : Con Tryz.prog 42 [] [.d (.sl 6 (l.map XI))] [] (ab (Uj l)) := by
 refine X9 (xs := [ab (Uj l)]) Tryz.func42 rfl Tryz.ntmps42 rfl rfl rfl (fun E => ?_)
 have hlm : (l.map XI).length = l.length := by simp
 unfold Uj
 generalize hG : UT none l = G
 refine X0 ?_; refine JR ?_; refine Z0 ?_; refine JD ?_; refine X0 ?_; refine X0 ?_; refine JR ?_; refine Z1 ?_; refine Zd ?_; refine Z1 ?_; refine JD ?_; refine X4 ?_
 refine Xs (fun i : Nat => i ≤ l.length ∧ UT (XN l i) (l.drop i) = G) (fun i => ⟨33, [(0, .d (.sl 6 (l.map XI))), (5, .d (.sl 6 (l.map XI))), (6, ai (l.map XI).length), (7, ai i)], []⟩) (fun i => l.length - i) 0 ⟨Nat.zero_le _, by simpa [XN] using hG⟩
  (X7 rfl JM trivial) ?_
 rintro i ⟨hi, hg⟩
 by_cases hil : i < l.length
 case neg =>
  obtain rfl : i = l.length := by omega
  have hn : ¬ ((l.length : Nat) : Int) < (l.map XI).length := by omega
  rw [List.drop_length, UT] at hg
  subst hg
  rw [Bool.true_and, ← hlm, show decide ((l.map XI).length ≤ 40) = decide (((l.map XI).length : Int) ≤ 40) from decide_eq_decide.2 (by omega)]
  refine X0 ?_; refine JR ?_; refine Z8 ?_; refine JD ?_; refine X0 ?_; refine JF ?_; refine Xo ?_; refine X0 ?_; refine JR ?_; refine Z1 ?_; refine Zd ?_; refine Zm ?_; refine Z0 ?_; refine JD ?_
  exact X1 ⟨_, St.le_refl _, ⟨rfl, trivial⟩, X2 _⟩
 have hn : (i : Int) < (l.map XI).length := by omega
 obtain ⟨x, hx⟩ := Xm (l := l) hil
 have hxc : (l.map XI)[i]? = some (XI x) := Xr hx
 have hc := X3K x
 rw [X9r hx] at hg
 by_cases he : Yq x = 0
 case neg =>
  rw [decide_eq_false (fun h => he h.1), Bool.false_and] at hg
  subst hg
  rw [Bool.false_and]
  generalize Yq x = e at *
  obtain ⟨k, n, name, key, src, dst⟩ := x
  simp only [Y0, XI] at hc hxc
  refine X0 ?_; refine JR ?_; refine Z8 ?_; refine JD ?_; refine X0 ?_; refine JT ?_; refine X3 ?_; refine X0 ?_; refine X4 ?_; refine X0 ?_; refine JR ?_; refine Z1 ?_; refine Zj ?_
  refine ZK ?_; refine Zw (γ := 100) ?_; refine Z0 ?_; refine Zy ?_; refine JD ?_; refine X0 ?_; refine JR ?_; refine ZL ?_; refine Z9 (hcon := hc) ?_; refine Zv ?_; refine Z1 ?_; refine Zo ?_; refine Zo ?_
  refine Zo ?_; refine Zp ?_; refine Zp ?_; refine Zp ?_; refine Zp ?_; refine Zp ?_; refine Zp ?_; refine Zp ?_; refine Zp ?_; refine Zo ?_; refine Zn ?_; refine JD ?_; refine JT ?_; refine X0 ?_; refine JR ?_
  refine Z0 ?_; refine JD ?_
  exact X1 ⟨_, St.le_refl _, ⟨rfl, trivial⟩, X2 _⟩
 by_cases h0 : i = 0
 ·subst h0
  rw [decide_eq_true ⟨he, fun q h => by simp [XN] at h⟩, Bool.true_and] at hg
  rw [he] at hc
  obtain ⟨k, n, name, key, src, dst⟩ := x
  simp only [Y0, XI] at hc hxc
  refine X0 ?_; refine JR ?_; refine Z8 ?_; refine JD ?_; refine X0 ?_; refine JT ?_; refine X3 ?_; refine X0 ?_; refine X4 ?_; refine X0 ?_; refine JR ?_; refine Z1 ?_; refine Zj ?_
  refine ZK ?_; refine Zw (γ := 100) ?_; refine Z0 ?_; refine Zy ?_; refine JD ?_; refine X0 ?_; refine JR ?_; refine ZL ?_; refine Z9 (hcon := hc) ?_; refine Zv ?_; refine Z1 ?_; refine Z1 ?_; refine Zs ?_
  refine Z1 ?_; refine Zo ?_; refine Zo ?_; refine Zo ?_; refine Zo ?_; refine Zo ?_; refine Zo ?_; refine Zo ?_; refine Zo ?_; refine Zq ?_; refine Zq ?_; refine JD ?_; refine JF ?_; refine X3 ?_; refine JR ?_
  refine Zb ?_; refine Z1 ?_; refine JD ?_
  exact ⟨0 + 1, ⟨by omega, hg⟩, by omega, X7 rfl JM trivial⟩
 obtain ⟨j, rfl⟩ : ∃ j, i = j + 1 := ⟨i - 1, by omega⟩
 obtain ⟨p, hp⟩ := Xm (l := l) (k := j) (by omega)
 have hpp : (l.map XI)[j]? = some (XI p) := Xr hp
 have ho := Xbo p x
 rw [he] at hc
 by_cases hlt : UA p x < 0
 ·rw [decide_eq_true ⟨he, fun q h => by rw [VW, hp] at h; injection h with h; rw [← h]; exact hlt⟩, Bool.true_and] at hg
  generalize UA p x = o at *
  obtain ⟨k, n, name, key, src, dst⟩ := x
  obtain ⟨k', n', name', key', src', dst'⟩ := p
  simp only [Y0, XI] at hc hxc ho hpp
  refine X0 ?_; refine JR ?_; refine Z8 ?_; refine JD ?_; refine X0 ?_; refine JT ?_; refine X3 ?_; refine X0 ?_; refine X4 ?_; refine X0 ?_; refine JR ?_; refine Z1 ?_; refine Zj ?_
  refine ZK ?_; refine Zw (γ := 100) ?_; refine Z0 ?_; refine Zy ?_; refine JD ?_; refine X0 ?_; refine JR ?_; refine ZL ?_; refine Z9 (hcon := hc) ?_; refine Zv ?_; refine Z1 ?_; refine Z1 ?_; refine Zs ?_
  refine Z1 ?_; refine Z1 ?_; refine Z1 ?_
  refine Z4 (op := .sub) (r' := .int .i64 ((j : Nat) : Int)) (u := .int .i64 ((j + 1 : Nat) : Int)) (v := .int .i64 1) ?_ (hr' := by exact congrArg (Value.int .i64) (show (((j + 1 : Nat) : Int) - 1) = (j : Int) by omega)) (hr := by exact XH (by unfold Xy; omega))
  refine Zj ?_; refine ZK ?_; refine ZL ?_; refine Z9 (hcon := ho) ?_; refine Z2 ?_; refine Zn ?_; refine Zq ?_; refine JD ?_; refine JF ?_; refine X3 ?_; refine JR ?_; refine Zb ?_; refine Z1 ?_; refine JD ?_
  exact ⟨j + 1 + 1, ⟨by omega, hg⟩, by omega, X7 rfl JM trivial⟩
 ·rw [decide_eq_false (fun h => hlt (h.2 p (by rw [VW, hp]))), Bool.false_and] at hg
  subst hg
  rw [Bool.false_and]
  have hge : UA p x ≥ 0 := by omega
  generalize UA p x = o at *
  obtain ⟨k, n, name, key, src, dst⟩ := x
  obtain ⟨k', n', name', key', src', dst'⟩ := p
  simp only [Y0, XI] at hc hxc ho hpp
  refine X0 ?_; refine JR ?_; refine Z8 ?_; refine JD ?_; refine X0 ?_; refine JT ?_; refine X3 ?_; refine X0 ?_; refine X4 ?_; refine X0 ?_; refine JR ?_; refine Z1 ?_; refine Zj ?_
  refine ZK ?_; refine Zw (γ := 100) ?_; refine Z0 ?_; refine Zy ?_; refine JD ?_; refine X0 ?_; refine JR ?_; refine ZL ?_; refine Z9 (hcon := hc) ?_; refine Zv ?_; refine Z1 ?_; refine Z1 ?_; refine Zs ?_
  refine Z1 ?_; refine Z1 ?_; refine Z1 ?_
  refine Z4 (op := .sub) (r' := .int .i64 ((j : Nat) : Int)) (u := .int .i64 ((j + 1 : Nat) : Int)) (v := .int .i64 1) ?_ (hr' := by exact congrArg (Value.int .i64) (show (((j + 1 : Nat) : Int) - 1) = (j : Int) by omega)) (hr := by exact XH (by unfold Xy; omega))
  refine Zj ?_; refine ZK ?_; refine ZL ?_; refine Z9 (hcon := ho) ?_; refine Z2 ?_; refine Zn ?_; refine Zq ?_; refine JD ?_; refine JT ?_; refine X0 ?_; refine JR ?_; refine Z0 ?_; refine JD ?_
  exact X1 ⟨_, St.le_refl _, ⟨rfl, trivial⟩, X2 _⟩
end Go.Fw
