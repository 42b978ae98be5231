/- Ranges, greatest common divisors, fractions. -/
import Derived.Test.YtonekjkmnhfjmaaGreatDoorChecked
import Derived.Laws.RangeAny
import Derived.Test.YtonekjkmnhfjmaaGreatDoorM13
set_option maxHeartbeats 8000000
namespace Go.Fw
open Go Go.Proofs
set_option maxRecDepth 100000
set_option linter.unusedVariables false
set_option linter.unusedSimpArgs false
abbrev nj (n : Nat) : Value := .int .i64 n
def inV (n : Int) : Bool := decide (-1000000000000000 ≤ n ∧ n ≤ 1000000000000000)
theorem X3s (n : Int) : Con Tryz.prog 317 [] [ai n] [] (ab (inV n)) := by
 refine Xc (xs := [ab (inV n)]) Tryz.func317 rfl Tryz.ntmps317 rfl rfl rfl (fun E => ?_)
 by_cases h1 : -1000000000000000 ≤ n
 ·by_cases h2 : n ≤ 1000000000000000
  ·rw [show inV n = true by simp [inV, h1, h2]]
   refine Qpa ?_; exact QFa
  ·rw [show inV n = false by simp [inV, h2]]
   refine Qpa ?_; exact QGa
 ·rw [show inV n = false by simp [inV, h1]]
  refine Qs ?_; refine Qb ?_; exact X1 ⟨_, XF 2 (y := ab false) (AVal.le_refl _), ⟨rfl, trivial⟩, X3 _⟩
theorem XhP (n : Int) : Con Tryz.prog 297 [] [ai n] [] (ab (inV n)) := by
 refine Xc (xs := [ab (inV n)]) Tryz.func297 rfl Tryz.ntmps297 rfl rfl rfl (fun E => ?_)
 by_cases h1 : -1000000000000000 ≤ n
 ·by_cases h2 : n ≤ 1000000000000000
  ·rw [show inV n = true by simp [inV, h1, h2]]
   refine Qpa ?_; exact QFa
  ·rw [show inV n = false by simp [inV, h2]]
   refine Qpa ?_; exact QGa
 ·rw [show inV n = false by simp [inV, h1]]
  refine Qs ?_; refine Qb ?_; exact X1 ⟨_, XF 2 (y := ab false) (AVal.le_refl _), ⟨rfl, trivial⟩, X3 _⟩
theorem X8k (n : Int) (h : -1000000000000000 ≤ n ∧ n ≤ 1000000000000000) : Con Tryz.prog 347 [] [ai n] [] (ai (n.natAbs : Nat)) := by
 refine Xc (xs := [ai (n.natAbs : Nat)]) Tryz.func347 rfl Tryz.ntmps347 rfl rfl rfl (fun E => ?_)
 refine QHa ?_; refine Zu ?_; refine Zz ?_; refine Qb ?_; exact X1 ⟨_, XF 2 (y := ai (n.natAbs : Nat)) (AVal.le_of_eq (by refine Eq.trans (b := ai (max n (-n))) rfl ?_; congr 3; omega)), ⟨rfl, trivial⟩, X3 _⟩
theorem X6p (n : Int) (h : -1000000000000000 ≤ n ∧ n ≤ 1000000000000000) : Con Tryz.prog 247 [] [ai n] [] (ai (n.natAbs : Nat)) := by
 refine Xc (xs := [ai (n.natAbs : Nat)]) Tryz.func247 rfl Tryz.ntmps247 rfl rfl rfl (fun E => ?_)
 by_cases h0 : n < 0
 ·refine Qu ?_; refine Z8 ?_; refine QIa ?_; refine Zu ?_; refine Qb ?_; exact X1 ⟨_, XF 2 (y := ai (n.natAbs : Nat)) (AVal.le_of_eq (by refine Eq.trans (b := ai (-n)) rfl ?_; congr 3; omega)), ⟨rfl, trivial⟩, X3 _⟩
 ·refine Qu ?_; refine Z8 ?_; refine QH ?_; refine QJa ?_; exact X1 ⟨_, XF 2 (y := ai (n.natAbs : Nat)) (AVal.le_of_eq (by refine Eq.trans (b := ai n) rfl ?_; congr 3; omega)), ⟨rfl, trivial⟩, X3 _⟩
theorem XgB (a b : Int) (ha : -1000000000000000 ≤ a ∧ a ≤ 1000000000000000) (hb : -1000000000000000 ≤ b ∧ b ≤ 1000000000000000) : Con Tryz.prog 336 [] [ai a, ai b] [] (ai (Nat.gcd a.natAbs b.natAbs : Nat)) := by
 refine Xc (xs := [ai (Nat.gcd a.natAbs b.natAbs : Nat)]) Tryz.func336 rfl Tryz.ntmps336 rfl rfl rfl (fun E => ?_)
 have h1 : Con Tryz.prog 317 [] [ai a] [] (ab true) := by
  have h := X3s a
  rwa [show inV a = true by simpa [inV] using ha] at h
 have h2 : Con Tryz.prog 317 [] [ai b] [] (ab true) := by
  have h := X3s b
  rwa [show inV b = true by simpa [inV] using hb] at h
 refine Qu ?_; refine Z9 (hcon := h1) ?_; refine Zu ?_; refine Qf ?_; refine Z9 (hcon := h2) ?_; refine QJ ?_; refine Qd ?_; refine Z9 (hcon := X8k a ha) ?_; refine Z1 ?_; refine Z9 (hcon := X8k b hb) ?_; refine QKa ?_; refine QO ?_
 refine Xz (ι := Nat × Nat) (fun i => Nat.gcd i.1 i.2 = Nat.gcd a.natAbs b.natAbs) (fun i => ⟨24, [(0, ai i.1), (1, ai i.2)], []⟩) (fun i => i.2) (a.natAbs, b.natAbs) rfl
  (X7 rfl ⟨JL, JL, trivial⟩ trivial) ?_
 rintro ⟨x, y⟩ hg
 simp only at hg
 by_cases hy : y = 0
 ·subst hy
  rw [← hg, Nat.gcd_zero_right]
  refine QLa ?_; refine QMa ?_; exact QNa
 ·have hy' : ¬ ((y : Int) = 0) := by omega
  refine QLa ?_; refine QOa ?_; refine JR ?_; refine QX ?_; refine Z7 (op := .rem) (r' := nj (x % y)) (u := nj x) (v := nj y) ?_ (hr := by exact Ul hy); refine QKa ?_; exact QPa
theorem Xhl (x y : Nat) (hx : x ≤ 1000000000000000) (hy : y ≤ 1000000000000000) : Con Tryz.prog 301 [] [ai x, ai y] [] (ai (Nat.gcd x y : Nat)) := by
 refine Xc (xs := [ai (Nat.gcd x y : Nat)]) Tryz.func301 rfl Tryz.ntmps301 rfl rfl rfl (fun E => ?_)
 refine Qc ?_; refine QO ?_
 generalize hG : Nat.gcd x y = G
 refine Xz (ι := Nat × Nat) (fun i => Nat.gcd i.1 i.2 = G) (fun i => ⟨12, [(0, ai i.1), (1, ai i.2)], []⟩) (fun i => i.2) (x, y) hG
  (X7 rfl ⟨JL, JL, trivial⟩ trivial) ?_
 rintro ⟨x, y⟩ hg
 simp only at hg
 by_cases hy : y = 0
 ·subst hy
  rw [← hg, Nat.gcd_zero_right]
  refine QQa ?_; refine QMa ?_; exact QNa
 ·have hy' : (0 : Int) < y := by omega
  refine QQa ?_; refine QOa ?_; refine JR ?_; refine QX ?_; refine Z7 (op := .rem) (r' := nj (x % y)) (u := nj x) (v := nj y) ?_ (hr := by exact Ul hy); refine QKa ?_; exact QPa
abbrev X1X (n d : Int) : AVal := .agg [ai n, ai d]
theorem X1x {n d : Int} (h : ¬ (1 ≤ d ∧ d ≤ 1000000000000000 ∧ -1000000000000000 ≤ n ∧ n ≤ 1000000000000000)) : Vu n d = false := by simp only [Vu, decide_eq_false h, Bool.false_and]
theorem X9o {n d : Int} (h : 1 ≤ d ∧ d ≤ 1000000000000000 ∧ -1000000000000000 ≤ n ∧ n ≤ 1000000000000000) : Vu n d = decide (Nat.gcd n.natAbs d.natAbs = 1) := by simp only [Vu, decide_eq_true h, Bool.true_and]
theorem XcR (n d : Int) : Con Tryz.prog 318 [] [X1X n d] [] (ab (Vu n d)) := by
 refine Xc (xs := [ab (Vu n d)]) Tryz.func318 rfl Tryz.ntmps318 rfl rfl rfl (fun E => ?_)
 by_cases h1 : 1 ≤ d
 case neg =>
  rw [X1x (by omega)]
  refine QVa ?_; refine Z2 ?_; refine QWa ?_; refine QWa ?_; exact QYa
 by_cases h2 : d ≤ 1000000000000000
 case neg =>
  rw [X1x (by omega)]
  refine QVa ?_; refine Z2 ?_; refine Qab ?_; refine QWa ?_; exact QYa
 by_cases h3 : -1000000000000000 ≤ n ∧ n ≤ 1000000000000000
 case neg =>
  rw [X1x (by omega)]
  have hin : Con Tryz.prog 317 [] [ai n] [] (ab false) := by
   have h := X3s n
   rwa [show inV n = false by simpa [inV] using h3] at h
  refine QVa ?_; refine Z2 ?_; refine Qab ?_; refine QZa ?_; refine Z9 (hcon := hin) ?_; refine Zn ?_; exact QYa
 rw [X9o (by omega)]
 have hin : Con Tryz.prog 317 [] [ai n] [] (ab true) := by
  have h := X3s n
  rwa [show inV n = true by simpa [inV] using h3] at h
 refine QVa ?_; refine Z2 ?_; refine Qab ?_; refine QZa ?_; refine Z9 (hcon := hin) ?_; refine Zn ?_; refine Qbb ?_; refine Z9 (hcon := XgB n d h3 (by omega)) ?_; refine Zl ?_; refine Qna ?_; exact X1 ⟨_, XF 2 (y := ab (decide (Nat.gcd n.natAbs d.natAbs = 1))) (AVal.le_of_eq (by refine Eq.trans (b := ab (decide (((Nat.gcd n.natAbs d.natAbs : Nat) : Int) = 1))) rfl ?_; exact congrArg ab (decide_eq_decide.2 (by omega)))), ⟨rfl, trivial⟩, X3 _⟩
theorem X8y (n d : Int) : Con Tryz.prog 243 [] [X1X n d] [] (ab (Vu n d)) := by
 refine Xc (xs := [ab (Vu n d)]) Tryz.func243 rfl Tryz.ntmps243 rfl rfl rfl (fun E => ?_)
 by_cases h1 : 1 ≤ d
 case neg =>
  rw [X1x (by omega)]
  refine QVa ?_; refine Z2 ?_; refine QWa ?_; refine QWa ?_; exact Qcb
 by_cases h2 : d ≤ 1000000000000000
 case neg =>
  rw [X1x (by omega)]
  refine QVa ?_; refine Z2 ?_; refine Qab ?_; refine QWa ?_; exact Qcb
 by_cases h3 : -1000000000000000 ≤ n
 case neg =>
  rw [X1x (by omega)]
  refine Qdb ?_; exact Qcb
 by_cases h4 : n ≤ 1000000000000000
 case neg =>
  rw [X1x (by omega)]
  refine Qdb ?_; refine Qab ?_; refine QXa ?_; refine QU ?_; exact QNa
 rw [X9o (by omega)]
 obtain ⟨e, rfl⟩ : ∃ e : Nat, d = e := ⟨d.toNat, by omega⟩
 refine Qdb ?_; refine Qab ?_; refine QZa ?_; refine Z9 (hcon := X6p n ⟨h3, h4⟩) ?_; refine QTa ?_; refine Z9 (hcon := Xhl n.natAbs e (by omega) (by omega)) ?_; refine Zl ?_; refine Qna ?_; exact X1 ⟨_, XF 2 (y := ab (decide (Nat.gcd n.natAbs (e : Int).natAbs = 1))) (AVal.le_of_eq (by refine Eq.trans (b := ab (decide (((Nat.gcd n.natAbs e : Nat) : Int) = 1))) rfl ?_; exact congrArg ab (decide_eq_decide.2 (by rw [Int.natAbs_natCast]; omega)))), ⟨rfl, trivial⟩, X3 _⟩
abbrev UJ (l : List UInt8) : AVal := .d (.v (.string (X5 l)))
def okB (b : UInt8) : Bool := decide (32 ≤ b.toNat ∧ b.toNat ≤ 126)
def VS (s : List UInt8) : Int := if UI s then -1 else (s.takeWhile okB).length
theorem Xbo {s : List UInt8} : (VS s < 0) ↔ UI s = true := by
 unfold VS
 cases UI s <;> simp
theorem XaB {s : List UInt8} {p : Nat} (h : ∀ j, j < p → ∃ b, s[j]? = some b ∧ okB b = true) (hp : p = s.length) : UI s = true := by
 unfold UI
 rw [List.all_eq_true]
 intro x hx
 obtain ⟨i, hi⟩ := List.getElem?_of_mem hx
 obtain ⟨b, h1, h2⟩ := h i (by rw [hp]; exact (List.getElem?_eq_some_iff.1 hi).1)
 rw [hi] at h1; cases h1; exact h2
theorem XgF {s : List UInt8} {p : Nat} {c : UInt8} (h : ∀ j, j < p → ∃ b, s[j]? = some b ∧ okB b = true) (hc : s[p]? = some c) (hb : okB c = false) : VS s = p := by
 have h1 : UI s = false := by
  cases hs : UI s with
  | false => rfl
  | true =>
   unfold UI at hs
   rw [List.all_eq_true] at hs
   have := hs c (List.mem_of_getElem? hc)
   unfold okB at hb
   rw [hb] at this; simp at this
 unfold VS
 rw [h1, X9i s p h (fun b hb' => by rw [hc] at hb'; cases hb'; exact hb)]
 simp
theorem X83 (l : List UInt8) {p : Nat} {c : UInt8} (h : l[p]? = some c) (hp : p < (X5 l).size) : (X5 l)[p] = c := by
 have h1 := (List.getElem?_eq_some_iff.1 h).2
 exact h1
theorem Xeu (c : Nat) (hc : c ≤ 2147483647) : Con Tryz.prog 320 [] [.d (.v (.int .i32 c))] [] (ab (!decide (32 ≤ c ∧ c ≤ 126))) := by
 refine Xc (xs := [ab (!decide (32 ≤ c ∧ c ≤ 126))]) Tryz.func320 rfl Tryz.ntmps320 rfl rfl rfl (fun E => ?_)
 by_cases h1 : c < 32
 ·rw [show (!decide (32 ≤ c ∧ c ≤ 126)) = true by simp; omega]
  refine Qe ?_; refine Z8 ?_; refine Qi ?_; exact Qeb
 ·by_cases h2 : 126 < c
  ·rw [show (!decide (32 ≤ c ∧ c ≤ 126)) = true by simp; omega]
   refine Qe ?_; refine Qta ?_; refine QD ?_; refine Qb ?_; exact X1 ⟨_, XF 2 (y := ab true) (AVal.le_of_eq (by refine Eq.trans (b := ab (decide (126 < (c : Int)))) rfl ?_; exact congrArg ab (decide_eq_true (by omega)))), ⟨rfl, trivial⟩, X3 _⟩
  ·rw [show (!decide (32 ≤ c ∧ c ≤ 126)) = false by simp; omega]
   refine Qe ?_; refine Qta ?_; refine QD ?_; refine Qb ?_; exact X1 ⟨_, XF 2 (y := ab false) (AVal.le_of_eq (by refine Eq.trans (b := ab (decide (126 < (c : Int)))) rfl ?_; exact congrArg ab (decide_eq_false (by omega)))), ⟨rfl, trivial⟩, X3 _⟩
theorem Xda (s : List UInt8) (hs : s.length ≤ 9223372036854775807) : Con Tryz.prog 337 [] [UJ s, .fn 320 [], ab true] [] (ai (VS s)) := by
 refine Xc (xs := [ai (VS s)]) Tryz.func337 rfl Tryz.ntmps337 rfl rfl rfl (fun E => ?_)
 have hsz : (X5 s).size = s.length := rfl
 refine Qu ?_; refine ZD (γ := 100) ?_; refine QK ?_
 refine Xz (fun p : Nat => p ≤ s.length ∧ ∀ j, j < p → ∃ b, s[j]? = some b ∧ okB b = true) (fun p => ⟨21, [(1, .fn 320 []), (2, ab true), (10, .ptr 100 0)], [(100, .iter (X5 s) p)]⟩) (fun p => s.length - p) 0 ⟨by omega, fun j hj => by omega⟩
  (X7 rfl ⟨JL, JL, JL, trivial⟩ ⟨rfl, trivial⟩) ?_
 rintro p ⟨hp, hall⟩
 by_cases hlt : p < s.length
 ·obtain ⟨c, hc⟩ := Xu (l := s) hlt
  have hlt' : p < (X5 s).size := hlt
  have hget := X83 s hc hlt'
  have hr := Xeu (Utf8.decode (X5 s) p).1 (decode_le _ _)
  have go : okB c = true → Utf8.decode (X5 s) p = (c.toNat, 1) := fun hok => decode_ascii _ _ hlt' (by unfold okB at hok; rw [decide_eq_true_eq] at hok; rw [hget]; omega) |>.trans (by rw [hget])
  cases hok : okB c with
  | true =>
   have hd := go hok
   rw [show (!decide (32 ≤ (Utf8.decode (X5 s) p).1 ∧ (Utf8.decode (X5 s) p).1 ≤ 126)) = false by rw [hd]; unfold okB at hok; simp only; rw [hok]; rfl] at hr
   refine Qa ?_; refine ZE ?_; refine ZF ?_; refine QL ?_; refine JT ?_; refine X2 ?_; refine X4 ?_; refine Qa ?_; refine ZF ?_; refine ZF ?_; refine Z0 ?_; refine QQ ?_; refine Z1 ?_; refine ZG (hcon := hr) ?_; refine Z1 ?_; refine ZH ?_; refine QH ?_
   refine ⟨p + 1, ⟨by omega, fun j hj => ?_⟩, by omega, X7 rfl ⟨JL, JL, JL, trivial⟩ ⟨?_, trivial⟩⟩
   ·by_cases e : j = p
    ·subst e; exact ⟨c, hc, hok⟩
    ·exact hall j (by omega)
   ·refine Eq.trans (b := AObj.iter (X5 s) (p + (Utf8.decode (X5 s) p).2)) rfl ?_
    rw [hd]
  | false =>
   rw [XgF hall hc hok]
   have hbad : (!decide (32 ≤ (Utf8.decode (X5 s) p).1 ∧ (Utf8.decode (X5 s) p).1 ≤ 126)) = true := by
    by_cases ha : c.toNat < 128
    ·rw [decode_ascii _ _ hlt' (by rw [hget]; exact ha), hget]
     unfold okB at hok
     simp only; rw [hok]; rfl
    ·have := (decode_high (X5 s) p hlt' (by rw [hget]; omega)).1
     simp; omega
   rw [hbad] at hr
   refine Qa ?_; refine ZE ?_; refine ZF ?_; refine QL ?_; refine JT ?_; refine X2 ?_; refine X4 ?_; refine Qa ?_; refine ZF ?_; refine ZF ?_; refine Z0 ?_; refine QQ ?_; refine Z1 ?_; refine ZG (hcon := hr) ?_; refine Z1 ?_; refine ZH ?_; refine QIa ?_; exact QNa
 ·obtain rfl : p = s.length := by omega
  rw [show VS s = -1 by unfold VS; rw [XaB hall rfl]; rfl]
  have hge : (X5 s).size ≤ s.length := Nat.le_refl _
  refine Qa ?_; refine ZI ?_; refine ZF ?_; refine QL ?_; refine JF ?_; refine Xp ?_; exact Qz
theorem Xgi (s : List UInt8) (hs : s.length ≤ 9223372036854775807) : Con Tryz.prog 319 [] [UJ s, .fn 320 []] [] (ai (VS s)) := by
 refine Xc (xs := [ai (VS s)]) Tryz.func319 rfl Tryz.ntmps319 rfl rfl rfl (fun E => ?_)
 refine QHa ?_; refine Z9 (hcon := Xda s hs) ?_; exact QNa
def XG : Val → AVal
 | .mk k n d s l => .agg [ai k, ai n, ai d, UJ s, .d (.sl 5 (Xx l))]
def Un (l : List Val) : Bool := decide (l.length % 2 = 1 ∧ l.length ≤ 25) && Uy 0 l
theorem X8E {v : Val} (h : v.kind = 5 ∨ v.kind = 6) (m m' : Nat) : X8 m v = X8 m' v := by
 obtain ⟨k, n, d, s, l⟩ := v
 have h : k = 5 ∨ k = 6 := h
 rw [X8, X8]
 rcases h with rfl | rfl <;> simp
theorem Vb (l : List Val) : (Xx l).length = l.length := by rw [X19, List.length_map]
theorem X3c {l : List Val} {i : Nat} {x : Val} (h : l[i]? = some x) : (Xx l)[i]? = some (Y1 x) := by rw [X19]; exact XD h
theorem X5Q {i : Nat} {l : List Val} {x : Val} (h : l[i]? = some x) : Uy i (l.drop i) = (decide (x.kind = 5 + (i % 2 : Nat)) && X8 0 x && Uy (i + 1) (l.drop (i + 1))) := by
 rw [List.drop_eq_getElem_cons (List.getElem?_eq_some_iff.1 h).1, (List.getElem?_eq_some_iff.1 h).2, Uy]
theorem X9c {m i : Nat} {l : List Val} {x : Val} (h : l[i]? = some x) : UP m (l.drop i) = (X8 m x && UP m (l.drop (i + 1))) := by
 rw [List.drop_eq_getElem_cons (List.getElem?_eq_some_iff.1 h).1, (List.getElem?_eq_some_iff.1 h).2, UP]
theorem X4N {i : Nat} {l : List Val} {x : Val} (h : l[i]? = some x) (hk : ¬ x.kind = 5 + (i % 2 : Nat)) : Uy i (l.drop i) = false := by
 rw [X5Q h, decide_eq_false hk]; rfl
theorem X4K {i : Nat} {l : List Val} {x : Val} (h : l[i]? = some x) (hv : X8 0 x = false) : Uy i (l.drop i) = false := by
 rw [X5Q h, hv, Bool.and_false]; rfl
theorem X4f {i : Nat} {l : List Val} {x : Val} (h : l[i]? = some x) (hk : x.kind = 5 + (i % 2 : Nat)) (hv : X8 0 x = true) : Uy i (l.drop i) = Uy (i + 1) (l.drop (i + 1)) := by
 rw [X5Q h, decide_eq_true hk, hv]; rfl
def X4P (v : Val) : Prop := ∀ m : Nat, m ≤ 8 → Con Tryz.prog 278 [] [XG v, ai (8 - m : Nat)] [] (ab (X8 m v))
def X7j (l : List Val) : Prop := Con Tryz.prog 321 [] [.d (.sl 5 (Xx l))] [] (ab (Un l))
theorem XfH (l : List Val) (ih : ∀ x ∈ l, X4P x) : X7j l := by
 refine Xc (xs := [ab (Un l)]) Tryz.func321 rfl Tryz.ntmps321 rfl rfl rfl (fun E => ?_)
 have hlen := Vb l
 by_cases h1 : l.length % 2 = 0
 ·rw [show Un l = false by unfold Un; rw [decide_eq_false (by omega), Bool.false_and]]
  refine Qu ?_; refine Zd ?_; refine ZJ ?_; refine Zl ?_; exact Qfb
 by_cases h2 : 25 < l.length
 ·rw [show Un l = false by unfold Un; rw [decide_eq_false (by omega), Bool.false_and]]
  refine Qhb ?_; exact QF
 rw [show Un l = Uy 0 (l.drop 0) by unfold Un; rw [decide_eq_true (by omega), Bool.true_and]; rfl]
 refine Qhb ?_; refine QI ?_; refine Qt ?_; refine Qjb ?_
 refine Xz (fun i : Nat => i ≤ l.length ∧ Uy 0 (l.drop 0) = Uy i (l.drop i)) (fun i => ⟨37, [(15, .d (.sl 5 (Xx l))), (16, ai l.length), (17, ai i)], []⟩) (fun i => l.length - i) 0 ⟨by omega, rfl⟩
  (X7 rfl ⟨JL, (by refine AVal.le_of_eq ?_; refine Eq.trans (b := ai ((Xx l).length : Nat)) rfl ?_; rw [hlen]), JL, trivial⟩ trivial) ?_
 rintro i ⟨hi, hpv⟩
 by_cases hlt : i < l.length
 ·obtain ⟨x, hx⟩ := Xu (l := l) hlt
  have hgx := X3c hx
  have hixl : i < (Xx l).length := by rw [hlen]; exact hlt
  have hvx := ih x (List.mem_of_getElem? hx) 8 (by omega)
  obtain ⟨k, n, d, s, q⟩ := x
  simp only [XG, Nat.sub_self] at hvx
  rw [Y1] at hgx
  rw [hpv]
  by_cases hpar : i % 2 = 0
  case pos =>
   by_cases hk : k = 5
   case neg =>
    rw [X4N hx (by rw [hpar]; show ¬ k = _; omega)]
    refine Qmb ?_; refine Qnb ?_; refine Qob ?_; refine Z1 ?_; refine Zv ?_; exact Qfb
   subst hk
   have hfl := X8E (v := .mk 5 n d s q) (.inl rfl) 8 0
   cases hvv : X8 8 (.mk 5 n d s q) with
   | true =>
    rw [hvv] at hvx hfl
    have hgo := X4f hx (by rw [hpar]; rfl) hfl.symm
    rw [hgo, ← hgo, ← hpv]
    refine Qmb ?_; refine Qqb ?_; refine QJ ?_; refine QV ?_; exact ⟨i + 1, ⟨by omega, hpv.trans hgo⟩, by omega, X7 rfl ⟨JL, JL, JL, trivial⟩ trivial⟩
   | false =>
    rw [hvv] at hvx hfl
    rw [X4K hx hfl.symm]
    refine Qmb ?_; refine Qqb ?_; exact QG
  case neg =>
   have hpar : i % 2 = 1 := by omega
   by_cases hk : k = 6
   case neg =>
    rw [X4N hx (by rw [hpar]; show ¬ k = _; omega)]
    refine Qrb ?_; refine Qnb ?_; refine Qob ?_; refine Z1 ?_; refine Zv ?_; exact Qfb
   subst hk
   have hfl := X8E (v := .mk 6 n d s q) (.inr rfl) 8 0
   cases hvv : X8 8 (.mk 6 n d s q) with
   | true =>
    rw [hvv] at hvx hfl
    have hgo := X4f hx (by rw [hpar]; rfl) hfl.symm
    rw [hgo, ← hgo, ← hpv]
    refine Qrb ?_; refine Qqb ?_; refine QJ ?_; refine QV ?_; exact ⟨i + 1, ⟨by omega, hpv.trans hgo⟩, by omega, X7 rfl ⟨JL, JL, JL, trivial⟩ trivial⟩
   | false =>
    rw [hvv] at hvx hfl
    rw [X4K hx hfl.symm]
    refine Qrb ?_; refine Qqb ?_; exact QG
 obtain rfl : i = l.length := by omega
 rw [hpv, List.drop_length, Uy]
 exact QN
end Go.Fw
