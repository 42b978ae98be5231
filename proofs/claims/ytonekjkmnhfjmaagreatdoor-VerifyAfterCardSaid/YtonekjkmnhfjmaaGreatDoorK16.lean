/- Ranges, greatest common divisors, fractions. -/
import Derived.Test.YtonekjkmnhfjmaaGreatDoorChecked
import Derived.Laws.RangeAny
import Derived.Test.YtonekjkmnhfjmaaGreatDoorK14
set_option maxHeartbeats 8000000
namespace Go.Fw
open Go Go.Proofs
set_option maxRecDepth 100000
set_option linter.unusedVariables false
set_option linter.unusedSimpArgs false
abbrev nj (n : Nat) : Value := .int .i64 n
def inV (n : Int) : Bool := decide (-1000000000000000 ≤ n ∧ n ≤ 1000000000000000)
theorem X2J (n : Int) : Con Tryz.prog 317 [] [ai n] [] (ab (inV n)) := by
 refine Xc (xs := [ab (inV n)]) Tryz.func317 rfl Tryz.ntmps317 rfl rfl rfl (fun E => ?_)
 by_cases h1 : -1000000000000000 ≤ n
 ·by_cases h2 : n ≤ 1000000000000000
  ·rw [show inV n = true by simp [inV, h1, h2]]
   refine QQa ?_; exact Qxb
  ·rw [show inV n = false by simp [inV, h2]]
   refine QQa ?_; exact Qyb
 ·rw [show inV n = false by simp [inV, h1]]
  refine QR ?_; refine QN ?_; exact X1 ⟨_, Xr 2 (y := ab false) (AVal.le_refl _), ⟨rfl, trivial⟩, X3 _⟩
theorem Xhh (n : Int) : Con Tryz.prog 297 [] [ai n] [] (ab (inV n)) := by
 refine Xc (xs := [ab (inV n)]) Tryz.func297 rfl Tryz.ntmps297 rfl rfl rfl (fun E => ?_)
 by_cases h1 : -1000000000000000 ≤ n
 ·by_cases h2 : n ≤ 1000000000000000
  ·rw [show inV n = true by simp [inV, h1, h2]]
   refine QQa ?_; exact Qxb
  ·rw [show inV n = false by simp [inV, h2]]
   refine QQa ?_; exact Qyb
 ·rw [show inV n = false by simp [inV, h1]]
  refine QR ?_; refine QN ?_; exact X1 ⟨_, Xr 2 (y := ab false) (AVal.le_refl _), ⟨rfl, trivial⟩, X3 _⟩
theorem Xan (n : Int) (h : -1000000000000000 ≤ n ∧ n ≤ 1000000000000000) : Con Tryz.prog 347 [] [ai n] [] (ai (n.natAbs : Nat)) := by
 refine Xc (xs := [ai (n.natAbs : Nat)]) Tryz.func347 rfl Tryz.ntmps347 rfl rfl rfl (fun E => ?_)
 refine Qf ?_; refine Zd ?_; refine ZL ?_; refine Qb ?_; exact X1 ⟨_, Xr 2 (y := ai (n.natAbs : Nat)) (AVal.le_of_eq (by refine Eq.trans (b := ai (max n (-n))) rfl ?_; congr 3; omega)), ⟨rfl, trivial⟩, X3 _⟩
theorem X30 (n : Int) (h : -1000000000000000 ≤ n ∧ n ≤ 1000000000000000) : Con Tryz.prog 247 [] [ai n] [] (ai (n.natAbs : Nat)) := by
 refine Xc (xs := [ai (n.natAbs : Nat)]) Tryz.func247 rfl Tryz.ntmps247 rfl rfl rfl (fun E => ?_)
 by_cases h0 : n < 0
 ·refine QU ?_; refine Zq ?_; refine Qv ?_; refine Zd ?_; refine Qb ?_; exact X1 ⟨_, Xr 2 (y := ai (n.natAbs : Nat)) (AVal.le_of_eq (by refine Eq.trans (b := ai (-n)) rfl ?_; congr 3; omega)), ⟨rfl, trivial⟩, X3 _⟩
 ·refine QU ?_; refine Zq ?_; refine Qj ?_; refine Qzb ?_; exact X1 ⟨_, Xr 2 (y := ai (n.natAbs : Nat)) (AVal.le_of_eq (by refine Eq.trans (b := ai n) rfl ?_; congr 3; omega)), ⟨rfl, trivial⟩, X3 _⟩
theorem Xh4 (a b : Int) (ha : -1000000000000000 ≤ a ∧ a ≤ 1000000000000000) (hb : -1000000000000000 ≤ b ∧ b ≤ 1000000000000000) : Con Tryz.prog 336 [] [ai a, ai b] [] (ai (Nat.gcd a.natAbs b.natAbs : Nat)) := by
 refine Xc (xs := [ai (Nat.gcd a.natAbs b.natAbs : Nat)]) Tryz.func336 rfl Tryz.ntmps336 rfl rfl rfl (fun E => ?_)
 have h1 : Con Tryz.prog 317 [] [ai a] [] (ab true) := by
  have h := X2J a
  rwa [show inV a = true by simpa [inV] using ha] at h
 have h2 : Con Tryz.prog 317 [] [ai b] [] (ab true) := by
  have h := X2J b
  rwa [show inV b = true by simpa [inV] using hb] at h
 refine QU ?_; refine QAb ?_; refine Zd ?_; refine Qq ?_; refine Zr (hcon := h2) ?_; refine Qha ?_; refine Qd ?_; refine Zr (hcon := Xan a ha) ?_; refine Z1 ?_; refine Zr (hcon := Xan b hb) ?_; refine QBb ?_; refine Qma ?_
 refine Xz (ι := Nat × Nat) (fun i => Nat.gcd i.1 i.2 = Nat.gcd a.natAbs b.natAbs) (fun i => ⟨24, [(0, ai i.1), (1, ai i.2)], []⟩) (fun i => i.2) (a.natAbs, b.natAbs) rfl
  (X6 rfl ⟨JL, JL, trivial⟩ trivial) ?_
 rintro ⟨x, y⟩ hg
 simp only at hg
 by_cases hy : y = 0
 ·subst hy
  rw [← hg, Nat.gcd_zero_right]
  refine Qh ?_; refine ZH ?_; refine Qab ?_; refine Qd ?_; exact QCb
 ·have hy' : ¬ ((y : Int) = 0) := by omega
  refine Qh ?_; refine ZH ?_; refine QDb ?_; refine JR ?_; refine Qt ?_; refine Zp (op := .rem) (r' := nj (x % y)) (u := nj x) (v := nj y) ?_ (hr := by exact UC hy); refine QBb ?_; exact QEb
theorem Xge (x y : Nat) (hx : x ≤ 1000000000000000) (hy : y ≤ 1000000000000000) : Con Tryz.prog 301 [] [ai x, ai y] [] (ai (Nat.gcd x y : Nat)) := by
 refine Xc (xs := [ai (Nat.gcd x y : Nat)]) Tryz.func301 rfl Tryz.ntmps301 rfl rfl rfl (fun E => ?_)
 refine Qc ?_; refine Qma ?_
 generalize hG : Nat.gcd x y = G
 refine Xz (ι := Nat × Nat) (fun i => Nat.gcd i.1 i.2 = G) (fun i => ⟨12, [(0, ai i.1), (1, ai i.2)], []⟩) (fun i => i.2) (x, y) hG
  (X6 rfl ⟨JL, JL, trivial⟩ trivial) ?_
 rintro ⟨x, y⟩ hg
 simp only at hg
 by_cases hy : y = 0
 ·subst hy
  rw [← hg, Nat.gcd_zero_right]
  refine QFb ?_; refine Qab ?_; refine Qd ?_; exact QCb
 ·have hy' : (0 : Int) < y := by omega
  refine QFb ?_; refine QDb ?_; refine JR ?_; refine Qt ?_; refine Zp (op := .rem) (r' := nj (x % y)) (u := nj x) (v := nj y) ?_ (hr := by exact UC hy); refine QBb ?_; exact QEb
abbrev UA (n d : Int) : AVal := .agg [ai n, ai d]
theorem X1U {n d : Int} (h : ¬ (1 ≤ d ∧ d ≤ 1000000000000000 ∧ -1000000000000000 ≤ n ∧ n ≤ 1000000000000000)) : UX n d = false := by simp only [UX, decide_eq_false h, Bool.false_and]
theorem X9h {n d : Int} (h : 1 ≤ d ∧ d ≤ 1000000000000000 ∧ -1000000000000000 ≤ n ∧ n ≤ 1000000000000000) : UX n d = decide (Nat.gcd n.natAbs d.natAbs = 1) := by simp only [UX, decide_eq_true h, Bool.true_and]
theorem XgZ (n d : Int) : Con Tryz.prog 318 [] [UA n d] [] (ab (UX n d)) := by
 refine Xc (xs := [ab (UX n d)]) Tryz.func318 rfl Tryz.ntmps318 rfl rfl rfl (fun E => ?_)
 by_cases h1 : 1 ≤ d
 case neg =>
  rw [X1U (by omega)]
  refine QHb ?_; refine QKb ?_; refine QLb ?_; exact QOb
 by_cases h2 : d ≤ 1000000000000000
 case neg =>
  rw [X1U (by omega)]
  refine QQb ?_; exact QOb
 by_cases h3 : -1000000000000000 ≤ n ∧ n ≤ 1000000000000000
 case neg =>
  rw [X1U (by omega)]
  have hin : Con Tryz.prog 317 [] [ai n] [] (ab false) := by
   have h := X2J n
   rwa [show inV n = false by simpa [inV] using h3] at h
  refine QQb ?_; refine QPb ?_; refine Zr (hcon := hin) ?_; refine ZB ?_; refine QMb ?_; exact QNb
 rw [X9h (by omega)]
 have hin : Con Tryz.prog 317 [] [ai n] [] (ab true) := by
  have h := X2J n
  rwa [show inV n = true by simpa [inV] using h3] at h
 refine QQb ?_; refine QPb ?_; refine Zr (hcon := hin) ?_; refine ZB ?_; refine QRb ?_; refine Zr (hcon := Xh4 n d h3 (by omega)) ?_; refine Z4 ?_; refine QPa ?_; exact X1 ⟨_, Xr 2 (y := ab (decide (Nat.gcd n.natAbs d.natAbs = 1))) (AVal.le_of_eq (by refine Eq.trans (b := ab (decide (((Nat.gcd n.natAbs d.natAbs : Nat) : Int) = 1))) rfl ?_; exact congrArg ab (decide_eq_decide.2 (by omega)))), ⟨rfl, trivial⟩, X3 _⟩
theorem X3O (n d : Int) : Con Tryz.prog 243 [] [UA n d] [] (ab (UX n d)) := by
 refine Xc (xs := [ab (UX n d)]) Tryz.func243 rfl Tryz.ntmps243 rfl rfl rfl (fun E => ?_)
 by_cases h1 : 1 ≤ d
 case neg =>
  rw [X1U (by omega)]
  refine QHb ?_; refine QKb ?_; refine QLb ?_; refine QLb ?_; exact QUb
 by_cases h2 : d ≤ 1000000000000000
 case neg =>
  rw [X1U (by omega)]
  refine QQb ?_; refine QLb ?_; exact QUb
 by_cases h3 : -1000000000000000 ≤ n
 case neg =>
  rw [X1U (by omega)]
  refine QQb ?_; refine QVb ?_; exact QUb
 by_cases h4 : n ≤ 1000000000000000
 case neg =>
  rw [X1U (by omega)]
  refine QQb ?_; refine QVb ?_; refine QPb ?_; refine QG ?_; refine QMb ?_; exact QTb
 rw [X9h (by omega)]
 obtain ⟨e, rfl⟩ : ∃ e : Nat, d = e := ⟨d.toNat, by omega⟩
 refine QQb ?_; refine QVb ?_; refine QPb ?_; refine QG ?_; refine QPb ?_; refine Zr (hcon := X30 n ⟨h3, h4⟩) ?_; refine QIb ?_; refine Zr (hcon := Xge n.natAbs e (by omega) (by omega)) ?_; refine Z4 ?_; refine QPa ?_; exact X1 ⟨_, Xr 2 (y := ab (decide (Nat.gcd n.natAbs (e : Int).natAbs = 1))) (AVal.le_of_eq (by refine Eq.trans (b := ab (decide (((Nat.gcd n.natAbs e : Nat) : Int) = 1))) rfl ?_; exact congrArg ab (decide_eq_decide.2 (by rw [Int.natAbs_natCast]; omega)))), ⟨rfl, trivial⟩, X3 _⟩
abbrev US (l : List UInt8) : AVal := .d (.v (.string (X5 l)))
def okB (b : UInt8) : Bool := decide (32 ≤ b.toNat ∧ b.toNat ≤ 126)
def X0e (s : List UInt8) : Int := if UO s then -1 else (s.takeWhile okB).length
theorem XaH {s : List UInt8} : (X0e s < 0) ↔ UO s = true := by
 unfold X0e
 cases UO s <;> simp
theorem XaN {s : List UInt8} {p : Nat} (h : ∀ j, j < p → ∃ b, s[j]? = some b ∧ okB b = true) (hp : p = s.length) : UO s = true := by
 unfold UO
 rw [List.all_eq_true]
 intro x hx
 obtain ⟨i, hi⟩ := List.getElem?_of_mem hx
 obtain ⟨b, h1, h2⟩ := h i (by rw [hp]; exact (List.getElem?_eq_some_iff.1 hi).1)
 rw [hi] at h1; cases h1; exact h2
theorem XeL {s : List UInt8} {p : Nat} {c : UInt8} (h : ∀ j, j < p → ∃ b, s[j]? = some b ∧ okB b = true) (hc : s[p]? = some c) (hb : okB c = false) : X0e s = p := by
 have h1 : UO s = false := by
  cases hs : UO s with
  | false => rfl
  | true =>
   unfold UO at hs
   rw [List.all_eq_true] at hs
   have := hs c (List.mem_of_getElem? hc)
   unfold okB at hb
   rw [hb] at this; simp at this
 unfold X0e
 rw [h1, X7O s p h (fun b hb' => by rw [hc] at hb'; cases hb'; exact hb)]
 simp
theorem X8k (l : List UInt8) {p : Nat} {c : UInt8} (h : l[p]? = some c) (hp : p < (X5 l).size) : (X5 l)[p] = c := by
 have h1 := (List.getElem?_eq_some_iff.1 h).2
 exact h1
theorem Xg9 (c : Nat) (hc : c ≤ 2147483647) : Con Tryz.prog 320 [] [.d (.v (.int .i32 c))] [] (ab (!decide (32 ≤ c ∧ c ≤ 126))) := by
 refine Xc (xs := [ab (!decide (32 ≤ c ∧ c ≤ 126))]) Tryz.func320 rfl Tryz.ntmps320 rfl rfl rfl (fun E => ?_)
 by_cases h1 : c < 32
 ·rw [show (!decide (32 ≤ c ∧ c ≤ 126)) = true by simp; omega]
  refine QB ?_; refine Zq ?_; refine QJ ?_; exact QWb
 ·by_cases h2 : 126 < c
  ·rw [show (!decide (32 ≤ c ∧ c ≤ 126)) = true by simp; omega]
   refine QB ?_; refine Zq ?_; refine Qq ?_; refine Zb ?_; refine QN ?_; exact X1 ⟨_, Xr 2 (y := ab true) (AVal.le_of_eq (by refine Eq.trans (b := ab (decide (126 < (c : Int)))) rfl ?_; exact congrArg ab (decide_eq_true (by omega)))), ⟨rfl, trivial⟩, X3 _⟩
  ·rw [show (!decide (32 ≤ c ∧ c ≤ 126)) = false by simp; omega]
   refine QB ?_; refine Zq ?_; refine Qq ?_; refine Zb ?_; refine QN ?_; exact X1 ⟨_, Xr 2 (y := ab false) (AVal.le_of_eq (by refine Eq.trans (b := ab (decide (126 < (c : Int)))) rfl ?_; exact congrArg ab (decide_eq_false (by omega)))), ⟨rfl, trivial⟩, X3 _⟩
theorem Xg3 (s : List UInt8) (hs : s.length ≤ 9223372036854775807) : Con Tryz.prog 337 [] [US s, .fn 320 [], ab true] [] (ai (X0e s)) := by
 refine Xc (xs := [ai (X0e s)]) Tryz.func337 rfl Tryz.ntmps337 rfl rfl rfl (fun E => ?_)
 have hsz : (X5 s).size = s.length := rfl
 refine QU ?_; refine ZP (γ := 100) ?_; refine JD ?_; refine X4 ?_
 refine Xz (fun p : Nat => p ≤ s.length ∧ ∀ j, j < p → ∃ b, s[j]? = some b ∧ okB b = true) (fun p => ⟨21, [(1, .fn 320 []), (2, ab true), (10, .ptr 100 0)], [(100, .iter (X5 s) p)]⟩) (fun p => s.length - p) 0 ⟨by omega, fun j hj => by omega⟩
  (X6 rfl ⟨JL, JL, JL, trivial⟩ ⟨rfl, trivial⟩) ?_
 rintro p ⟨hp, hall⟩
 by_cases hlt : p < s.length
 ·obtain ⟨c, hc⟩ := Xs (l := s) hlt
  have hlt' : p < (X5 s).size := hlt
  have hget := X8k s hc hlt'
  have hr := Xg9 (Utf8.decode (X5 s) p).1 (decode_le _ _)
  have go : okB c = true → Utf8.decode (X5 s) p = (c.toNat, 1) := fun hok => decode_ascii _ _ hlt' (by unfold okB at hok; rw [decide_eq_true_eq] at hok; rw [hget]; omega) |>.trans (by rw [hget])
  cases hok : okB c with
  | true =>
   have hd := go hok
   rw [show (!decide (32 ≤ (Utf8.decode (X5 s) p).1 ∧ (Utf8.decode (X5 s) p).1 ≤ 126)) = false by rw [hd]; unfold okB at hok; simp only; rw [hok]; rfl] at hr
   refine Qa ?_; refine ZQ ?_; refine ZR ?_; refine Qja ?_; refine JT ?_; refine X2 ?_; refine X4 ?_; refine Qa ?_; refine ZR ?_; refine ZR ?_; refine Z0 ?_; refine QD ?_; refine ZS (hcon := hr) ?_; refine Z1 ?_; refine ZT ?_; refine Qj ?_
   refine ⟨p + 1, ⟨by omega, fun j hj => ?_⟩, by omega, X6 rfl ⟨JL, JL, JL, trivial⟩ ⟨?_, trivial⟩⟩
   ·by_cases e : j = p
    ·subst e; exact ⟨c, hc, hok⟩
    ·exact hall j (by omega)
   ·refine Eq.trans (b := AObj.iter (X5 s) (p + (Utf8.decode (X5 s) p).2)) rfl ?_
    rw [hd]
  | false =>
   rw [XeL hall hc hok]
   have hbad : (!decide (32 ≤ (Utf8.decode (X5 s) p).1 ∧ (Utf8.decode (X5 s) p).1 ≤ 126)) = true := by
    by_cases ha : c.toNat < 128
    ·rw [decode_ascii _ _ hlt' (by rw [hget]; exact ha), hget]
     unfold okB at hok
     simp only; rw [hok]; rfl
    ·have := (decode_high (X5 s) p hlt' (by rw [hget]; omega)).1
     simp; omega
   rw [hbad] at hr
   refine Qa ?_; refine ZQ ?_; refine ZR ?_; refine Qja ?_; refine JT ?_; refine X2 ?_; refine X4 ?_; refine Qa ?_; refine ZR ?_; refine ZR ?_; refine Z0 ?_; refine QD ?_; refine ZS (hcon := hr) ?_; refine Z1 ?_; refine ZT ?_; exact QXb
 ·obtain rfl : p = s.length := by omega
  rw [show X0e s = -1 by unfold X0e; rw [XaN hall rfl]; rfl]
  have hge : (X5 s).size ≤ s.length := Nat.le_refl _
  refine Qa ?_; refine ZU ?_; refine ZR ?_; refine Qja ?_; refine JF ?_; refine Xq ?_; exact QY
theorem Xiv (s : List UInt8) (hs : s.length ≤ 9223372036854775807) : Con Tryz.prog 319 [] [US s, .fn 320 []] [] (ai (X0e s)) := by
 refine Xc (xs := [ai (X0e s)]) Tryz.func319 rfl Tryz.ntmps319 rfl rfl rfl (fun E => ?_)
 refine Qf ?_; refine Zr (hcon := Xg3 s hs) ?_; exact QCb
def Xm : Val → AVal
 | .mk k n d s l => .agg [ai k, ai n, ai d, US s, .d (.sl 5 (XG l))]
def UB (l : List Val) : Bool := decide (l.length % 2 = 1 ∧ l.length ≤ 25) && UW 0 l
theorem Xbx {v : Val} (h : v.kind = 5 ∨ v.kind = 6) (m m' : Nat) : X8 m v = X8 m' v := by
 obtain ⟨k, n, d, s, l⟩ := v
 have h : k = 5 ∨ k = 6 := h
 rw [X8, X8]
 rcases h with rfl | rfl <;> simp
theorem X02 (l : List Val) : (XG l).length = l.length := by rw [X2O, List.length_map]
theorem X5i {l : List Val} {i : Nat} {x : Val} (h : l[i]? = some x) : (XG l)[i]? = some (Y5 x) := by rw [X2O]; exact Xx h
theorem X5B {i : Nat} {l : List Val} {x : Val} (h : l[i]? = some x) : UW i (l.drop i) = (decide (x.kind = 5 + (i % 2 : Nat)) && X8 0 x && UW (i + 1) (l.drop (i + 1))) := by
 rw [List.drop_eq_getElem_cons (List.getElem?_eq_some_iff.1 h).1, (List.getElem?_eq_some_iff.1 h).2, UW]
theorem X87 {m i : Nat} {l : List Val} {x : Val} (h : l[i]? = some x) : V9 m (l.drop i) = (X8 m x && V9 m (l.drop (i + 1))) := by
 rw [List.drop_eq_getElem_cons (List.getElem?_eq_some_iff.1 h).1, (List.getElem?_eq_some_iff.1 h).2, V9]
theorem X4m {i : Nat} {l : List Val} {x : Val} (h : l[i]? = some x) (hk : ¬ x.kind = 5 + (i % 2 : Nat)) : UW i (l.drop i) = false := by
 rw [X5B h, decide_eq_false hk]; rfl
theorem X4F {i : Nat} {l : List Val} {x : Val} (h : l[i]? = some x) (hv : X8 0 x = false) : UW i (l.drop i) = false := by
 rw [X5B h, hv, Bool.and_false]; rfl
theorem X4h {i : Nat} {l : List Val} {x : Val} (h : l[i]? = some x) (hk : x.kind = 5 + (i % 2 : Nat)) (hv : X8 0 x = true) : UW i (l.drop i) = UW (i + 1) (l.drop (i + 1)) := by
 rw [X5B h, decide_eq_true hk, hv]; rfl
def X5b (v : Val) : Prop := ∀ m : Nat, m ≤ 8 → Con Tryz.prog 278 [] [Xm v, ai (8 - m : Nat)] [] (ab (X8 m v))
def X5s (l : List Val) : Prop := Con Tryz.prog 321 [] [.d (.sl 5 (XG l))] [] (ab (UB l))
theorem Xiq (l : List Val) (ih : ∀ x ∈ l, X5b x) : X5s l := by
 refine Xc (xs := [ab (UB l)]) Tryz.func321 rfl Tryz.ntmps321 rfl rfl rfl (fun E => ?_)
 have hlen := X02 l
 by_cases h1 : l.length % 2 = 0
 ·rw [show UB l = false by unfold UB; rw [decide_eq_false (by omega), Bool.false_and]]
  refine QYb ?_; exact Qlb
 by_cases h2 : 25 < l.length
 ·rw [show UB l = false by unfold UB; rw [decide_eq_false (by omega), Bool.false_and]]
  refine QYb ?_; exact Qac
 rw [show UB l = UW 0 (l.drop 0) by unfold UB; rw [decide_eq_true (by omega), Bool.true_and]; rfl]
 refine QYb ?_; refine Qbc ?_; refine Qh ?_; refine Qcc ?_
 refine Xz (fun i : Nat => i ≤ l.length ∧ UW 0 (l.drop 0) = UW i (l.drop i)) (fun i => ⟨37, [(15, .d (.sl 5 (XG l))), (16, ai l.length), (17, ai i)], []⟩) (fun i => l.length - i) 0 ⟨by omega, rfl⟩
  (X6 rfl ⟨JL, (by refine AVal.le_of_eq ?_; refine Eq.trans (b := ai ((XG l).length : Nat)) rfl ?_; rw [hlen]), JL, trivial⟩ trivial) ?_
 rintro i ⟨hi, hpv⟩
 by_cases hlt : i < l.length
 ·obtain ⟨x, hx⟩ := Xs (l := l) hlt
  have hgx := X5i hx
  have hixl : i < (XG l).length := by rw [hlen]; exact hlt
  have hvx := ih x (List.mem_of_getElem? hx) 8 (by omega)
  obtain ⟨k, n, d, s, q⟩ := x
  simp only [Xm, Nat.sub_self] at hvx
  rw [Y5] at hgx
  rw [hpv]
  by_cases hpar : i % 2 = 0
  case pos =>
   by_cases hk : k = 5
   case neg =>
    rw [X4m hx (by rw [hpar]; show ¬ k = _; omega)]
    refine Qgc ?_; refine Qhc ?_; refine Qb ?_; refine Qic ?_; refine ZH ?_; exact Qlb
   subst hk
   have hfl := Xbx (v := .mk 5 n d s q) (.inl rfl) 8 0
   cases hvv : X8 8 (.mk 5 n d s q) with
   | true =>
    rw [hvv] at hvx hfl
    have hgo := X4h hx (by rw [hpar]; rfl) hfl.symm
    rw [hgo, ← hgo, ← hpv]
    refine Qgc ?_; refine Qkc ?_; refine Qha ?_; refine Qsa ?_; exact ⟨i + 1, ⟨by omega, hpv.trans hgo⟩, by omega, X6 rfl ⟨JL, JL, JL, trivial⟩ trivial⟩
   | false =>
    rw [hvv] at hvx hfl
    rw [X4F hx hfl.symm]
    refine Qgc ?_; refine Qkc ?_; exact Qfa
  case neg =>
   have hpar : i % 2 = 1 := by omega
   by_cases hk : k = 6
   case neg =>
    rw [X4m hx (by rw [hpar]; show ¬ k = _; omega)]
    refine Qlc ?_; refine Qhc ?_; refine Qb ?_; refine Qic ?_; refine ZH ?_; exact Qlb
   subst hk
   have hfl := Xbx (v := .mk 6 n d s q) (.inr rfl) 8 0
   cases hvv : X8 8 (.mk 6 n d s q) with
   | true =>
    rw [hvv] at hvx hfl
    have hgo := X4h hx (by rw [hpar]; rfl) hfl.symm
    rw [hgo, ← hgo, ← hpv]
    refine Qlc ?_; refine Qkc ?_; refine Qha ?_; refine Qsa ?_; exact ⟨i + 1, ⟨by omega, hpv.trans hgo⟩, by omega, X6 rfl ⟨JL, JL, JL, trivial⟩ trivial⟩
   | false =>
    rw [hvv] at hvx hfl
    rw [X4F hx hfl.symm]
    refine Qlc ?_; refine Qkc ?_; exact Qfa
 obtain rfl : i = l.length := by omega
 rw [hpv, List.drop_length, UW]
 exact Qla
end Go.Fw
