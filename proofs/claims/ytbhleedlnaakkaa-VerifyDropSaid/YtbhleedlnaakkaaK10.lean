/- The letters of a string value. -/
import Derived.Laws.RangeAny
import Derived.Test.YtbhleedlnaakkaaK09
set_option maxHeartbeats 8000000
namespace Go.Fw
open Go Go.Proofs
set_option maxRecDepth 100000
set_option linter.unusedVariables false
set_option linter.unusedSimpArgs false
abbrev X1g (l : List UInt8) : AVal := .d (.v (.string (X5 l)))
def okB (b : UInt8) : Bool := decide (32 ≤ b.toNat ∧ b.toNat ≤ 126)
def Ud (s : List UInt8) : Int := if YZ s then -1 else (s.takeWhile okB).length
theorem X3W {s : List UInt8} : (Ud s < 0) ↔ YZ s = true := by
 unfold Ud
 cases YZ s <;> simp
theorem X6m {s : List UInt8} {p : Nat} (h : ∀ j, j < p → ∃ b, s[j]? = some b ∧ okB b = true) (hp : p = s.length) : YZ s = true := by
 unfold YZ
 rw [List.all_eq_true]
 intro x hx
 obtain ⟨i, hi⟩ := List.getElem?_of_mem hx
 obtain ⟨b, h1, h2⟩ := h i (by rw [hp]; exact (List.getElem?_eq_some_iff.1 hi).1)
 rw [hi] at h1; cases h1; exact h2
theorem X6Z {s : List UInt8} {p : Nat} {c : UInt8} (h : ∀ j, j < p → ∃ b, s[j]? = some b ∧ okB b = true) (hc : s[p]? = some c) (hb : okB c = false) : Ud s = p := by
 have h1 : YZ s = false := by
  cases hs : YZ s with
  | false => rfl
  | true =>
   unfold YZ at hs
   rw [List.all_eq_true] at hs
   have := hs c (List.mem_of_getElem? hc)
   unfold okB at hb
   rw [hb] at this; simp at this
 unfold Ud
 rw [h1, X32 s p h (fun b hb' => by rw [hc] at hb'; cases hb'; exact hb)]
 simp
theorem X8H (l : List UInt8) {p : Nat} {c : UInt8} (h : l[p]? = some c) (hp : p < (X5 l).size) : (X5 l)[p] = c := by
 have h1 := (List.getElem?_eq_some_iff.1 h).2
 exact h1
theorem X7K (c : Nat) (hc : c ≤ 2147483647) : Con Try.prog 65 [] [.d (.v (.int .i32 c))] [] (ab (!decide (32 ≤ c ∧ c ≤ 126))) := by
 refine Xf (xs := [ab (!decide (32 ≤ c ∧ c ≤ 126))]) Try.func65 rfl Try.ntmps65 rfl rfl rfl (fun E => ?_)
 by_cases h1 : c < 32
 ·rw [show (!decide (32 ≤ c ∧ c ≤ 126)) = true by simp; omega]
  refine X0 ?_; refine JR ?_; refine Z0 ?_; refine JD ?_; refine X0 ?_; refine JR ?_; refine Z1 ?_; refine Ze ?_; refine Z1 ?_; refine Z5 ?_; refine Z5 ?_; refine Z4 ?_; refine Z0 ?_; refine JD ?_
  exact X1 ⟨_, St.le_refl _, ⟨rfl, trivial⟩, X2 _⟩
 ·by_cases h2 : 126 < c
  ·rw [show (!decide (32 ≤ c ∧ c ≤ 126)) = true by simp; omega]
   refine X0 ?_; refine JR ?_; refine Z0 ?_; refine JD ?_; refine X0 ?_; refine JR ?_; refine Z1 ?_; refine Ze ?_; refine Z1 ?_; refine Z1 ?_; refine Za ?_; refine Z7 ?_; refine Z0 ?_; refine JD ?_
   exact X1 ⟨_, Xn 2 (y := ab true) (AVal.le_of_eq (by refine Eq.trans (b := ab (decide (126 < (c : Int)))) rfl ?_; exact congrArg ab (decide_eq_true (by omega)))), ⟨rfl, trivial⟩, X2 _⟩
  ·rw [show (!decide (32 ≤ c ∧ c ≤ 126)) = false by simp; omega]
   refine X0 ?_; refine JR ?_; refine Z0 ?_; refine JD ?_; refine X0 ?_; refine JR ?_; refine Z1 ?_; refine Ze ?_; refine Z1 ?_; refine Z1 ?_; refine Za ?_; refine Z7 ?_; refine Z0 ?_; refine JD ?_
   exact X1 ⟨_, Xn 2 (y := ab false) (AVal.le_of_eq (by refine Eq.trans (b := ab (decide (126 < (c : Int)))) rfl ?_; exact congrArg ab (decide_eq_false (by omega)))), ⟨rfl, trivial⟩, X2 _⟩
theorem X64 (s : List UInt8) (hs : s.length ≤ 9223372036854775807) : Con Try.prog 71 [] [X1g s, .fn 65 [], ab true] [] (ai (Ud s)) := by
 refine Xf (xs := [ai (Ud s)]) Try.func71 rfl Try.ntmps71 rfl rfl rfl (fun E => ?_)
 have hsz : (X5 s).size = s.length := rfl
 refine X0 ?_; refine JR ?_; refine Z0 ?_; refine JD ?_; refine X0 ?_; refine X0 ?_; refine JR ?_; refine Z1 ?_; refine Zq (γ := 100) ?_; refine JD ?_; refine X4 ?_
 refine XD (fun p : Nat => p ≤ s.length ∧ ∀ j, j < p → ∃ b, s[j]? = some b ∧ okB b = true) (fun p => ⟨21, [(1, .fn 65 []), (2, ab true), (10, .ptr 100 0)], [(100, .iter (X5 s) p)]⟩) (fun p => s.length - p) 0 ⟨by omega, fun j hj => by omega⟩
  (X8 rfl ⟨JL, JL, JL, trivial⟩ ⟨rfl, trivial⟩) ?_
 rintro p ⟨hp, hall⟩
 by_cases hlt : p < s.length
 ·obtain ⟨c, hc⟩ := Xs (l := s) hlt
  have hlt' : p < (X5 s).size := hlt
  have hget := X8H s hc hlt'
  have hr := X7K (Utf8.decode (X5 s) p).1 (decode_le _ _)
  have go : okB c = true → Utf8.decode (X5 s) p = (c.toNat, 1) := fun hok => decode_ascii _ _ hlt' (by unfold okB at hok; rw [decide_eq_true_eq] at hok; rw [hget]; omega) |>.trans (by rw [hget])
  cases hok : okB c with
  | true =>
   have hd := go hok
   rw [show (!decide (32 ≤ (Utf8.decode (X5 s) p).1 ∧ (Utf8.decode (X5 s) p).1 ≤ 126)) = false by rw [hd]; unfold okB at hok; simp only; rw [hok]; rfl] at hr
   refine X0 ?_; refine JR ?_; refine Zr ?_; refine Zs ?_; refine JD ?_; refine X0 ?_; refine JT ?_; refine X3 ?_; refine X4 ?_; refine X0 ?_; refine JR ?_; refine Zs ?_; refine Zs ?_
   refine Z0 ?_; refine Z0 ?_; refine JD ?_; refine X0 ?_; refine JR ?_; refine Z1 ?_; refine Z1 ?_; refine Zt (hcon := hr) ?_; refine Z1 ?_; refine Zu ?_; refine JD ?_; refine JF ?_; refine X3 ?_
   refine ⟨p + 1, ⟨by omega, fun j hj => ?_⟩, by omega, X8 rfl ⟨JL, JL, JL, trivial⟩ ⟨?_, trivial⟩⟩
   ·by_cases e : j = p
    ·subst e; exact ⟨c, hc, hok⟩
    ·exact hall j (by omega)
   ·refine Eq.trans (b := AObj.iter (X5 s) (p + (Utf8.decode (X5 s) p).2)) rfl ?_
    rw [hd]
  | false =>
   rw [X6Z hall hc hok]
   have hbad : (!decide (32 ≤ (Utf8.decode (X5 s) p).1 ∧ (Utf8.decode (X5 s) p).1 ≤ 126)) = true := by
    by_cases ha : c.toNat < 128
    ·rw [decode_ascii _ _ hlt' (by rw [hget]; exact ha), hget]
     unfold okB at hok
     simp only; rw [hok]; rfl
    ·have := (decode_high (X5 s) p hlt' (by rw [hget]; omega)).1
     simp; omega
   rw [hbad] at hr
   refine X0 ?_; refine JR ?_; refine Zr ?_; refine Zs ?_; refine JD ?_; refine X0 ?_; refine JT ?_; refine X3 ?_; refine X4 ?_; refine X0 ?_; refine JR ?_; refine Zs ?_; refine Zs ?_
   refine Z0 ?_; refine Z0 ?_; refine JD ?_; refine X0 ?_; refine JR ?_; refine Z1 ?_; refine Z1 ?_; refine Zt (hcon := hr) ?_; refine Z1 ?_; refine Zu ?_; refine JD ?_; refine JT ?_; refine X0 ?_; refine JR ?_
   refine Z1 ?_; refine Z0 ?_; refine JD ?_
   exact X1 ⟨_, St.le_refl _, ⟨rfl, trivial⟩, X2 _⟩
 ·obtain rfl : p = s.length := by omega
  rw [show Ud s = -1 by unfold Ud; rw [X6m hall rfl]; rfl]
  have hge : (X5 s).size ≤ s.length := Nat.le_refl _
  refine X0 ?_; refine JR ?_; refine Zv ?_; refine Zs ?_; refine JD ?_; refine X0 ?_; refine JF ?_; refine Xz ?_; refine X0 ?_; refine JR ?_; refine Z0 ?_; refine JD ?_
  exact X1 ⟨_, St.le_refl _, ⟨rfl, trivial⟩, X2 _⟩
theorem X6S (s : List UInt8) (hs : s.length ≤ 9223372036854775807) : Con Try.prog 64 [] [X1g s, .fn 65 []] [] (ai (Ud s)) := by
 refine Xf (xs := [ai (Ud s)]) Try.func64 rfl Try.ntmps64 rfl rfl rfl (fun E => ?_)
 refine X0 ?_; refine JR ?_; refine Z0 ?_; refine JD ?_; refine X0 ?_; refine JR ?_; refine Z1 ?_; refine Z1 ?_; refine Zc (hcon := X64 s hs) ?_; refine Z0 ?_; refine JD ?_
 exact X1 ⟨_, St.le_refl _, ⟨rfl, trivial⟩, X2 _⟩
end Go.Fw
namespace Go.Fw
open Go Go.Proofs
set_option maxRecDepth 100000
set_option linter.unusedVariables false
set_option linter.unusedSimpArgs false
def XS : Val → AVal
 | .mk k n d s l => .agg [ai k, ai n, ai d, X1g s, .d (.sl 5 (Yx l))]
def Up (l : List Val) : Bool := decide (l.length % 2 = 1 ∧ l.length ≤ 25) && YP 0 l
theorem X2s {v : Val} (h : v.kind = 5 ∨ v.kind = 6) (m m' : Nat) : X6 m v = X6 m' v := by
 obtain ⟨k, n, d, s, l⟩ := v
 have h : k = 5 ∨ k = 6 := h
 rw [X6, X6]
 rcases h with rfl | rfl <;> simp
theorem X3U (l : List Val) : (Yx l).length = l.length := by rw [X0N, List.length_map]
theorem X3R {l : List Val} {i : Nat} {x : Val} (h : l[i]? = some x) : (Yx l)[i]? = some (Y9 x) := by rw [X0N]; exact Xw h
theorem X2a {i : Nat} {l : List Val} {x : Val} (h : l[i]? = some x) : YP i (l.drop i) = (decide (x.kind = 5 + (i % 2 : Nat)) && X6 0 x && YP (i + 1) (l.drop (i + 1))) := by
 rw [List.drop_eq_getElem_cons (List.getElem?_eq_some_iff.1 h).1, (List.getElem?_eq_some_iff.1 h).2, YP]
theorem X8n {m i : Nat} {l : List Val} {x : Val} (h : l[i]? = some x) : Uu m (l.drop i) = (X6 m x && Uu m (l.drop (i + 1))) := by
 rw [List.drop_eq_getElem_cons (List.getElem?_eq_some_iff.1 h).1, (List.getElem?_eq_some_iff.1 h).2, Uu]
theorem X3I {i : Nat} {l : List Val} {x : Val} (h : l[i]? = some x) (hk : ¬ x.kind = 5 + (i % 2 : Nat)) : YP i (l.drop i) = false := by
 rw [X2a h, decide_eq_false hk]; rfl
theorem X4D {i : Nat} {l : List Val} {x : Val} (h : l[i]? = some x) (hv : X6 0 x = false) : YP i (l.drop i) = false := by
 rw [X2a h, hv, Bool.and_false]; rfl
theorem X4r {i : Nat} {l : List Val} {x : Val} (h : l[i]? = some x) (hk : x.kind = 5 + (i % 2 : Nat)) (hv : X6 0 x = true) : YP i (l.drop i) = YP (i + 1) (l.drop (i + 1)) := by
 rw [X2a h, decide_eq_true hk, hv]; rfl
def X0p (v : Val) : Prop := ∀ m : Nat, m ≤ 8 → Con Try.prog 55 [] [XS v, ai (8 - m : Nat)] [] (ab (X6 m v))
def X24 (l : List Val) : Prop := Con Try.prog 66 [] [.d (.sl 5 (Yx l))] [] (ab (Up l))
theorem X8p (l : List Val) (ih : ∀ x ∈ l, X0p x) : X24 l := by
 refine Xf (xs := [ab (Up l)]) Try.func66 rfl Try.ntmps66 rfl rfl rfl (fun E => ?_)
 have hlen := X3U l
 by_cases h1 : l.length % 2 = 0
 ·rw [show Up l = false by unfold Up; rw [decide_eq_false (by omega), Bool.false_and]]
  refine X0 ?_; refine JR ?_; refine Z0 ?_; refine JD ?_; refine X0 ?_; refine X0 ?_; refine JR ?_; refine Z1 ?_; refine Zw ?_; refine Zx ?_; refine Zi ?_; refine Z1 ?_; refine Z5 ?_; refine Z5 ?_
  refine Z5 ?_; refine Z4 ?_; refine JD ?_; refine JT ?_; refine X0 ?_; refine JR ?_; refine Z0 ?_; refine JD ?_
  exact X1 ⟨_, St.le_refl _, ⟨rfl, trivial⟩, X2 _⟩
 by_cases h2 : 25 < l.length
 ·rw [show Up l = false by unfold Up; rw [decide_eq_false (by omega), Bool.false_and]]
  refine X0 ?_; refine JR ?_; refine Z0 ?_; refine JD ?_; refine X0 ?_; refine X0 ?_; refine JR ?_; refine Z1 ?_; refine Zw ?_; refine Zx ?_; refine Zi ?_; refine Z1 ?_; refine Z1 ?_; refine Zw ?_
  refine Za ?_; refine Z7 ?_; refine JD ?_; refine JT ?_; refine X0 ?_; refine JR ?_; refine Z0 ?_; refine JD ?_
  exact X1 ⟨_, St.le_refl _, ⟨rfl, trivial⟩, X2 _⟩
 rw [show Up l = YP 0 (l.drop 0) by unfold Up; rw [decide_eq_true (by omega), Bool.true_and]; rfl]
 refine X0 ?_; refine JR ?_; refine Z0 ?_; refine JD ?_; refine X0 ?_; refine X0 ?_; refine JR ?_; refine Z1 ?_; refine Zw ?_; refine Zx ?_; refine Zi ?_; refine Z1 ?_; refine Z1 ?_; refine Zw ?_
 refine Za ?_; refine Z7 ?_; refine JD ?_; refine JF ?_; refine X3 ?_; refine X0 ?_; refine X0 ?_; refine JR ?_; refine Z1 ?_; refine Zw ?_; refine Z1 ?_; refine JD ?_; refine X4 ?_
 refine XD (fun i : Nat => i ≤ l.length ∧ YP 0 (l.drop 0) = YP i (l.drop i)) (fun i => ⟨37, [(15, .d (.sl 5 (Yx l))), (16, ai l.length), (17, ai i)], []⟩) (fun i => l.length - i) 0 ⟨by omega, rfl⟩
  (X8 rfl ⟨JL, (by refine AVal.le_of_eq ?_; refine Eq.trans (b := ai ((Yx l).length : Nat)) rfl ?_; rw [hlen]), JL, trivial⟩ trivial) ?_
 rintro i ⟨hi, hpv⟩
 by_cases hlt : i < l.length
 ·obtain ⟨x, hx⟩ := Xs (l := l) hlt
  have hgx := X3R hx
  have hixl : i < (Yx l).length := by rw [hlen]; exact hlt
  have hvx := ih x (List.mem_of_getElem? hx) 8 (by omega)
  obtain ⟨k, n, d, s, q⟩ := x
  simp only [XS, Nat.sub_self] at hvx
  rw [Y9] at hgx
  rw [hpv]
  by_cases hpar : i % 2 = 0
  case pos =>
   by_cases hk : k = 5
   case neg =>
    rw [X3I hx (by rw [hpar]; show ¬ k = _; omega)]
    refine X0 ?_; refine JR ?_; refine Ze ?_; refine JD ?_; refine X0 ?_; refine JT ?_; refine X3 ?_; refine X0 ?_; refine X4 ?_; refine X0 ?_; refine JR ?_; refine Z1 ?_; refine Zy ?_
    refine Zz ?_; refine Zh (γ := 100) ?_; refine Z0 ?_; refine Zk ?_; refine JD ?_; refine X0 ?_; refine JR ?_; refine ZA ?_; refine Z1 ?_
    refine ZB (op := .rem) (r' := nj 0) (u := nj i) (v := nj 2) ?_ (hr' := by exact congrArg nj hpar) (hr := by exact UV (by omega)); refine Zy ?_; refine ZC ?_; refine Z0 ?_; refine JD ?_; refine X0 ?_
    refine JR ?_; refine Zo ?_; refine Zp ?_; refine Z1 ?_; refine Zg ?_; refine Z1 ?_; refine Z5 ?_; refine Z5 ?_; refine Z5 ?_; refine Z4 ?_; refine JD ?_; refine JT ?_; refine X0 ?_; refine JR ?_; refine Z0 ?_
    refine JD ?_
    exact X1 ⟨_, St.le_refl _, ⟨rfl, trivial⟩, X2 _⟩
   subst hk
   have hfl := X2s (v := .mk 5 n d s q) (.inl rfl) 8 0
   cases hvv : X6 8 (.mk 5 n d s q) with
   | true =>
    rw [hvv] at hvx hfl
    have hgo := X4r hx (by rw [hpar]; rfl) hfl.symm
    rw [hgo, ← hgo, ← hpv]
    refine X0 ?_; refine JR ?_; refine Ze ?_; refine JD ?_; refine X0 ?_; refine JT ?_; refine X3 ?_; refine X0 ?_; refine X4 ?_; refine X0 ?_; refine JR ?_; refine Z1 ?_; refine Zy ?_
    refine Zz ?_; refine Zh (γ := 100) ?_; refine Z0 ?_; refine Zk ?_; refine JD ?_; refine X0 ?_; refine JR ?_; refine ZA ?_; refine Z1 ?_
    refine ZB (op := .rem) (r' := nj 0) (u := nj i) (v := nj 2) ?_ (hr' := by exact congrArg nj hpar) (hr := by exact UV (by omega)); refine Zy ?_; refine ZC ?_; refine Z0 ?_; refine JD ?_; refine X0 ?_
    refine JR ?_; refine Zo ?_; refine Zp ?_; refine Z1 ?_; refine Zg ?_; refine Z1 ?_; refine ZD ?_; refine Zc (hcon := hvx) ?_; refine Zd ?_; refine Z7 ?_; refine JD ?_; refine JF ?_; refine X3 ?_; refine JR ?_
    refine Zf ?_; refine Z1 ?_; refine JD ?_
    exact ⟨i + 1, ⟨by omega, hpv.trans hgo⟩, by omega, X8 rfl ⟨JL, JL, JL, trivial⟩ trivial⟩
   | false =>
    rw [hvv] at hvx hfl
    rw [X4D hx hfl.symm]
    refine X0 ?_; refine JR ?_; refine Ze ?_; refine JD ?_; refine X0 ?_; refine JT ?_; refine X3 ?_; refine X0 ?_; refine X4 ?_; refine X0 ?_; refine JR ?_; refine Z1 ?_; refine Zy ?_
    refine Zz ?_; refine Zh (γ := 100) ?_; refine Z0 ?_; refine Zk ?_; refine JD ?_; refine X0 ?_; refine JR ?_; refine ZA ?_; refine Z1 ?_
    refine ZB (op := .rem) (r' := nj 0) (u := nj i) (v := nj 2) ?_ (hr' := by exact congrArg nj hpar) (hr := by exact UV (by omega)); refine Zy ?_; refine ZC ?_; refine Z0 ?_; refine JD ?_; refine X0 ?_
    refine JR ?_; refine Zo ?_; refine Zp ?_; refine Z1 ?_; refine Zg ?_; refine Z1 ?_; refine ZD ?_; refine Zc (hcon := hvx) ?_; refine Zd ?_; refine Z7 ?_; refine JD ?_; refine JT ?_; refine X0 ?_; refine JR ?_
    refine Z0 ?_; refine JD ?_
    exact X1 ⟨_, St.le_refl _, ⟨rfl, trivial⟩, X2 _⟩
  case neg =>
   have hpar : i % 2 = 1 := by omega
   by_cases hk : k = 6
   case neg =>
    rw [X3I hx (by rw [hpar]; show ¬ k = _; omega)]
    refine X0 ?_; refine JR ?_; refine Ze ?_; refine JD ?_; refine X0 ?_; refine JT ?_; refine X3 ?_; refine X0 ?_; refine X4 ?_; refine X0 ?_; refine JR ?_; refine Z1 ?_; refine Zy ?_
    refine Zz ?_; refine Zh (γ := 100) ?_; refine Z0 ?_; refine Zk ?_; refine JD ?_; refine X0 ?_; refine JR ?_; refine ZA ?_; refine Z1 ?_
    refine ZB (op := .rem) (r' := nj 1) (u := nj i) (v := nj 2) ?_ (hr' := by exact congrArg nj hpar) (hr := by exact UV (by omega)); refine Zy ?_; refine ZC ?_; refine Z0 ?_; refine JD ?_; refine X0 ?_
    refine JR ?_; refine Zo ?_; refine Zp ?_; refine Z1 ?_; refine Zg ?_; refine Z1 ?_; refine Z5 ?_; refine Z5 ?_; refine Z5 ?_; refine Z4 ?_; refine JD ?_; refine JT ?_; refine X0 ?_; refine JR ?_; refine Z0 ?_
    refine JD ?_
    exact X1 ⟨_, St.le_refl _, ⟨rfl, trivial⟩, X2 _⟩
   subst hk
   have hfl := X2s (v := .mk 6 n d s q) (.inr rfl) 8 0
   cases hvv : X6 8 (.mk 6 n d s q) with
   | true =>
    rw [hvv] at hvx hfl
    have hgo := X4r hx (by rw [hpar]; rfl) hfl.symm
    rw [hgo, ← hgo, ← hpv]
    refine X0 ?_; refine JR ?_; refine Ze ?_; refine JD ?_; refine X0 ?_; refine JT ?_; refine X3 ?_; refine X0 ?_; refine X4 ?_; refine X0 ?_; refine JR ?_; refine Z1 ?_; refine Zy ?_
    refine Zz ?_; refine Zh (γ := 100) ?_; refine Z0 ?_; refine Zk ?_; refine JD ?_; refine X0 ?_; refine JR ?_; refine ZA ?_; refine Z1 ?_
    refine ZB (op := .rem) (r' := nj 1) (u := nj i) (v := nj 2) ?_ (hr' := by exact congrArg nj hpar) (hr := by exact UV (by omega)); refine Zy ?_; refine ZC ?_; refine Z0 ?_; refine JD ?_; refine X0 ?_
    refine JR ?_; refine Zo ?_; refine Zp ?_; refine Z1 ?_; refine Zg ?_; refine Z1 ?_; refine ZD ?_; refine Zc (hcon := hvx) ?_; refine Zd ?_; refine Z7 ?_; refine JD ?_; refine JF ?_; refine X3 ?_; refine JR ?_
    refine Zf ?_; refine Z1 ?_; refine JD ?_
    exact ⟨i + 1, ⟨by omega, hpv.trans hgo⟩, by omega, X8 rfl ⟨JL, JL, JL, trivial⟩ trivial⟩
   | false =>
    rw [hvv] at hvx hfl
    rw [X4D hx hfl.symm]
    refine X0 ?_; refine JR ?_; refine Ze ?_; refine JD ?_; refine X0 ?_; refine JT ?_; refine X3 ?_; refine X0 ?_; refine X4 ?_; refine X0 ?_; refine JR ?_; refine Z1 ?_; refine Zy ?_
    refine Zz ?_; refine Zh (γ := 100) ?_; refine Z0 ?_; refine Zk ?_; refine JD ?_; refine X0 ?_; refine JR ?_; refine ZA ?_; refine Z1 ?_
    refine ZB (op := .rem) (r' := nj 1) (u := nj i) (v := nj 2) ?_ (hr' := by exact congrArg nj hpar) (hr := by exact UV (by omega)); refine Zy ?_; refine ZC ?_; refine Z0 ?_; refine JD ?_; refine X0 ?_
    refine JR ?_; refine Zo ?_; refine Zp ?_; refine Z1 ?_; refine Zg ?_; refine Z1 ?_; refine ZD ?_; refine Zc (hcon := hvx) ?_; refine Zd ?_; refine Z7 ?_; refine JD ?_; refine JT ?_; refine X0 ?_; refine JR ?_
    refine Z0 ?_; refine JD ?_
    exact X1 ⟨_, St.le_refl _, ⟨rfl, trivial⟩, X2 _⟩
 obtain rfl : i = l.length := by omega
 rw [hpv, List.drop_length, YP]
 refine X0 ?_; refine JR ?_; refine Ze ?_; refine JD ?_; refine X0 ?_; refine JF ?_; refine Xz ?_; refine X0 ?_; refine JR ?_; refine Z0 ?_; refine JD ?_
 exact X1 ⟨_, St.le_refl _, ⟨rfl, trivial⟩, X2 _⟩
end Go.Fw
namespace Go.Fw
open Go Go.Proofs
set_option maxRecDepth 100000
set_option linter.unusedVariables false
set_option linter.unusedSimpArgs false
theorem X8L (v : Val) (ih : ∀ x ∈ v.l, X0p x) : X0p v := by
 obtain ⟨k, n, d, s, l⟩ := v
 intro m hm
 refine Xf (xs := [ab (X6 m (.mk k n d s l))]) Try.func55 rfl Try.ntmps55 rfl rfl rfl (fun E => ?_)
 have hlen := X3U l
 simp only [Val.l] at ih
 by_cases hk0 : k = 0
 ·subst hk0
  by_cases hd0 : d = 0
  case neg =>
   rw [show X6 m (.mk 0 n d s l) = false by rw [X6]; simp [*]]
   repeat first | refine X0 ?_ | (refine JR ?_; (repeat first | refine Z1 ?_ | refine Z0 ?_ | refine Zo ?_ | refine Zp ?_ | refine Zg ?_ | refine Zn (γ := 100) ?_ | refine Z4 ?_ | refine Z5 ?_ | refine Z6 ?_); refine JD ?_) | refine JT ?_
   exact X1 ⟨_, St.le_refl _, ⟨rfl, trivial⟩, X2 _⟩
  by_cases hs0 : s = []
  case neg =>
   rw [show X6 m (.mk 0 n d s l) = false by rw [X6]; simp [*]]
   repeat first | refine X0 ?_ | (refine JR ?_; (repeat first | refine Z1 ?_ | refine Z0 ?_ | refine Zo ?_ | refine Zp ?_ | refine Zg ?_ | refine ZE ?_ | refine Zn (γ := 100) ?_ | refine Z4 ?_ | refine Z7 ?_ | refine Z5 ?_ | refine Z6 ?_); refine JD ?_) | refine JT ?_
   exact X1 ⟨_, St.le_refl _, ⟨rfl, trivial⟩, X2 _⟩
  by_cases hl0 : l.length = 0
  case neg =>
   have hl1 : 0 < l.length := by omega
   rw [show X6 m (.mk 0 n d s l) = false by rw [X6]; simp [*]]
   repeat first | refine X0 ?_ | (refine JR ?_; (repeat first | refine Z1 ?_ | refine Z0 ?_ | refine Zo ?_ | refine Zp ?_ | refine Zw ?_ | refine Za ?_ | refine Zg ?_ | refine ZE ?_ | refine Zn (γ := 100) ?_ | refine Z4 ?_ | refine Z7 ?_); refine JD ?_) | refine JT ?_
   exact X1 ⟨_, St.le_refl _, ⟨rfl, trivial⟩, X2 _⟩
  by_cases hn : n = 0
  ·rw [show X6 m (.mk 0 n d s l) = true by rw [X6]; simp [*]]
   repeat first | refine X0 ?_ | (refine JR ?_; (repeat first | refine Z1 ?_ | refine Z0 ?_ | refine Zo ?_ | refine Zp ?_ | refine Zw ?_ | refine Za ?_ | refine Zi ?_ | refine Zg ?_ | refine ZE ?_ | refine Zn (γ := 100) ?_ | refine Z4 ?_ | refine Z7 ?_); refine JD ?_) | refine JT ?_ | refine JF ?_ | refine X4 ?_ | refine X3 ?_
   exact X1 ⟨_, Xn 4 (y := ab true) (AVal.le_of_eq (by refine Eq.trans (b := ab (decide (n = 0))) rfl ?_; exact congrArg ab (decide_eq_true hn))), ⟨rfl, trivial⟩, X2 _⟩
  ·rw [show X6 m (.mk 0 n d s l) = false by rw [X6]; simp [*]]
   repeat first | refine X0 ?_ | (refine JR ?_; (repeat first | refine Z1 ?_ | refine Z0 ?_ | refine Zo ?_ | refine Zp ?_ | refine Zw ?_ | refine Za ?_ | refine Zi ?_ | refine Zg ?_ | refine ZE ?_ | refine Zn (γ := 100) ?_ | refine Z4 ?_ | refine Z7 ?_); refine JD ?_) | refine JT ?_ | refine JF ?_ | refine X4 ?_ | refine X3 ?_
   exact X1 ⟨_, Xn 4 (y := ab false) (AVal.le_of_eq (by refine Eq.trans (b := ab (decide (n = 0))) rfl ?_; exact congrArg ab (decide_eq_false hn))), ⟨rfl, trivial⟩, X2 _⟩
 by_cases hk1 : k = 1
 ·subst hk1
  by_cases hd0 : d = 0
  case neg =>
   rw [show X6 m (.mk 1 n d s l) = false by rw [X6]; simp [*]]
   repeat first | refine X0 ?_ | (refine JR ?_; (repeat first | refine Z1 ?_ | refine Z0 ?_ | refine Zo ?_ | refine Zp ?_ | refine Zg ?_ | refine Zn (γ := 100) ?_ | refine Z4 ?_ | refine Z5 ?_ | refine Z6 ?_); refine JD ?_) | refine JT ?_
   exact X1 ⟨_, St.le_refl _, ⟨rfl, trivial⟩, X2 _⟩
  by_cases hs0 : s = []
  case neg =>
   rw [show X6 m (.mk 1 n d s l) = false by rw [X6]; simp [*]]
   repeat first | refine X0 ?_ | (refine JR ?_; (repeat first | refine Z1 ?_ | refine Z0 ?_ | refine Zo ?_ | refine Zp ?_ | refine Zg ?_ | refine ZE ?_ | refine Zn (γ := 100) ?_ | refine Z4 ?_ | refine Z7 ?_ | refine Z5 ?_ | refine Z6 ?_); refine JD ?_) | refine JT ?_
   exact X1 ⟨_, St.le_refl _, ⟨rfl, trivial⟩, X2 _⟩
  by_cases hl0 : l.length = 0
  case neg =>
   have hl1 : 0 < l.length := by omega
   rw [show X6 m (.mk 1 n d s l) = false by rw [X6]; simp [*]]
   repeat first | refine X0 ?_ | (refine JR ?_; (repeat first | refine Z1 ?_ | refine Z0 ?_ | refine Zo ?_ | refine Zp ?_ | refine Zw ?_ | refine Za ?_ | refine Zg ?_ | refine ZE ?_ | refine Zn (γ := 100) ?_ | refine Z4 ?_ | refine Z7 ?_); refine JD ?_) | refine JT ?_
   exact X1 ⟨_, St.le_refl _, ⟨rfl, trivial⟩, X2 _⟩
  by_cases hn : n = 0
  ·rw [show X6 m (.mk 1 n d s l) = true by rw [X6]; simp [*]]
   repeat first | refine X0 ?_ | (refine JR ?_; (repeat first | refine Z1 ?_ | refine Z0 ?_ | refine Zo ?_ | refine Zp ?_ | refine Zw ?_ | refine Za ?_ | refine Zi ?_ | refine Zg ?_ | refine ZE ?_ | refine Zn (γ := 100) ?_ | refine Z4 ?_ | refine Z7 ?_ | refine Z5 ?_); refine JD ?_) | refine JT ?_ | refine JF ?_ | refine X4 ?_ | refine X3 ?_
   exact X1 ⟨_, St.le_refl _, ⟨rfl, trivial⟩, X2 _⟩
  by_cases hn1 : n = 1
  ·rw [show X6 m (.mk 1 n d s l) = true by rw [X6]; simp [*]]
   repeat first | refine X0 ?_ | (refine JR ?_; (repeat first | refine Z1 ?_ | refine Z0 ?_ | refine Zo ?_ | refine Zp ?_ | refine Zw ?_ | refine Za ?_ | refine Zi ?_ | refine Zg ?_ | refine ZE ?_ | refine Zn (γ := 100) ?_ | refine Z4 ?_ | refine Z7 ?_); refine JD ?_) | refine JT ?_ | refine JF ?_ | refine X4 ?_ | refine X3 ?_
   exact X1 ⟨_, Xn 4 (y := ab true) (AVal.le_of_eq (by refine Eq.trans (b := ab (decide (n = 1))) rfl ?_; exact congrArg ab (decide_eq_true hn1))), ⟨rfl, trivial⟩, X2 _⟩
  ·rw [show X6 m (.mk 1 n d s l) = false by rw [X6]; simp [*]]
   repeat first | refine X0 ?_ | (refine JR ?_; (repeat first | refine Z1 ?_ | refine Z0 ?_ | refine Zo ?_ | refine Zp ?_ | refine Zw ?_ | refine Za ?_ | refine Zi ?_ | refine Zg ?_ | refine ZE ?_ | refine Zn (γ := 100) ?_ | refine Z4 ?_ | refine Z7 ?_); refine JD ?_) | refine JT ?_ | refine JF ?_ | refine X4 ?_ | refine X3 ?_
   exact X1 ⟨_, Xn 4 (y := ab false) (AVal.le_of_eq (by refine Eq.trans (b := ab (decide (n = 1))) rfl ?_; exact congrArg ab (decide_eq_false hn1))), ⟨rfl, trivial⟩, X2 _⟩
 by_cases hk2 : k = 2
 ·subst hk2
  by_cases hd0 : d = 0
  case neg =>
   rw [show X6 m (.mk 2 n d s l) = false by rw [X6]; simp [*]]
   repeat first | refine X0 ?_ | (refine JR ?_; (repeat first | refine Z1 ?_ | refine Z0 ?_ | refine Zo ?_ | refine Zp ?_ | refine Zg ?_ | refine Zn (γ := 100) ?_ | refine Z4 ?_ | refine Z5 ?_ | refine Z6 ?_); refine JD ?_) | refine JT ?_
   exact X1 ⟨_, St.le_refl _, ⟨rfl, trivial⟩, X2 _⟩
  by_cases hs0 : s = []
  case neg =>
   rw [show X6 m (.mk 2 n d s l) = false by rw [X6]; simp [*]]
   repeat first | refine X0 ?_ | (refine JR ?_; (repeat first | refine Z1 ?_ | refine Z0 ?_ | refine Zo ?_ | refine Zp ?_ | refine Zg ?_ | refine ZE ?_ | refine Zn (γ := 100) ?_ | refine Z4 ?_ | refine Z7 ?_ | refine Z5 ?_ | refine Z6 ?_); refine JD ?_) | refine JT ?_
   exact X1 ⟨_, St.le_refl _, ⟨rfl, trivial⟩, X2 _⟩
  by_cases hl0 : l.length = 0
  case neg =>
   have hl1 : 0 < l.length := by omega
   rw [show X6 m (.mk 2 n d s l) = false by rw [X6]; simp [*]]
   repeat first | refine X0 ?_ | (refine JR ?_; (repeat first | refine Z1 ?_ | refine Z0 ?_ | refine Zo ?_ | refine Zp ?_ | refine Zw ?_ | refine Za ?_ | refine Zg ?_ | refine ZE ?_ | refine Zn (γ := 100) ?_ | refine Z4 ?_ | refine Z7 ?_); refine JD ?_) | refine JT ?_
   exact X1 ⟨_, St.le_refl _, ⟨rfl, trivial⟩, X2 _⟩
  rw [show X6 m (.mk 2 n d s l) = inV n by rw [X6]; simp [inV, *]]
  repeat first | refine X0 ?_ | (refine JR ?_; (repeat first | refine Z1 ?_ | refine Z0 ?_ | refine Zo ?_ | refine Zp ?_ | refine Zw ?_ | refine Za ?_ | refine Zi ?_ | refine Zg ?_ | refine ZE ?_ | refine Zn (γ := 100) ?_ | refine Z4 ?_ | refine Z7 ?_ | refine Zc (hcon := X0a n) ?_); refine JD ?_) | refine JT ?_ | refine JF ?_ | refine X4 ?_ | refine X3 ?_
  exact X1 ⟨_, St.le_refl _, ⟨rfl, trivial⟩, X2 _⟩
 by_cases hk3 : k = 3
 ·subst hk3
  by_cases hs0 : s = []
  case neg =>
   rw [show X6 m (.mk 3 n d s l) = false by rw [X6]; simp [*]]
   repeat first | refine X0 ?_ | (refine JR ?_; (repeat first | refine Z1 ?_ | refine Z0 ?_ | refine Zo ?_ | refine Zp ?_ | refine Zg ?_ | refine ZE ?_ | refine Zn (γ := 100) ?_ | refine Z4 ?_ | refine Z7 ?_ | refine Z5 ?_ | refine Z6 ?_); refine JD ?_) | refine JT ?_
   exact X1 ⟨_, St.le_refl _, ⟨rfl, trivial⟩, X2 _⟩
  by_cases hl0 : l.length = 0
  case neg =>
   have hl1 : 0 < l.length := by omega
   rw [show X6 m (.mk 3 n d s l) = false by rw [X6]; simp [*]]
   repeat first | refine X0 ?_ | (refine JR ?_; (repeat first | refine Z1 ?_ | refine Z0 ?_ | refine Zo ?_ | refine Zp ?_ | refine Zw ?_ | refine Za ?_ | refine Zg ?_ | refine ZE ?_ | refine Zn (γ := 100) ?_ | refine Z4 ?_ | refine Z7 ?_ | refine Z5 ?_); refine JD ?_) | refine JT ?_
   exact X1 ⟨_, St.le_refl _, ⟨rfl, trivial⟩, X2 _⟩
  by_cases hd : 2 ≤ d
  ·rw [show X6 m (.mk 3 n d s l) = Uz n d by rw [X6]; simp [*]]
   repeat first | refine X0 ?_ | (refine JR ?_; (repeat first | refine Z1 ?_ | refine Z0 ?_ | refine Zo ?_ | refine Zp ?_ | refine Zw ?_ | refine Za ?_ | refine Z2 ?_ | refine Zi ?_ | refine Zg ?_ | refine ZE ?_ | refine Zn (γ := 100) ?_ | refine Zj ?_ | refine Z4 ?_ | refine Z7 ?_ | refine Z5 ?_ | refine Zc (hcon := X6r n d) ?_); refine JD ?_) | refine JT ?_ | refine JF ?_ | refine X4 ?_ | refine X3 ?_
   exact X1 ⟨_, St.le_refl _, ⟨rfl, trivial⟩, X2 _⟩
  ·rw [show X6 m (.mk 3 n d s l) = false by rw [X6]; simp [*]]
   repeat first | refine X0 ?_ | (refine JR ?_; (repeat first | refine Z1 ?_ | refine Z0 ?_ | refine Zo ?_ | refine Zp ?_ | refine Zw ?_ | refine Za ?_ | refine Z2 ?_ | refine Zi ?_ | refine Zg ?_ | refine ZE ?_ | refine Zn (γ := 100) ?_ | refine Z4 ?_ | refine Z7 ?_ | refine Z5 ?_); refine JD ?_) | refine JT ?_ | refine JF ?_ | refine X4 ?_ | refine X3 ?_
   exact X1 ⟨_, St.le_refl _, ⟨rfl, trivial⟩, X2 _⟩
 by_cases hk4 : k = 4
 ·subst hk4
  by_cases hd0 : d = 0
  case neg =>
   rw [show X6 m (.mk 4 n d s l) = false by rw [X6]; simp [*]]
   repeat first | refine X0 ?_ | (refine JR ?_; (repeat first | refine Z1 ?_ | refine Z0 ?_ | refine Zo ?_ | refine Zp ?_ | refine Zg ?_ | refine Zn (γ := 100) ?_ | refine Z4 ?_ | refine Z5 ?_ | refine Z6 ?_); refine JD ?_) | refine JT ?_
   exact X1 ⟨_, St.le_refl _, ⟨rfl, trivial⟩, X2 _⟩
  by_cases hl0 : l.length = 0
  case neg =>
   have hl1 : 0 < l.length := by omega
   rw [show X6 m (.mk 4 n d s l) = false by rw [X6]; simp [*]]
   repeat first | refine X0 ?_ | (refine JR ?_; (repeat first | refine Z1 ?_ | refine Z0 ?_ | refine Zo ?_ | refine Zp ?_ | refine Zw ?_ | refine Za ?_ | refine Zg ?_ | refine Zn (γ := 100) ?_ | refine Z4 ?_ | refine Z7 ?_ | refine Z5 ?_); refine JD ?_) | refine JT ?_
   exact X1 ⟨_, St.le_refl _, ⟨rfl, trivial⟩, X2 _⟩
  by_cases hn : n = 0
  case neg =>
   rw [show X6 m (.mk 4 n d s l) = false by rw [X6]; simp [*]]
   repeat first | refine X0 ?_ | (refine JR ?_; (repeat first | refine Z1 ?_ | refine Z0 ?_ | refine Zo ?_ | refine Zp ?_ | refine Zw ?_ | refine Za ?_ | refine Zi ?_ | refine Zg ?_ | refine Zn (γ := 100) ?_ | refine Z4 ?_ | refine Z7 ?_ | refine Z5 ?_); refine JD ?_) | refine JT ?_ | refine JF ?_ | refine X4 ?_ | refine X3 ?_
   exact X1 ⟨_, St.le_refl _, ⟨rfl, trivial⟩, X2 _⟩
  have hsz : (X5 s).size = s.length := rfl
  by_cases hs : s.length ≤ 100
  case neg =>
   rw [show X6 m (.mk 4 n d s l) = false by rw [X6]; simp [*]]
   repeat first | refine X0 ?_ | (refine JR ?_; (repeat first | refine Z1 ?_ | refine Z0 ?_ | refine Zo ?_ | refine Zp ?_ | refine Zw ?_ | refine Z9 ?_ | refine Z3 ?_ | refine Za ?_ | refine Zi ?_ | refine Zg ?_ | refine Zn (γ := 100) ?_ | refine Z4 ?_ | refine Z7 ?_ | refine Z5 ?_); refine JD ?_) | refine JT ?_ | refine JF ?_ | refine X4 ?_ | refine X3 ?_
   exact X1 ⟨_, St.le_refl _, ⟨rfl, trivial⟩, X2 _⟩
  rw [show X6 m (.mk 4 n d s l) = YZ s by rw [X6]; simp [*]]
  repeat first | refine X0 ?_ | (refine JR ?_; (repeat first | refine Z1 ?_ | refine Z0 ?_ | refine Zo ?_ | refine Zp ?_ | refine Zw ?_ | refine Z9 ?_ | refine Ze ?_ | refine Z3 ?_ | refine Za ?_ | refine Zi ?_ | refine Zg ?_ | refine Zn (γ := 100) ?_ | refine Z4 ?_ | refine Z7 ?_ | refine Z5 ?_ | refine Zc (hcon := X6S s (by omega)) ?_); refine JD ?_) | refine JT ?_ | refine JF ?_ | refine X4 ?_ | refine X3 ?_
  exact X1 ⟨_, Xn 4 (y := ab (YZ s)) (AVal.le_of_eq (by refine Eq.trans (b := ab (decide (Ud s < 0))) rfl ?_; exact congrArg ab (by cases hv : YZ s with | true => exact decide_eq_true (X3W.2 hv) | false => exact decide_eq_false (fun h => by rw [X3W.1 h] at hv; simp at hv)))), ⟨rfl, trivial⟩, X2 _⟩
 by_cases hk5 : k = 5
 ·subst hk5
  by_cases hd0 : d = 0
  case neg =>
   rw [show X6 m (.mk 5 n d s l) = false by rw [X6]; simp [*]]
   repeat first | refine X0 ?_ | (refine JR ?_; (repeat first | refine Z1 ?_ | refine Z0 ?_ | refine Zo ?_ | refine Zp ?_ | refine Zg ?_ | refine Zn (γ := 100) ?_ | refine Z4 ?_ | refine Z5 ?_ | refine Z6 ?_); refine JD ?_) | refine JT ?_
   exact X1 ⟨_, St.le_refl _, ⟨rfl, trivial⟩, X2 _⟩
  by_cases hs0 : s = []
  case neg =>
   rw [show X6 m (.mk 5 n d s l) = false by rw [X6]; simp [*]]
   repeat first | refine X0 ?_ | (refine JR ?_; (repeat first | refine Z1 ?_ | refine Z0 ?_ | refine Zo ?_ | refine Zp ?_ | refine Zg ?_ | refine ZE ?_ | refine Zn (γ := 100) ?_ | refine Z4 ?_ | refine Z7 ?_ | refine Z5 ?_ | refine Z6 ?_); refine JD ?_) | refine JT ?_
   exact X1 ⟨_, St.le_refl _, ⟨rfl, trivial⟩, X2 _⟩
  by_cases hl0 : l.length = 0
  case neg =>
   have hl1 : 0 < l.length := by omega
   rw [show X6 m (.mk 5 n d s l) = false by rw [X6]; simp [*]]
   repeat first | refine X0 ?_ | (refine JR ?_; (repeat first | refine Z1 ?_ | refine Z0 ?_ | refine Zo ?_ | refine Zp ?_ | refine Zw ?_ | refine Za ?_ | refine Zg ?_ | refine ZE ?_ | refine Zn (γ := 100) ?_ | refine Z4 ?_ | refine Z7 ?_); refine JD ?_) | refine JT ?_
   exact X1 ⟨_, St.le_refl _, ⟨rfl, trivial⟩, X2 _⟩
  by_cases hn : 1 ≤ n
  case neg =>
   rw [show X6 m (.mk 5 n d s l) = false by rw [X6]; simp [*]]
   repeat first | refine X0 ?_ | (refine JR ?_; (repeat first | refine Z1 ?_ | refine Z0 ?_ | refine Zo ?_ | refine Zp ?_ | refine Zw ?_ | refine Za ?_ | refine Z2 ?_ | refine Zi ?_ | refine Zg ?_ | refine ZE ?_ | refine Zn (γ := 100) ?_ | refine Z4 ?_ | refine Z7 ?_ | refine Z5 ?_); refine JD ?_) | refine JT ?_ | refine JF ?_ | refine X4 ?_ | refine X3 ?_
   exact X1 ⟨_, St.le_refl _, ⟨rfl, trivial⟩, X2 _⟩
  rw [show X6 m (.mk 5 n d s l) = decide (n ≤ 1000000) by rw [X6]; simp [*]]
  repeat first | refine X0 ?_ | (refine JR ?_; (repeat first | refine Z1 ?_ | refine Z0 ?_ | refine Zo ?_ | refine Zp ?_ | refine Zw ?_ | refine Z3 ?_ | refine Za ?_ | refine Z2 ?_ | refine Zi ?_ | refine Zg ?_ | refine ZE ?_ | refine Zn (γ := 100) ?_ | refine Z4 ?_ | refine Z7 ?_); refine JD ?_) | refine JT ?_ | refine JF ?_ | refine X4 ?_ | refine X3 ?_
  exact X1 ⟨_, St.le_refl _, ⟨rfl, trivial⟩, X2 _⟩
 by_cases hk6 : k = 6
 ·subst hk6
  by_cases hd0 : d = 0
  case neg =>
   rw [show X6 m (.mk 6 n d s l) = false by rw [X6]; simp [*]]
   repeat first | refine X0 ?_ | (refine JR ?_; (repeat first | refine Z1 ?_ | refine Z0 ?_ | refine Zo ?_ | refine Zp ?_ | refine Zg ?_ | refine Zn (γ := 100) ?_ | refine Z4 ?_ | refine Z5 ?_ | refine Z6 ?_); refine JD ?_) | refine JT ?_
   exact X1 ⟨_, St.le_refl _, ⟨rfl, trivial⟩, X2 _⟩
  by_cases hs0 : s = []
  case neg =>
   rw [show X6 m (.mk 6 n d s l) = false by rw [X6]; simp [*]]
   repeat first | refine X0 ?_ | (refine JR ?_; (repeat first | refine Z1 ?_ | refine Z0 ?_ | refine Zo ?_ | refine Zp ?_ | refine Zg ?_ | refine ZE ?_ | refine Zn (γ := 100) ?_ | refine Z4 ?_ | refine Z7 ?_ | refine Z5 ?_ | refine Z6 ?_); refine JD ?_) | refine JT ?_
   exact X1 ⟨_, St.le_refl _, ⟨rfl, trivial⟩, X2 _⟩
  by_cases hl0 : l.length = 0
  case neg =>
   have hl1 : 0 < l.length := by omega
   rw [show X6 m (.mk 6 n d s l) = false by rw [X6]; simp [*]]
   repeat first | refine X0 ?_ | (refine JR ?_; (repeat first | refine Z1 ?_ | refine Z0 ?_ | refine Zo ?_ | refine Zp ?_ | refine Zw ?_ | refine Za ?_ | refine Zg ?_ | refine ZE ?_ | refine Zn (γ := 100) ?_ | refine Z4 ?_ | refine Z7 ?_); refine JD ?_) | refine JT ?_
   exact X1 ⟨_, St.le_refl _, ⟨rfl, trivial⟩, X2 _⟩
  by_cases hn : 1 ≤ n
  case neg =>
   rw [show X6 m (.mk 6 n d s l) = false by rw [X6]; simp [*]]
   repeat first | refine X0 ?_ | (refine JR ?_; (repeat first | refine Z1 ?_ | refine Z0 ?_ | refine Zo ?_ | refine Zp ?_ | refine Zw ?_ | refine Za ?_ | refine Z2 ?_ | refine Zi ?_ | refine Zg ?_ | refine ZE ?_ | refine Zn (γ := 100) ?_ | refine Z4 ?_ | refine Z7 ?_ | refine Z5 ?_); refine JD ?_) | refine JT ?_ | refine JF ?_ | refine X4 ?_ | refine X3 ?_
   exact X1 ⟨_, St.le_refl _, ⟨rfl, trivial⟩, X2 _⟩
  rw [show X6 m (.mk 6 n d s l) = decide (n ≤ 1000000) by rw [X6]; simp [*]]
  repeat first | refine X0 ?_ | (refine JR ?_; (repeat first | refine Z1 ?_ | refine Z0 ?_ | refine Zo ?_ | refine Zp ?_ | refine Zw ?_ | refine Z3 ?_ | refine Za ?_ | refine Z2 ?_ | refine Zi ?_ | refine Zg ?_ | refine ZE ?_ | refine Zn (γ := 100) ?_ | refine Z4 ?_ | refine Z7 ?_); refine JD ?_) | refine JT ?_ | refine JF ?_ | refine X4 ?_ | refine X3 ?_
  exact X1 ⟨_, St.le_refl _, ⟨rfl, trivial⟩, X2 _⟩
 by_cases hk7 : k = 7
 ·subst hk7
  by_cases hd0 : d = 0
  case neg =>
   rw [show X6 m (.mk 7 n d s l) = false by rw [X6]; simp [*]]
   repeat first | refine X0 ?_ | (refine JR ?_; (repeat first | refine Z1 ?_ | refine Z0 ?_ | refine Zo ?_ | refine Zp ?_ | refine Zg ?_ | refine Zn (γ := 100) ?_ | refine Z4 ?_ | refine Z5 ?_ | refine Z6 ?_); refine JD ?_) | refine JT ?_
   exact X1 ⟨_, St.le_refl _, ⟨rfl, trivial⟩, X2 _⟩
  by_cases hs0 : s = []
  case neg =>
   rw [show X6 m (.mk 7 n d s l) = false by rw [X6]; simp [*]]
   repeat first | refine X0 ?_ | (refine JR ?_; (repeat first | refine Z1 ?_ | refine Z0 ?_ | refine Zo ?_ | refine Zp ?_ | refine Zg ?_ | refine ZE ?_ | refine Zn (γ := 100) ?_ | refine Z4 ?_ | refine Z7 ?_ | refine Z5 ?_ | refine Z6 ?_); refine JD ?_) | refine JT ?_
   exact X1 ⟨_, St.le_refl _, ⟨rfl, trivial⟩, X2 _⟩
  by_cases hn : n = 0
  case neg =>
   rw [show X6 m (.mk 7 n d s l) = false by rw [X6]; simp [*]]
   repeat first | refine X0 ?_ | (refine JR ?_; (repeat first | refine Z1 ?_ | refine Z0 ?_ | refine Zo ?_ | refine Zp ?_ | refine Zi ?_ | refine Zg ?_ | refine ZE ?_ | refine Zn (γ := 100) ?_ | refine Z4 ?_ | refine Z7 ?_ | refine Z5 ?_); refine JD ?_) | refine JT ?_ | refine JF ?_ | refine X4 ?_ | refine X3 ?_
   exact X1 ⟨_, St.le_refl _, ⟨rfl, trivial⟩, X2 _⟩
  rw [show X6 m (.mk 7 n d s l) = Up l by rw [X6]; simp [Up, *]]
  have hp : X24 l := X8p l ih
  unfold X24 at hp
  repeat first | refine X0 ?_ | (refine JR ?_; (repeat first | refine Z1 ?_ | refine Z0 ?_ | refine Zo ?_ | refine Zp ?_ | refine Zi ?_ | refine Zg ?_ | refine ZE ?_ | refine Zn (γ := 100) ?_ | refine Z4 ?_ | refine Z7 ?_ | refine Z5 ?_ | refine Zc (hcon := hp) ?_); refine JD ?_) | refine JT ?_ | refine JF ?_ | refine X4 ?_ | refine X3 ?_
  exact X1 ⟨_, St.le_refl _, ⟨rfl, trivial⟩, X2 _⟩
 by_cases hk8 : k = 8
 ·subst hk8
  by_cases hd0 : d = 0
  case neg =>
   rw [show X6 m (.mk 8 n d s l) = false by rw [X6]; simp [*]]
   repeat first | refine X0 ?_ | (refine JR ?_; (repeat first | refine Z1 ?_ | refine Z0 ?_ | refine Zo ?_ | refine Zp ?_ | refine Zg ?_ | refine Zn (γ := 100) ?_ | refine Z4 ?_ | refine Z5 ?_ | refine Z6 ?_); refine JD ?_) | refine JT ?_
   exact X1 ⟨_, St.le_refl _, ⟨rfl, trivial⟩, X2 _⟩
  by_cases hs0 : s = []
  case neg =>
   rw [show X6 m (.mk 8 n d s l) = false by rw [X6]; simp [*]]
   repeat first | refine X0 ?_ | (refine JR ?_; (repeat first | refine Z1 ?_ | refine Z0 ?_ | refine Zo ?_ | refine Zp ?_ | refine Zg ?_ | refine ZE ?_ | refine Zn (γ := 100) ?_ | refine Z4 ?_ | refine Z7 ?_ | refine Z5 ?_ | refine Z6 ?_); refine JD ?_) | refine JT ?_
   exact X1 ⟨_, St.le_refl _, ⟨rfl, trivial⟩, X2 _⟩
  by_cases hn : n = 0
  case neg =>
   rw [show X6 m (.mk 8 n d s l) = false by rw [X6]; simp [*]]
   repeat first | refine X0 ?_ | (refine JR ?_; (repeat first | refine Z1 ?_ | refine Z0 ?_ | refine Zo ?_ | refine Zp ?_ | refine Zi ?_ | refine Zg ?_ | refine ZE ?_ | refine Zn (γ := 100) ?_ | refine Z4 ?_ | refine Z7 ?_ | refine Z5 ?_); refine JD ?_) | refine JT ?_ | refine JF ?_ | refine X4 ?_ | refine X3 ?_
   exact X1 ⟨_, St.le_refl _, ⟨rfl, trivial⟩, X2 _⟩
  by_cases h64 : l.length ≤ 64
  case neg =>
   rw [show X6 m (.mk 8 n d s l) = false by rw [X6]; simp [*]]
   repeat first | refine X0 ?_ | (refine JR ?_; (repeat first | refine Z1 ?_ | refine Z0 ?_ | refine Zo ?_ | refine Zp ?_ | refine Zw ?_ | refine Za ?_ | refine Zi ?_ | refine Zg ?_ | refine ZE ?_ | refine Zn (γ := 100) ?_ | refine Z4 ?_ | refine Z7 ?_ | refine Z5 ?_); refine JD ?_) | refine JT ?_ | refine JF ?_ | refine X4 ?_ | refine X3 ?_
   exact X1 ⟨_, St.le_refl _, ⟨rfl, trivial⟩, X2 _⟩
  by_cases hm1 : 1 ≤ m
  case neg =>
   rw [show X6 m (.mk 8 n d s l) = false by rw [X6]; simp [*]]
   repeat first | refine X0 ?_ | (refine JR ?_; (repeat first | refine Z1 ?_ | refine Z0 ?_ | refine Zo ?_ | refine Zp ?_ | refine Zw ?_ | refine Za ?_ | refine Z2 ?_ | refine Zi ?_ | refine Zg ?_ | refine ZE ?_ | refine Zn (γ := 100) ?_ | refine Z4 ?_ | refine Z7 ?_ | refine Z5 ?_); refine JD ?_) | refine JT ?_ | refine JF ?_ | refine X4 ?_ | refine X3 ?_
   exact X1 ⟨_, St.le_refl _, ⟨rfl, trivial⟩, X2 _⟩
  rw [show X6 m (.mk 8 n d s l) = Uu (m - 1) (l.drop 0) by rw [X6]; simp [*]]
  repeat first | refine X0 ?_ | (refine JR ?_; (repeat first | refine Z1 ?_ | refine Z0 ?_ | refine Zo ?_ | refine Zp ?_ | refine Zw ?_ | refine Za ?_ | refine Z2 ?_ | refine Zi ?_ | refine Zg ?_ | refine ZE ?_ | refine Zn (γ := 100) ?_ | refine Z4 ?_ | refine Z7 ?_ | refine Z5 ?_); refine JD ?_) | refine JT ?_ | refine JF ?_ | refine X4 ?_ | refine X3 ?_
  refine XD (fun i : Nat => i ≤ l.length ∧ Uu (m - 1) (l.drop 0) = Uu (m - 1) (l.drop i)) (fun i => ⟨142, [(1, ai (8 - m : Nat)), (120, .d (.sl 5 (Yx l))), (121, ai l.length), (122, ai i)], []⟩) (fun i => l.length - i) 0 ⟨by omega, rfl⟩
   (X8 rfl ⟨JL, JL, (by refine AVal.le_of_eq ?_; refine Eq.trans (b := ai ((Yx l).length : Nat)) rfl ?_; rw [hlen]), JL, trivial⟩ trivial) ?_
  rintro i ⟨hi, hpv⟩
  by_cases hlt : i < l.length
  ·obtain ⟨x, hx⟩ := Xs (l := l) hlt
   have hgx := X3R hx
   have hvx := ih x (List.mem_of_getElem? hx) (m - 1) (by omega)
   have hst := X8n (m := m - 1) hx
   have e8 : nj (8 - m + 1) = nj (8 - (m - 1)) := congrArg nj (by omega)
   obtain ⟨k', n', d', s', q'⟩ := x
   simp only [XS] at hvx
   rw [Y9] at hgx
   cases hvv : X6 (m - 1) (.mk k' n' d' s' q') with
   | true =>
    rw [hvv] at hvx
    rw [hvv, Bool.true_and] at hst
    refine X0 ?_; refine JR ?_; refine Ze ?_; refine JD ?_; refine X0 ?_; refine JT ?_; refine X3 ?_; refine X0 ?_; refine X4 ?_; refine X0 ?_; refine JR ?_; refine Zy ?_; refine Zz ?_
    refine Zh (γ := 100) ?_; refine Zk ?_; refine JD ?_; refine X0 ?_; refine JR ?_; refine ZD ?_; refine Z1 ?_
    refine ZB (op := .add) (r' := nj (8 - (m - 1))) (u := nj (8 - m)) (v := nj 1) ?_ (hr' := by exact e8) (hr := by exact X10 (by rw [Vs]; omega)); refine Zc (hcon := hvx) ?_; refine Zd ?_; refine JD ?_
    refine JF ?_; refine X3 ?_; refine JR ?_; refine Zf ?_; refine Z1 ?_; refine JD ?_
    exact ⟨i + 1, ⟨by omega, hpv.trans hst⟩, by omega, X8 rfl ⟨JL, JL, JL, JL, trivial⟩ trivial⟩
   | false =>
    rw [hvv] at hvx
    rw [hvv, Bool.false_and] at hst
    rw [hpv, hst]
    refine X0 ?_; refine JR ?_; refine Ze ?_; refine JD ?_; refine X0 ?_; refine JT ?_; refine X3 ?_; refine X0 ?_; refine X4 ?_; refine X0 ?_; refine JR ?_; refine Zy ?_; refine Zz ?_
    refine Zh (γ := 100) ?_; refine Zk ?_; refine JD ?_; refine X0 ?_; refine JR ?_; refine ZD ?_; refine Z1 ?_
    refine ZB (op := .add) (r' := nj (8 - (m - 1))) (u := nj (8 - m)) (v := nj 1) ?_ (hr' := by exact e8) (hr := by exact X10 (by rw [Vs]; omega)); refine Zc (hcon := hvx) ?_; refine Zd ?_; refine JD ?_
    refine JT ?_; refine X0 ?_; refine JR ?_; refine Z0 ?_; refine JD ?_
    exact X1 ⟨_, St.le_refl _, ⟨rfl, trivial⟩, X2 _⟩
  obtain rfl : i = l.length := by omega
  rw [hpv, List.drop_length, Uu]
  refine X0 ?_; refine JR ?_; refine Ze ?_; refine JD ?_; refine X0 ?_; refine JF ?_; refine Xz ?_; refine X0 ?_; refine JR ?_; refine Z0 ?_; refine JD ?_
  exact X1 ⟨_, St.le_refl _, ⟨rfl, trivial⟩, X2 _⟩
 by_cases hd0 : d = 0
 case neg =>
  rw [show X6 m (.mk k n d s l) = false by rw [X6]; simp [*]]
  repeat first | refine X0 ?_ | (refine JR ?_; (repeat first | refine Z1 ?_ | refine Z0 ?_ | refine Zo ?_ | refine Zp ?_ | refine Zg ?_ | refine Zn (γ := 100) ?_ | refine Z4 ?_ | refine Z5 ?_ | refine Z6 ?_); refine JD ?_) | refine JT ?_
  exact X1 ⟨_, St.le_refl _, ⟨rfl, trivial⟩, X2 _⟩
 by_cases hs0 : s = []
 case neg =>
  rw [show X6 m (.mk k n d s l) = false by rw [X6]; simp [*]]
  repeat first | refine X0 ?_ | (refine JR ?_; (repeat first | refine Z1 ?_ | refine Z0 ?_ | refine Zo ?_ | refine Zp ?_ | refine Zg ?_ | refine ZE ?_ | refine Zn (γ := 100) ?_ | refine Z4 ?_ | refine Z7 ?_ | refine Z5 ?_ | refine Z6 ?_); refine JD ?_) | refine JT ?_
  exact X1 ⟨_, St.le_refl _, ⟨rfl, trivial⟩, X2 _⟩
 by_cases hl0 : l.length = 0
 case neg =>
  have hl1 : 0 < l.length := by omega
  rw [show X6 m (.mk k n d s l) = false by rw [X6]; simp [*]]
  repeat first | refine X0 ?_ | (refine JR ?_; (repeat first | refine Z1 ?_ | refine Z0 ?_ | refine Zo ?_ | refine Zp ?_ | refine Zw ?_ | refine Za ?_ | refine Zg ?_ | refine ZE ?_ | refine Zn (γ := 100) ?_ | refine Z4 ?_ | refine Z7 ?_); refine JD ?_) | refine JT ?_
  exact X1 ⟨_, St.le_refl _, ⟨rfl, trivial⟩, X2 _⟩
 rw [show X6 m (.mk k n d s l) = false by rw [X6]; simp [*]]
 repeat first | refine X0 ?_ | (refine JR ?_; (repeat first | refine Z1 ?_ | refine Z0 ?_ | refine Zo ?_ | refine Zp ?_ | refine Zw ?_ | refine Za ?_ | refine Zi ?_ | refine Zg ?_ | refine ZE ?_ | refine Zn (γ := 100) ?_ | refine Z4 ?_ | refine Z7 ?_); refine JD ?_) | refine JF ?_ | refine X4 ?_ | refine X3 ?_
 exact X1 ⟨_, St.le_refl _, ⟨rfl, trivial⟩, X2 _⟩
end Go.Fw
namespace Go.Fw
open Go Go.Proofs
set_option maxRecDepth 100000
set_option linter.unusedVariables false
set_option linter.unusedSimpArgs false
theorem X3L : ∀ v : Val, X0p v
 | .mk k n d s l => X8L (.mk k n d s l) fun x hx => X3L x
termination_by v => SizeOf.sizeOf v
decreasing_by
 have h1 := List.sizeOf_lt_of_mem (show x ∈ l from hx)
 simp only [Val.mk.sizeOf_spec]
 omega
theorem X0Z (v : Val) : Con Try.prog 51 [] [XS v] [] (ab (X6 8 v)) := by
 refine Xf (xs := [ab (X6 8 v)]) Try.func51 rfl Try.ntmps51 rfl rfl rfl (fun E => ?_)
 have h := X3L v 8 (by omega)
 obtain ⟨k, n, d, s, l⟩ := v
 simp only [XS, Nat.sub_self] at h
 refine X0 ?_; refine JR ?_; refine Zn (γ := 100) ?_; refine Z0 ?_; refine JD ?_; refine X0 ?_; refine JR ?_; refine ZD ?_; refine Zc (hcon := h) ?_; refine Z0 ?_; refine JD ?_
 exact X1 ⟨_, St.le_refl _, ⟨rfl, trivial⟩, X2 _⟩
end Go.Fw
namespace Go.Fw
open Go Go.Proofs
set_option maxRecDepth 100000
set_option linter.unusedVariables false
set_option linter.unusedSimpArgs false
mutual
def UD : Val → Prop
 | .mk k n d s l => s.length ≤ 9223372036854775807 ∧ l.length ≤ 9223372036854775807 ∧ Vc l
def Vc : List Val → Prop
 | [] => True
 | v :: r => UD v ∧ Vc r
end
end Go.Fw
namespace Go.Fw
open Go Go.Proofs
set_option maxRecDepth 100000
set_option linter.unusedVariables false
set_option linter.unusedSimpArgs false
def XR (x y : Int) : Int := if x < y then -1 else if y < x then 1 else 0
theorem X2Q (x : Int) : Con Try.prog 48 [] [ai x] [] (ab false) := by
 refine Xf (xs := [ab false]) Try.func48 rfl Try.ntmps48 rfl rfl rfl (fun E => ?_)
 refine X0 ?_; refine JR ?_; refine Z0 ?_; refine JD ?_; refine X0 ?_; refine JR ?_; refine Z1 ?_; refine Z1 ?_; refine Zg ?_; refine Z0 ?_; refine JD ?_
 exact X1 ⟨_, Xn 2 (y := ab false) (AVal.le_of_eq (by refine Eq.trans (b := ab (decide (x ≠ x))) rfl ?_; exact congrArg ab (by simp))), ⟨rfl, trivial⟩, X2 _⟩
theorem X2K (s : List UInt8) : Con Try.prog 49 [] [.d (.v (.string (X5 s)))] [] (ab false) := by
 refine Xf (xs := [ab false]) Try.func49 rfl Try.ntmps49 rfl rfl rfl (fun E => ?_)
 refine X0 ?_; refine JR ?_; refine Z0 ?_; refine JD ?_; refine X0 ?_; refine JR ?_; refine Z1 ?_; refine Z1 ?_; refine ZE ?_; refine Z0 ?_; refine JD ?_
 exact X1 ⟨_, Xn 2 (y := ab false) (AVal.le_of_eq (by refine Eq.trans (b := ab (decide (s ≠ s))) rfl ?_; exact congrArg ab (by simp))), ⟨rfl, trivial⟩, X2 _⟩
theorem X28 (x y : Int) : Con Try.prog 34 [] [ai x, ai y] [] (ai (XR x y)) := by
 refine Xf (xs := [ai (XR x y)]) Try.func34 rfl Try.ntmps34 rfl rfl rfl (fun E => ?_)
 have n1 := X2Q x
 have n2 := X2Q y
 by_cases h1 : x < y
 ·rw [show XR x y = -1 by simp [XR, h1]]
  repeat first | refine X0 ?_ | (refine JR ?_; (repeat first | refine Z1 ?_ | refine Z0 ?_ | refine Ze ?_ | refine Zc (hcon := n1) ?_ | refine Zc (hcon := n2) ?_); refine JD ?_) | refine JT ?_ | refine JF ?_ | refine X3 ?_
  exact X1 ⟨_, St.le_refl _, ⟨rfl, trivial⟩, X2 _⟩
 by_cases h2 : y < x
 ·rw [show XR x y = 1 by simp [XR, h1, h2]]
  repeat first | refine X0 ?_ | (refine JR ?_; (repeat first | refine Z1 ?_ | refine Z0 ?_ | refine Ze ?_ | refine Za ?_ | refine Zc (hcon := n1) ?_ | refine Zc (hcon := n2) ?_); refine JD ?_) | refine JT ?_ | refine JF ?_ | refine X3 ?_
  exact X1 ⟨_, St.le_refl _, ⟨rfl, trivial⟩, X2 _⟩
 rw [show XR x y = 0 by simp [XR, h1, h2]]
 repeat first | refine X0 ?_ | (refine JR ?_; (repeat first | refine Z1 ?_ | refine Z0 ?_ | refine Ze ?_ | refine Za ?_ | refine Zc (hcon := n1) ?_ | refine Zc (hcon := n2) ?_); refine JD ?_) | refine JF ?_ | refine X3 ?_
 exact X1 ⟨_, St.le_refl _, ⟨rfl, trivial⟩, X2 _⟩
abbrev cI (n : Int) : List D := [.v (.int .i64 n)]
def orI : List Int → Int
 | [] => 0
 | x :: r => if x ≠ 0 then x else orI r
theorem X6D {l : List Int} {i : Nat} {x : Int} (h : l[i]? = some x) : orI (l.drop i) = if x ≠ 0 then x else orI (l.drop (i + 1)) := by
 rw [List.drop_eq_getElem_cons (List.getElem?_eq_some_iff.1 h).1, (List.getElem?_eq_some_iff.1 h).2, orI]
theorem X5i (l : List Int) (hl : l.length ≤ 1000) : Con Try.prog 33 [] [.d (.sl 1 (l.map cI))] [] (ai (orI l)) := by
 refine Xf (xs := [ai (orI l)]) Try.func33 rfl Try.ntmps33 rfl rfl rfl (fun E => ?_)
 have hlm : (l.map cI).length = l.length := by simp
 refine X0 ?_; refine JR ?_; refine Z0 ?_; refine JD ?_; refine X0 ?_; refine JR ?_; refine Z0 ?_; refine JD ?_; refine X0 ?_; refine X0 ?_; refine JR ?_; refine Z1 ?_; refine Zw ?_; refine Z1 ?_
 refine JD ?_; refine X4 ?_
 generalize hG : orI l = G
 refine XD (fun i : Nat => i ≤ l.length ∧ orI (l.drop i) = G) (fun i => ⟨18, [(3, ai 0), (6, .d (.sl 1 (l.map cI))), (7, ai (l.map cI).length), (8, ai i)], []⟩) (fun i => l.length - i) 0 ⟨by omega, hG⟩
  (X8 rfl ⟨JL, JL, JL, JL, trivial⟩ trivial) ?_
 rintro i ⟨hi, hg⟩
 by_cases hil : i < l.length
 case neg =>
  obtain rfl : i = l.length := by omega
  rw [List.drop_length, orI] at hg
  subst hg
  have hn : ¬ ((l.length : Nat) : Int) < (l.map cI).length := by omega
  refine X0 ?_; refine JR ?_; refine Ze ?_; refine JD ?_; refine X0 ?_; refine JF ?_; refine Xz ?_; refine X0 ?_; refine JR ?_; refine Z1 ?_; refine Z0 ?_; refine JD ?_
  exact X1 ⟨_, St.le_refl _, ⟨rfl, trivial⟩, X2 _⟩
 have hn : (i : Int) < (l.map cI).length := by omega
 obtain ⟨x, hx⟩ := Xs (l := l) hil
 have hxm : (l.map cI)[i]? = some (cI x) := Xw hx
 rw [X6D hx] at hg
 by_cases h0 : x = 0
 ·rw [if_neg (by simpa using h0)] at hg
  refine X0 ?_; refine JR ?_; refine Ze ?_; refine JD ?_; refine X0 ?_; refine JT ?_; refine X3 ?_; refine X0 ?_; refine X4 ?_; refine X0 ?_; refine JR ?_; refine Zy ?_; refine ZC ?_
  refine Z0 ?_; refine JD ?_; refine X0 ?_; refine JR ?_; refine Z1 ?_; refine Z1 ?_; refine Zg ?_; refine JD ?_; refine JF ?_; refine X3 ?_; refine JR ?_; refine Zf ?_; refine Z1 ?_; refine JD ?_
  exact ⟨i + 1, ⟨by omega, hg⟩, by omega, X8 rfl ⟨JL, JL, JL, JL, trivial⟩ trivial⟩
 ·rw [if_pos h0] at hg
  subst hg
  refine X0 ?_; refine JR ?_; refine Ze ?_; refine JD ?_; refine X0 ?_; refine JT ?_; refine X3 ?_; refine X0 ?_; refine X4 ?_; refine X0 ?_; refine JR ?_; refine Zy ?_; refine ZC ?_
  refine Z0 ?_; refine JD ?_; refine X0 ?_; refine JR ?_; refine Z1 ?_; refine Z1 ?_; refine Zg ?_; refine JD ?_; refine JT ?_; refine X0 ?_; refine JR ?_; refine Z1 ?_; refine Z0 ?_; refine JD ?_
  exact X1 ⟨_, St.le_refl _, ⟨rfl, trivial⟩, X2 _⟩
end Go.Fw
