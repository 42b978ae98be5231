/- The weight of a value. -/
import Derived.Test.YtonekjkmnhfjmaaGreatDoorM23
import Derived.Test.YtonekjkmnhfjmaaGreatDoorM24
set_option maxHeartbeats 8000000
namespace Go.Fw
open Go Go.Proofs
set_option maxRecDepth 100000
set_option linter.unusedVariables false
set_option linter.unusedSimpArgs false
mutual
def YM : Nat → Val → Int → Int
 | dp, .mk k n d s l, left => if dp = 0 then -1 else Uu (dp - 1) l (left - 1 - (s.length / 50 : Nat))
def Uu : Nat → List Val → Int → Int
 | _, [], left => left
 | dp, x :: r, left => if left < 0 then left else Uu dp r (YM dp x left)
end
theorem Xau {dp : Nat} {l : List Val} {left : Int} (h : left < 0) : Uu dp l left = left := by
 cases l with
 | nil => rw [Uu]
 | cons x r => rw [Uu, if_pos h]
theorem X66 {dp : Nat} : ∀ {l : List Val} {left : Int}, -400000000000000000 ≤ left → left ≤ 1000000 → (∀ x ∈ l, ∀ q : Int, 0 ≤ q → q ≤ 1000000 → -400000000000000000 ≤ YM dp x q ∧ YM dp x q ≤ 1000000) → -400000000000000000 ≤ Uu dp l left ∧ Uu dp l left ≤ 1000000
 | [], left, h1, h2, _ => by rw [Uu]; exact ⟨h1, h2⟩
 | x :: r, left, h1, h2, hx => by
  rw [Uu]
  split
  ·exact ⟨h1, h2⟩
  ·have := hx x (by simp) left (by omega) h2
   exact X66 this.1 this.2 fun y hy => hx y (by simp [hy])
theorem X58 : ∀ (v : Val) (dp : Nat) (left : Int), Y3 v → 0 ≤ left → left ≤ 1000000 → -400000000000000000 ≤ YM dp v left ∧ YM dp v left ≤ 1000000
 | .mk k n d s l, dp, left, hok, h1, h2 => by
  rw [Y3] at hok
  rw [YM]
  split
  ·omega
  ·exact X66 (by omega) (by omega) fun x hx q q1 q2 => X58 x (dp - 1) q (X1F hok.2.2 hx) q1 q2
termination_by v => SizeOf.sizeOf v
decreasing_by
 have h1 := List.sizeOf_lt_of_mem (show x ∈ l from hx)
 simp only [Val.mk.sizeOf_spec]
 omega
def X7o (v : Val) : Prop := ∀ (dp : Nat) (left : Int), dp ≤ 100 → -400000000000000000 ≤ left → left ≤ 1000000 → Con Tryz.prog 64 [] [XG v, ai left, ai dp] [] (ai (YM dp v left))
theorem Xco {dp : Nat} {l : List Val} {i : Nat} {x : Val} {left : Int} (h : l[i]? = some x) (h0 : ¬ left < 0) : Uu dp (l.drop i) left = Uu dp (l.drop (i + 1)) (YM dp x left) := by
 rw [List.drop_eq_getElem_cons (List.getElem?_eq_some_iff.1 h).1, (List.getElem?_eq_some_iff.1 h).2, Uu, if_neg h0]
theorem Xcd (v : Val) (hok : Y3 v) (ih : ∀ x ∈ v.l, X7o x) : X7o v := by
 obtain ⟨k, n, d, s, l⟩ := v
 intro dp left hdp hl1 hl2
 rw [Y3] at hok
 simp only [Val.l] at ih
 have hlen := Vb l
 have hsz : (X5 s).size = s.length := rfl
 refine Xc (xs := [ai (YM dp (.mk k n d s l) left)]) Tryz.func64 rfl Tryz.ntmps64 rfl rfl rfl (fun E => ?_)
 rw [YM]
 by_cases h0 : dp = 0
 ·subst h0
  rw [if_pos rfl]
  refine Qoc ?_; refine ZR ?_; refine QTa ?_; refine Zc ?_; (refine Z7 (op := .quo) (r' := nj ((X5 s).size / 50)) (u := nj (X5 s).size) (v := nj 50) ?_ (hr := by exact Vz (by omega) (by rw [Y4]; omega))); refine ZR ?_; refine Qba ?_; refine Z8 ?_; exact QA
 rw [if_neg h0]
 have hdp1 : ¬ (dp : Int) < 1 := by omega
 obtain ⟨e, rfl⟩ : ∃ e, dp = e + 1 := ⟨dp - 1, by omega⟩
 rw [Nat.add_sub_cancel]
 refine Qoc ?_; refine ZR ?_; refine QTa ?_; refine Zc ?_; (refine Z7 (op := .quo) (r' := nj ((X5 s).size / 50)) (u := nj (X5 s).size) (v := nj 50) ?_ (hr := by exact Vz (by omega) (by rw [Y4]; omega))); refine ZR ?_; refine Qba ?_; refine Z8 ?_; refine QH ?_; refine Qua ?_
 generalize hG : Uu e l (left - 1 - (s.length / 50 : Nat)) = G
 refine Xz (ι := Nat × Int) (fun q => q.1 ≤ l.length ∧ -1000000000000000000 ≤ q.2 ∧ q.2 ≤ 1000000 ∧ Uu e (l.drop q.1) q.2 = G) (fun q => ⟨38, [(1, ai q.2), (2, ai (e + 1 : Nat)), (3, .ptr 100 0), (7, ai q.1)], [(100, .box [ai k, ai n, ai d, .d (.v (.string (X5 s))), .d (.sl 5 (Xx l))])]⟩) (fun q => l.length - q.1) (0, left - 1 - (s.length / 50 : Nat)) ⟨by omega, by omega, by omega, hG⟩
  (X7 rfl ⟨JL, JL, JL, JL, trivial⟩ ⟨rfl, trivial⟩) ?_
 rintro ⟨i, cur⟩ ⟨hi, c1, c2, hg⟩
 simp only at hi c1 c2 hg
 by_cases hil : i < l.length
 case neg =>
  obtain rfl : i = l.length := by omega
  rw [List.drop_length, Uu] at hg
  subst hg
  have hn : ¬ ((l.length : Nat) : Int) < (Xx l).length := by omega
  refine Qze ?_; refine QAe ?_; exact QNa
 have hn : (i : Int) < (Xx l).length := by omega
 by_cases hneg : cur < 0
 ·rw [Xau hneg] at hg
  subst hg
  have hneg' : ¬ 0 ≤ cur := by omega
  refine QBe ?_; refine QMa ?_; exact QNa
 have hpos : 0 ≤ cur := by omega
 obtain ⟨x, hx⟩ := Xu (l := l) hil
 have hxc : (Xx l)[i]? = some (Y1 x) := by rw [X19]; exact XD hx
 have hcall := ih x (List.mem_of_getElem? hx) e cur (by omega) (by omega) c2
 have hlow := X58 x e cur (X1F hok.2.2 (List.mem_of_getElem? hx)) hpos c2
 rw [Xco hx hneg] at hg
 generalize YM e x cur = z at *
 obtain ⟨xk, xn, xd, xs, xl⟩ := x
 simp only [XG, Y1] at hcall hxc
 refine QBe ?_; refine Qxa ?_; refine QCe ?_; refine Qic ?_; refine Qf ?_
 (refine Z4 (op := .sub) (r' := nj e) (u := .int .i64 ((e + 1 : Nat) : Int)) (v := .int .i64 1) ?_ (hr' := by exact congrArg (Value.int .i64) (show (((e + 1 : Nat) : Int) - 1) = (e : Int) by omega)) (hr := by exact XU (by unfold Xw; omega)))
 refine Z9 (hcon := hcall) ?_; refine QTc ?_; exact ⟨(i + 1, z), ⟨by show i + 1 ≤ l.length; omega, by show -1000000000000000000 ≤ z; omega, by show z ≤ 1000000; omega, hg⟩, by show l.length - (i + 1) < l.length - i; omega, X7 rfl ⟨JL, JL, JL, JL, trivial⟩ ⟨rfl, trivial⟩⟩
theorem X5w : ∀ v : Val, Y3 v → X7o v
 | .mk k n d s l => fun hok => Xcd (.mk k n d s l) hok fun x hx => X5w x (X1F (by rw [Y3] at hok; exact hok.2.2) hx)
termination_by v => SizeOf.sizeOf v
decreasing_by
 have h1 := List.sizeOf_lt_of_mem (show x ∈ l from hx)
 simp only [Val.mk.sizeOf_spec]
 omega
def XL : Chg → List D
 | ⟨op, id, src, dst, name, .mk k n d s l⟩ => [.v (.int .i64 op), .v (.int .i64 id), .v (.int .i64 src), .v (.int .i64 dst), .v (.string (X5 name)), .v (.int .i64 k), .v (.int .i64 n), .v (.int .i64 d), .v (.string (X5 s)), .sl 5 (Xx l)]
def X2F (c : Chg) : Prop := c.name.length ≤ 9223372036854775807 ∧ Y3 c.v
def X0n : List Chg → Int → Int
 | [], left => left
 | c :: r, left => if left < 0 then left else X0n r (YM 12 c.v (left - 3 - (c.name.length / 50 : Nat)))
def UD (l : List Chg) (most : Int) : Bool := decide (0 ≤ X0n l (most * 4)) && decide ((l.length : Int) ≤ most)
theorem XfL {l : List Chg} {left : Int} (h : left < 0) : X0n l left = left := by
 cases l with
 | nil => rfl
 | cons x r => rw [X0n, if_pos h]
theorem Xi0 {l : List Chg} {i : Nat} {x : Chg} {left : Int} (h : l[i]? = some x) (h0 : ¬ left < 0) : X0n (l.drop i) left = X0n (l.drop (i + 1)) (YM 12 x.v (left - 3 - (x.name.length / 50 : Nat))) := by
 rw [List.drop_eq_getElem_cons (List.getElem?_eq_some_iff.1 h).1, (List.getElem?_eq_some_iff.1 h).2, X0n, if_neg h0]
theorem X7h (v : Val) (dp : Nat) (left : Int) (hok : Y3 v) (h1 : -200000000000000000 ≤ left) (h2 : left ≤ 1000000) : -400000000000000000 ≤ YM dp v left ∧ YM dp v left ≤ 1000000 := by
 obtain ⟨k, n, d, s, l⟩ := v
 rw [Y3] at hok
 rw [YM]
 split
 ·omega
 ·exact X66 (by omega) (by omega) fun x hx q q1 q2 => X58 x (dp - 1) q (X1F hok.2.2 hx) q1 q2
theorem X5W (l : List Chg) (most : Nat) (hm : most ≤ 1000) (hl : l.length ≤ 9223372036854775807) (hok : ∀ c ∈ l, X2F c) : Con Tryz.prog 25 [] [.d (.sl 10 (l.map XL)), ai most] [] (ab (UD l most)) := by
 have hlm : (l.map XL).length = l.length := by simp
 refine Xc (xs := [ab (UD l most)]) Tryz.func25 rfl Tryz.ntmps25 rfl rfl rfl (fun E => ?_)
 unfold UD
 refine Qe ?_; refine Z04 ?_; refine Qb ?_; refine Qua ?_
 generalize hG : X0n l ((most : Int) * 4) = G
 refine Xz (ι := Nat × Int) (fun q => q.1 ≤ l.length ∧ -400000000000000000 ≤ q.2 ∧ q.2 ≤ 1000000 ∧ X0n (l.drop q.1) q.2 = G) (fun q => ⟨43, [(0, .d (.sl 10 (l.map XL))), (1, ai most), (5, ai q.2), (6, ai q.1)], []⟩) (fun q => l.length - q.1) (0, (most : Int) * 4) ⟨by omega, by omega, by omega, hG⟩
  (X7 rfl ⟨JL, JL, JL, JL, trivial⟩ trivial) ?_
 rintro ⟨i, cur⟩ ⟨hi, c1, c2, hg⟩
 simp only at hi c1 c2 hg
 have fin : ∀ b : Bool, (b = true ↔ (l.length : Int) ≤ most) → b = decide ((l.length : Int) ≤ most) := fun b hb => by cases b <;> simp_all
 by_cases hil : i < l.length
 case neg =>
  obtain rfl : i = l.length := by omega
  rw [List.drop_length, X0n] at hg
  subst hg
  have hn : ¬ ((l.length : Nat) : Int) < (l.map XL).length := by omega
  by_cases hpos : 0 ≤ cur
  ·rw [decide_eq_true hpos, Bool.true_and]
   by_cases hle : (l.length : Int) ≤ most
   ·rw [decide_eq_true hle]
    refine Qva ?_; refine QAe ?_; refine Z2 ?_; refine Qf ?_; refine Qib ?_; refine Zm ?_; refine Qna ?_; first | exact X1 ⟨_, St.le_refl _, ⟨rfl, trivial⟩, X3 _⟩ | exact X1 ⟨_, XF 4 (y := ab true) (AVal.le_of_eq (by refine Eq.trans (b := ab (decide _)) rfl ?_; exact congrArg ab (by simp; omega))), ⟨rfl, trivial⟩, X3 _⟩ | fail
   ·rw [decide_eq_false hle]
    refine Qva ?_; refine QAe ?_; refine Z2 ?_; refine Qf ?_; refine Qib ?_; refine Zm ?_; refine Qna ?_; exact QDe
  ·rw [decide_eq_false hpos, Bool.false_and]
   refine Qva ?_; refine QAe ?_; refine Z2 ?_; refine Qza ?_; refine Qb ?_; exact QDe
 have hn : (i : Int) < (l.map XL).length := by omega
 by_cases hneg : cur < 0
 ·rw [XfL hneg] at hg
  subst hg
  have hpos : ¬ 0 ≤ cur := by omega
  rw [decide_eq_false hpos, Bool.false_and]
  refine QEe ?_; refine QMa ?_; refine Z2 ?_; refine Qza ?_; refine Qb ?_; exact QDe
 have hpos : 0 ≤ cur := by omega
 obtain ⟨x, hx⟩ := Xu (l := l) hil
 have hxc : (l.map XL)[i]? = some (XL x) := XD hx
 have hxo := hok x (List.mem_of_getElem? hx)
 rw [Xi0 hx hneg] at hg
 obtain ⟨op, id, src, dst, name, v⟩ := x
 obtain ⟨o1, o2⟩ := hxo
 simp only at o1 o2 hg
 have hsz : (X5 name).size = name.length := rfl
 have hcall := X5w v o2 12 (cur - 3 - (name.length / 50 : Nat)) (by omega) (by omega) (by omega)
 have hlow := X7h v 12 (cur - 3 - (name.length / 50 : Nat)) o2 (by omega) (by omega)
 generalize YM 12 v (cur - 3 - (name.length / 50 : Nat)) = z at *
 obtain ⟨xk, xn, xd, xs, xl⟩ := v
 simp only [XG, XL] at hcall hxc
 refine QEe ?_; refine Qxa ?_; refine QKd ?_; refine Zj ?_; refine ZN ?_; refine ZK ?_; refine Z1 ?_; refine ZR ?_; refine Qf ?_; refine Zj ?_; refine ZN ?_; refine Zk ?_; refine Zc ?_; (refine Z7 (op := .quo) (r' := nj ((X5 name).size / 50)) (u := nj (X5 name).size) (v := nj 50) ?_ (hr := by exact Vz (by omega) (by rw [Y4]; omega))); refine ZR ?_; refine Z9 (hcon := hcall) ?_; refine QTc ?_; exact ⟨(i + 1, z), ⟨by show i + 1 ≤ l.length; omega, hlow.1, hlow.2, hg⟩, by show l.length - (i + 1) < l.length - i; omega, X7 rfl ⟨JL, JL, JL, JL, trivial⟩ trivial⟩
open Go
structure Rd where
 k : Nat
 c : List UInt8
 a : Int
 e : Int
def Rd.put (s : Rd) (a e : Int) : Rd := ⟨s.k, s.c, a, e⟩
end Go.Fw
