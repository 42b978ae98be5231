/- Changes applied to graphs, in plain Lean: lists ordered by a key. -/
import Derived.Test.YtonekjkmnhfjmaaGreatDoorK14
namespace Go.Fw
open Go
set_option linter.unusedVariables false
set_option linter.unusedSimpArgs false
structure KOrd {κ : Type} (lt : κ → κ → Bool) : Prop where
 irr : ∀ a, lt a a = false
 tr : ∀ a b c, lt a b = true → lt b c = true → lt a c = true
 tri : ∀ a b, lt a b = false → lt b a = false → a = b
section
variable {α κ : Type} {lt : κ → κ → Bool} {key : α → κ}
def Y0 (lt : κ → κ → Bool) (key : α → κ) (l : List α) : Prop := l.Pairwise fun a b => lt (key a) (key b) = true
def Xg (lt : κ → κ → Bool) (key : α → κ) (l : List α) (k : κ) : Nat := (l.takeWhile fun x => lt (key x) k).length
theorem X7i {p : α → Bool} : ∀ {l : List α} {x : α}, x ∈ l.takeWhile p → p x = true
 | y :: l, x, h => by
  cases hp : p y with
  | true =>
   rw [List.takeWhile_cons_of_pos hp] at h
   rcases List.mem_cons.1 h with rfl | h
   ·exact hp
   ·exact X7i h
  | false => rw [List.takeWhile_cons_of_neg (by simp [hp])] at h; simp at h
 | [], x, h => by simp at h
theorem X4z {p : α → Bool} : ∀ l : List α, l.takeWhile p = l.take (l.takeWhile p).length ∧ l.dropWhile p = l.drop (l.takeWhile p).length
 | [] => ⟨rfl, rfl⟩
 | x :: l => by
  cases h : p x with
  | true =>
   rw [List.takeWhile_cons_of_pos h, List.dropWhile_cons_of_pos h]
   obtain ⟨h1, h2⟩ := X4z (p := p) l
   exact ⟨by rw [List.length_cons, List.take_succ_cons, ← h1], by rw [List.length_cons, List.drop_succ_cons, ← h2]⟩
  | false =>
   rw [List.takeWhile_cons_of_neg (by simp [h]), List.dropWhile_cons_of_neg (by simp [h])]
   exact ⟨rfl, rfl⟩
theorem X3g (l : List α) (k : κ) : Xg lt key l k ≤ l.length := by
 unfold Xg
 have := (X4z (p := fun x => lt (key x) k) l).1
 have := congrArg List.length this
 rw [List.length_take] at this
 omega
theorem X7r (l : List α) (k : κ) : (l.takeWhile fun x => lt (key x) k) = l.take (Xg lt key l k) := (X4z l).1
theorem X4P (l : List α) (k : κ) : (l.dropWhile fun x => lt (key x) k) = l.drop (Xg lt key l k) := (X4z l).2
theorem X6m {l : List α} {k : κ} : ∀ x ∈ l.take (Xg lt key l k), lt (key x) k = true := by
 intro x hx
 rw [← X7r] at hx
 exact X7i (p := fun x => lt (key x) k) hx
theorem X4E {l : List α} {k : κ} {x : α} (h : l[Xg lt key l k]? = some x) : lt (key x) k = false := by
 have h1 : (l.dropWhile fun x => lt (key x) k).head? = some x := by
  rw [X4P, List.head?_drop]; exact h
 have := List.head?_dropWhile_not (fun x => lt (key x) k) l
 rw [h1] at this
 simpa using this
theorem Xfe (ho : KOrd lt) {l : List α} {k : κ} (hs : Y0 lt key l) : ∀ x ∈ l.drop (Xg lt key l k), lt (key x) k = false := by
 intro x hx
 obtain ⟨j, hj⟩ := List.getElem?_of_mem hx
 rw [List.getElem?_drop] at hj
 cases j with
 | zero => exact X4E (by simpa using hj)
 | succ j =>
  have hlt : Xg lt key l k + (j + 1) < l.length := (List.getElem?_eq_some_iff.1 hj).1
  have h0 : l[Xg lt key l k]? = some l[Xg lt key l k] := List.getElem?_eq_getElem (by omega)
  have h1 := X4E h0
  have h2 := (List.pairwise_iff_getElem.1 hs) (Xg lt key l k) (Xg lt key l k + (j + 1)) (by omega) hlt (by omega)
  rw [List.getElem?_eq_getElem hlt] at hj
  simp only [Option.some.injEq] at hj
  rw [hj] at h2
  by_cases q : lt (key x) k = true
  ·rw [ho.tr _ _ _ h2 q] at h1; cases h1
  ·simpa using q
theorem X6s {p : α → Bool} : ∀ {l : List α}, (∀ x ∈ l, p x = true) → l.filter p = l := fun h => List.filter_eq_self.2 h
variable [DecidableEq κ]
def Xl (key : α → κ) (l : List α) (k : κ) : Bool := l.any fun x => decide (key x = k)
def Yp (lt : κ → κ → Bool) (key : α → κ) (l : List α) (k : κ) (ns : List α) : List α := (l.takeWhile fun x => lt (key x) k) ++ ns ++ (l.dropWhile fun x => lt (key x) k).filter fun x => !decide (key x = k)
def YH (key : α → κ) (l : List α) (k : κ) : List α := l.filter fun x => !decide (key x = k)
theorem V0 (ho : KOrd lt) {l : List α} {k : κ} (hs : Y0 lt key l) : Xl key l k = decide (∃ x, l[Xg lt key l k]? = some x ∧ key x = k) := by
 rw [Bool.eq_iff_iff]
 unfold Xl
 simp only [List.any_eq_true, decide_eq_true_eq]
 constructor
 ·rintro ⟨x, hx, e⟩
  rw [← List.take_append_drop (Xg lt key l k) l] at hx
  rcases List.mem_append.1 hx with hx | hx
  ·have := X6m x hx
   rw [e, ho.irr] at this; cases this
  ·obtain ⟨j, hj⟩ := List.getElem?_of_mem hx
   rw [List.getElem?_drop] at hj
   cases j with
   | zero => exact ⟨x, by simpa using hj, e⟩
   | succ j =>
    exfalso
    have hlt : Xg lt key l k + (j + 1) < l.length := (List.getElem?_eq_some_iff.1 hj).1
    have h0 : l[Xg lt key l k]? = some l[Xg lt key l k] := List.getElem?_eq_getElem (by omega)
    have h1 := X4E h0
    have h2 := (List.pairwise_iff_getElem.1 hs) (Xg lt key l k) (Xg lt key l k + (j + 1)) (by omega) hlt (by omega)
    rw [List.getElem?_eq_getElem hlt] at hj
    simp only [Option.some.injEq] at hj
    rw [hj, e] at h2
    rw [h2] at h1; cases h1
 ·rintro ⟨x, hx, e⟩
  exact ⟨x, List.mem_of_getElem? hx, e⟩
theorem X2c {l : List α} {k : κ} {ns : List α} (hn : Xl key l k = false) : Yp lt key l k ns = l.take (Xg lt key l k) ++ ns ++ l.drop (Xg lt key l k) := by
 unfold Yp
 rw [X7r, X4P, X6s]
 intro x hx
 have := (List.any_eq_false.1 hn) x (List.mem_of_mem_drop hx)
 simpa using this
theorem Xb3 (ho : KOrd lt) {l : List α} {k : κ} {x : α} (hs : Y0 lt key l) (hx : l[Xg lt key l k]? = some x) (e : key x = k) : (l.drop (Xg lt key l k)).filter (fun x => !decide (key x = k)) = l.drop (Xg lt key l k + 1) := by
 have hlt : Xg lt key l k < l.length := (List.getElem?_eq_some_iff.1 hx).1
 rw [List.drop_eq_getElem_cons hlt]
 have hx' : l[Xg lt key l k] = x := by rw [List.getElem?_eq_getElem hlt] at hx; simpa using hx
 rw [hx', List.filter_cons_of_neg (by simp [e]), X6s]
 intro y hy
 obtain ⟨j, hj⟩ := List.getElem?_of_mem hy
 rw [List.getElem?_drop] at hj
 have hlt2 : Xg lt key l k + 1 + j < l.length := (List.getElem?_eq_some_iff.1 hj).1
 have h2 := (List.pairwise_iff_getElem.1 hs) (Xg lt key l k) (Xg lt key l k + 1 + j) hlt hlt2 (by omega)
 rw [List.getElem?_eq_getElem hlt2] at hj
 simp only [Option.some.injEq] at hj
 rw [hj, hx', e] at h2
 simp only [Bool.not_eq_true', decide_eq_false_iff_not]
 intro q
 rw [q, ho.irr] at h2; cases h2
theorem X3x (ho : KOrd lt) {l : List α} {k : κ} {ns : List α} {x : α} (hs : Y0 lt key l) (hx : l[Xg lt key l k]? = some x) (e : key x = k) : Yp lt key l k ns = l.take (Xg lt key l k) ++ ns ++ l.drop (Xg lt key l k + 1) := by
 unfold Yp
 rw [X7r, X4P, Xb3 ho hs hx e]
theorem X6l (ho : KOrd lt) {l : List α} {k : κ} {x : α} (hs : Y0 lt key l) (hx : l[Xg lt key l k]? = some x) (e : key x = k) : YH key l k = l.take (Xg lt key l k) ++ l.drop (Xg lt key l k + 1) := by
 unfold YH
 conv => lhs; rw [← List.take_append_drop (Xg lt key l k) l]
 rw [List.filter_append, Xb3 ho hs hx e, X6s]
 intro y hy
 have := X6m y hy
 simp only [Bool.not_eq_true', decide_eq_false_iff_not]
 intro q
 rw [q, ho.irr] at this; cases this
theorem X4g {l : List α} {k : κ} {ns : List α} {x : α} (h : x ∈ Yp lt key l k ns) : x ∈ ns ∨ x ∈ l := by
 unfold Yp at h
 rcases List.mem_append.1 h with h | h
 ·rcases List.mem_append.1 h with h | h
  ·exact .inr ((List.takeWhile_sublist _).subset h)
  ·exact .inl h
 ·exact .inr ((List.dropWhile_sublist _).subset ((List.mem_filter.1 h).1))
theorem X40 (ho : KOrd lt) {l : List α} {k : κ} {ns : List α} (hs : Y0 lt key l) (hn : ns = [] ∨ ∃ n, ns = [n] ∧ key n = k) : Y0 lt key (Yp lt key l k ns) := by
 unfold Yp Y0
 have h1 : Y0 lt key (l.takeWhile fun x => lt (key x) k) := hs.sublist (List.takeWhile_sublist _)
 have h2 : Y0 lt key ((l.dropWhile fun x => lt (key x) k).filter fun x => !decide (key x = k)) := (hs.sublist (List.dropWhile_sublist _)).sublist List.filter_sublist
 have hA : ∀ a ∈ (l.takeWhile fun x => lt (key x) k), lt (key a) k = true := fun a ha => X7i (p := fun x => lt (key x) k) ha
 have hB : ∀ b ∈ ((l.dropWhile fun x => lt (key x) k).filter fun x => !decide (key x = k)), lt k (key b) = true := by
  intro b hb
  rw [X4P] at hb
  have q1 := Xfe ho hs b ((List.mem_filter.1 hb).1)
  have q2 : key b ≠ k := by simpa using (List.mem_filter.1 hb).2
  by_cases q : lt k (key b) = true
  ·exact q
  ·exact absurd (ho.tri _ _ q1 (by simpa using q)) q2
 have hAB : ∀ a ∈ (l.takeWhile fun x => lt (key x) k), ∀ b ∈ ((l.dropWhile fun x => lt (key x) k).filter fun x => !decide (key x = k)), lt (key a) (key b) = true := fun a ha b hb => ho.tr _ _ _ (hA a ha) (hB b hb)
 rcases hn with rfl | ⟨n, rfl, e⟩
 ·rw [List.append_nil]
  exact List.pairwise_append.2 ⟨h1, h2, hAB⟩
 ·refine List.pairwise_append.2 ⟨List.pairwise_append.2 ⟨h1, List.pairwise_singleton _ _, fun a ha b hb => ?_⟩, h2, fun a ha b hb => ?_⟩
  ·obtain rfl := List.mem_singleton.1 hb
   rw [e]; exact hA a ha
  ·rcases List.mem_append.1 ha with ha | ha
   ·exact hAB a ha b hb
   ·obtain rfl := List.mem_singleton.1 ha
    rw [e]; exact hB b hb
theorem X5S {l : List α} {k : κ} (hs : Y0 lt key l) : Y0 lt key (YH key l k) := hs.sublist List.filter_sublist
theorem X6r {l : List α} {k : κ} {x : α} (h : x ∈ YH key l k) : x ∈ l ∧ key x ≠ k := by
 obtain ⟨h1, h2⟩ := List.mem_filter.1 h
 exact ⟨h1, by simpa using h2⟩
end
def ltI (a b : Int) : Bool := decide (a < b)
theorem YM : KOrd ltI := ⟨fun a => by simp [ltI], fun a b c h1 h2 => by simp only [ltI, decide_eq_true_eq] at *; omega, fun a b h1 h2 => by simp only [ltI, decide_eq_false_iff_not] at *; omega⟩
abbrev ltS : List UInt8 → List UInt8 → Bool := Op.bytesLess
theorem X5M : ∀ s t u : List UInt8, Op.bytesLess s t = true → Op.bytesLess t u = true → Op.bytesLess s u = true
 | _, [], _, h, _ => by simp [Op.bytesLess] at h
 | _, _ :: _, [], _, h => by simp [Op.bytesLess] at h
 | [], _ :: _, _ :: _, _, _ => by simp [Op.bytesLess]
 | a :: s, b :: t, c :: u, h1, h2 => by
  have ih := X5M s t u
  simp only [Op.bytesLess, Bool.or_eq_true, decide_eq_true_eq, Bool.and_eq_true, beq_iff_eq] at h1 h2 ⊢
  rcases h1 with h1 | ⟨rfl, h1⟩ <;> rcases h2 with h2 | ⟨rfl, h2⟩
  ·exact .inl (UInt8.lt_trans h1 h2)
  ·exact .inl h1
  ·exact .inl h2
  ·exact .inr ⟨rfl, ih h1 h2⟩
theorem Vo : KOrd ltS := ⟨X43, X5M, X6j⟩
abbrev XB (s : List UInt8) : List UInt8 := s
theorem X6Z : ∀ l : List (List UInt8), Yz l = true ↔ Y0 ltS XB l
 | [] => by simp [Yz, Y0]
 | [a] => by simp [Yz, Y0]
 | a :: b :: r => by
  have ih := X6Z (b :: r)
  rw [Yz, Bool.and_eq_true, ih]
  unfold Y0
  rw [List.pairwise_cons (a := a)]
  constructor
  ·rintro ⟨h1, h2⟩
   refine ⟨fun c hc => ?_, h2⟩
   have hab : ltS a b = true := by
    simp only [Bool.not_eq_true', Bool.or_eq_false_iff, decide_eq_false_iff_not] at h1
    by_cases q : ltS a b = true
    ·exact q
    ·exact absurd (X6j b a h1.1 (by simpa using q)) h1.2
   rcases List.mem_cons.1 hc with rfl | hc
   ·exact hab
   ·exact X5M _ _ _ hab ((List.pairwise_cons.1 h2).1 c hc)
  ·rintro ⟨h1, h2⟩
   refine ⟨?_, h2⟩
   have hab := h1 b (by simp)
   simp only [Bool.not_eq_true', Bool.or_eq_false_iff, decide_eq_false_iff_not]
   refine ⟨X8y _ _ hab, fun e => ?_⟩
   rw [e] at hab
   rw [show ltS a a = false from X43 a] at hab; cases hab
structure PV (ls : List (List UInt8)) (ps : List Prp) : Prop where
 ll : ls.length ≤ 8
 pl : ps.length ≤ 16
 ln : ∀ s ∈ ls, Xt s = true
 pn : ∀ p ∈ ps, Xt p.key = true
 lr : Y0 ltS XB ls
 pr : Y0 ltS Prp.key ps
 pv : ∀ p ∈ ps, XV p.v = true
theorem Xiu {ps : List Prp} : Y0 ltS XB (ps.map Prp.key) ↔ Y0 ltS Prp.key ps := by
 unfold Y0
 rw [List.pairwise_map]
theorem X99 {ls : List (List UInt8)} {ps : List Prp} : YO ls ps = 0 ↔ PV ls ps := by
 unfold YO
 have e1 : Yz ls = true ↔ Y0 ltS XB ls := X6Z ls
 have e2 : Yz (ps.map Prp.key) = true ↔ Y0 ltS Prp.key ps := (X6Z _).trans Xiu
 constructor
 ·intro h
  by_cases c1 : 8 < ls.length ∨ 16 < ps.length
  ·rw [if_pos c1] at h; simp at h
  rw [if_neg c1] at h
  by_cases c2 : ls.all Xt = false ∨ (ps.map Prp.key).all Xt = false
  ·rw [if_pos c2] at h; simp at h
  rw [if_neg c2] at h
  by_cases c3 : Yz ls = false ∨ Yz (ps.map Prp.key) = false
  ·rw [if_pos c3] at h; simp at h
  rw [if_neg c3] at h
  by_cases c4 : (ps.map Prp.v).all XV = false
  ·rw [if_pos c4] at h; simp at h
  simp only [not_or, Bool.not_eq_false] at c2 c3 c4
  refine ⟨by omega, by omega, List.all_eq_true.1 c2.1, fun p hp => List.all_eq_true.1 c2.2 _ (List.mem_map_of_mem hp), e1.1 c3.1, e2.1 c3.2, fun p hp => List.all_eq_true.1 c4 _ (List.mem_map_of_mem hp)⟩
 ·intro h
  have a1 : ls.all Xt = true := List.all_eq_true.2 h.ln
  have a2 : (ps.map Prp.key).all Xt = true := List.all_eq_true.2 fun s hs => by
   obtain ⟨p, hp, rfl⟩ := List.mem_map.1 hs
   exact h.pn p hp
  have a3 : (ps.map Prp.v).all XV = true := List.all_eq_true.2 fun s hs => by
   obtain ⟨p, hp, rfl⟩ := List.mem_map.1 hs
   exact h.pv p hp
  have h1 := h.ll
  have h2 := h.pl
  rw [if_neg (by omega), if_neg (by simp [a1, a2]), if_neg (by simp [e1.2 h.lr, e2.2 h.pr]), if_neg (by simp [a3])]
structure GV (g : Gra) : Prop where
 nl : g.nodes.length ≤ 2000
 el : g.edges.length ≤ 4000
 nn : 1 ≤ g.nn ∧ g.nn ≤ 1000001
 ne : 1 ≤ g.ne ∧ g.ne ≤ 1000001
 nodes : ∀ n ∈ g.nodes, 1 ≤ n.id ∧ n.id < g.nn ∧ PV n.labels n.props
 ns : Y0 ltI Nod.id g.nodes
 edges : ∀ e ∈ g.edges, 1 ≤ e.id ∧ e.id < g.ne ∧ Y3 g.nodes e.src = true ∧ Y3 g.nodes e.dst = true ∧ Xt e.typ = true ∧ PV [] e.props
 es : Y0 ltI Edg.id g.edges
theorem X6P {nn : Int} : ∀ (l : List Nod) (p : Option Nod), YW nn p l = 0 ↔ (∀ n ∈ l, 1 ≤ n.id ∧ n.id < nn ∧ PV n.labels n.props) ∧ Y0 ltI Nod.id l ∧ ∀ q, p = some q → ∀ n ∈ l, q.id < n.id
 | [], p => by simp [YW, Y0]
 | x :: r, p => by
  have ih := X6P (nn := nn) r (some x)
  have h0 : Uq nn p x = 0 ↔ (∀ q, p = some q → q.id < x.id) ∧ 1 ≤ x.id ∧ x.id < nn ∧ PV x.labels x.props := by
   unfold Uq
   rw [← X99]
   by_cases c1 : ∃ q, p = some q ∧ x.id ≤ q.id
   ·rw [if_pos c1]
    obtain ⟨q, hq, hle⟩ := c1
    constructor
    ·intro h; omega
    ·rintro ⟨h, _⟩; have := h q hq; omega
   ·rw [if_neg c1]
    have c1' : ∀ q, p = some q → q.id < x.id := fun q hq => Int.lt_of_not_ge fun hc => c1 ⟨q, hq, hc⟩
    by_cases c2 : x.id < 1 ∨ nn ≤ x.id
    ·rw [if_pos c2]
     constructor
     ·intro h; omega
     ·rintro ⟨_, h1, h2, _⟩; omega
    ·rw [if_neg c2]
     exact ⟨fun h => ⟨c1', by omega, by omega, h⟩, fun h => h.2.2.2⟩
  rw [YW]
  by_cases h1 : Uq nn p x = 0
  ·rw [if_neg (by rw [h1]; simp), ih]
   obtain ⟨k1, k2⟩ := h0.1 h1
   constructor
   ·rintro ⟨q1, q2, q3⟩
    refine ⟨fun n hn => ?_, List.pairwise_cons.2 ⟨fun n hn => by simpa [ltI] using q3 x rfl n hn, q2⟩, fun q hq n hn => ?_⟩
    ·rcases List.mem_cons.1 hn with rfl | hn
     ·exact k2
     ·exact q1 n hn
    ·rcases List.mem_cons.1 hn with rfl | hn
     ·exact k1 q hq
     ·exact Int.lt_trans (k1 q hq) (q3 x rfl n hn)
   ·rintro ⟨q1, q2, q3⟩
    obtain ⟨q4, q5⟩ := List.pairwise_cons.1 q2
    refine ⟨fun n hn => q1 n (List.mem_cons_of_mem _ hn), q5, fun q hq n hn => ?_⟩
    cases hq
    simpa [ltI] using q4 n hn
  ·rw [if_pos h1]
   constructor
   ·intro h; exact absurd h h1
   ·rintro ⟨q1, q2, q3⟩
    exact absurd (h0.2 ⟨fun q hq => q3 q hq x (by simp), q1 x (by simp)⟩) h1
theorem X5u {ns : List Nod} {ne : Int} : ∀ (l : List Edg) (p : Option Edg), UP ns ne p l = 0 ↔ (∀ e ∈ l, 1 ≤ e.id ∧ e.id < ne ∧ Y3 ns e.src = true ∧ Y3 ns e.dst = true ∧ Xt e.typ = true ∧ PV [] e.props) ∧ Y0 ltI Edg.id l ∧ ∀ q, p = some q → ∀ n ∈ l, q.id < n.id
 | [], p => by simp [UP, Y0]
 | x :: r, p => by
  have ih := X5u (ns := ns) (ne := ne) r (some x)
  have h0 : UR ns ne p x = 0 ↔ (∀ q, p = some q → q.id < x.id) ∧ 1 ≤ x.id ∧ x.id < ne ∧ Y3 ns x.src = true ∧ Y3 ns x.dst = true ∧ Xt x.typ = true ∧ PV [] x.props := by
   unfold UR
   rw [← X99]
   by_cases c1 : ∃ q, p = some q ∧ x.id ≤ q.id
   ·rw [if_pos c1]
    obtain ⟨q, hq, hle⟩ := c1
    constructor
    ·intro h; omega
    ·rintro ⟨h, _⟩; have := h q hq; omega
   ·rw [if_neg c1]
    have c1' : ∀ q, p = some q → q.id < x.id := fun q hq => Int.lt_of_not_ge fun hc => c1 ⟨q, hq, hc⟩
    by_cases c2 : x.id < 1 ∨ ne ≤ x.id
    ·rw [if_pos c2]
     constructor
     ·intro h; omega
     ·rintro ⟨_, h1, h2, _⟩; omega
    ·rw [if_neg c2]
     by_cases c3 : Y3 ns x.src = false ∨ Y3 ns x.dst = false
     ·rw [if_pos c3]
      constructor
      ·intro h; omega
      ·rintro ⟨_, _, _, h1, h2, _⟩; rw [h1, h2] at c3; simp at c3
     ·rw [if_neg c3]
      simp only [not_or, Bool.not_eq_false] at c3
      by_cases c4 : Xt x.typ = false
      ·rw [if_pos c4]
       constructor
       ·intro h; omega
       ·rintro ⟨_, _, _, _, _, h1, _⟩; rw [h1] at c4; simp at c4
      ·rw [if_neg c4]
       exact ⟨fun h => ⟨c1', by omega, by omega, c3.1, c3.2, by simpa using c4, h⟩, fun h => h.2.2.2.2.2.2⟩
  rw [UP]
  by_cases h1 : UR ns ne p x = 0
  ·rw [if_neg (by rw [h1]; simp), ih]
   obtain ⟨k1, k2⟩ := h0.1 h1
   constructor
   ·rintro ⟨q1, q2, q3⟩
    refine ⟨fun n hn => ?_, List.pairwise_cons.2 ⟨fun n hn => by simpa [ltI] using q3 x rfl n hn, q2⟩, fun q hq n hn => ?_⟩
    ·rcases List.mem_cons.1 hn with rfl | hn
     ·exact k2
     ·exact q1 n hn
    ·rcases List.mem_cons.1 hn with rfl | hn
     ·exact k1 q hq
     ·exact Int.lt_trans (k1 q hq) (q3 x rfl n hn)
   ·rintro ⟨q1, q2, q3⟩
    obtain ⟨q4, q5⟩ := List.pairwise_cons.1 q2
    refine ⟨fun n hn => q1 n (List.mem_cons_of_mem _ hn), q5, fun q hq n hn => ?_⟩
    cases hq
    simpa [ltI] using q4 n hn
  ·rw [if_pos h1]
   constructor
   ·intro h; exact absurd h h1
   ·rintro ⟨q1, q2, q3⟩
    exact absurd (h0.2 ⟨fun q hq => q3 q hq x (by simp), q1 x (by simp)⟩) h1
theorem X5x {g : Gra} : Yh g = 0 ↔ GV g := by
 unfold Yh
 constructor
 ·intro h
  by_cases c1 : 2000 < g.nodes.length ∨ 4000 < g.edges.length
  ·rw [if_pos c1] at h; simp at h
  rw [if_neg c1] at h
  by_cases c2 : g.nn < 1 ∨ 1000001 < g.nn ∨ g.ne < 1 ∨ 1000001 < g.ne
  ·rw [if_pos c2] at h; simp at h
  rw [if_neg c2] at h
  by_cases c3 : YW g.nn none g.nodes ≠ 0
  ·rw [if_pos c3] at h; exact absurd h c3
  rw [if_neg c3] at h
  obtain ⟨n1, n2, _⟩ := (X6P g.nodes none).1 (by simpa using c3)
  obtain ⟨e1, e2, _⟩ := (X5u g.edges none).1 h
  exact ⟨by omega, by omega, by omega, by omega, n1, n2, e1, e2⟩
 ·intro h
  have h1 := h.nl; have h2 := h.el; have h3 := h.nn; have h4 := h.ne
  have hn : YW g.nn none g.nodes = 0 := (X6P _ _).2 ⟨h.nodes, h.ns, by simp⟩
  have he : UP g.nodes g.ne none g.edges = 0 := (X5u _ _).2 ⟨h.edges, h.es, by simp⟩
  rw [if_neg (by omega), if_neg (by omega), if_neg (by rw [hn]; simp), he]
def XP (l : List Prp) (k : List UInt8) (v : Val) : List Prp := Yp ltS Prp.key l k (if YA v = true then [] else [⟨k, v⟩])
def UQ (es : List Edg) (n : Int) : Bool := es.any fun e => decide (e.src = n ∨ e.dst = n)
def YS (l : List Nod) (n : Int) : Option Nod := l.find? fun x => decide (x.id = n)
def Uw (l : List Edg) (n : Int) : Option Edg := l.find? fun x => decide (x.id = n)
def Ui (g : Gra) (n : Nod) : Gra := { g with nodes := Yp ltI Nod.id g.nodes n.id [n], nn := max g.nn (n.id + 1) }
def Vs (g : Gra) (e : Edg) : Gra := { g with edges := Yp ltI Edg.id g.edges e.id [e], ne := max g.ne (e.id + 1) }
def X0G (g : Gra) (c : Chg) (n : Nod) : Gra × Int :=
 if c.op = 2 then (if UQ g.edges c.id = true then (YK, 12) else ({ g with nodes := YH Nod.id g.nodes c.id }, 0))
 else if c.op = 3 then (if Xl XB n.labels c.name = true then (YK, 7) else if 8 ≤ n.labels.length then (YK, 20) else (Ui g ⟨n.id, Yp ltS XB n.labels c.name [c.name], n.props⟩, 0))
 else if c.op = 4 then (if Xl XB n.labels c.name = false then (YK, 23) else (Ui g ⟨n.id, YH XB n.labels c.name, n.props⟩, 0))
 else if 16 < (XP n.props c.name c.v).length then (YK, 20) else (Ui g ⟨n.id, n.labels, XP n.props c.name c.v⟩, 0)
def X0o (g : Gra) (c : Chg) (e : Edg) : Gra × Int :=
 if c.op = 8 then (if 16 < (XP e.props c.name c.v).length then (YK, 20) else (Vs g ⟨e.id, e.src, e.dst, e.typ, XP e.props c.name c.v⟩, 0))
 else ({ g with edges := YH Edg.id g.edges c.id }, 0)
def Uk (g : Gra) (c : Chg) : Gra × Int :=
 if c.op = 1 then (if Xl Nod.id g.nodes c.id = true then (YK, 7) else if 2000 ≤ g.nodes.length then (YK, 20) else (Ui g ⟨c.id, [], []⟩, 0))
 else if c.op = 6 then (if Xl Edg.id g.edges c.id = true then (YK, 7) else if Xl Nod.id g.nodes c.src = false ∨ Xl Nod.id g.nodes c.dst = false then (YK, 10) else if 4000 ≤ g.edges.length then (YK, 20) else (Vs g ⟨c.id, c.src, c.dst, c.name, []⟩, 0))
 else if c.op = 7 ∨ c.op = 8 then (match Uw g.edges c.id with | none => (YK, 11) | some e => X0o g c e)
 else (match YS g.nodes c.id with | none => (YK, 10) | some n => X0G g c n)
def XW (g : Gra) (c : Chg) : Gra × Int := if YZ c ≠ 0 then (YK, YZ c) else Uk g c
def V5 : Gra → Nat → List Chg → Gra × Nat × Int
 | g, k, [] => (g, k, 0)
 | g, k, c :: r => if (XW g c).2 ≠ 0 then (YK, k, (XW g c).2) else V5 (XW g c).1 (k + 1) r
def Y7 (g : Gra) (l : List Chg) : Gra × Nat × Int := if Yh g ≠ 0 then (YK, 0, Yh g) else V5 g 0 l
theorem X9a {α κ : Type} [DecidableEq κ] {lt : κ → κ → Bool} {key : α → κ} (ho : KOrd lt) {l : List α} {k : κ} (hs : Y0 lt key l) : l.find? (fun x => decide (key x = k)) = (l[Xg lt key l k]?).bind fun x => if key x = k then some x else none := by
 have hh := V0 (k := k) ho hs
 cases hf : l.find? (fun x => decide (key x = k)) with
 | none =>
  have h0 : Xl key l k = false := by
   unfold Xl
   rw [List.any_eq_false]
   exact List.find?_eq_none.1 hf
  rw [h0] at hh
  have hh := (decide_eq_false_iff_not.1 hh.symm)
  cases hx : l[Xg lt key l k]? with
  | none => rfl
  | some x =>
   simp only [Option.bind_some]
   rw [if_neg (fun e => hh ⟨x, hx, e⟩)]
 | some x =>
  have hx := List.mem_of_find?_eq_some hf
  have he : key x = k := by have := List.find?_some hf; simpa using this
  have h0 : Xl key l k = true := by
   unfold Xl
   rw [List.any_eq_true]
   exact ⟨x, hx, by simpa using he⟩
  rw [h0] at hh
  obtain ⟨y, hy, e⟩ := decide_eq_true_iff.1 hh.symm
  rw [hy, Option.bind_some, if_pos e]
  obtain ⟨i, hi⟩ := List.getElem?_of_mem hx
  have hli : i < l.length := (List.getElem?_eq_some_iff.1 hi).1
  have hlj : Xg lt key l k < l.length := (List.getElem?_eq_some_iff.1 hy).1
  have hxi : l[i] = x := by rw [List.getElem?_eq_getElem hli] at hi; simpa using hi
  have hyj : l[Xg lt key l k] = y := by rw [List.getElem?_eq_getElem hlj] at hy; simpa using hy
  rcases Nat.lt_trichotomy i (Xg lt key l k) with q | q | q
  ·have := (List.pairwise_iff_getElem.1 hs) i (Xg lt key l k) hli hlj q
   rw [hxi, hyj, he, e, ho.irr] at this; cases this
  ·subst q; rw [← hxi, hyj]
  ·have := (List.pairwise_iff_getElem.1 hs) (Xg lt key l k) i hlj hli q
   rw [hxi, hyj, he, e, ho.irr] at this; cases this
theorem X23 {g : Gra} (h : GV g) (n : Int) : YS g.nodes n = (g.nodes[Xg ltI Nod.id g.nodes n]?).bind fun x => if x.id = n then some x else none := X9a YM h.ns
theorem XaY {g : Gra} (h : GV g) (n : Int) : Uw g.edges n = (g.edges[Xg ltI Edg.id g.edges n]?).bind fun x => if x.id = n then some x else none := X9a YM h.es
theorem X0X {l : List Nod} {n : Int} {x : Nod} (h : YS l n = some x) : x ∈ l ∧ x.id = n := ⟨List.mem_of_find?_eq_some h, by have := List.find?_some h; simpa using this⟩
theorem X4n {l : List Edg} {n : Int} {x : Edg} (h : Uw l n = some x) : x ∈ l ∧ x.id = n := ⟨List.mem_of_find?_eq_some h, by have := List.find?_some h; simpa using this⟩
theorem X1j {α κ : Type} [DecidableEq κ] {lt : κ → κ → Bool} {key : α → κ} {l : List α} {k : κ} {ns : List α} : (Yp lt key l k ns).length ≤ l.length + ns.length := by
 unfold Yp
 rw [List.length_append, List.length_append]
 have h1 := List.length_filter_le (fun x => !decide (key x = k)) (l.dropWhile fun x => lt (key x) k)
 have h2 : (l.takeWhile fun x => lt (key x) k).length + (l.dropWhile fun x => lt (key x) k).length = l.length := by rw [← List.length_append, List.takeWhile_append_dropWhile]
 omega
theorem X5P {α κ : Type} [DecidableEq κ] {lt : κ → κ → Bool} {key : α → κ} {l : List α} {k : κ} {n : α} (ho : KOrd lt) (hs : Y0 lt key l) (hh : Xl key l k = true) : (Yp lt key l k [n]).length = l.length := by
 rw [V0 ho hs] at hh
 obtain ⟨x, hx, e⟩ := decide_eq_true_iff.1 hh
 have hlt : Xg lt key l k < l.length := (List.getElem?_eq_some_iff.1 hx).1
 rw [X3x ho hs hx e, List.length_append, List.length_append, List.length_take, List.length_drop, List.length_singleton]
 omega
theorem X9P {l : List Nod} {n : Nod} {k : Int} (h : Xl Nod.id l k = true) : Xl Nod.id (Yp ltI Nod.id l n.id [n]) k = true := by
 unfold Xl at h ⊢
 rw [List.any_eq_true] at h ⊢
 obtain ⟨x, hx, e⟩ := h
 have e : x.id = k := by simpa using e
 by_cases q : n.id = k
 ·exact ⟨n, by unfold Yp; simp, by simpa using q⟩
 ·refine ⟨x, ?_, by simpa using e⟩
  unfold Yp
  rw [← List.takeWhile_append_dropWhile (p := fun x => ltI (Nod.id x) n.id) (l := l)] at hx
  rcases List.mem_append.1 hx with hx | hx
  ·exact List.mem_append_left _ (List.mem_append_left _ hx)
  ·refine List.mem_append_right _ (List.mem_filter.2 ⟨hx, ?_⟩)
   simp only [Bool.not_eq_true', decide_eq_false_iff_not]
   omega
theorem X4Y {g : Gra} {n : Nod} (h : GV g) (h1 : 1 ≤ n.id ∧ n.id ≤ 1000000) (hp : PV n.labels n.props) (hl : (Yp ltI Nod.id g.nodes n.id [n]).length ≤ 2000) : GV (Ui g n) := by
 have h3 := h.nn
 refine ⟨hl, h.el, ⟨?_, ?_⟩, h.ne, fun x hx => ?_, X40 YM h.ns (.inr ⟨n, rfl, rfl⟩), fun e he => ?_, h.es⟩
 ·show 1 ≤ max g.nn (n.id + 1); omega
 ·show max g.nn (n.id + 1) ≤ 1000001; omega
 ·show 1 ≤ x.id ∧ x.id < max g.nn (n.id + 1) ∧ _
  rcases X4g hx with hx | hx
  ·obtain rfl := List.mem_singleton.1 hx
   exact ⟨h1.1, by omega, hp⟩
  ·obtain ⟨q1, q2, q3⟩ := h.nodes x hx
   exact ⟨q1, by omega, q3⟩
 ·obtain ⟨q1, q2, q3, q4, q5⟩ := h.edges e he
  exact ⟨q1, q2, X9P q3, X9P q4, q5⟩
theorem XaI {g : Gra} {e : Edg} (h : GV g) (h1 : 1 ≤ e.id ∧ e.id ≤ 1000000) (hs : Xl Nod.id g.nodes e.src = true) (hd : Xl Nod.id g.nodes e.dst = true) (ht : Xt e.typ = true) (hp : PV [] e.props) (hl : (Yp ltI Edg.id g.edges e.id [e]).length ≤ 4000) : GV (Vs g e) := by
 have h3 := h.ne
 refine ⟨h.nl, hl, h.nn, ⟨?_, ?_⟩, h.nodes, h.ns, fun x hx => ?_, X40 YM h.es (.inr ⟨e, rfl, rfl⟩)⟩
 ·show 1 ≤ max g.ne (e.id + 1); omega
 ·show max g.ne (e.id + 1) ≤ 1000001; omega
 ·show 1 ≤ x.id ∧ x.id < max g.ne (e.id + 1) ∧ _
  rcases X4g hx with hx | hx
  ·obtain rfl := List.mem_singleton.1 hx
   exact ⟨h1.1, by omega, hs, hd, ht, hp⟩
  ·obtain ⟨q1, q2, q3⟩ := h.edges x hx
   exact ⟨q1, by omega, q3⟩
theorem XbL {ls : List (List UInt8)} {ps : List Prp} {k : List UInt8} {v : Val} (h : PV ls ps) (hk : Xt k = true) (hv : YA v = true ∨ XV v = true) (hl : (XP ps k v).length ≤ 16) : PV ls (XP ps k v) := by
 have hm : ∀ p ∈ XP ps k v, p ∈ ps ∨ (p = ⟨k, v⟩ ∧ YA v = false) := by
  intro p hp
  rcases X4g hp with hp | hp
  ·by_cases q : YA v = true
   ·rw [if_pos q] at hp; simp at hp
   ·rw [if_neg q] at hp
    exact .inr ⟨List.mem_singleton.1 hp, by simpa using q⟩
  ·exact .inl hp
 refine ⟨h.ll, hl, h.ln, fun p hp => ?_, h.lr, X40 Vo h.pr ?_, fun p hp => ?_⟩
 ·rcases hm p hp with hp | ⟨rfl, _⟩
  ·exact h.pn p hp
  ·exact hk
 ·by_cases q : YA v = true
  ·rw [if_pos q]; exact .inl rfl
  ·rw [if_neg q]; exact .inr ⟨_, rfl, rfl⟩
 ·rcases hm p hp with hp | ⟨rfl, q⟩
  ·exact h.pv p hp
  ·rcases hv with hv | hv
   ·rw [hv] at q; cases q
   ·exact hv
theorem X46 {c : Chg} (h : YZ c = 0) : (1 ≤ c.op ∧ c.op ≤ 8) ∧ (1 ≤ c.id ∧ c.id ≤ 1000000) ∧ (VO c.op = true → Xt c.name = true) ∧ (VL c.op = true → YA c.v = true ∨ XV c.v = true) := by
 unfold YZ at h
 by_cases c1 : decide (1 ≤ c.op ∧ c.op ≤ 8) = false ∨ idV c.id = false
 ·rw [if_pos c1] at h; simp at h
 rw [if_neg c1] at h
 by_cases c2 : (c.op = 6 ∧ (idV c.src = false ∨ idV c.dst = false)) ∨ (c.op ≠ 6 ∧ (c.src ≠ 0 ∨ c.dst ≠ 0))
 ·rw [if_pos c2] at h; simp at h
 rw [if_neg c2] at h
 by_cases c3 : (VO c.op = false ∧ c.name ≠ []) ∨ (VL c.op = false ∧ YA c.v = false)
 ·rw [if_pos c3] at h; simp at h
 rw [if_neg c3] at h
 by_cases c4 : VO c.op = true ∧ Xt c.name = false
 ·rw [if_pos c4] at h; simp at h
 rw [if_neg c4] at h
 by_cases c5 : VL c.op = true ∧ YA c.v = false ∧ XV c.v = false
 ·rw [if_pos c5] at h; simp at h
 simp only [not_or, Bool.not_eq_false, decide_eq_true_eq, idV] at c1
 refine ⟨c1.1, c1.2, fun q => ?_, fun q => ?_⟩
 ·by_cases r : Xt c.name = true
  ·exact r
  ·exact absurd ⟨q, by simpa using r⟩ c4
 ·by_cases r : YA c.v = true
  ·exact .inl r
  ·by_cases r2 : XV c.v = true
   ·exact .inr r2
   ·exact absurd ⟨q, by simpa using r, by simpa using r2⟩ c5
theorem X6o {g : Gra} {c : Chg} (h : GV g) (hs : (XW g c).2 = 0) : GV (XW g c).1 := by
 unfold XW at hs ⊢
 by_cases hc : YZ c ≠ 0
 ·rw [if_pos hc] at hs; exact absurd hs hc
 rw [if_neg hc] at hs ⊢
 obtain ⟨o1, o2, o3, o4⟩ := X46 (by simpa using hc)
 unfold Uk at hs ⊢
 by_cases p1 : c.op = 1
 ·rw [if_pos p1] at hs ⊢
  by_cases q1 : Xl Nod.id g.nodes c.id = true
  ·rw [if_pos q1] at hs; simp at hs
  rw [if_neg q1] at hs ⊢
  by_cases q2 : 2000 ≤ g.nodes.length
  ·rw [if_pos q2] at hs; simp at hs
  rw [if_neg q2]
  refine X4Y h o2 ⟨by simp, by simp, by simp, by simp, List.Pairwise.nil, List.Pairwise.nil, by simp⟩ ?_
  have := X1j (lt := ltI) (key := Nod.id) (l := g.nodes) (k := c.id) (ns := [⟨c.id, [], []⟩])
  simp only [List.length_singleton] at this
  exact Nat.le_trans this (by omega)
 rw [if_neg p1] at hs ⊢
 by_cases p6 : c.op = 6
 ·rw [if_pos p6] at hs ⊢
  by_cases q1 : Xl Edg.id g.edges c.id = true
  ·rw [if_pos q1] at hs; simp at hs
  rw [if_neg q1] at hs ⊢
  by_cases q2 : Xl Nod.id g.nodes c.src = false ∨ Xl Nod.id g.nodes c.dst = false
  ·rw [if_pos q2] at hs; simp at hs
  rw [if_neg q2] at hs ⊢
  by_cases q3 : 4000 ≤ g.edges.length
  ·rw [if_pos q3] at hs; simp at hs
  rw [if_neg q3]
  simp only [not_or, Bool.not_eq_false] at q2
  refine XaI h o2 q2.1 q2.2 (o3 (by rw [p6]; rfl)) ⟨by simp, by simp, by simp, by simp, List.Pairwise.nil, List.Pairwise.nil, by simp⟩ ?_
  have := X1j (lt := ltI) (key := Edg.id) (l := g.edges) (k := c.id) (ns := [⟨c.id, c.src, c.dst, c.name, []⟩])
  simp only [List.length_singleton] at this
  exact Nat.le_trans this (by omega)
 rw [if_neg p6] at hs ⊢
 by_cases p7 : c.op = 7 ∨ c.op = 8
 ·rw [if_pos p7] at hs ⊢
  cases he : Uw g.edges c.id with
  | none => rw [he] at hs; simp at hs
  | some e =>
   rw [he] at hs
   simp only at hs ⊢
   obtain ⟨em, ei⟩ := X4n he
   obtain ⟨e1, e2, e3, e4, e5, e6⟩ := h.edges e em
   unfold X0o at hs ⊢
   by_cases p8 : c.op = 8
   ·rw [if_pos p8] at hs ⊢
    by_cases q1 : 16 < (XP e.props c.name c.v).length
    ·rw [if_pos q1] at hs; simp at hs
    rw [if_neg q1]
    have hne := h.ne
    refine XaI h ⟨e1, by show e.id ≤ _; omega⟩ e3 e4 e5 (XbL e6 (o3 (by rw [p8]; rfl)) (o4 (by rw [p8]; rfl)) (by omega)) ?_
    have hh : Xl Edg.id g.edges e.id = true := by unfold Xl; rw [List.any_eq_true]; exact ⟨e, em, by simp⟩
    show (Yp ltI Edg.id g.edges e.id _).length ≤ 4000
    rw [X5P YM h.es hh]; exact h.el
   ·rw [if_neg p8]
    refine ⟨h.nl, Nat.le_trans (List.length_filter_le _ _) h.el, h.nn, h.ne, h.nodes, h.ns, fun x hx => h.edges x (X6r hx).1, X5S h.es⟩
 rw [if_neg p7] at hs ⊢
 cases hn : YS g.nodes c.id with
 | none => rw [hn] at hs; simp at hs
 | some n =>
  rw [hn] at hs
  simp only at hs ⊢
  obtain ⟨nm, ni⟩ := X0X hn
  obtain ⟨n1, n2, n3⟩ := h.nodes n nm
  have hnn := h.nn
  have hh : Xl Nod.id g.nodes n.id = true := by unfold Xl; rw [List.any_eq_true]; exact ⟨n, nm, by simp⟩
  have hlen : ∀ m : Nod, (Yp ltI Nod.id g.nodes n.id [m]).length ≤ 2000 := fun m => by rw [X5P YM h.ns hh]; exact h.nl
  unfold X0G at hs ⊢
  by_cases p2 : c.op = 2
  ·rw [if_pos p2] at hs ⊢
   by_cases q1 : UQ g.edges c.id = true
   ·rw [if_pos q1] at hs; simp at hs
   rw [if_neg q1]
   refine ⟨Nat.le_trans (List.length_filter_le _ _) h.nl, h.el, h.nn, h.ne, fun x hx => h.nodes x (X6r hx).1, X5S h.ns, fun e he => ?_, h.es⟩
   obtain ⟨e1, e2, e3, e4, e5, e6⟩ := h.edges e he
   have q1' : UQ g.edges c.id = false := by simpa using q1
   unfold UQ at q1'
   have hu := (List.any_eq_false.1 q1') e he
   have hu : ¬ (e.src = c.id ∨ e.dst = c.id) := by simpa using hu
   have keep : ∀ k, k ≠ c.id → Y3 g.nodes k = true → Y3 (YH Nod.id g.nodes c.id) k = true := by
    intro k hk hh
    unfold Y3 at hh ⊢
    rw [List.any_eq_true] at hh ⊢
    obtain ⟨x, hx, e⟩ := hh
    have e : x.id = k := by simpa using e
    exact ⟨x, List.mem_filter.2 ⟨hx, by simp only [Bool.not_eq_true', decide_eq_false_iff_not]; omega⟩, by simpa using e⟩
   exact ⟨e1, e2, keep _ (fun q => hu (.inl q)) e3, keep _ (fun q => hu (.inr q)) e4, e5, e6⟩
  rw [if_neg p2] at hs ⊢
  by_cases p3 : c.op = 3
  ·rw [if_pos p3] at hs ⊢
   by_cases q1 : Xl XB n.labels c.name = true
   ·rw [if_pos q1] at hs; simp at hs
   rw [if_neg q1] at hs ⊢
   by_cases q2 : 8 ≤ n.labels.length
   ·rw [if_pos q2] at hs; simp at hs
   rw [if_neg q2]
   refine X4Y h ⟨n1, by show n.id ≤ _; omega⟩ ⟨?_, n3.pl, fun s hs => ?_, n3.pn, X40 Vo n3.lr (.inr ⟨_, rfl, rfl⟩), n3.pr, n3.pv⟩ (hlen _)
   ·have := X1j (lt := ltS) (key := XB) (l := n.labels) (k := c.name) (ns := [c.name])
    simp only [List.length_singleton] at this
    exact Nat.le_trans this (by omega)
   ·rcases X4g hs with hs | hs
    ·rw [List.mem_singleton.1 hs]; exact o3 (by rw [p3]; rfl)
    ·exact n3.ln s hs
  rw [if_neg p3] at hs ⊢
  by_cases p4 : c.op = 4
  ·rw [if_pos p4] at hs ⊢
   by_cases q1 : Xl XB n.labels c.name = false
   ·rw [if_pos q1] at hs; simp at hs
   rw [if_neg q1]
   exact X4Y h ⟨n1, by show n.id ≤ _; omega⟩ ⟨Nat.le_trans (List.length_filter_le _ _) n3.ll, n3.pl, fun s hs => n3.ln s (X6r hs).1, n3.pn, X5S n3.lr, n3.pr, n3.pv⟩ (hlen _)
  rw [if_neg p4] at hs ⊢
  by_cases q1 : 16 < (XP n.props c.name c.v).length
  ·rw [if_pos q1] at hs; simp at hs
  rw [if_neg q1]
  have p5 : c.op = 5 := by omega
  exact X4Y h ⟨n1, by show n.id ≤ _; omega⟩ (XbL n3 (o3 (by rw [p5]; rfl)) (o4 (by rw [p5]; rfl)) (by omega)) (hlen _)
theorem X7Z : ∀ (l : List Chg) (g : Gra) (k : Nat), GV g → (V5 g k l).2.2 = 0 → GV (V5 g k l).1
 | [], g, k, h, _ => h
 | c :: r, g, k, h, hs => by
  rw [V5] at hs ⊢
  by_cases q : (XW g c).2 ≠ 0
  ·rw [if_pos q] at hs; exact absurd hs q
  ·rw [if_neg q] at hs ⊢
   exact X7Z r _ _ (X6o h (by simpa using q)) hs
theorem Xdn {g : Gra} {l : List Chg} (h : (Y7 g l).2.2 = 0) : GV (Y7 g l).1 := by
 unfold Y7 at h ⊢
 by_cases q : Yh g ≠ 0
 ·rw [if_pos q] at h; exact absurd h q
 ·rw [if_neg q] at h ⊢
  exact X7Z l g 0 (X5x.1 (by simpa using q)) h
end Go.Fw
