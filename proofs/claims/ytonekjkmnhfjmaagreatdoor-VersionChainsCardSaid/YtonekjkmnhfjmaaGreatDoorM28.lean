/- Changes applied to graphs, in plain Lean: the step. -/
import Derived.Test.YtonekjkmnhfjmaaGreatDoorM27
set_option maxHeartbeats 16000000
namespace Go.Fw
open Go
set_option linter.unusedVariables false
set_option linter.unusedSimpArgs false
def XV (l : List Prp) (k : List UInt8) (v : Val) : List Prp := Yh ltS Prp.key l k (if Yo v = true then [] else [⟨k, v⟩])
def UG (es : List Edg) (n : Int) : Bool := es.any fun e => decide (e.src = n ∨ e.dst = n)
def YJ (l : List Nod) (n : Int) : Option Nod := l.find? fun x => decide (x.id = n)
def Ua (l : List Edg) (n : Int) : Option Edg := l.find? fun x => decide (x.id = n)
def U1 (g : Gra) (n : Nod) : Gra := { g with nodes := Yh ltI Nod.id g.nodes n.id [n], nn := max g.nn (n.id + 1) }
def V5 (g : Gra) (e : Edg) : Gra := { g with edges := Yh ltI Edg.id g.edges e.id [e], ne := max g.ne (e.id + 1) }
def X0k (g : Gra) (c : Chg) (n : Nod) : Gra × Int :=
 if c.op = 2 then (if UG g.edges c.id = true then (Ya, 12) else ({ g with nodes := Yx Nod.id g.nodes c.id }, 0))
 else if c.op = 3 then (if Xn XC n.labels c.name = true then (Ya, 7) else if 8 ≤ n.labels.length then (Ya, 20) else (U1 g ⟨n.id, Yh ltS XC n.labels c.name [c.name], n.props⟩, 0))
 else if c.op = 4 then (if Xn XC n.labels c.name = false then (Ya, 23) else (U1 g ⟨n.id, Yx XC n.labels c.name, n.props⟩, 0))
 else if 16 < (XV n.props c.name c.v).length then (Ya, 20) else (U1 g ⟨n.id, n.labels, XV n.props c.name c.v⟩, 0)
def X0j (g : Gra) (c : Chg) (e : Edg) : Gra × Int :=
 if c.op = 8 then (if 16 < (XV e.props c.name c.v).length then (Ya, 20) else (V5 g ⟨e.id, e.src, e.dst, e.typ, XV e.props c.name c.v⟩, 0))
 else ({ g with edges := Yx Edg.id g.edges c.id }, 0)
def U3 (g : Gra) (c : Chg) : Gra × Int :=
 if c.op = 1 then (if Xn Nod.id g.nodes c.id = true then (Ya, 7) else if 2000 ≤ g.nodes.length then (Ya, 20) else (U1 g ⟨c.id, [], []⟩, 0))
 else if c.op = 6 then (if Xn Edg.id g.edges c.id = true then (Ya, 7) else if Xn Nod.id g.nodes c.src = false ∨ Xn Nod.id g.nodes c.dst = false then (Ya, 10) else if 4000 ≤ g.edges.length then (Ya, 20) else (V5 g ⟨c.id, c.src, c.dst, c.name, []⟩, 0))
 else if c.op = 7 ∨ c.op = 8 then (match Ua g.edges c.id with | none => (Ya, 11) | some e => X0j g c e)
 else (match YJ g.nodes c.id with | none => (Ya, 10) | some n => X0k g c n)
def XS (g : Gra) (c : Chg) : Gra × Int := if YF c ≠ 0 then (Ya, YF c) else U3 g c
def Yf : Gra → Nat → List Chg → Gra × Nat × Int
 | g, k, [] => (g, k, 0)
 | g, k, c :: r => if (XS g c).2 ≠ 0 then (Ya, k, (XS g c).2) else Yf (XS g c).1 (k + 1) r
def Xo (g : Gra) (l : List Chg) : Gra × Nat × Int := if Yj g ≠ 0 then (Ya, 0, Yj g) else Yf g 0 l
theorem X9Y {α κ : Type} [DecidableEq κ] {lt : κ → κ → Bool} {key : α → κ} (ho : KOrd lt) {l : List α} {k : κ} (hs : Y0 lt key l) : l.find? (fun x => decide (key x = k)) = (l[Xf lt key l k]?).bind fun x => if key x = k then some x else none := by
 have hh := UC (k := k) ho hs
 cases hf : l.find? (fun x => decide (key x = k)) with
 | none =>
  have h0 : Xn key l k = false := by
   unfold Xn
   rw [List.any_eq_false]
   exact List.find?_eq_none.1 hf
  rw [h0] at hh
  have hh := (decide_eq_false_iff_not.1 hh.symm)
  cases hx : l[Xf lt key l k]? with
  | none => rfl
  | some x =>
   simp only [Option.bind_some]
   rw [if_neg (fun e => hh ⟨x, hx, e⟩)]
 | some x =>
  have hx := List.mem_of_find?_eq_some hf
  have he : key x = k := by have := List.find?_some hf; simpa using this
  have h0 : Xn key l k = true := by
   unfold Xn
   rw [List.any_eq_true]
   exact ⟨x, hx, by simpa using he⟩
  rw [h0] at hh
  obtain ⟨y, hy, e⟩ := decide_eq_true_iff.1 hh.symm
  rw [hy, Option.bind_some, if_pos e]
  obtain ⟨i, hi⟩ := List.getElem?_of_mem hx
  have hli : i < l.length := (List.getElem?_eq_some_iff.1 hi).1
  have hlj : Xf lt key l k < l.length := (List.getElem?_eq_some_iff.1 hy).1
  have hxi : l[i] = x := by rw [List.getElem?_eq_getElem hli] at hi; simpa using hi
  have hyj : l[Xf lt key l k] = y := by rw [List.getElem?_eq_getElem hlj] at hy; simpa using hy
  rcases Nat.lt_trichotomy i (Xf lt key l k) with q | q | q
  ·have := (List.pairwise_iff_getElem.1 hs) i (Xf lt key l k) hli hlj q
   rw [hxi, hyj, he, e, ho.irr] at this; cases this
  ·subst q; rw [← hxi, hyj]
  ·have := (List.pairwise_iff_getElem.1 hs) (Xf lt key l k) i hlj hli q
   rw [hxi, hyj, he, e, ho.irr] at this; cases this
theorem X1B {g : Gra} (h : GV g) (n : Int) : YJ g.nodes n = (g.nodes[Xf ltI Nod.id g.nodes n]?).bind fun x => if x.id = n then some x else none := X9Y YB h.ns
theorem X8x {g : Gra} (h : GV g) (n : Int) : Ua g.edges n = (g.edges[Xf ltI Edg.id g.edges n]?).bind fun x => if x.id = n then some x else none := X9Y YB h.es
theorem X0R {l : List Nod} {n : Int} {x : Nod} (h : YJ l n = some x) : x ∈ l ∧ x.id = n := ⟨List.mem_of_find?_eq_some h, by have := List.find?_some h; simpa using this⟩
theorem X54 {l : List Edg} {n : Int} {x : Edg} (h : Ua l n = some x) : x ∈ l ∧ x.id = n := ⟨List.mem_of_find?_eq_some h, by have := List.find?_some h; simpa using this⟩
theorem X0W {α κ : Type} [DecidableEq κ] {lt : κ → κ → Bool} {key : α → κ} {l : List α} {k : κ} {ns : List α} : (Yh lt key l k ns).length ≤ l.length + ns.length := by
 unfold Yh
 rw [List.length_append, List.length_append]
 have h1 := List.length_filter_le (fun x => !decide (key x = k)) (l.dropWhile fun x => lt (key x) k)
 have h2 : (l.takeWhile fun x => lt (key x) k).length + (l.dropWhile fun x => lt (key x) k).length = l.length := by rw [← List.length_append, List.takeWhile_append_dropWhile]
 omega
theorem X5f {α κ : Type} [DecidableEq κ] {lt : κ → κ → Bool} {key : α → κ} {l : List α} {k : κ} {n : α} (ho : KOrd lt) (hs : Y0 lt key l) (hh : Xn key l k = true) : (Yh lt key l k [n]).length = l.length := by
 rw [UC ho hs] at hh
 obtain ⟨x, hx, e⟩ := decide_eq_true_iff.1 hh
 have hlt : Xf lt key l k < l.length := (List.getElem?_eq_some_iff.1 hx).1
 rw [X2L ho hs hx e, List.length_append, List.length_append, List.length_take, List.length_drop, List.length_singleton]
 omega
theorem X95 {l : List Nod} {n : Nod} {k : Int} (h : Xn Nod.id l k = true) : Xn Nod.id (Yh ltI Nod.id l n.id [n]) k = true := by
 unfold Xn at h ⊢
 rw [List.any_eq_true] at h ⊢
 obtain ⟨x, hx, e⟩ := h
 have e : x.id = k := by simpa using e
 by_cases q : n.id = k
 ·exact ⟨n, by unfold Yh; simp, by simpa using q⟩
 ·refine ⟨x, ?_, by simpa using e⟩
  unfold Yh
  rw [← List.takeWhile_append_dropWhile (p := fun x => ltI (Nod.id x) n.id) (l := l)] at hx
  rcases List.mem_append.1 hx with hx | hx
  ·exact List.mem_append_left _ (List.mem_append_left _ hx)
  ·refine List.mem_append_right _ (List.mem_filter.2 ⟨hx, ?_⟩)
   simp only [Bool.not_eq_true', decide_eq_false_iff_not]
   omega
theorem X3U {g : Gra} {n : Nod} (h : GV g) (h1 : 1 ≤ n.id ∧ n.id ≤ 1000000) (hp : PV n.labels n.props) (hl : (Yh ltI Nod.id g.nodes n.id [n]).length ≤ 2000) : GV (U1 g n) := by
 have h3 := h.nn
 refine ⟨hl, h.el, ⟨?_, ?_⟩, h.ne, fun x hx => ?_, X52 YB h.ns (.inr ⟨n, rfl, rfl⟩), fun e he => ?_, h.es⟩
 ·show 1 ≤ max g.nn (n.id + 1); omega
 ·show max g.nn (n.id + 1) ≤ 1000001; omega
 ·show 1 ≤ x.id ∧ x.id < max g.nn (n.id + 1) ∧ _
  rcases X4I hx with hx | hx
  ·obtain rfl := List.mem_singleton.1 hx
   exact ⟨h1.1, by omega, hp⟩
  ·obtain ⟨q1, q2, q3⟩ := h.nodes x hx
   exact ⟨q1, by omega, q3⟩
 ·obtain ⟨q1, q2, q3, q4, q5⟩ := h.edges e he
  exact ⟨q1, q2, X95 q3, X95 q4, q5⟩
theorem X8s {g : Gra} {e : Edg} (h : GV g) (h1 : 1 ≤ e.id ∧ e.id ≤ 1000000) (hs : Xn Nod.id g.nodes e.src = true) (hd : Xn Nod.id g.nodes e.dst = true) (ht : XP e.typ = true) (hp : PV [] e.props) (hl : (Yh ltI Edg.id g.edges e.id [e]).length ≤ 4000) : GV (V5 g e) := by
 have h3 := h.ne
 refine ⟨h.nl, hl, h.nn, ⟨?_, ?_⟩, h.nodes, h.ns, fun x hx => ?_, X52 YB h.es (.inr ⟨e, rfl, rfl⟩)⟩
 ·show 1 ≤ max g.ne (e.id + 1); omega
 ·show max g.ne (e.id + 1) ≤ 1000001; omega
 ·show 1 ≤ x.id ∧ x.id < max g.ne (e.id + 1) ∧ _
  rcases X4I hx with hx | hx
  ·obtain rfl := List.mem_singleton.1 hx
   exact ⟨h1.1, by omega, hs, hd, ht, hp⟩
  ·obtain ⟨q1, q2, q3⟩ := h.edges x hx
   exact ⟨q1, by omega, q3⟩
theorem XbC {ls : List (List UInt8)} {ps : List Prp} {k : List UInt8} {v : Val} (h : PV ls ps) (hk : XP k = true) (hv : Yo v = true ∨ Yd v = true) (hl : (XV ps k v).length ≤ 16) : PV ls (XV ps k v) := by
 have hm : ∀ p ∈ XV ps k v, p ∈ ps ∨ (p = ⟨k, v⟩ ∧ Yo v = false) := by
  intro p hp
  rcases X4I hp with hp | hp
  ·by_cases q : Yo v = true
   ·rw [if_pos q] at hp; simp at hp
   ·rw [if_neg q] at hp
    exact .inr ⟨List.mem_singleton.1 hp, by simpa using q⟩
  ·exact .inl hp
 refine ⟨h.ll, hl, h.ln, fun p hp => ?_, h.lr, X52 V6 h.pr ?_, fun p hp => ?_⟩
 ·rcases hm p hp with hp | ⟨rfl, _⟩
  ·exact h.pn p hp
  ·exact hk
 ·by_cases q : Yo v = true
  ·rw [if_pos q]; exact .inl rfl
  ·rw [if_neg q]; exact .inr ⟨_, rfl, rfl⟩
 ·rcases hm p hp with hp | ⟨rfl, q⟩
  ·exact h.pv p hp
  ·rcases hv with hv | hv
   ·rw [hv] at q; cases q
   ·exact hv
theorem X3z {c : Chg} (h : YF c = 0) : (1 ≤ c.op ∧ c.op ≤ 8) ∧ (1 ≤ c.id ∧ c.id ≤ 1000000) ∧ (Vl c.op = true → XP c.name = true) ∧ (Vp c.op = true → Yo c.v = true ∨ Yd c.v = true) := by
 unfold YF at h
 by_cases c1 : decide (1 ≤ c.op ∧ c.op ≤ 8) = false ∨ idV c.id = false
 ·rw [if_pos c1] at h; simp at h
 rw [if_neg c1] at h
 by_cases c2 : (c.op = 6 ∧ (idV c.src = false ∨ idV c.dst = false)) ∨ (c.op ≠ 6 ∧ (c.src ≠ 0 ∨ c.dst ≠ 0))
 ·rw [if_pos c2] at h; simp at h
 rw [if_neg c2] at h
 by_cases c3 : (Vl c.op = false ∧ c.name ≠ []) ∨ (Vp c.op = false ∧ Yo c.v = false)
 ·rw [if_pos c3] at h; simp at h
 rw [if_neg c3] at h
 by_cases c4 : Vl c.op = true ∧ XP c.name = false
 ·rw [if_pos c4] at h; simp at h
 rw [if_neg c4] at h
 by_cases c5 : Vp c.op = true ∧ Yo c.v = false ∧ Yd c.v = false
 ·rw [if_pos c5] at h; simp at h
 simp only [not_or, Bool.not_eq_false, decide_eq_true_eq, idV] at c1
 refine ⟨c1.1, c1.2, fun q => ?_, fun q => ?_⟩
 ·by_cases r : XP c.name = true
  ·exact r
  ·exact absurd ⟨q, by simpa using r⟩ c4
 ·by_cases r : Yo c.v = true
  ·exact .inl r
  ·by_cases r2 : Yd c.v = true
   ·exact .inr r2
   ·exact absurd ⟨q, by simpa using r, by simpa using r2⟩ c5
theorem X6z {g : Gra} {c : Chg} (h : GV g) (hs : (XS g c).2 = 0) : GV (XS g c).1 := by
 unfold XS at hs ⊢
 by_cases hc : YF c ≠ 0
 ·rw [if_pos hc] at hs; exact absurd hs hc
 rw [if_neg hc] at hs ⊢
 obtain ⟨o1, o2, o3, o4⟩ := X3z (by simpa using hc)
 unfold U3 at hs ⊢
 by_cases p1 : c.op = 1
 ·rw [if_pos p1] at hs ⊢
  by_cases q1 : Xn Nod.id g.nodes c.id = true
  ·rw [if_pos q1] at hs; simp at hs
  rw [if_neg q1] at hs ⊢
  by_cases q2 : 2000 ≤ g.nodes.length
  ·rw [if_pos q2] at hs; simp at hs
  rw [if_neg q2]
  refine X3U h o2 ⟨by simp, by simp, by simp, by simp, List.Pairwise.nil, List.Pairwise.nil, by simp⟩ ?_
  have := X0W (lt := ltI) (key := Nod.id) (l := g.nodes) (k := c.id) (ns := [⟨c.id, [], []⟩])
  simp only [List.length_singleton] at this
  exact Nat.le_trans this (by omega)
 rw [if_neg p1] at hs ⊢
 by_cases p6 : c.op = 6
 ·rw [if_pos p6] at hs ⊢
  by_cases q1 : Xn Edg.id g.edges c.id = true
  ·rw [if_pos q1] at hs; simp at hs
  rw [if_neg q1] at hs ⊢
  by_cases q2 : Xn Nod.id g.nodes c.src = false ∨ Xn Nod.id g.nodes c.dst = false
  ·rw [if_pos q2] at hs; simp at hs
  rw [if_neg q2] at hs ⊢
  by_cases q3 : 4000 ≤ g.edges.length
  ·rw [if_pos q3] at hs; simp at hs
  rw [if_neg q3]
  simp only [not_or, Bool.not_eq_false] at q2
  refine X8s h o2 q2.1 q2.2 (o3 (by rw [p6]; rfl)) ⟨by simp, by simp, by simp, by simp, List.Pairwise.nil, List.Pairwise.nil, by simp⟩ ?_
  have := X0W (lt := ltI) (key := Edg.id) (l := g.edges) (k := c.id) (ns := [⟨c.id, c.src, c.dst, c.name, []⟩])
  simp only [List.length_singleton] at this
  exact Nat.le_trans this (by omega)
 rw [if_neg p6] at hs ⊢
 by_cases p7 : c.op = 7 ∨ c.op = 8
 ·rw [if_pos p7] at hs ⊢
  cases he : Ua g.edges c.id with
  | none => rw [he] at hs; simp at hs
  | some e =>
   rw [he] at hs
   simp only at hs ⊢
   obtain ⟨em, ei⟩ := X54 he
   obtain ⟨e1, e2, e3, e4, e5, e6⟩ := h.edges e em
   unfold X0j at hs ⊢
   by_cases p8 : c.op = 8
   ·rw [if_pos p8] at hs ⊢
    by_cases q1 : 16 < (XV e.props c.name c.v).length
    ·rw [if_pos q1] at hs; simp at hs
    rw [if_neg q1]
    have hne := h.ne
    refine X8s h ⟨e1, by show e.id ≤ _; omega⟩ e3 e4 e5 (XbC e6 (o3 (by rw [p8]; rfl)) (o4 (by rw [p8]; rfl)) (by omega)) ?_
    have hh : Xn Edg.id g.edges e.id = true := by unfold Xn; rw [List.any_eq_true]; exact ⟨e, em, by simp⟩
    show (Yh ltI Edg.id g.edges e.id _).length ≤ 4000
    rw [X5f YB h.es hh]; exact h.el
   ·rw [if_neg p8]
    refine ⟨h.nl, Nat.le_trans (List.length_filter_le _ _) h.el, h.nn, h.ne, h.nodes, h.ns, fun x hx => h.edges x (X78 hx).1, X6J h.es⟩
 rw [if_neg p7] at hs ⊢
 cases hn : YJ g.nodes c.id with
 | none => rw [hn] at hs; simp at hs
 | some n =>
  rw [hn] at hs
  simp only at hs ⊢
  obtain ⟨nm, ni⟩ := X0R hn
  obtain ⟨n1, n2, n3⟩ := h.nodes n nm
  have hnn := h.nn
  have hh : Xn Nod.id g.nodes n.id = true := by unfold Xn; rw [List.any_eq_true]; exact ⟨n, nm, by simp⟩
  have hlen : ∀ m : Nod, (Yh ltI Nod.id g.nodes n.id [m]).length ≤ 2000 := fun m => by rw [X5f YB h.ns hh]; exact h.nl
  unfold X0k at hs ⊢
  by_cases p2 : c.op = 2
  ·rw [if_pos p2] at hs ⊢
   by_cases q1 : UG g.edges c.id = true
   ·rw [if_pos q1] at hs; simp at hs
   rw [if_neg q1]
   refine ⟨Nat.le_trans (List.length_filter_le _ _) h.nl, h.el, h.nn, h.ne, fun x hx => h.nodes x (X78 hx).1, X6J h.ns, fun e he => ?_, h.es⟩
   obtain ⟨e1, e2, e3, e4, e5, e6⟩ := h.edges e he
   have q1' : UG g.edges c.id = false := by simpa using q1
   unfold UG at q1'
   have hu := (List.any_eq_false.1 q1') e he
   have hu : ¬ (e.src = c.id ∨ e.dst = c.id) := by simpa using hu
   have keep : ∀ k, k ≠ c.id → Ye g.nodes k = true → Ye (Yx Nod.id g.nodes c.id) k = true := by
    intro k hk hh
    unfold Ye at hh ⊢
    rw [List.any_eq_true] at hh ⊢
    obtain ⟨x, hx, e⟩ := hh
    have e : x.id = k := by simpa using e
    exact ⟨x, List.mem_filter.2 ⟨hx, by simp only [Bool.not_eq_true', decide_eq_false_iff_not]; omega⟩, by simpa using e⟩
   exact ⟨e1, e2, keep _ (fun q => hu (.inl q)) e3, keep _ (fun q => hu (.inr q)) e4, e5, e6⟩
  rw [if_neg p2] at hs ⊢
  by_cases p3 : c.op = 3
  ·rw [if_pos p3] at hs ⊢
   by_cases q1 : Xn XC n.labels c.name = true
   ·rw [if_pos q1] at hs; simp at hs
   rw [if_neg q1] at hs ⊢
   by_cases q2 : 8 ≤ n.labels.length
   ·rw [if_pos q2] at hs; simp at hs
   rw [if_neg q2]
   refine X3U h ⟨n1, by show n.id ≤ _; omega⟩ ⟨?_, n3.pl, fun s hs => ?_, n3.pn, X52 V6 n3.lr (.inr ⟨_, rfl, rfl⟩), n3.pr, n3.pv⟩ (hlen _)
   ·have := X0W (lt := ltS) (key := XC) (l := n.labels) (k := c.name) (ns := [c.name])
    simp only [List.length_singleton] at this
    exact Nat.le_trans this (by omega)
   ·rcases X4I hs with hs | hs
    ·rw [List.mem_singleton.1 hs]; exact o3 (by rw [p3]; rfl)
    ·exact n3.ln s hs
  rw [if_neg p3] at hs ⊢
  by_cases p4 : c.op = 4
  ·rw [if_pos p4] at hs ⊢
   by_cases q1 : Xn XC n.labels c.name = false
   ·rw [if_pos q1] at hs; simp at hs
   rw [if_neg q1]
   exact X3U h ⟨n1, by show n.id ≤ _; omega⟩ ⟨Nat.le_trans (List.length_filter_le _ _) n3.ll, n3.pl, fun s hs => n3.ln s (X78 hs).1, n3.pn, X6J n3.lr, n3.pr, n3.pv⟩ (hlen _)
  rw [if_neg p4] at hs ⊢
  by_cases q1 : 16 < (XV n.props c.name c.v).length
  ·rw [if_pos q1] at hs; simp at hs
  rw [if_neg q1]
  have p5 : c.op = 5 := by omega
  exact X3U h ⟨n1, by show n.id ≤ _; omega⟩ (XbC n3 (o3 (by rw [p5]; rfl)) (o4 (by rw [p5]; rfl)) (by omega)) (hlen _)
theorem X9p : ∀ (l : List Chg) (g : Gra) (k : Nat), GV g → (Yf g k l).2.2 = 0 → GV (Yf g k l).1
 | [], g, k, h, _ => h
 | c :: r, g, k, h, hs => by
  rw [Yf] at hs ⊢
  by_cases q : (XS g c).2 ≠ 0
  ·rw [if_pos q] at hs; exact absurd hs q
  ·rw [if_neg q] at hs ⊢
   exact X9p r _ _ (X6z h (by simpa using q)) hs
theorem X2m {g : Gra} {l : List Chg} (h : (Xo g l).2.2 = 0) : GV (Xo g l).1 := by
 unfold Xo at h ⊢
 by_cases q : Yj g ≠ 0
 ·rw [if_pos q] at h; exact absurd h q
 ·rw [if_neg q] at h ⊢
  exact X9p l g 0 (X2P.1 (by simpa using q)) h
section
variable {α κ : Type} {lt : κ → κ → Bool} {key : α → κ} [DecidableEq κ]
def Vv (lt : κ → κ → Bool) (key : α → κ) (l : List α) (k : κ) (ns : List α) : Bool → List α
 | true => l.filter fun x => !decide (key x = k)
 | false => Yh lt key l k ns
theorem X5i {l : List α} {k : κ} {ns : List α} {i : Nat} {x : α} {b : Bool} (h : l[i]? = some x) (hi : lt (key x) k = true → key x ≠ k) :
  Vv lt key (l.drop i) k ns b = (if b = false ∧ lt (key x) k = false then ns else []) ++ (if key x = k then [] else [x]) ++ Vv lt key (l.drop (i + 1)) k ns (b || !lt (key x) k) := by
 obtain ⟨hlt, h⟩ := List.getElem?_eq_some_iff.1 h
 rw [List.drop_eq_getElem_cons hlt, h]
 cases b with
 | true =>
  simp only [Vv, Bool.true_or, List.filter_cons]
  by_cases q : key x = k <;> simp [q]
 | false =>
  by_cases p : lt (key x) k = true
  ·simp only [Vv, Bool.false_or, p, Bool.not_true]
   rw [if_neg (by simp), if_neg (hi p)]
   simp [Yh, p]
  ·have p : lt (key x) k = false := by simpa using p
   simp only [Vv, Bool.false_or, p, Bool.not_false]
   rw [if_pos (by simp)]
   unfold Yh
   rw [List.takeWhile_cons_of_neg (by simp [p]), List.dropWhile_cons_of_neg (by simp [p]), List.filter_cons]
   by_cases q : key x = k <;> simp [q]
theorem X6N {k : κ} {ns : List α} (b : Bool) : Vv lt key [] k ns b = if b = true then [] else ns := by
 cases b <;> simp [Vv, Yh]
theorem X6q {l : List α} {k : κ} {i : Nat} {x : α} (h : l[i]? = some x) : Yx key (l.drop i) k = (if key x = k then [] else [x]) ++ Yx key (l.drop (i + 1)) k := by
 obtain ⟨hlt, h⟩ := List.getElem?_eq_some_iff.1 h
 rw [List.drop_eq_getElem_cons hlt, h]
 unfold Yx
 rw [List.filter_cons]
 by_cases q : key x = k <;> simp [q]
theorem X67 (l : List α) (k : κ) : (Yx key l k).length ≤ l.length := List.length_filter_le _ _
omit [DecidableEq κ] in
end
structure At (b : List UInt8) (q : Nat) (w : List UInt8) : Prop where
 le : q ≤ b.length
 eq : b.drop q = w
theorem At.step {b : List UInt8} {q : Nat} {u w : List UInt8} (h : At b q (u ++ w)) : At b (q + u.length) w := by
 have h1 := congrArg List.length h.eq
 simp only [List.length_drop, List.length_append] at h1
 refine ⟨by have := h.le; omega, ?_⟩
 rw [← List.drop_drop, h.eq, List.drop_left]
theorem At.split {b : List UInt8} {q : Nat} {u w : List UInt8} (h : At b q (u ++ w)) : b = b.take q ++ u ++ w ∧ (b.take q).length = q := by
 refine ⟨?_, by have := h.le; simp; omega⟩
 rw [List.append_assoc, ← h.eq, List.take_append_drop]
theorem At.cons {b : List UInt8} {q : Nat} {c : UInt8} {w : List UInt8} (h : At b q (c :: w)) : b[q]? = some c ∧ At b (q + 1) w := by
 refine ⟨?_, At.step (u := [c]) h⟩
 have := congrArg (·[0]?) h.eq
 simpa using this
theorem At.eqv {b : List UInt8} {q q' : Nat} {w w' : List UInt8} (h : At b q w) (hq : q = q') (hw : w = w') : At b q' w' := hq ▸ hw ▸ h
structure PartR {α : Type} (f : Rd → α × Rd) : Prop where
 err : ∀ s, s.e ≠ 0 → (f s).2 = s
 keep : ∀ s, (f s).2.k = s.k ∧ (f s).2.c = s.c
theorem PartR.back {α : Type} {f : Rd → α × Rd} (h : PartR f) {s : Rd} (he : (f s).2.e = 0) : s.e = 0 := by
 by_cases q : s.e = 0
 ·exact q
 ·rw [h.err s q] at he; exact he
theorem X61 {s : List UInt8} (h : XP s = true) : s.length ≤ 20 := by
 unfold XP at h
 simp only [Bool.and_eq_true, decide_eq_true_eq] at h
 exact h.1.1.2
theorem Xcc {v : Val} (h : Yd v = true) : X8 8 v = true ∧ (v.kind = 1 ∨ v.kind = 2 ∨ v.kind = 4) := by
 unfold Yd X4e at h
 simp only [Bool.and_eq_true, decide_eq_true_eq] at h
 exact ⟨h.2, h.1⟩
def VB (ls : List (List UInt8)) (s : List UInt8) : Bool := ls.any fun x => decide (s = x)
def YN (l : List Nod) (id : Int) : Option Nod := l.find? fun n => decide (n.id = id)
abbrev UA : Nod := ⟨0, [], []⟩
def X3W (n : Nod) : Prop := n.labels.length ≤ 1000 ∧ n.props.length ≤ 1000 ∧ ∀ p ∈ n.props, Yd p.v = true
theorem X9F {l : List Nod} {i : Nat} {n : Nod} {id : Int} (h : l[i]? = some n) : YN (l.drop i) id = if n.id = id then some n else YN (l.drop (i + 1)) id := by
 obtain ⟨hi, h⟩ := List.getElem?_eq_some_iff.1 h
 unfold YN
 rw [List.drop_eq_getElem_cons hi, h, List.find?_cons]
 by_cases q : n.id = id <;> simp [q]
theorem X6a {k n d : Int} {s : List UInt8} {l : List Val} (h : Yd (.mk k n d s l) = true) : X8 8 (.mk k n d s l) = true ∧ (k = 1 ∨ k = 2 ∨ k = 4) ∧ d = 0 ∧ l = [] ∧ (k ≠ 4 → s = []) ∧ (k = 4 → n = 0) ∧ s.length ≤ 100 ∧ (k = 2 → -1000000000000000 ≤ n ∧ n ≤ 1000000000000000) := by
 obtain ⟨h1, h2⟩ := Xcc h
 have h2 : k = 1 ∨ k = 2 ∨ k = 4 := h2
 refine ⟨h1, h2, ?_⟩
 rw [X8] at h1
 rcases h2 with rfl | rfl | rfl
 ·simp at h1
  exact ⟨h1.1.1.1, h1.1.2, fun _ => h1.1.1.2, by simp, by rw [h1.1.1.2]; simp, by simp⟩
 ·simp at h1
  exact ⟨h1.1.1.1, h1.1.2, fun _ => h1.1.1.2, by simp, by rw [h1.1.1.2]; simp, fun _ => h1.2⟩
 ·simp at h1
  exact ⟨h1.1.1, h1.1.2, by simp, fun _ => h1.2.1.1, h1.2.1.2, by simp⟩
open Go Go.Proofs
set_option maxRecDepth 100000
theorem XcH {l : List (List UInt8)} {s : List UInt8} {i : Nat} {x : List UInt8} (h : l[i]? = some x) : VB (l.drop i) s = (decide (s = x) || VB (l.drop (i + 1)) s) := by
 obtain ⟨hi, rfl⟩ := List.getElem?_eq_some_iff.1 h
 unfold VB
 rw [List.drop_eq_getElem_cons hi, List.any_cons]
theorem XdB (l : List (List UInt8)) (s : List UInt8) (hl : l.length ≤ 9223372036854775807) : Con Tryz.prog 238 [] [.d (.sl 1 (l.map Xb)), Uo s] [] (ab (VB l s)) := by
 refine Xc (xs := [ab (VB l s)]) Tryz.func238 rfl Tryz.ntmps238 rfl rfl rfl (fun E => ?_)
 generalize hG : VB l s = G
 refine Qac ?_
 refine Xz (fun i : Nat => i ≤ l.length ∧ VB (l.drop i) s = G) (fun i => ⟨18, [(0, .d (.sl 1 (l.map Xb))), (1, Uo s), (5, ai i)], []⟩) (fun i => l.length - i) 0 ⟨Nat.zero_le _, by simpa using hG⟩
  (X7 rfl JM trivial) ?_
 rintro i ⟨hi, hg⟩
 by_cases hil : i < l.length
 case neg =>
  have hn : ¬ (i : Int) < (l.map Xb).length := by rw [List.length_map]; omega
  rw [List.drop_of_length_le (by omega)] at hg
  have hg : false = G := hg
  subst hg
  exact Qmc
 have hn : (i : Int) < (l.map Xb).length := by rw [List.length_map]; omega
 obtain ⟨x, hx⟩ := Xu (l := l) hil
 have hxc : (l.map Xb)[i]? = some (Xb x) := XD hx
 rw [XcH hx] at hg
 by_cases hq : s = x
 ·rw [decide_eq_true hq, Bool.true_or] at hg
  subst hg
  have hq' : x = s := hq.symm
  refine Qnc ?_; refine QXc ?_; refine Z1 ?_; refine Zr ?_; exact QA
 rw [decide_eq_false hq, Bool.false_or] at hg
 have hq' : ¬ x = s := fun e => hq e.symm
 refine Qnc ?_; refine QXc ?_; refine Z1 ?_; refine Zr ?_; refine QEa ?_; exact QTd
theorem Xe1 (n : Nod) (s : List UInt8) (hl : n.labels.length ≤ 9223372036854775807) : Con Tryz.prog 175 [] [.agg [ai n.id, .d (.sl 1 (n.labels.map Xb)), .d (.sl 6 (n.props.map X6))], Uo s] [] (ab (VB n.labels s)) := by
 refine Xc (xs := [ab (VB n.labels s)]) Tryz.func175 rfl Tryz.ntmps175 rfl rfl rfl (fun E => ?_)
 have hc := XdB n.labels s hl
 generalize VB n.labels s = q at *
 exact QGe
theorem X51 (g : Gra) (id : Int) (hl : g.nodes.length ≤ 9223372036854775807) (hh : ∀ n ∈ g.nodes, X3W n) : Con Tryz.prog 36 [] [Xl g, ai id] [] (.tup [Y9 ((YN g.nodes id).getD UA), ab (YN g.nodes id).isSome]) := by
 refine Xc (xs := [Y9 ((YN g.nodes id).getD UA), ab (YN g.nodes id).isSome]) Tryz.func36 rfl Tryz.ntmps36 rfl rfl rfl (fun E => ?_)
 obtain ⟨ns, es, nn, ne⟩ := g
 unfold Xl
 simp only at hl hh ⊢
 generalize hG : YN ns id = G
 refine Qpd ?_; refine Qua ?_
 refine Xz (fun i : Nat => i ≤ ns.length ∧ YN (ns.drop i) id = G) (fun i => ⟨28, [(1, ai id), (2, .ptr 100 0), (4, .ptr 101 0), (6, ai i)], [(100, .box [.d (.sl 3 (ns.map X9)), .d (.sl 5 (es.map Xe)), ai nn, ai ne]), (101, .box [ai 0, ani, ani])]⟩) (fun i => ns.length - i) 0 ⟨Nat.zero_le _, by simpa using hG⟩
  (X7 rfl JM ⟨rfl, rfl, trivial⟩) ?_
 rintro i ⟨hi, hg⟩
 by_cases hil : i < ns.length
 case neg =>
  have hn : ¬ (i : Int) < (ns.map X9).length := by rw [List.length_map]; omega
  rw [List.drop_of_length_le (by omega)] at hg
  have hg : none = G := hg
  subst hg
  simp only [Option.getD_none, Option.isSome_none, UA, Y9, List.map_nil]
  refine Qgf ?_; refine Qga ?_
  (show AWP Tryz.prog E _ _ _; refine X1 ?_; exact (show Xd _ _ _ _ _ from ⟨_, Y5 101 (cs' := [ai 0, .d (.sl 1 []), .d (.sl 6 [])]) rfl JM rfl, ⟨⟨101, 0, _, rfl, rfl, .inr ⟨3, _, rfl, rfl, rfl, rfl⟩⟩, rfl, trivial⟩, X3 _⟩))
 have hn : (i : Int) < (ns.map X9).length := by rw [List.length_map]; omega
 obtain ⟨x, hx⟩ := Xu (l := ns) hil
 have hxc : (ns.map X9)[i]? = some (X9 x) := XD hx
 rw [X9F hx] at hg
 obtain ⟨f1, f2, f3⟩ := hh x (List.mem_of_getElem? hx)
 obtain ⟨xid, labels, props⟩ := x
 simp only [X9] at hxc hg f1 f2 f3
 clear hx
 by_cases hq : xid = id
 ·rw [if_pos hq] at hg
  subst hg
  subst hq
  simp only [Option.getD_some, Option.isSome_some, Y9]
  clear hh f1 f2 f3
  refine Qjf ?_
  (show AWP Tryz.prog E _ _ _; refine X1 ?_; exact (show Xd _ _ _ _ _ from ⟨_, St.le_refl _, ⟨⟨101, 0, _, rfl, rfl, .inr ⟨3, _, rfl, rfl, rfl, rfl⟩⟩, rfl, trivial⟩, X3 _⟩))
 rw [if_neg hq] at hg
 exact Qkf
theorem Xgc {v : Val} (h : Yd v = true) : Y3 v := by
 obtain ⟨k, n, d, s, l⟩ := v
 obtain ⟨_, _, _, rfl, _, _, p7, _⟩ := X6a h
 rw [Y3]
 exact ⟨by omega, by simp, by simp [VN]⟩
theorem Xay {ls : List (List UInt8)} {ps : List Prp} (h : PV ls ps) : ls.length ≤ 9223372036854775807 ∧ (∀ s ∈ ls, s.length ≤ 9223372036854775807) ∧ ps.length ≤ 9223372036854775807 ∧ ∀ p ∈ ps, X0E p := by
 have h1 := h.ll
 have h2 := h.pl
 refine ⟨by omega, fun s hs => by have := X61 (h.ln s hs); omega, by omega, fun p hp => ⟨by have := X61 (h.pn p hp); omega, Xgc (h.pv p hp)⟩⟩
theorem VV {g : Gra} (h : GV g) : GraHold g := by
 have h1 := h.nl
 have h2 := h.el
 refine ⟨by omega, by omega, fun n hn => Xay (h.nodes n hn).2.2, fun e he => ?_⟩
 obtain ⟨_, _, _, _, q, r⟩ := h.edges e he
 obtain ⟨_, _, r3, r4⟩ := Xay r
 exact ⟨by have := X61 q; omega, r3, r4⟩
theorem X1v : GraHold Ya := ⟨by simp, by simp, by simp, by simp⟩
theorem XeZ {g : Gra} {l : List Chg} (hz : (Xo g l).2.2 ≠ 0 → (Xo g l).1 = Ya) : GraHold (Xo g l).1 := by
 by_cases q : (Xo g l).2.2 = 0
 ·exact VV (X2m q)
 ·rw [hz q]; exact X1v
theorem X7J : ∀ (l : List Chg) (g : Gra) (k : Nat), (Yf g k l).2.2 ≠ 0 → (Yf g k l).1 = Ya
 | [], g, k, h => by simp [Yf] at h
 | c :: r, g, k, h => by
  rw [Yf] at h ⊢
  by_cases q : (XS g c).2 ≠ 0
  ·rw [if_pos q]
  ·rw [if_neg q] at h ⊢
   exact X7J r _ _ h
theorem Xcu {g : Gra} {l : List Chg} (h : (Xo g l).2.2 ≠ 0) : (Xo g l).1 = Ya := by
 unfold Xo at h ⊢
 by_cases q : Yj g ≠ 0
 ·rw [if_pos q]
 ·rw [if_neg q] at h ⊢
  exact X7J l g 0 h
theorem X7n (g : Gra) (l : List Chg) : GraHold (Xo g l).1 := XeZ Xcu
mutual
def VI : Val → Prop
 | .mk _ _ _ _ l => l.length ≤ 2000 ∧ X1a l
def X1a : List Val → Prop
 | [] => True
 | v :: r => VI v ∧ X1a r
end
theorem X99 {dp : Nat} : ∀ {l : List Val} {left : Int}, 0 ≤ Uu dp l left → left ≤ 2000 → (∀ x ∈ l, ∀ q : Int, 0 ≤ YM dp x q → q ≤ 2000 → YM dp x q ≤ q - 1 ∧ VI x) → Uu dp l left ≤ left - l.length ∧ X1a l
 | [], left, h, _, _ => by rw [Uu, X1a]; simp
 | x :: r, left, h, h2, hx => by
  rw [Uu] at h ⊢
  by_cases q : left < 0
  ·rw [if_pos q] at h; omega
  rw [if_neg q] at h ⊢
  by_cases q2 : YM dp x left < 0
  ·rw [Xau q2] at h; omega
  obtain ⟨a, b⟩ := hx x (by simp) left (by omega) h2
  obtain ⟨c, d⟩ := X99 h (by omega) fun y hy => hx y (by simp [hy])
  rw [X1a, List.length_cons]
  exact ⟨by push_cast; omega, b, d⟩
theorem X7X : ∀ (v : Val) (dp : Nat) (left : Int), 0 ≤ YM dp v left → left ≤ 2000 → YM dp v left ≤ left - 1 ∧ VI v
 | .mk k n d s l, dp, left, h, h2 => by
  rw [YM] at h ⊢
  by_cases q : dp = 0
  ·rw [if_pos q] at h; omega
  rw [if_neg q] at h ⊢
  obtain ⟨a, b⟩ := X99 h (by omega) fun x hx q h1 h2 => X7X x (dp - 1) q h1 h2
  rw [VI]
  exact ⟨by omega, by omega, b⟩
termination_by v => SizeOf.sizeOf v
decreasing_by
 have h1 := List.sizeOf_lt_of_mem (show x ∈ l from hx)
 simp only [Val.mk.sizeOf_spec]
 omega
def X4t (l : List Prp) : Prop := l.length ≤ 2000 ∧ ∀ p ∈ l, VI p.v
theorem X5n : ∀ (l : List Prp) (left : Int), 0 ≤ YK l left → left ≤ 2000 → YK l left ≤ left - l.length ∧ ∀ p ∈ l, VI p.v
 | [], left, h, _ => by rw [YK]; simp
 | p :: r, left, h, h2 => by
  rw [YK] at h ⊢
  by_cases q : left < 0
  ·rw [if_pos q] at h; omega
  rw [if_neg q] at h ⊢
  generalize p.key.length / 50 = kk at *
  by_cases q2 : YM 12 p.v (left - (kk : Nat)) < 0
  ·rw [Xa3 q2] at h; omega
  obtain ⟨a, b⟩ := X7X p.v 12 (left - (kk : Nat)) (by omega) (by omega)
  obtain ⟨c, d⟩ := X5n r _ h (by omega)
  rw [List.length_cons]
  exact ⟨by push_cast; omega, fun x hx => by
   rcases List.mem_cons.1 hx with rfl | hx
   ·exact b
   ·exact d x hx⟩
def Xbm (n : Nod) : Prop := n.labels.length ≤ 2000 ∧ X4t n.props
theorem X93 : ∀ (l : List Nod) (left : Int), 0 ≤ UB l left → left ≤ 2000 → UB l left ≤ left ∧ ∀ n ∈ l, Xbm n
 | [], left, h, _ => by rw [UB]; simp
 | n :: r, left, h, h2 => by
  rw [UB] at h ⊢
  by_cases q : left < 0
  ·rw [if_pos q] at h; omega
  rw [if_neg q] at h ⊢
  by_cases q2 : Vc n.labels (YK n.props (left - n.labels.length)) < 0
  ·rw [X87 q2] at h; omega
  have hs := X4H n.labels (YK n.props (left - n.labels.length))
  obtain ⟨a, b⟩ := X5n n.props (left - n.labels.length) (by omega) (by omega)
  obtain ⟨c, d⟩ := X93 r _ h (by omega)
  exact ⟨by omega, fun x hx => by
   rcases List.mem_cons.1 hx with rfl | hx
   ·exact ⟨by omega, by omega, b⟩
   ·exact d x hx⟩
theorem X9O : ∀ (l : List Edg) (left : Int), 0 ≤ VE l left → left ≤ 2000 → ∀ e ∈ l, X4t e.props
 | [], left, h, _ => by simp
 | n :: r, left, h, h2 => by
  rw [VE] at h
  by_cases q : left < 0
  ·rw [if_pos q] at h; omega
  rw [if_neg q] at h
  generalize n.typ.length / 50 = kk at *
  by_cases q2 : YK n.props (left - (kk : Nat)) < 0
  ·rw [X6W q2] at h; omega
  obtain ⟨a, b⟩ := X5n n.props (left - (kk : Nat)) (by omega) (by omega)
  intro x hx
  rcases List.mem_cons.1 hx with rfl | hx
  ·exact ⟨by omega, b⟩
  ·exact X9O r _ h (by omega) x hx
structure GraB (g : Gra) : Prop where
 nl : g.nodes.length ≤ 100000
 el : g.edges.length ≤ 100000
 nodes : ∀ n ∈ g.nodes, Xbm n
 edges : ∀ e ∈ g.edges, X4t e.props
theorem XhI {g : Gra} {a b : Int} (h : X1i g a b = true) (ha : a ≤ 100000) (hb : b ≤ 100000) : GraB g := by
 unfold X1i at h
 by_cases c : a < g.nodes.length ∨ b < g.edges.length
 ·rw [if_pos c] at h; simp at h
 rw [if_neg c] at h
 have h := of_decide_eq_true h
 have hN : 0 ≤ UB g.nodes 2000 := by
  by_cases q : UB g.nodes 2000 < 0
  ·rw [X6W q] at h; exact h
  ·omega
 obtain ⟨p, q⟩ := X93 g.nodes 2000 hN (by omega)
 exact ⟨by omega, by omega, q, X9O g.edges _ h p⟩
end Go.Fw
