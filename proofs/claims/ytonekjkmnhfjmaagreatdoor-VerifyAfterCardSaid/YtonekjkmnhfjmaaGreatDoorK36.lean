/- Few changes. -/
import Derived.Test.YtonekjkmnhfjmaaGreatDoorK34
import Derived.Test.YtonekjkmnhfjmaaGreatDoorK35
set_option maxHeartbeats 16000000
namespace Go.Fw
open Go Go.Proofs
set_option maxRecDepth 100000
set_option linter.unusedVariables false
set_option linter.unusedSimpArgs false
def YI : Chg → List D
 | ⟨op, id, src, dst, name, .mk k n d s l⟩ => [.v (.int .i64 op), .v (.int .i64 id), .v (.int .i64 src), .v (.int .i64 dst), .v (.string (X5 name)), .v (.int .i64 k), .v (.int .i64 n), .v (.int .i64 d), .v (.string (X5 s)), .sl 5 (XG l)]
def X6K (c : Chg) : Prop := c.name.length ≤ 9223372036854775807 ∧ Ym c.v
theorem X29 {n : Int} (h : 0 ≤ n ∧ n ≤ 9223372036854775807) : (X03 n).length ≤ 10 := by
 rw [XbN h.1]
 exact X7x (by omega)
theorem Xfs {r : Rul} (h : Ut r = 0) : (X7G r).length ≤ 200 := by
 obtain ⟨h1, ⟨l1, l2, l3, l4⟩, h3⟩ := XeD h
 have := X1T l1
 have := X1T l2
 have := X1T l3
 have := X1T l4
 have := X4y h1
 unfold X7G
 simp only [List.length_cons, List.length_append]
 omega
open Go
def X31 (p : Prp) : List UInt8 := VI p.key ++ X5C p.v
def X21 {α : Type} (w : α → List UInt8) (l : List α) : List UInt8 := X03 l.length ++ (l.map w).flatten
def X88 (n : Nod) : List UInt8 := X03 n.id ++ (X21 VI n.labels ++ X21 X31 n.props)
def XbK (e : Edg) : List UInt8 := X03 e.id ++ (X03 e.src ++ (X03 e.dst ++ (VI e.typ ++ X21 X31 e.props)))
structure Rd where
 k : Nat
 c : List UInt8
 a : Int
 e : Int
def Rd.put (s : Rd) (a e : Int) : Rd := ⟨s.k, s.c, a, e⟩
structure At (b : List UInt8) (q : Nat) (w : List UInt8) : Prop where
 le : q ≤ b.length
 eq : b.drop q = w
theorem At.step {b : List UInt8} {q : Nat} {u w : List UInt8} (h : At b q (u ++ w)) : At b (q + u.length) w := by
 have h1 := congrArg List.length h.eq
 simp only [List.length_drop, List.length_append] at h1
 refine ⟨by have := h.le; omega, ?_⟩
 rw [← List.drop_drop, h.eq, List.drop_left]
theorem At.split {b : List UInt8} {q : Nat} {u w : List UInt8} (h : At b q (u ++ w)) : b = b.take q ++ u ++ w ∧ (b.take q).length = q := by
 refine ⟨?_, by have := h.le; simp; omega⟩
 rw [List.append_assoc, ← h.eq, List.take_append_drop]
theorem At.cons {b : List UInt8} {q : Nat} {c : UInt8} {w : List UInt8} (h : At b q (c :: w)) : b[q]? = some c ∧ At b (q + 1) w := by
 refine ⟨?_, At.step (u := [c]) h⟩
 have := congrArg (·[0]?) h.eq
 simpa using this
theorem At.eqv {b : List UInt8} {q q' : Nat} {w w' : List UInt8} (h : At b q w) (hq : q = q') (hw : w = w') : At b q' w' := hq ▸ hw ▸ h
structure PartR {α : Type} (f : Rd → α × Rd) : Prop where
 err : ∀ s, s.e ≠ 0 → (f s).2 = s
 keep : ∀ s, (f s).2.k = s.k ∧ (f s).2.c = s.c
theorem PartR.back {α : Type} {f : Rd → α × Rd} (h : PartR f) {s : Rd} (he : (f s).2.e = 0) : s.e = 0 := by
 by_cases q : s.e = 0
 ·exact q
 ·rw [h.err s q] at he; exact he
def okN (n : Int) : Prop := 0 ≤ n ∧ n ≤ 9223372036854775807
def okP (p : Prp) : Prop := p.key.length ≤ 20 ∧ X8 8 p.v = true
def okL {α : Type} (ok : α → Prop) (l : List α) : Prop := (∀ x ∈ l, ok x) ∧ l.length ≤ 9223372036854775807
def XhB (n : Nod) : Prop := okN n.id ∧ okL (fun s => s.length ≤ 20) n.labels ∧ okL okP n.props
def XgB (e : Edg) : Prop := okN e.id ∧ okN e.src ∧ okN e.dst ∧ e.typ.length ≤ 20 ∧ okL okP e.props
theorem X5O {α : Type} {w : α → List UInt8} {k : Nat} : ∀ {l : List α}, (∀ x ∈ l, (w x).length ≤ k) → (l.map w).flatten.length ≤ k * l.length
 | [], _ => by simp
 | x :: r, h => by
  have h1 := h x (by simp)
  have h2 := X5O (l := r) fun y hy => h y (by simp [hy])
  simp only [List.map_cons, List.flatten_cons, List.length_append, List.length_cons, Nat.mul_add, Nat.mul_one]
  omega
theorem X1F {s : List UInt8} (h : Xt s = true) : s.length ≤ 20 := by
 unfold Xt at h
 simp only [Bool.and_eq_true, decide_eq_true_eq] at h
 exact h.1.1.2
theorem X5T {v : Val} (h : XV v = true) : X8 8 v = true ∧ (v.kind = 1 ∨ v.kind = 2 ∨ v.kind = 4) := by
 unfold XV X4j at h
 simp only [Bool.and_eq_true, decide_eq_true_eq] at h
 exact ⟨h.2, h.1⟩
theorem Xgw {v : Val} (h : XV v = true) : (X5C v).length ≤ 111 := by
 obtain ⟨h1, h2⟩ := X5T h
 unfold X5C
 rw [if_pos h1]
 obtain ⟨k, n, d, s, l⟩ := v
 simp only [Val.kind] at h2
 exact XhD h1 (by omega) (by omega)
theorem X56 {ls : List (List UInt8)} {ps : List Prp} (h : YO ls ps = 0) : (ls.length ≤ 8 ∧ ∀ s ∈ ls, s.length ≤ 20) ∧ ps.length ≤ 16 ∧ ∀ p ∈ ps, p.key.length ≤ 20 ∧ XV p.v = true := by
 unfold YO at h
 by_cases c1 : 8 < ls.length ∨ 16 < ps.length
 ·rw [if_pos c1] at h; simp at h
 rw [if_neg c1] at h
 by_cases c2 : ls.all Xt = false ∨ (ps.map Prp.key).all Xt = false
 ·rw [if_pos c2] at h; simp at h
 rw [if_neg c2] at h
 by_cases c3 : Yz ls = false ∨ Yz (ps.map Prp.key) = false
 ·rw [if_pos c3] at h; simp at h
 rw [if_neg c3] at h
 by_cases c4 : (ps.map Prp.v).all XV = false
 ·rw [if_pos c4] at h; simp at h
 have e1 : ls.all Xt = true := by cases q : ls.all Xt <;> simp_all
 have e2 : (ps.map Prp.key).all Xt = true := by cases q : (ps.map Prp.key).all Xt <;> simp_all
 have e4 : (ps.map Prp.v).all XV = true := by cases q : (ps.map Prp.v).all XV <;> simp_all
 rw [List.all_eq_true] at e1 e2 e4
 refine ⟨⟨by omega, fun s hs => X1F (e1 s hs)⟩, by omega, fun p hp => ⟨X1F (e2 p.key (List.mem_map.2 ⟨p, hp, rfl⟩)), e4 p.v (List.mem_map.2 ⟨p, hp, rfl⟩)⟩⟩
theorem Xai {ps : List Prp} (hl : ps.length ≤ 16) (h : ∀ p ∈ ps, p.key.length ≤ 20 ∧ XV p.v = true) : okL okP ps ∧ (X21 X31 ps).length ≤ 2266 := by
 refine ⟨⟨fun p hp => ⟨(h p hp).1, (X5T (h p hp).2).1⟩, by omega⟩, ?_⟩
 unfold X21
 have h1 := X29 (n := (ps.length : Nat)) (by omega)
 have h2 := X5O (w := X31) (k := 141) (l := ps) fun p hp => by
  unfold X31
  have a := X1T (h p hp).1
  have b := Xgw (h p hp).2
  simp only [List.length_append]
  omega
 simp only [List.length_append]
 omega
theorem XeM {ls : List (List UInt8)} (hl : ls.length ≤ 8) (h : ∀ s ∈ ls, s.length ≤ 20) : okL (fun s : List UInt8 => s.length ≤ 20) ls ∧ (X21 VI ls).length ≤ 250 := by
 refine ⟨⟨h, by omega⟩, ?_⟩
 unfold X21
 have h1 := X29 (n := (ls.length : Nat)) (by omega)
 have h2 := X5O (w := VI) (k := 30) (l := ls) fun s hs => by have := X1T (h s hs); omega
 simp only [List.length_append]
 omega
theorem Xh7 {nn : Int} {p : Option Nod} {n : Nod} (h : Uq nn p n = 0) : 1 ≤ n.id ∧ n.id < nn ∧ YO n.labels n.props = 0 := by
 unfold Uq at h
 by_cases c1 : ∃ q, p = some q ∧ n.id ≤ q.id
 ·rw [if_pos c1] at h; simp at h
 rw [if_neg c1] at h
 by_cases c2 : n.id < 1 ∨ nn ≤ n.id
 ·rw [if_pos c2] at h; simp at h
 rw [if_neg c2] at h
 exact ⟨by omega, by omega, h⟩
theorem X6C {nn : Int} : ∀ (l : List Nod) (p : Option Nod), YW nn p l = 0 → ∀ n ∈ l, 1 ≤ n.id ∧ n.id < nn ∧ YO n.labels n.props = 0
 | [], _, _, n, h => by simp at h
 | x :: r, p, h, n, hn => by
  rw [YW] at h
  have h0 : Uq nn p x = 0 := by
   by_cases h0 : Uq nn p x = 0
   ·exact h0
   ·rw [if_pos h0] at h; exact absurd h h0
  rw [h0, if_neg (by simp)] at h
  rcases List.mem_cons.1 hn with rfl | hn
  ·exact Xh7 h0
  ·exact X6C r _ h n hn
theorem XhY {ns : List Nod} {ne : Int} {p : Option Edg} {e : Edg} (h : UR ns ne p e = 0) : 1 ≤ e.id ∧ e.id < ne ∧ Y3 ns e.src = true ∧ Y3 ns e.dst = true ∧ Xt e.typ = true ∧ YO [] e.props = 0 := by
 unfold UR at h
 by_cases c1 : ∃ q, p = some q ∧ e.id ≤ q.id
 ·rw [if_pos c1] at h; simp at h
 rw [if_neg c1] at h
 by_cases c2 : e.id < 1 ∨ ne ≤ e.id
 ·rw [if_pos c2] at h; simp at h
 rw [if_neg c2] at h
 by_cases c3 : Y3 ns e.src = false ∨ Y3 ns e.dst = false
 ·rw [if_pos c3] at h; simp at h
 rw [if_neg c3] at h
 by_cases c4 : Xt e.typ = false
 ·rw [if_pos c4] at h; simp at h
 rw [if_neg c4] at h
 simp only [not_or, Bool.not_eq_false] at c3 c4
 exact ⟨by omega, by omega, c3.1, c3.2, c4, h⟩
theorem X5L {ns : List Nod} {ne : Int} : ∀ (l : List Edg) (p : Option Edg), UP ns ne p l = 0 → ∀ e ∈ l, 1 ≤ e.id ∧ e.id < ne ∧ Y3 ns e.src = true ∧ Y3 ns e.dst = true ∧ Xt e.typ = true ∧ YO [] e.props = 0
 | [], _, _, n, h => by simp at h
 | x :: r, p, h, n, hn => by
  rw [UP] at h
  have h0 : UR ns ne p x = 0 := by
   by_cases h0 : UR ns ne p x = 0
   ·exact h0
   ·rw [if_pos h0] at h; exact absurd h h0
  rw [h0, if_neg (by simp)] at h
  rcases List.mem_cons.1 hn with rfl | hn
  ·exact XhY h0
  ·exact X5L r _ h n hn
structure GraOk (g : Gra) : Prop where
 nl : g.nodes.length ≤ 2000
 el : g.edges.length ≤ 4000
 nn : 1 ≤ g.nn ∧ g.nn ≤ 1000001
 ne : 1 ≤ g.ne ∧ g.ne ≤ 1000001
 nodes : ∀ n ∈ g.nodes, XhB n ∧ (X88 n).length ≤ 2526
 edges : ∀ e ∈ g.edges, XgB e ∧ (XbK e).length ≤ 2326
theorem Xf3 {g : Gra} (h : Yh g = 0) : GraOk g := by
 unfold Yh at h
 by_cases c1 : 2000 < g.nodes.length ∨ 4000 < g.edges.length
 ·rw [if_pos c1] at h; simp at h
 rw [if_neg c1] at h
 by_cases c2 : g.nn < 1 ∨ 1000001 < g.nn ∨ g.ne < 1 ∨ 1000001 < g.ne
 ·rw [if_pos c2] at h; simp at h
 rw [if_neg c2] at h
 by_cases c3 : YW g.nn none g.nodes ≠ 0
 ·rw [if_pos c3] at h; exact absurd h c3
 rw [if_neg c3] at h
 have c3 : YW g.nn none g.nodes = 0 := by simpa using c3
 have hn := X6C _ _ c3
 have he := X5L _ _ h
 have hid : ∀ i, Y3 g.nodes i = true → 1 ≤ i ∧ i < g.nn := by
  intro i hi
  unfold Y3 at hi
  rw [List.any_eq_true] at hi
  obtain ⟨x, hx, e⟩ := hi
  have := hn x hx
  simp only [decide_eq_true_eq] at e
  omega
 refine ⟨by omega, by omega, by omega, by omega, fun n q => ?_, fun e q => ?_⟩
 ·obtain ⟨h1, h2, h3⟩ := hn n q
  obtain ⟨⟨p1, p2⟩, p3, p4⟩ := X56 h3
  obtain ⟨a1, a2⟩ := Xai p3 p4
  obtain ⟨b1, b2⟩ := XeM p1 p2
  refine ⟨⟨⟨by omega, by omega⟩, b1, a1⟩, ?_⟩
  have := X29 (n := n.id) (by omega)
  unfold X88
  simp only [List.length_append]
  omega
 ·obtain ⟨h1, h2, h3, h4, h5, h6⟩ := he e q
  obtain ⟨_, p3, p4⟩ := X56 h6
  obtain ⟨a1, a2⟩ := Xai p3 p4
  have s1 := hid _ h3
  have s2 := hid _ h4
  refine ⟨⟨⟨by omega, by omega⟩, ⟨by omega, by omega⟩, ⟨by omega, by omega⟩, X1F h5, a1⟩, ?_⟩
  have := X29 (n := e.id) (by omega)
  have := X29 (n := e.src) (by omega)
  have := X29 (n := e.dst) (by omega)
  have := X1T (X1F h5)
  unfold XbK
  simp only [List.length_append]
  omega
theorem X7M : ∀ (l : List Rul) (p : Option Rul), VM p l = true → ∀ r ∈ l, Ut r = 0
 | [], _, _, r, h => by simp at h
 | x :: l, p, h, r, hr => by
  rw [VM] at h
  simp only [Bool.and_eq_true, decide_eq_true_eq] at h
  rcases List.mem_cons.1 hr with rfl | hr
  ·exact h.1.1
  ·exact X7M l _ h.2 r hr
theorem X4A {l : List Rul} (h : Ve l = true) : l.length ≤ 40 ∧ ∀ r ∈ l, Ut r = 0 ∧ (Xab r).length ≤ 200 := by
 unfold Ve at h
 simp only [Bool.and_eq_true, decide_eq_true_eq] at h
 refine ⟨h.2, fun r hr => ?_⟩
 have := X7M _ _ h.1 r hr
 refine ⟨this, ?_⟩
 unfold Xab
 rw [if_pos this]
 exact Xfs this
def Yf : List Prp → List UInt8 → Option Val
 | [], _ => none
 | p :: r, key => if p.key = key then some p.v else Yf r key
def Y6 (ls : List (List UInt8)) (s : List UInt8) : Bool := ls.any fun x => decide (s = x)
def eqV (a b : Val) : Bool := decide (a.kind = b.kind ∧ a.n = b.n ∧ a.s = b.s)
def Xo (p : Int × Int) : List D := [.v (.int .i64 p.1), .v (.int .i64 p.2)]
def UT (r : Rul) (l : List Prp) : Bool :=
 if r.kind = 2 ∨ r.kind = 4 then (Yf l r.key).isNone else match Yf l r.key with
  | some v => decide (v.kind ≠ r.n)
  | none => false
def U8 (r : Rul) (n : Nod) : Option Val := match Yf n.props r.key with
 | some v => if Y6 n.labels r.name then some v else none
 | none => none
def YD (r : Rul) (l : List Nod) : List (Int × Val) := l.filterMap fun n => (U8 r n).map fun v => (n.id, v)
def UN : List (Int × Val) → List (Int × Int)
 | [] => []
 | a :: r => (r.filter fun b => eqV a.2 b.2).map (fun b => (a.1, b.1)) ++ UN r
def Uz (r : Rul) (l : List Nod) : List (Int × Int) := (l.filter fun n => Y6 n.labels r.name && UT r n.props).map fun n => (n.id, 0)
def Yc (l : List Nod) (id : Int) : Option Nod := l.find? fun n => decide (n.id = id)
abbrev Ub : Nod := ⟨0, [], []⟩
def X06 (l : List Nod) (id : Int) (label : List UInt8) : Bool := decide (label ≠ []) && !Y6 ((Yc l id).getD Ub).labels label
def X1n (n : Nod) : Prop := n.labels.length ≤ 1000 ∧ n.props.length ≤ 1000 ∧ ∀ p ∈ n.props, XV p.v = true
def X1r (r : Rul) (ns : List Nod) (e : Edg) : Bool := if r.kind = 6 then X06 ns e.src r.src || X06 ns e.dst r.dst else UT r e.props
def XR (r : Rul) (ns : List Nod) (l : List Edg) : List (Int × Int) := (l.filter fun e => decide (e.typ = r.name) && X1r r ns e).map fun e => (e.id, 0)
def YL (r : Rul) (l : List Edg) (id : Int) : Nat := l.countP fun e => decide (e.typ = r.name) && decide (e.src = id)
def UK (r : Rul) (es : List Edg) (l : List Nod) : List (Int × Int) := (l.filter fun n => decide (r.n < (YL r es n.id : Nat))).map fun n => (n.id, 0)
def X3K (r : Rul) (g : Gra) : List (Int × Int) := UK r g.edges g.nodes
def Yu (r : Rul) (es : List Edg) (l : List Nod) : List (Int × Int) := (l.filter fun n => if r.kind = 7 then decide (r.n < (YL r es n.id : Nat)) else Y6 n.labels r.name && UT r n.props).map fun n => (n.id, 0)
theorem Xfw {r : Rul} {es : List Edg} {l : List Nod} (h : r.kind = 7) : Yu r es l = UK r es l := by unfold Yu UK; simp only [h, if_true]
theorem Xcn {r : Rul} {es : List Edg} {l : List Nod} (h : r.kind ≠ 7) : Yu r es l = Uz r l := by unfold Yu Uz; simp only [h, if_false]
def ofV (r : Rul) (g : Gra) : List (Int × Int) :=
 if r.kind = 1 then UN (YD r g.nodes) else if r.kind = 2 ∨ r.kind = 3 then Uz r g.nodes else if r.kind = 7 then X3K r g else XR r g.nodes g.edges
def ofS (r : Rul) (g : Gra) : List (Int × Int) := if Ut r ≠ 0 ∨ Yh g ≠ 0 then [] else ofV r g
structure Vio where
 rule : Int
 a : Int
 b : Int
def Ye (v : Vio) : List D := [.v (.int .i64 v.rule), .v (.int .i64 v.a), .v (.int .i64 v.b)]
def X57 (g : Gra) : Nat → List Rul → List Vio
 | _, [] => []
 | i, r :: s => (ofV r g).map (fun p => ⟨(i : Nat), p.1, p.2⟩) ++ X57 g (i + 1) s
def U4 (s : List Rul) (g : Gra) : List Vio := if Ve s = false ∨ Yh g ≠ 0 then [] else X57 g 0 s
def X2t (k : Int) : Int := if k = 1 then 13 else if k = 2 ∨ k = 4 then 14 else if k = 3 ∨ k = 5 then 15 else if k = 6 then 16 else if k = 7 then 17 else 0
def X1H (s : List Rul) (g : Gra) : Int := match U4 s g with
 | [] => 0
 | v :: _ => match s[v.rule.toNat]? with | some r => X2t r.kind | none => 0
theorem Xag {l : List Prp} {i : Nat} {p : Prp} {key : List UInt8} (h : l[i]? = some p) : Yf (l.drop i) key = if p.key = key then some p.v else Yf (l.drop (i + 1)) key := by
 obtain ⟨hi, h⟩ := List.getElem?_eq_some_iff.1 h
 rw [List.drop_eq_getElem_cons hi, h, Yf]
theorem Xdx {α β : Type} {f : α → Option β} {l : List α} {i : Nat} {x : α} (h : l[i]? = some x) : (l.take (i + 1)).filterMap f = (l.take i).filterMap f ++ (f x).toList := by
 rw [X4w h, List.filterMap_append]
 cases hf : f x <;> simp [hf]
theorem X39 {α β : Type} {p : α → Bool} {f : α → β} {l : List α} {i : Nat} {x : α} (h : l[i]? = some x) : ((l.take (i + 1)).filter p).map f = ((l.take i).filter p).map f ++ if p x then [f x] else [] := by
 rw [X4w h, List.filter_append, List.map_append]
 cases hp : p x <;> simp [hp]
theorem X6p {α : Type} {p : α → Bool} {l : List α} {i : Nat} {x : α} (h : l[i]? = some x) : (l.take (i + 1)).countP p = (l.take i).countP p + if p x then 1 else 0 := by
 rw [X4w h, List.countP_append]
 cases hp : p x <;> simp [hp]
theorem X9V {l : List Nod} {i : Nat} {n : Nod} {id : Int} (h : l[i]? = some n) : Yc (l.drop i) id = if n.id = id then some n else Yc (l.drop (i + 1)) id := by
 obtain ⟨hi, h⟩ := List.getElem?_eq_some_iff.1 h
 unfold Yc
 rw [List.drop_eq_getElem_cons hi, h, List.find?_cons]
 by_cases q : n.id = id <;> simp [q]
theorem Xb5 : ∀ l : List (Int × Val), (UN l).length ≤ l.length * l.length
 | [] => Nat.le_refl _
 | a :: r => by
  rw [UN, List.length_append, List.length_map, List.length_cons]
  have h1 := Xb5 r
  have h2 := List.length_filter_le (fun b => eqV a.2 b.2) r
  have : (r.length + 1) * (r.length + 1) = r.length * r.length + r.length + r.length + 1 := by rw [Nat.add_mul, Nat.mul_add]; omega
  omega
theorem X75 (r : Rul) (l : List Nod) : (YD r l).length ≤ l.length := List.length_filterMap_le _ _
theorem X0Z {k n d : Int} {s : List UInt8} {l : List Val} (h : XV (.mk k n d s l) = true) : X8 8 (.mk k n d s l) = true ∧ (k = 1 ∨ k = 2 ∨ k = 4) ∧ d = 0 ∧ l = [] ∧ (k ≠ 4 → s = []) ∧ (k = 4 → n = 0) ∧ s.length ≤ 100 ∧ (k = 2 → -1000000000000000 ≤ n ∧ n ≤ 1000000000000000) := by
 obtain ⟨h1, h2⟩ := X5T h
 have h2 : k = 1 ∨ k = 2 ∨ k = 4 := h2
 refine ⟨h1, h2, ?_⟩
 rw [X8] at h1
 rcases h2 with rfl | rfl | rfl
 ·simp at h1
  exact ⟨h1.1.1.1, h1.1.2, fun _ => h1.1.1.2, by simp, by rw [h1.1.1.2]; simp, by simp⟩
 ·simp at h1
  exact ⟨h1.1.1.1, h1.1.2, fun _ => h1.1.1.2, by simp, by rw [h1.1.1.2]; simp, fun _ => h1.2⟩
 ·simp at h1
  exact ⟨h1.1.1, h1.1.2, by simp, fun _ => h1.2.1.1, h1.2.1.2, by simp⟩
def VG : List (List UInt8) → List UInt8 → Nat → Int
 | [], _, _ => -1
 | x :: r, s, i => if s = x then (i : Int) else VG r s (i + 1)
theorem Xib {l : List (List UInt8)} {s : List UInt8} {i : Nat} {x : List UInt8} (h : l[i]? = some x) : VG (l.drop i) s i = if s = x then (i : Int) else VG (l.drop (i + 1)) s (i + 1) := by
 obtain ⟨hi, rfl⟩ := List.getElem?_eq_some_iff.1 h
 rw [List.drop_eq_getElem_cons hi, VG]
theorem XaP : ∀ (l : List (List UInt8)) (s : List UInt8) (i : Nat), decide (0 ≤ VG l s i) = Y6 l s
 | [], s, i => by simp [VG, Y6]
 | x :: r, s, i => by
  rw [VG, Y6, List.any_cons]
  by_cases h : s = x
  ·simp [h]
  ·have := XaP r s (i + 1)
   unfold Y6 at this
   simp [h, this]
theorem XeY {l : List (List UInt8)} {s : List UInt8} {i : Nat} {x : List UInt8} (h : l[i]? = some x) : Y6 (l.drop i) s = (decide (s = x) || Y6 (l.drop (i + 1)) s) := by
 obtain ⟨hi, rfl⟩ := List.getElem?_eq_some_iff.1 h
 unfold Y6
 rw [List.drop_eq_getElem_cons hi, List.any_cons]
theorem Xf0 (l : List (List UInt8)) (s : List UInt8) (hl : l.length ≤ 9223372036854775807) : Con Tryz.prog 327 [] [.d (.sl 1 (l.map Xa)), XC s] [] (ai (VG l s 0)) := by
 refine Xc (xs := [ai (VG l s 0)]) Tryz.func327 rfl Tryz.ntmps327 rfl rfl rfl (fun E => ?_)
 generalize hG : VG l s 0 = G
 refine QU ?_; refine Qcc ?_
 refine Xz (fun i : Nat => i ≤ l.length ∧ VG (l.drop i) s i = G) (fun i => ⟨19, [(0, .d (.sl 1 (l.map Xa))), (1, XC s), (7, ai (l.map Xa).length), (8, ai i)], []⟩) (fun i => l.length - i) 0 ⟨Nat.zero_le _, by simpa using hG⟩
  (X6 rfl JM trivial) ?_
 rintro i ⟨hi, hg⟩
 by_cases hil : i < l.length
 case neg =>
  have hn : ¬ (i : Int) < (l.map Xa).length := by rw [List.length_map]; omega
  rw [List.drop_of_length_le (by omega), VG] at hg
  subst hg
  exact Qla
 have hn : (i : Int) < (l.map Xa).length := by rw [List.length_map]; omega
 obtain ⟨x, hx⟩ := Xs (l := l) hil
 have hxc : (l.map Xa)[i]? = some (Xa x) := Xx hx
 rw [Xib hx] at hg
 by_cases hq : s = x
 ·rw [if_pos hq] at hg
  subst hg
  refine Qna ?_; refine QPd ?_; refine Qhc ?_; refine ZF ?_; exact QXb
 rw [if_neg hq] at hg
 refine Qna ?_; refine QPd ?_; refine Qhc ?_; refine ZF ?_; refine Qwa ?_; exact Qyf
theorem XiN (l : List (List UInt8)) (s : List UInt8) (hl : l.length ≤ 9223372036854775807) : Con Tryz.prog 305 [] [.d (.sl 1 (l.map Xa)), XC s] [] (ab (Y6 l s)) := by
 refine Xc (xs := [ab (Y6 l s)]) Tryz.func305 rfl Tryz.ntmps305 rfl rfl rfl (fun E => ?_)
 have hi := Xf0 l s hl
 rw [← XaP l s 0]
 generalize VG l s 0 = q at *
 refine Qf ?_; refine Zr (hcon := hi) ?_; refine Zm ?_; exact QCb
theorem X6O (n : Nod) (s : List UInt8) (hl : n.labels.length ≤ 9223372036854775807) : Con Tryz.prog 250 [] [.agg [ai n.id, .d (.sl 1 (n.labels.map Xa)), .d (.sl 6 (n.props.map X7))], XC s] [] (ab (Y6 n.labels s)) := by
 refine Xc (xs := [ab (Y6 n.labels s)]) Tryz.func250 rfl Tryz.ntmps250 rfl rfl rfl (fun E => ?_)
 have hc := XiN n.labels s hl
 generalize Y6 n.labels s = q at *
 exact QBf
theorem XdH (l : List (List UInt8)) (s : List UInt8) (hl : l.length ≤ 9223372036854775807) : Con Tryz.prog 238 [] [.d (.sl 1 (l.map Xa)), XC s] [] (ab (Y6 l s)) := by
 refine Xc (xs := [ab (Y6 l s)]) Tryz.func238 rfl Tryz.ntmps238 rfl rfl rfl (fun E => ?_)
 generalize hG : Y6 l s = G
 refine QXc ?_
 refine Xz (fun i : Nat => i ≤ l.length ∧ Y6 (l.drop i) s = G) (fun i => ⟨18, [(0, .d (.sl 1 (l.map Xa))), (1, XC s), (5, ai i)], []⟩) (fun i => l.length - i) 0 ⟨Nat.zero_le _, by simpa using hG⟩
  (X6 rfl JM trivial) ?_
 rintro i ⟨hi, hg⟩
 by_cases hil : i < l.length
 case neg =>
  have hn : ¬ (i : Int) < (l.map Xa).length := by rw [List.length_map]; omega
  rw [List.drop_of_length_le (by omega)] at hg
  have hg : false = G := hg
  subst hg
  exact Qhd
 have hn : (i : Int) < (l.map Xa).length := by rw [List.length_map]; omega
 obtain ⟨x, hx⟩ := Xs (l := l) hil
 have hxc : (l.map Xa)[i]? = some (Xa x) := Xx hx
 rw [XeY hx] at hg
 by_cases hq : s = x
 ·rw [decide_eq_true hq, Bool.true_or] at hg
  subst hg
  have hq' : x = s := hq.symm
  refine Qid ?_; refine Qhc ?_; refine Z1 ?_; refine ZF ?_; exact QZ
 rw [decide_eq_false hq, Bool.false_or] at hg
 have hq' : ¬ x = s := fun e => hq e.symm
 refine Qid ?_; refine Qhc ?_; refine Z1 ?_; refine ZF ?_; refine Qkb ?_; exact Qyf
theorem X3u (n : Nod) (s : List UInt8) (hl : n.labels.length ≤ 9223372036854775807) : Con Tryz.prog 175 [] [.agg [ai n.id, .d (.sl 1 (n.labels.map Xa)), .d (.sl 6 (n.props.map X7))], XC s] [] (ab (Y6 n.labels s)) := by
 refine Xc (xs := [ab (Y6 n.labels s)]) Tryz.func175 rfl Tryz.ntmps175 rfl rfl rfl (fun E => ?_)
 have hc := XdH n.labels s hl
 generalize Y6 n.labels s = q at *
 exact QBf
theorem Xbe (l : List Prp) (key : List UInt8) (hl : l.length ≤ 9223372036854775807) : Con Tryz.prog 249 [] [.d (.sl 6 (l.map X7)), XC key] [] (.tup [Xm ((Yf l key).getD zV), ab (Yf l key).isSome]) := by
 refine Xc (xs := [Xm ((Yf l key).getD zV), ab (Yf l key).isSome]) Tryz.func249 rfl Tryz.ntmps249 rfl rfl rfl (fun E => ?_)
 generalize hG : Yf l key = G
 refine Qa ?_; refine ZI (γ := 100) ?_; refine Qi ?_; refine Qcc ?_
 refine Xz (fun i : Nat => i ≤ l.length ∧ Yf (l.drop i) key = G) (fun i => ⟨22, [(1, XC key), (4, .ptr 100 0), (8, .d (.sl 6 (l.map X7))), (9, ai (l.map X7).length), (10, ai i)], [(100, .box [ai 0, ai 0, ai 0, XC [], ani])]⟩) (fun i => l.length - i) 0 ⟨Nat.zero_le _, by simpa using hG⟩
  (X6 rfl JM ⟨rfl, trivial⟩) ?_
 rintro i ⟨hi, hg⟩
 by_cases hil : i < l.length
 case neg =>
  have hn : ¬ (i : Int) < (l.map X7).length := by rw [List.length_map]; omega
  rw [List.drop_of_length_le (by omega), Yf] at hg
  subst hg
  simp only [Option.getD_none, Option.isSome_none, zV, Xm]
  refine Qka ?_; refine QDa ?_
  (show AWP Tryz.prog E _ _ _; refine X1 ?_; exact (show Xd _ _ _ _ _ from ⟨_, YU 100 (cs' := [ai 0, ai 0, ai 0, XC [], .d (.sl 5 [])]) rfl JM rfl, ⟨⟨100, 0, _, rfl, rfl, .inr ⟨5, _, rfl, rfl, rfl, rfl⟩⟩, rfl, trivial⟩, X3 _⟩))
 have hn : (i : Int) < (l.map X7).length := by rw [List.length_map]; omega
 obtain ⟨x, hx⟩ := Xs (l := l) hil
 have hxc : (l.map X7)[i]? = some (X7 x) := Xx hx
 rw [Xag hx] at hg
 obtain ⟨xkey, ⟨vk, vn, vd, vs, vl⟩⟩ := x
 simp only [X7, Y5] at hxc hg
 clear hx
 by_cases hq : xkey = key
 ·rw [if_pos hq] at hg
  subst hg
  simp only [Option.getD_some, Option.isSome_some, Xm]
  refine QUg ?_; refine Qic ?_; refine ZF ?_; refine Qm ?_; refine Qa ?_; refine Qxf ?_; refine QCa ?_
  (show AWP Tryz.prog E _ _ _; refine X1 ?_; exact (show Xd _ _ _ _ _ from ⟨_, St.le_refl _, ⟨⟨100, 0, _, rfl, rfl, .inr ⟨5, _, rfl, rfl, rfl, rfl⟩⟩, rfl, trivial⟩, X3 _⟩))
 rw [if_neg hq] at hg
 refine QUg ?_; refine Qic ?_; refine ZF ?_; refine Qwa ?_; exact QVg
theorem X5J (l : List Prp) (key : List UInt8) (hl : l.length ≤ 9223372036854775807) : Con Tryz.prog 260 [] [.d (.sl 6 (l.map X7)), XC key] [] (.tup [Xm ((Yf l key).getD zV), ab (Yf l key).isSome]) := by
 refine Xc (xs := [Xm ((Yf l key).getD zV), ab (Yf l key).isSome]) Tryz.func260 rfl Tryz.ntmps260 rfl rfl rfl (fun E => ?_)
 generalize hG : Yf l key = G
 refine Qa ?_; refine ZI (γ := 100) ?_; refine Qb ?_; refine QZa ?_
 refine Xz (fun i : Nat => i ≤ l.length ∧ Yf (l.drop i) key = G) (fun i => ⟨26, [(0, .d (.sl 6 (l.map X7))), (1, XC key), (4, .ptr 100 0), (6, ai i)], [(100, .box [ai 0, ai 0, ai 0, XC [], ani])]⟩) (fun i => l.length - i) 0 ⟨Nat.zero_le _, by simpa using hG⟩
  (X6 rfl JM ⟨rfl, trivial⟩) ?_
 rintro i ⟨hi, hg⟩
 by_cases hil : i < l.length
 case neg =>
  have hn : ¬ (i : Int) < (l.map X7).length := by rw [List.length_map]; omega
  rw [List.drop_of_length_le (by omega), Yf] at hg
  subst hg
  simp only [Option.getD_none, Option.isSome_none, zV, Xm]
  refine Qgd ?_; refine QDa ?_
  (show AWP Tryz.prog E _ _ _; refine X1 ?_; exact (show Xd _ _ _ _ _ from ⟨_, YU 100 (cs' := [ai 0, ai 0, ai 0, XC [], .d (.sl 5 [])]) rfl JM rfl, ⟨⟨100, 0, _, rfl, rfl, .inr ⟨5, _, rfl, rfl, rfl, rfl⟩⟩, rfl, trivial⟩, X3 _⟩))
 have hn : (i : Int) < (l.map X7).length := by rw [List.length_map]; omega
 obtain ⟨x, hx⟩ := Xs (l := l) hil
 have hxc : (l.map X7)[i]? = some (X7 x) := Xx hx
 rw [Xag hx] at hg
 obtain ⟨xkey, ⟨vk, vn, vd, vs, vl⟩⟩ := x
 simp only [X7, Y5] at hxc hg
 clear hx
 by_cases hq : xkey = key
 ·rw [if_pos hq] at hg
  subst hg
  simp only [Option.getD_some, Option.isSome_some, Xm]
  refine Qid ?_; refine Qcd ?_; refine ZF ?_; refine Qm ?_; refine Qe ?_; refine Zy ?_; refine ZZ ?_; refine ZW ?_; refine QCa ?_
  (show AWP Tryz.prog E _ _ _; refine X1 ?_; exact (show Xd _ _ _ _ _ from ⟨_, St.le_refl _, ⟨⟨100, 0, _, rfl, rfl, .inr ⟨5, _, rfl, rfl, rfl, rfl⟩⟩, rfl, trivial⟩, X3 _⟩))
 rw [if_neg hq] at hg
 refine Qid ?_; refine Qcd ?_; refine ZF ?_; refine Qkb ?_; exact QVg
theorem X5d (r : Rul) (l : List Prp) (hl : l.length ≤ 9223372036854775807) : Con Tryz.prog 252 [] [XU r, .d (.sl 6 (l.map X7))] [] (ab (UT r l)) := by
 refine Xc (xs := [ab (UT r l)]) Tryz.func252 rfl Tryz.ntmps252 rfl rfl rfl (fun E => ?_)
 obtain ⟨rk, rn, rname, rkey, rsrc, rdst⟩ := r
 have hp := Xbe l rkey hl
 unfold UT
 simp only [XU] at hp ⊢
 generalize Yf l rkey = G at *
 cases G with
 | none =>
  simp only [Option.getD_none, Option.isSome_none, Option.isNone_none, zV, Xm] at hp ⊢
  by_cases h1 : rk = 2
  ·rw [if_pos (.inl h1)]
   refine QXg ?_
   (show AWP Tryz.prog E _ _ _; refine X1 ?_; exact (show Xd _ _ _ _ _ from ⟨_, St.le_refl _, ⟨rfl, trivial⟩, X3 _⟩))
  by_cases h2 : rk = 4
  ·rw [if_pos (.inr h2)]
   refine QYg ?_
   (show AWP Tryz.prog E _ _ _; refine X1 ?_; exact (show Xd _ _ _ _ _ from ⟨_, St.le_refl _, ⟨rfl, trivial⟩, X3 _⟩))
  rw [if_neg (fun h => h.elim h1 h2)]
  refine QZg ?_; refine QW ?_; refine QSb ?_
  (show AWP Tryz.prog E _ _ _; refine X1 ?_; exact (show Xd _ _ _ _ _ from ⟨_, St.le_refl _, ⟨rfl, trivial⟩, X3 _⟩))
 | some v =>
  obtain ⟨vk, vn, vd, vs, vl⟩ := v
  simp only [Option.getD_some, Option.isSome_some, Option.isNone_some, Xm, Val.kind] at hp ⊢
  by_cases h1 : rk = 2
  ·rw [if_pos (.inl h1)]
   refine QXg ?_
   (show AWP Tryz.prog E _ _ _; refine X1 ?_; exact (show Xd _ _ _ _ _ from ⟨_, St.le_refl _, ⟨rfl, trivial⟩, X3 _⟩))
  by_cases h2 : rk = 4
  ·rw [if_pos (.inr h2)]
   refine QYg ?_
   (show AWP Tryz.prog E _ _ _; refine X1 ?_; exact (show Xd _ _ _ _ _ from ⟨_, St.le_refl _, ⟨rfl, trivial⟩, X3 _⟩))
  rw [if_neg (fun h => h.elim h1 h2)]
  refine QZg ?_; refine QRb ?_; refine ZH ?_; refine QPa ?_
  (show AWP Tryz.prog E _ _ _; refine X1 ?_; exact (show Xd _ _ _ _ _ from ⟨_, St.le_refl _, ⟨rfl, trivial⟩, X3 _⟩))
theorem X61 (r : Rul) (l : List Prp) (hl : l.length ≤ 9223372036854775807) : Con Tryz.prog 262 [] [XU r, .d (.sl 6 (l.map X7))] [] (ab (UT r l)) := by
 refine Xc (xs := [ab (UT r l)]) Tryz.func262 rfl Tryz.ntmps262 rfl rfl rfl (fun E => ?_)
 obtain ⟨rk, rn, rname, rkey, rsrc, rdst⟩ := r
 have hp := X5J l rkey hl
 unfold UT
 simp only [XU] at hp ⊢
 generalize Yf l rkey = G at *
 cases G with
 | none =>
  simp only [Option.getD_none, Option.isSome_none, Option.isNone_none, zV, Xm] at hp ⊢
  by_cases h1 : rk = 2
  ·rw [if_pos (.inl h1)]
   refine QXg ?_
   (show AWP Tryz.prog E _ _ _; refine X1 ?_; exact (show Xd _ _ _ _ _ from ⟨_, St.le_refl _, ⟨rfl, trivial⟩, X3 _⟩))
  by_cases h2 : rk = 4
  ·rw [if_pos (.inr h2)]
   refine QYg ?_
   (show AWP Tryz.prog E _ _ _; refine X1 ?_; exact (show Xd _ _ _ _ _ from ⟨_, St.le_refl _, ⟨rfl, trivial⟩, X3 _⟩))
  rw [if_neg (fun h => h.elim h1 h2)]
  refine QZg ?_; refine QW ?_; refine QSb ?_
  (show AWP Tryz.prog E _ _ _; refine X1 ?_; exact (show Xd _ _ _ _ _ from ⟨_, St.le_refl _, ⟨rfl, trivial⟩, X3 _⟩))
 | some v =>
  obtain ⟨vk, vn, vd, vs, vl⟩ := v
  simp only [Option.getD_some, Option.isSome_some, Option.isNone_some, Xm, Val.kind] at hp ⊢
  by_cases h1 : rk = 2
  ·rw [if_pos (.inl h1)]
   refine QXg ?_
   (show AWP Tryz.prog E _ _ _; refine X1 ?_; exact (show Xd _ _ _ _ _ from ⟨_, St.le_refl _, ⟨rfl, trivial⟩, X3 _⟩))
  by_cases h2 : rk = 4
  ·rw [if_pos (.inr h2)]
   refine QYg ?_
   (show AWP Tryz.prog E _ _ _; refine X1 ?_; exact (show Xd _ _ _ _ _ from ⟨_, St.le_refl _, ⟨rfl, trivial⟩, X3 _⟩))
  rw [if_neg (fun h => h.elim h1 h2)]
  refine QZg ?_; refine QRb ?_; refine ZH ?_; refine QPa ?_
  (show AWP Tryz.prog E _ _ _; refine X1 ?_; exact (show Xd _ _ _ _ _ from ⟨_, St.le_refl _, ⟨rfl, trivial⟩, X3 _⟩))
end Go.Fw
