/- The editor's nests: nodes and edges with their headers. -/
import Derived.Test.YtonekjkmnhfjmaaGreatDoorK28
namespace Go.Fw
open Go
set_option linter.unusedVariables false
set_option linter.unusedSimpArgs false
abbrev Um : Value := .slice none 0 0
def cNN (n : Nod) : List NC := [.d (.v (.int .i64 n.id)), .r 1 (n.labels.map Xa), .r 6 (n.props.map X7)]
def cNE (e : Edg) : List NC := [.d (.v (.int .i64 e.id)), .d (.v (.int .i64 e.src)), .d (.v (.int .i64 e.dst)), .d (.v (.string (X5 e.typ))), .r 6 (e.props.map X7)]
abbrev XN := Nod × Value × Value
abbrev XE := Edg × Value
def rXN (x : XN) : RN := (x.1.id, .v x.2.1, .v x.2.2)
def rXE (x : XE) : RE := (x.1.id, x.1.src, x.1.dst, x.1.typ, .v x.2)
def bXN (x : XN) : List Hd := [(x.2.1, 1, x.1.labels.map Xa), (x.2.2, 6, x.1.props.map X7)]
def bXE (x : XE) : List Hd := [(x.2, 6, x.1.props.map X7)]
def Xw (xs : List XN) : List Hd := (xs.map bXN).flatten
def XM (xs : List XE) : List Hd := (xs.map bXE).flatten
theorem Xad : ∀ xs : List XN, Uh ((xs.map fun x => cNN x.1).flatten) ((xs.map fun x => cRN (rXN x)).flatten) (Xw xs)
 | [] => trivial
 | x :: xs => by
  have ih := Xad xs
  simp only [Xw, List.map_cons, List.flatten_cons] at ih ⊢
  exact ⟨rfl, rfl, rfl, rfl, rfl, ih⟩
theorem X9Y : ∀ xs : List XE, Uh ((xs.map fun x => cNE x.1).flatten) ((xs.map fun x => cRE (rXE x)).flatten) (XM xs)
 | [] => trivial
 | x :: xs => by
  have ih := X9Y xs
  simp only [XM, List.map_cons, List.flatten_cons] at ih ⊢
  exact ⟨rfl, rfl, rfl, rfl, rfl, rfl, ih⟩
theorem X9v : ∀ (ns : List Nod) (rows : List (List D)) (hs : List Hd), rows.length = ns.length → (∀ x ∈ rows, x.length = 3) → Uh (ns.map cNN).flatten rows.flatten hs →
  ∃ xs : List XN, ns = xs.map (·.1) ∧ rows = (xs.map rXN).map cRN ∧ hs = Xw xs
 | [], [], hs, _, _, h => by
  cases hs with
  | nil => exact ⟨[], rfl, rfl, rfl⟩
  | cons k hs => exact h.elim
 | [], _ :: _, _, h, _, _ => by simp at h
 | _ :: _, [], _, h, _, _ => by simp at h
 | n :: ns, r :: rows, hs, hl, hz, h => by
  have h3 := hz r (by simp)
  match r, h3 with
  | [a, b, c], _ =>
   simp only [List.map_cons, List.flatten_cons, cNN, List.cons_append, List.nil_append] at h
   match hs, h with
   | [], h => simp [Uh] at h
   | [_], h => simp [Uh] at h
   | p :: q :: hs, h =>
    obtain ⟨rfl, rfl, hp, rfl, hq, h⟩ := h
    obtain ⟨xs, rfl, rfl, rfl⟩ := X9v ns rows hs (by simpa using hl) (fun x hx => hz x (by simp [hx])) h
    refine ⟨(n, p.1, q.1) :: xs, rfl, rfl, ?_⟩
    obtain ⟨p1, p2⟩ := p
    obtain ⟨q1, q2⟩ := q
    simp only at hp hq
    subst hp hq
    rfl
theorem X9B : ∀ (ns : List Edg) (rows : List (List D)) (hs : List Hd), rows.length = ns.length → (∀ x ∈ rows, x.length = 5) → Uh (ns.map cNE).flatten rows.flatten hs →
  ∃ xs : List XE, ns = xs.map (·.1) ∧ rows = (xs.map rXE).map cRE ∧ hs = XM xs
 | [], [], hs, _, _, h => by
  cases hs with
  | nil => exact ⟨[], rfl, rfl, rfl⟩
  | cons k hs => exact h.elim
 | [], _ :: _, _, h, _, _ => by simp at h
 | _ :: _, [], _, h, _, _ => by simp at h
 | n :: ns, r :: rows, hs, hl, hz, h => by
  have h3 := hz r (by simp)
  match r, h3 with
  | [a, b, c, d, e], _ =>
   simp only [List.map_cons, List.flatten_cons, cNE, List.cons_append, List.nil_append] at h
   match hs, h with
   | [], h => simp [Uh] at h
   | p :: hs, h =>
    obtain ⟨rfl, rfl, rfl, rfl, rfl, hp, h⟩ := h
    obtain ⟨xs, rfl, rfl, rfl⟩ := X9B ns rows hs (by simpa using hl) (fun x hx => hz x (by simp [hx])) h
    refine ⟨(n, p.1) :: xs, rfl, rfl, ?_⟩
    obtain ⟨p1, p2⟩ := p
    simp only at hp
    subst hp
    rfl
theorem X2b (xs ys : List XN) : Xw (xs ++ ys) = Xw xs ++ Xw ys := by simp [Xw]
theorem X3f (xs ys : List XE) : XM (xs ++ ys) = XM xs ++ XM ys := by simp [XM]
theorem X5I (x : XN) (xs : List XN) : Xw (x :: xs) = (x.2.1, 1, x.1.labels.map Xa) :: (x.2.2, 6, x.1.props.map X7) :: Xw xs := rfl
theorem Xb9 (x : XE) (xs : List XE) : XM (x :: xs) = (x.2, 6, x.1.props.map X7) :: XM xs := rfl
abbrev edS (g : Gra) : List (Nat × AObj) := [(0, .box [.own 3 g.nodes.length, .own 4 g.edges.length, ai g.nn, ai g.ne]), (3, .nest 3 (g.nodes.map cNN)), (4, .nest 5 (g.edges.map cNE))]
abbrev edN (g : Gra) : List (Nat × AObj) := [(0, .box [.own 110 g.nodes.length, .own 4 g.edges.length, ai g.nn, ai g.ne]), (3, .dead), (4, .nest 5 (g.edges.map cNE)), (110, .nest 3 (g.nodes.map cNN))]
abbrev edE (g : Gra) : List (Nat × AObj) := [(0, .box [.own 3 g.nodes.length, .own 110 g.edges.length, ai g.nn, ai g.ne]), (3, .nest 3 (g.nodes.map cNN)), (4, .dead), (110, .nest 5 (g.edges.map cNE))]
section
variable {P : Program} {E : Env} {c : Code} {S : St} {Q : Exit → St → Prop}
theorem Ud {ns : List Nod} {es : List Edg} (hN : S.obj 3 = .nest 3 (ns.map cNN)) (hE : S.obj 4 = .nest 5 (es.map cNE)) (h210 : S.obj 210 = .dead) (h211 : S.obj 211 = .dead)
  (h : ∀ (xs : List XN) (ys : List XE), ns = xs.map (·.1) → es = ys.map (·.1) → AWP P E c ⟨S.n, S.τ, (4, .row 5 ((ys.map rXE).map cRE)) :: (211, .bag (XM ys)) :: (3, .row 3 ((xs.map rXN).map cRN)) :: (210, .bag (Xw xs)) :: S.L⟩ Q) : AWP P E c S Q := by
 refine Xah 3 210 hN h210 fun rows hs h1 h2 h3 => ?_
 obtain ⟨xs, rfl, rfl, rfl⟩ := X9v ns rows hs (by simpa using h1) h3 h2
 refine Xah 4 211 (sz := 5) (xs := es.map cNE) ?_ ?_ fun rows2 hs2 k1 k2 k3 => ?_
 ·show Xb _ _ _ = _
  rw [XF _ _ _ (by decide), XF _ _ _ (by decide)]; exact hE
 ·show Xb _ _ _ = _
  rw [XF _ _ _ (by decide), XF _ _ _ (by decide)]; exact h211
 ·obtain ⟨ys, rfl, rfl, rfl⟩ := X9B es rows2 hs2 (by simpa using k1) k3 k2
  exact h xs ys rfl rfl
end
theorem X0D {S : St} (γ δ : Nat) (xs : List XN) (hL : S.obj γ = .row 3 ((xs.map rXN).map cRN)) (hB : S.obj δ = .bag (Xw xs)) : S.le ⟨S.n, S.τ, (γ, .nest 3 ((xs.map (·.1)).map cNN)) :: (δ, .dead) :: S.L⟩ :=
 Xbw γ δ ((xs.map (·.1)).map cNN) hL hB (by simp) (by
  have := Xad xs
  rw [List.map_map, List.map_map]; exact this)
theorem X0A {S : St} (γ δ : Nat) (xs : List XE) (hL : S.obj γ = .row 5 ((xs.map rXE).map cRE)) (hB : S.obj δ = .bag (XM xs)) : S.le ⟨S.n, S.τ, (γ, .nest 5 ((xs.map (·.1)).map cNE)) :: (δ, .dead) :: S.L⟩ :=
 Xbw γ δ ((xs.map (·.1)).map cNE) hL hB (by simp) (by
  have := X9Y xs
  rw [List.map_map, List.map_map]; exact this)
theorem Uo (xs : List XN) (n : Int) : Xg ltI kRN (xs.map rXN) n = Xg ltI Nod.id (xs.map (·.1)) n := by
 unfold Xg
 induction xs with
 | nil => rfl
 | cons x xs ih =>
  simp only [List.map_cons, List.takeWhile_cons]
  have : ltI (kRN (rXN x)) n = ltI x.1.id n := rfl
  rw [this]
  split
  ·simp only [List.length_cons, ih]
  ·rfl
theorem Un (xs : List XN) (n : Int) : Xl kRN (xs.map rXN) n = Xl Nod.id (xs.map (·.1)) n := by
 unfold Xl
 rw [List.any_map, List.any_map]; rfl
theorem Uv (xs : List XN) : Y0 ltI kRN (xs.map rXN) ↔ Y0 ltI Nod.id (xs.map (·.1)) := by
 unfold Y0
 rw [List.pairwise_map, List.pairwise_map]; rfl
theorem X0P (xs : List XE) (n : Int) : Xg ltI kRE (xs.map rXE) n = Xg ltI Edg.id (xs.map (·.1)) n := by
 unfold Xg
 induction xs with
 | nil => rfl
 | cons x xs ih =>
  simp only [List.map_cons, List.takeWhile_cons]
  have : ltI (kRE (rXE x)) n = ltI x.1.id n := rfl
  rw [this]
  split
  ·simp only [List.length_cons, ih]
  ·rfl
theorem X0K (xs : List XE) (n : Int) : Xl kRE (xs.map rXE) n = Xl Edg.id (xs.map (·.1)) n := by
 unfold Xl
 rw [List.any_map, List.any_map]; rfl
theorem X0L (xs : List XE) : Y0 ltI kRE (xs.map rXE) ↔ Y0 ltI Edg.id (xs.map (·.1)) := by
 unfold Y0
 rw [List.pairwise_map, List.pairwise_map]; rfl
end Go.Fw
