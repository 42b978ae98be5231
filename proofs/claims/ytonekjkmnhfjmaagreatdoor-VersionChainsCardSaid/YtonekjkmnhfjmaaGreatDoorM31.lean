/- The editor's nests: nodes and edges with their headers. -/
import Derived.Test.YtonekjkmnhfjmaaGreatDoorM30
set_option maxHeartbeats 32000000
namespace Go.Fw
open Go
set_option linter.unusedVariables false
set_option linter.unusedSimpArgs false
abbrev U4 : Value := .slice none 0 0
def cNN (n : Nod) : List NC := [.d (.v (.int .i64 n.id)), .r 1 (n.labels.map Xb), .r 6 (n.props.map X6)]
def cNE (e : Edg) : List NC := [.d (.v (.int .i64 e.id)), .d (.v (.int .i64 e.src)), .d (.v (.int .i64 e.dst)), .d (.v (.string (X5 e.typ))), .r 6 (e.props.map X6)]
abbrev XN := Nod × Value × Value
abbrev XE := Edg × Value
def rXN (x : XN) : RN := (x.1.id, .v x.2.1, .v x.2.2)
def rXE (x : XE) : RE := (x.1.id, x.1.src, x.1.dst, x.1.typ, .v x.2)
def bXN (x : XN) : List Hd := [(x.2.1, 1, x.1.labels.map Xb), (x.2.2, 6, x.1.props.map X6)]
def bXE (x : XE) : List Hd := [(x.2, 6, x.1.props.map X6)]
def Xv (xs : List XN) : List Hd := (xs.map bXN).flatten
def XR (xs : List XE) : List Hd := (xs.map bXE).flatten
theorem X7F : ∀ xs : List XN, U2 ((xs.map fun x => cNN x.1).flatten) ((xs.map fun x => cRN (rXN x)).flatten) (Xv xs)
 | [] => trivial
 | x :: xs => by
  have ih := X7F xs
  simp only [Xv, List.map_cons, List.flatten_cons] at ih ⊢
  exact ⟨rfl, rfl, rfl, rfl, rfl, ih⟩
theorem X7N : ∀ xs : List XE, U2 ((xs.map fun x => cNE x.1).flatten) ((xs.map fun x => cRE (rXE x)).flatten) (XR xs)
 | [] => trivial
 | x :: xs => by
  have ih := X7N xs
  simp only [XR, List.map_cons, List.flatten_cons] at ih ⊢
  exact ⟨rfl, rfl, rfl, rfl, rfl, rfl, ih⟩
theorem X8A : ∀ (ns : List Nod) (rows : List (List D)) (hs : List Hd), rows.length = ns.length → (∀ x ∈ rows, x.length = 3) → U2 (ns.map cNN).flatten rows.flatten hs →
  ∃ xs : List XN, ns = xs.map (·.1) ∧ rows = (xs.map rXN).map cRN ∧ hs = Xv xs
 | [], [], hs, _, _, h => by
  cases hs with
  | nil => exact ⟨[], rfl, rfl, rfl⟩
  | cons k hs => exact h.elim
 | [], _ :: _, _, h, _, _ => by simp at h
 | _ :: _, [], _, h, _, _ => by simp at h
 | n :: ns, r :: rows, hs, hl, hz, h => by
  have h3 := hz r (by simp)
  match r, h3 with
  | [a, b, c], _ =>
   simp only [List.map_cons, List.flatten_cons, cNN, List.cons_append, List.nil_append] at h
   match hs, h with
   | [], h => simp [U2] at h
   | [_], h => simp [U2] at h
   | p :: q :: hs, h =>
    obtain ⟨rfl, rfl, hp, rfl, hq, h⟩ := h
    obtain ⟨xs, rfl, rfl, rfl⟩ := X8A ns rows hs (by simpa using hl) (fun x hx => hz x (by simp [hx])) h
    refine ⟨(n, p.1, q.1) :: xs, rfl, rfl, ?_⟩
    obtain ⟨p1, p2⟩ := p
    obtain ⟨q1, q2⟩ := q
    simp only at hp hq
    subst hp hq
    rfl
theorem X9w : ∀ (ns : List Edg) (rows : List (List D)) (hs : List Hd), rows.length = ns.length → (∀ x ∈ rows, x.length = 5) → U2 (ns.map cNE).flatten rows.flatten hs →
  ∃ xs : List XE, ns = xs.map (·.1) ∧ rows = (xs.map rXE).map cRE ∧ hs = XR xs
 | [], [], hs, _, _, h => by
  cases hs with
  | nil => exact ⟨[], rfl, rfl, rfl⟩
  | cons k hs => exact h.elim
 | [], _ :: _, _, h, _, _ => by simp at h
 | _ :: _, [], _, h, _, _ => by simp at h
 | n :: ns, r :: rows, hs, hl, hz, h => by
  have h3 := hz r (by simp)
  match r, h3 with
  | [a, b, c, d, e], _ =>
   simp only [List.map_cons, List.flatten_cons, cNE, List.cons_append, List.nil_append] at h
   match hs, h with
   | [], h => simp [U2] at h
   | p :: hs, h =>
    obtain ⟨rfl, rfl, rfl, rfl, rfl, hp, h⟩ := h
    obtain ⟨xs, rfl, rfl, rfl⟩ := X9w ns rows hs (by simpa using hl) (fun x hx => hz x (by simp [hx])) h
    refine ⟨(n, p.1) :: xs, rfl, rfl, ?_⟩
    obtain ⟨p1, p2⟩ := p
    simp only at hp
    subst hp
    rfl
theorem X1O (xs ys : List XN) : Xv (xs ++ ys) = Xv xs ++ Xv ys := by simp [Xv]
theorem X2v (xs ys : List XE) : XR (xs ++ ys) = XR xs ++ XR ys := by simp [XR]
theorem X6o (x : XN) (xs : List XN) : Xv (x :: xs) = (x.2.1, 1, x.1.labels.map Xb) :: (x.2.2, 6, x.1.props.map X6) :: Xv xs := rfl
theorem X9J (x : XE) (xs : List XE) : XR (x :: xs) = (x.2, 6, x.1.props.map X6) :: XR xs := rfl
abbrev edS (g : Gra) : List (Nat × AObj) := [(0, .box [.own 3 g.nodes.length, .own 4 g.edges.length, ai g.nn, ai g.ne]), (3, .nest 3 (g.nodes.map cNN)), (4, .nest 5 (g.edges.map cNE))]
abbrev edN (g : Gra) : List (Nat × AObj) := [(0, .box [.own 110 g.nodes.length, .own 4 g.edges.length, ai g.nn, ai g.ne]), (3, .dead), (4, .nest 5 (g.edges.map cNE)), (110, .nest 3 (g.nodes.map cNN))]
abbrev edE (g : Gra) : List (Nat × AObj) := [(0, .box [.own 3 g.nodes.length, .own 110 g.edges.length, ai g.nn, ai g.ne]), (3, .nest 3 (g.nodes.map cNN)), (4, .dead), (110, .nest 5 (g.edges.map cNE))]
section
variable {P : Program} {E : Env} {c : Code} {S : St} {Q : Exit → St → Prop}
theorem YY {ns : List Nod} {es : List Edg} (hN : S.obj 3 = .nest 3 (ns.map cNN)) (hE : S.obj 4 = .nest 5 (es.map cNE)) (h210 : S.obj 210 = .dead) (h211 : S.obj 211 = .dead)
  (h : ∀ (xs : List XN) (ys : List XE), ns = xs.map (·.1) → es = ys.map (·.1) → AWP P E c ⟨S.n, S.τ, (4, .row 5 ((ys.map rXE).map cRE)) :: (211, .bag (XR ys)) :: (3, .row 3 ((xs.map rXN).map cRN)) :: (210, .bag (Xv xs)) :: S.L⟩ Q) : AWP P E c S Q := by
 refine Xa5 3 210 hN h210 fun rows hs h1 h2 h3 => ?_
 obtain ⟨xs, rfl, rfl, rfl⟩ := X8A ns rows hs (by simpa using h1) h3 h2
 refine Xa5 4 211 (sz := 5) (xs := es.map cNE) ?_ ?_ fun rows2 hs2 k1 k2 k3 => ?_
 ·show Xa _ _ _ = _
  rw [XK _ _ _ (by decide), XK _ _ _ (by decide)]; exact hE
 ·show Xa _ _ _ = _
  rw [XK _ _ _ (by decide), XK _ _ _ (by decide)]; exact h211
 ·obtain ⟨ys, rfl, rfl, rfl⟩ := X9w es rows2 hs2 (by simpa using k1) k3 k2
  exact h xs ys rfl rfl
end
theorem X07 {S : St} (γ δ : Nat) (xs : List XN) (hL : S.obj γ = .row 3 ((xs.map rXN).map cRN)) (hB : S.obj δ = .bag (Xv xs)) : S.le ⟨S.n, S.τ, (γ, .nest 3 ((xs.map (·.1)).map cNN)) :: (δ, .dead) :: S.L⟩ :=
 X9N γ δ ((xs.map (·.1)).map cNN) hL hB (by simp) (by
  have := X7F xs
  rw [List.map_map, List.map_map]; exact this)
theorem X0u {S : St} (γ δ : Nat) (xs : List XE) (hL : S.obj γ = .row 5 ((xs.map rXE).map cRE)) (hB : S.obj δ = .bag (XR xs)) : S.le ⟨S.n, S.τ, (γ, .nest 5 ((xs.map (·.1)).map cNE)) :: (δ, .dead) :: S.L⟩ :=
 X9N γ δ ((xs.map (·.1)).map cNE) hL hB (by simp) (by
  have := X7N xs
  rw [List.map_map, List.map_map]; exact this)
theorem U9 (xs : List XN) (n : Int) : Xf ltI kRN (xs.map rXN) n = Xf ltI Nod.id (xs.map (·.1)) n := by
 unfold Xf
 induction xs with
 | nil => rfl
 | cons x xs ih =>
  simp only [List.map_cons, List.takeWhile_cons]
  have : ltI (kRN (rXN x)) n = ltI x.1.id n := rfl
  rw [this]
  split
  ·simp only [List.length_cons, ih]
  ·rfl
theorem U8 (xs : List XN) (n : Int) : Xn kRN (xs.map rXN) n = Xn Nod.id (xs.map (·.1)) n := by
 unfold Xn
 rw [List.any_map, List.any_map]; rfl
theorem Uh (xs : List XN) : Y0 ltI kRN (xs.map rXN) ↔ Y0 ltI Nod.id (xs.map (·.1)) := by
 unfold Y0
 rw [List.pairwise_map, List.pairwise_map]; rfl
theorem X0s (xs : List XE) (n : Int) : Xf ltI kRE (xs.map rXE) n = Xf ltI Edg.id (xs.map (·.1)) n := by
 unfold Xf
 induction xs with
 | nil => rfl
 | cons x xs ih =>
  simp only [List.map_cons, List.takeWhile_cons]
  have : ltI (kRE (rXE x)) n = ltI x.1.id n := rfl
  rw [this]
  split
  ·simp only [List.length_cons, ih]
  ·rfl
theorem X0i (xs : List XE) (n : Int) : Xn kRE (xs.map rXE) n = Xn Edg.id (xs.map (·.1)) n := by
 unfold Xn
 rw [List.any_map, List.any_map]; rfl
theorem X0c (xs : List XE) : Y0 ltI kRE (xs.map rXE) ↔ Y0 ltI Edg.id (xs.map (·.1)) := by
 unfold Y0
 rw [List.pairwise_map, List.pairwise_map]; rfl
open Go Go.Proofs
set_option maxRecDepth 100000
theorem X6l {α : Type} {xs : List α} {v : α} {i : Nat} (hi : i ≤ xs.length) : (xs.take i ++ v :: xs.drop i).length = xs.length + 1 := by rw [List.length_append, List.length_cons, List.length_take, List.length_drop]; omega
theorem X0v (rn : List RN) : ∀ x ∈ rn.map cRN, x.length = 3 := fun x hx => by obtain ⟨p, _, rfl⟩ := List.mem_map.1 hx; rfl
theorem X1q (re : List RE) : ∀ x ∈ re.map cRE, x.length = 5 := fun x hx => by obtain ⟨p, _, rfl⟩ := List.mem_map.1 hx; rfl
theorem Xga (g : Gra) (c : Chg) (hg : GV g) (hc : 1 ≤ c.id ∧ c.id ≤ 1000000) (ho : c.op = 1) (q1 : Xn Nod.id g.nodes c.id = false) (q2 : g.nodes.length < 2000) :
  Con Tryz.prog 167 (edS g) [.ptr 0 0, Xs c] (edN (U1 g ⟨c.id, [], []⟩)) (.tup []) := by
 obtain ⟨ns, es, nn, ne⟩ := g
 have hns := hg.ns
 have hnn := hg.nn
 simp only at q1 q2 hns hnn
 have e0 : U1 ⟨ns, es, nn, ne⟩ ⟨c.id, [], []⟩ = ⟨ns.take (Xf ltI Nod.id ns c.id) ++ [⟨c.id, [], []⟩] ++ ns.drop (Xf ltI Nod.id ns c.id), es, max nn (c.id + 1), ne⟩ := by
  unfold U1
  simp only
  rw [X28 q1]
 rw [e0]
 have hle := X3r (lt := ltI) (key := Nod.id) ns c.id
 refine Xc (xs := []) Tryz.func167 rfl Tryz.ntmps167 rfl rfl rfl (fun E => ?_)
 refine YY rfl rfl rfl rfl (fun xs ys h1 h2 => ?_)
 subst h1 h2
 have hN := Uc (xs.map rXN) (ys.map rXE) nn ne c.id (by simp at q2 ⊢; omega) ((Uh xs).2 hns)
 rw [U9, U8, q1] at hN
 simp only [edL, List.length_map] at hN q2 hle
 generalize Xf ltI Nod.id (xs.map (·.1)) c.id = i at *
 have hI : Con Tryz.prog 229 [(3, .row 3 ((xs.map rXN).map cRN))] [.own 3 ((xs.map rXN).map cRN).length, ai (i : Nat), .d (.sl 3 [[.v (.int .i64 c.id), .v (.slice none 0 0), .v (.slice none 0 0)]])] [(3, .dead), (110, .row 3 (((xs.map rXN).map cRN).take i ++ [.v (.int .i64 c.id), .v (.slice none 0 0), .v (.slice none 0 0)] :: ((xs.map rXN).map cRN).drop i))] (.own 110 (((xs.map rXN).map cRN).length + 1)) :=
  YE 1 3 (Xfd ((xs.map rXN).map cRN) i [.v (.int .i64 c.id), .v (.slice none 0 0), .v (.slice none 0 0)] (X0v _) rfl (by simp; omega) (by simp; omega))
 have hm7 := Yy 7
 have hm20 := Yy 20
 have eX : (xs.map (·.1)).take i ++ [⟨c.id, [], []⟩] ++ (xs.map (·.1)).drop i = (xs.take i ++ ((⟨c.id, [], []⟩ : Nod), U4, U4) :: xs.drop i).map (·.1) := by
  simp [List.map_take, List.map_drop]
 have eL : (xs.take i ++ ((⟨c.id, [], []⟩ : Nod), U4, U4) :: xs.drop i).length = xs.length + 1 := X6l hle
 have eR : ((xs.map rXN).map cRN).take i ++ [.v (.int .i64 c.id), .v (.slice none 0 0), .v (.slice none 0 0)] :: ((xs.map rXN).map cRN).drop i = ((xs.take i ++ ((⟨c.id, [], []⟩ : Nod), U4, U4) :: xs.drop i).map rXN).map cRN := by
  simp [List.map_take, List.map_drop, rXN, cRN]
 have eB : Xv (xs.take i) ++ (U4, 1, []) :: (U4, 6, []) :: Xv (xs.drop i) = Xv (xs.take i ++ ((⟨c.id, [], []⟩ : Nod), U4, U4) :: xs.drop i) := by rw [X1O, X6o]; rfl
 have eB0 : Xv xs = Xv (xs.take i) ++ Xv (xs.drop i) := by rw [← X1O, List.take_append_drop]
 rw [eX]
 have hlen2 : ((xs.map rXN).map cRN).length = xs.length := by simp
 rw [hlen2] at hI
 simp only [edN, edS, List.length_map, eL]
 have q2' : (((xs.map rXN).map cRN).length : Int) < 2000 := by rw [hlen2]; omega
 have hlen2' : xs.length = ((xs.map rXN).map cRN).length := hlen2.symm
 clear hg hns e0 eX eL
 generalize hR : (xs.map rXN).map cRN = R at *
 generalize hX : xs.take i ++ ((⟨c.id, [], []⟩ : Nod), U4, U4) :: xs.drop i = X at *
 obtain ⟨op, id, src, dst, name, ⟨k0, k1, k2, k3, k4⟩⟩ := c
 try simp only at *
 subst ho
 simp only [Xs, XY] at *
 refine QBf ?_; refine Zl ?_; refine QIa ?_; refine Zu ?_; refine Z9 (hcon := hm7) ?_; refine Qlf ?_; refine Qxf ?_; refine Z0c ?_; refine Z0v (op := .lss) (r' := .bool true) (u := .int .i64 (R.length : Nat)) (v := .int .i64 2000) ?_ (hr' := by exact congrArg Value.bool (decide_eq_true q2')); refine Z9 (hcon := hm20) ?_; refine Qlf ?_; refine Z1 ?_; refine Qxf ?_; refine QZa ?_; refine Zx ?_; refine Z5 ?_; refine Z9 (hcon := hI) ?_; refine Qwf ?_; refine QCf ?_; refine Qd ?_; refine Z1 ?_; refine Qxf ?_; refine QTa ?_; refine Zb ?_; refine Zz ?_; refine Qwf ?_; refine QCf ?_
 show AWP Tryz.prog E _ _ _
 refine Xm (X5s 210 6 (Xv (xs.take i)) (Xv (xs.drop i)) (by refine Eq.trans (b := .bag (Xv xs)) (by conv => lhs; whnf) (by rw [eB0]))) ?_; refine Xm (X5s 210 1 (Xv (xs.take i)) ((U4, 6, []) :: Xv (xs.drop i)) (by conv => lhs; whnf)) ?_; refine Xm (X07 110 210 X (by refine Eq.trans (b := .row 3 (R.take i ++ [.v (.int .i64 id), .v (.slice none 0 0), .v (.slice none 0 0)] :: R.drop i)) (by conv => lhs; whnf) (by rw [eR])) (by refine Eq.trans (b := .bag (Xv (xs.take i) ++ (U4, 1, []) :: (U4, 6, []) :: Xv (xs.drop i))) (by conv => lhs; whnf) (by rw [eB]))) ?_; refine Xm (X0u 4 211 ys (by conv => lhs; whnf) (by conv => lhs; whnf)) ?_
 (show AWP Tryz.prog E _ _ _; refine X1 ?_; exact (show Xd _ _ _ _ _ from ⟨_, St.le_refl _, trivial, XZ ⟨rfl, rfl, rfl, rfl, trivial⟩⟩))
theorem X3L {α : Type} {l : List α} {i : Nat} {x : α} (h : l[i]? = some x) : l = l.take i ++ x :: l.drop (i + 1) := by
 obtain ⟨hi, rfl⟩ := List.getElem?_eq_some_iff.1 h
 rw [← List.drop_eq_getElem_cons hi, List.take_append_drop]
theorem X6R {α : Type} {key : α → Int} {l : List α} {k : Int} (hs : Y0 ltI key l) (hh : Xn key l k = true) : ∃ x, l[Xf ltI key l k]? = some x ∧ key x = k := by
 rw [UC YB hs] at hh
 exact decide_eq_true_iff.1 hh
theorem X0p {P : Program} {rs : List ResultVar} {Lo : List (Nat × AObj)} {xs : List AVal} {T U : St} (h : T.le U) (k : Xd P rs Lo xs U) : Xd P rs Lo xs T :=
 ⟨k.choose, fun E a w hs => k.choose_spec.1 E a w (h E a w hs), k.choose_spec.2⟩
theorem Xfe (g : Gra) (c : Chg) (hg : GV g) (ho : c.op = 2) (q1 : Xn Nod.id g.nodes c.id = true) (q2 : UG g.edges c.id = false) :
  Con Tryz.prog 167 (edS g) [.ptr 0 0, Xs c] (edN { g with nodes := Yx Nod.id g.nodes c.id }) (.tup []) := by
 obtain ⟨ns, es, nn, ne⟩ := g
 have hns := hg.ns
 have hnl := hg.nl
 have hel := hg.el
 simp only at q1 q2 hns hnl hel
 obtain ⟨x0, hx0, hk0⟩ := X6R hns q1
 have e0 : Yx Nod.id ns c.id = ns.take (Xf ltI Nod.id ns c.id) ++ ns.drop (Xf ltI Nod.id ns c.id + 1) := X6y YB hns hx0 hk0
 simp only
 rw [e0]
 have hle : Xf ltI Nod.id ns c.id < ns.length := (List.getElem?_eq_some_iff.1 hx0).1
 refine Xc (xs := []) Tryz.func167 rfl Tryz.ntmps167 rfl rfl rfl (fun E => ?_)
 refine YY rfl rfl rfl rfl (fun xs ys h1 h2 => ?_)
 subst h1 h2
 have hN := Uc (xs.map rXN) (ys.map rXE) nn ne c.id (by simp at hnl ⊢; omega) ((Uh xs).2 hns)
 rw [U9, U8, q1] at hN
 simp only [edL, List.length_map] at hN hnl hle hel
 generalize Xf ltI Nod.id (xs.map (·.1)) c.id = i at *
 have hD : Con Tryz.prog 230 [(3, .row 3 ((xs.map rXN).map cRN))] [.own 3 ((xs.map rXN).map cRN).length, ai (i : Nat), ai ((i + 1 : Nat) : Int)] [(3, .dead), (110, .row 3 (((xs.map rXN).map cRN).take i ++ ((xs.map rXN).map cRN).drop (i + 1)))] (.own 110 (((xs.map rXN).map cRN).length - 1)) :=
  YE 1 3 (XdC ((xs.map rXN).map cRN) i (X0v _) (by simp; omega) (by simp; omega))
 have hm10 := Yy 10
 have hm12 := Yy 12
 have eX : (xs.map (·.1)).take i ++ (xs.map (·.1)).drop (i + 1) = (xs.take i ++ xs.drop (i + 1)).map (·.1) := by simp [List.map_take, List.map_drop]
 have eL : (xs.take i ++ xs.drop (i + 1)).length = xs.length - 1 := by rw [List.length_append, List.length_take, List.length_drop]; omega
 have eR : ((xs.map rXN).map cRN).take i ++ ((xs.map rXN).map cRN).drop (i + 1) = ((xs.take i ++ xs.drop (i + 1)).map rXN).map cRN := by simp [List.map_take, List.map_drop]
 obtain ⟨y0, hy0⟩ : ∃ y, xs[i]? = some y := ⟨_, List.getElem?_eq_getElem hle⟩
 have eB0 : Xv xs = Xv (xs.take i) ++ (y0.2.1, 1, y0.1.labels.map Xb) :: (y0.2.2, 6, y0.1.props.map X6) :: Xv (xs.drop (i + 1)) := by
  conv => lhs; rw [X3L hy0, X1O, X6o]
 have eB : Xv (xs.take i) ++ Xv (xs.drop (i + 1)) = Xv (xs.take i ++ xs.drop (i + 1)) := (X1O _ _).symm
 rw [eX]
 have hlen2 : ((xs.map rXN).map cRN).length = xs.length := by simp
 rw [hlen2] at hD
 simp only [edN, edS, List.length_map, eL]
 have hlen2' : xs.length = ((xs.map rXN).map cRN).length := hlen2.symm
 have hEl : ((ys.map rXE).map cRE).length = ys.length := by simp
 have hE5 := X1q (ys.map rXE)
 have hEk : ∀ k : Nat, k < ys.length → ∃ y : XE, ((ys.map rXE).map cRE)[k]? = some (cRE (rXE y)) ∧ y.1.src ≠ c.id ∧ y.1.dst ≠ c.id := by
  intro k hk
  refine ⟨ys[k], by simp [List.getElem?_map, List.getElem?_eq_getElem hk], ?_⟩
  unfold UG at q2
  have := (List.any_eq_false.1 q2) ys[k].1 (List.mem_map.2 ⟨ys[k], List.getElem_mem hk, rfl⟩)
  simpa using this
 clear hg hns e0 eX eL hx0 hk0 q1 q2 hy0
 generalize hR : (xs.map rXN).map cRN = R at *
 generalize hRE : (ys.map rXE).map cRE = RE' at *
 generalize hX : xs.take i ++ xs.drop (i + 1) = X at *
 obtain ⟨op, id, src, dst, name, ⟨k0, k1, k2, k3, k4⟩⟩ := c
 simp only at ho hEk
 subst ho
 simp only [Xs, XY] at *
 have hEl' : ys.length = RE'.length := hEl.symm
 refine QBf ?_; refine Qec ?_; refine Z9 (hcon := hm10) ?_; refine Qlf ?_; refine Qxf ?_; refine Z1 ?_; refine Z0d ?_; refine Qob ?_; refine QFb ?_; refine Qt ?_; refine Qxf ?_; refine Z0c ?_; refine Z1 ?_; refine QK ?_; refine Xz (fun k : Nat => k ≤ RE'.length) (fun k => ⟨183, [(0, .ptr 0 0), (3, .ptr 100 0), (4, ai (i : Nat)), (91, .own 4 ys.length), (92, ai RE'.length), (93, ai k)], [(0, .box [.own 3 xs.length, .own 4 ys.length, ai nn, ai ne]), (3, .row 3 R), (210, .bag (Xv xs)), (4, .row 5 RE'), (211, .bag (XR ys)), (100, .box [ai 2, ai id, ai src, ai dst, .d (.v (.string (X5 name))), ai k0, ai k1, ai k2, .d (.v (.string (X5 k3))), .d (.sl 5 (Xx k4))])]⟩) (fun k => RE'.length - k) 0 (Nat.zero_le _) (X7 rfl JM ⟨rfl, rfl, rfl, rfl, rfl, rfl, trivial⟩) ?_
 intro k hk
 by_cases hkl : k < RE'.length
 case pos =>
  have hkl' : (k : Int) < RE'.length := by omega
  obtain ⟨y, hy, n1, n2⟩ := hEk k (by omega)
  have hpart : (RE'.flatten.drop (k * 5)).take 5 = [.v (.int .i64 y.1.id), .v (.int .i64 y.1.src), .v (.int .i64 y.1.dst), .v (.string (X5 y.1.typ)), .v y.2] := by
   have := X47 hE5 hy (o := 0) (q := 5) (by omega)
   simpa [cRE, rXE] using this
  have hroom : k * 5 + 5 ≤ RE'.length * 5 := by omega
  refine QDf ?_; refine QCe ?_; refine QTa ?_; refine QEf ?_; refine Z0w (op := .neq) (r' := .bool true) (u := .int .i64 y.1.dst) (v := .int .i64 id) ?_ (hr' := by exact congrArg Value.bool (decide_eq_true n2)); refine Zn ?_; refine Z9 (hcon := hm12) ?_; refine JD ?_; refine QV ?_
  clear hEl hlen2 hD hR hRE hX eB0 eB eR hEk hE5
  exact ⟨k + 1, by omega, by omega, X7 rfl JM ⟨rfl, rfl, rfl, rfl, rfl, rfl, trivial⟩⟩
 have hkl' : ¬ (k : Int) < RE'.length := by omega
 clear hEl hlen2 hE5 hEk
 refine QM ?_; refine QKd ?_; refine Qxf ?_; refine Qf ?_; (refine Z7 (op := .add) (r' := .int .i64 ((i + 1 : Nat) : Int)) (u := .int .i64 (i : Nat)) (v := .int .i64 1) ?_ (hr := by exact Yk (by unfold Xw; omega))); refine Z9 (hcon := hD) ?_; refine Qwf ?_; refine QCf ?_
 show Xd _ _ _ _ _
 refine X0p (X74 210 (Xv (xs.take i)) ((y0.2.2, 6, y0.1.props.map X6) :: Xv (xs.drop (i + 1))) (y0.2.1, 1, y0.1.labels.map Xb) (by refine Eq.trans (b := .bag (Xv xs)) (by conv => lhs; whnf) (by rw [eB0]))) ?_; refine X0p (X74 210 (Xv (xs.take i)) (Xv (xs.drop (i + 1))) (y0.2.2, 6, y0.1.props.map X6) (by conv => lhs; whnf)) ?_; refine X0p (X07 110 210 X (by refine Eq.trans (b := .row 3 (R.take i ++ R.drop (i + 1))) (by conv => lhs; whnf) (by rw [eR])) (by refine Eq.trans (b := .bag (Xv (xs.take i) ++ Xv (xs.drop (i + 1)))) (by conv => lhs; whnf) (by rw [eB]))) ?_; refine X0p (X0u 4 211 ys (by refine Eq.trans (b := .row 5 RE') (by conv => lhs; whnf) (by rw [hRE])) (by conv => lhs; whnf)) ?_; exact QFf
theorem X6f {α : Type} {sz i o : Nat} {v : α} : ∀ {R : List (List α)} {q : Nat} {r : List α}, (∀ x ∈ R, x.length = sz) → R[q]? = some r → o < sz → (R.set q (r.set o v)).flatten = R.flatten.set (q * sz + o) v
 | [], q, r, _, h, _ => by simp at h
 | x :: R, 0, r, hz, h, ho => by
  simp only [List.length_cons, Nat.zero_lt_succ, List.getElem?_cons_zero, Option.some.injEq] at h
  subst h
  have := hz x (by simp)
  rw [List.set_cons_zero, List.flatten_cons, List.flatten_cons, Nat.zero_mul, Nat.zero_add, List.set_append_left _ _ (by omega)]
 | x :: R, q + 1, r, hz, h, ho => by
  have hx := hz x (by simp)
  rw [List.getElem?_cons_succ] at h
  have ih := X6f (v := v) (i := i) (fun y hy => hz y (by simp [hy])) h ho
  rw [List.set_cons_succ, List.flatten_cons, List.flatten_cons, ih, List.set_append_right _ _ (by rw [hx, Nat.add_mul]; omega), hx]
  congr 2
  rw [Nat.add_mul]; omega
theorem X49 {α : Type} {sz o : Nat} {d : α} : ∀ {R : List (List α)} {q : Nat} {r : List α}, (∀ x ∈ R, x.length = sz) → R[q]? = some r → r[o]? = some d → R.flatten[q * sz + o]? = some d
 | [], q, r, _, h, _ => by simp at h
 | x :: R, 0, r, hz, h, ho => by
  simp only [List.length_cons, Nat.zero_lt_succ, List.getElem?_cons_zero, Option.some.injEq] at h
  subst h
  rw [List.flatten_cons, Nat.zero_mul, Nat.zero_add, List.getElem?_append_left (List.getElem?_eq_some_iff.1 ho).1]; exact ho
 | x :: R, q + 1, r, hz, h, ho => by
  have hx := hz x (by simp)
  rw [List.getElem?_cons_succ] at h
  have ih := X49 (fun y hy => hz y (by simp [hy])) h ho
  rw [List.flatten_cons, List.getElem?_append_right (by rw [hx, Nat.add_mul]; omega), hx, ← ih]
  congr 1
  rw [Nat.add_mul]; omega
theorem X04 {sz o q : Nat} {d : D} {R : List (List D)} {r : List D} (T : List (Option D)) (hz : ∀ x ∈ R, x.length = sz) (hq : R[q]? = some r) (ho : r[o]? = some d) : (R.flatten.map some ++ T)[q * sz + o]? = some (some d) := by
 have h := X49 hz hq ho
 have hl : q * sz + o < R.flatten.length := (List.getElem?_eq_some_iff.1 h).1
 rw [List.getElem?_append_left (by rw [List.length_map]; exact hl), List.getElem?_map, h]; rfl
theorem X3T {sz o q n : Nat} {d : D} {R : List (List D)} {r : List D} (T : List (Option D)) (hz : ∀ x ∈ R, x.length = sz) (hq : R[q]? = some r) (ho : o < r.length) (hn : n = R.length) :
  ((R.flatten.map some ++ T).set (q * sz + o) (some d)).take (n * sz) = (R.set q (r.set o d)).flatten.map some := by
 have hr : r.length = sz := hz r (List.mem_of_getElem? hq)
 have h := X49 hz hq (List.getElem?_eq_getElem ho)
 have hl : q * sz + o < R.flatten.length := (List.getElem?_eq_some_iff.1 h).1
 have hfl : R.flatten.length = n * sz := by
  subst hn
  exact Eq.trans (by rw [← List.length_map (f := some)]) (Yc hz)
 rw [X6f (i := 0) hz hq (by omega), List.map_set, List.set_append_left _ _ (by rw [List.length_map]; exact hl), List.take_left' (by rw [List.length_set, List.length_map]; exact hfl)]
theorem V0 {sz k : Nat} {R : List (List D)} (hz : ∀ x ∈ R, x.length = sz) : (R.flatten.map some ++ List.replicate k (none : Option D)).length = R.length * sz + k := by
 rw [List.length_append, List.length_replicate]
 exact congrArg (· + k) (Yc hz)
theorem X0N {C : List (Option D)} {j : Nat} {y : AVal} (h : j < C.length) : (XA C (some (j, y)))[j]? = some y := by
 simp only [XA]
 rw [List.getElem?_set_self (by rw [List.length_map]; exact h)]
theorem Xbj {α : Type} {y z : α} : ∀ {l : List α} {j : Nat}, j < l.length → l.set j z = (l.set j y).take j ++ [z] ++ (l.set j y).drop (j + 1)
 | [], j, h => by simp at h
 | x :: l, 0, h => rfl
 | x :: l, j + 1, h => by
  have ih := Xbj (y := y) (z := z) (l := l) (j := j) (by simpa using h)
  rw [List.set_cons_succ, List.set_cons_succ, List.take_succ_cons, List.drop_succ_cons, List.cons_append, List.cons_append, ← ih]
theorem X2N {C : List (Option D)} {j : Nat} {y z : AVal} (h : j < C.length) : XA C (some (j, z)) = (XA C (some (j, y))).take j ++ [z] ++ (XA C (some (j, y))).drop (j + 1) :=
 Xbj (by rw [List.length_map]; exact h)
theorem X4W {α : Type} {n : α} : ∀ {l : List α} {i : Nat}, i < l.length → l.set i n = l.take i ++ [n] ++ l.drop (i + 1)
 | [], i, h => by simp at h
 | x :: l, 0, h => rfl
 | x :: l, i + 1, h => by
  rw [List.set_cons_succ, X4W (by simpa using h), List.take_succ_cons, List.drop_succ_cons]; rfl
theorem X7m {ns : List Nod} {es : List Edg} {nn ne : Int} {x n : Nod} {k : Int} (hg : GV ⟨ns, es, nn, ne⟩) (hx : ns[Xf ltI Nod.id ns k]? = some x) (hk : x.id = k) (hn : n.id = k) :
  U1 ⟨ns, es, nn, ne⟩ n = ⟨ns.set (Xf ltI Nod.id ns k) n, es, nn, ne⟩ := by
 have h1 := (hg.nodes x (List.mem_of_getElem? hx)).2.1
 simp only at h1
 have hlt := (List.getElem?_eq_some_iff.1 hx).1
 unfold U1
 simp only
 have hmax : max nn (n.id + 1) = nn := by omega
 subst hn
 rw [X2L YB hg.ns hx hk, hmax]
 simp only
 rw [X4W hlt]
theorem X0V {xs : List XN} {i : Nat} {y : XN} (h : xs[i]? = some y) : Xv xs = Xv (xs.take i) ++ (y.2.1, 1, y.1.labels.map Xb) :: (y.2.2, 6, y.1.props.map X6) :: Xv (xs.drop (i + 1)) := by
 conv => lhs; rw [X3L h, X1O, X6o]
theorem X5m {xs : List XN} {i : Nat} {y x : XN} (h : xs[i]? = some x) : Xv (xs.take i) ++ (y.2.1, 1, y.1.labels.map Xb) :: (y.2.2, 6, y.1.props.map X6) :: Xv (xs.drop (i + 1)) = Xv (xs.set i y) := by
 have hi := (List.getElem?_eq_some_iff.1 h).1
 have h2 : (xs.set i y)[i]? = some y := List.getElem?_set_self hi
 rw [X0V h2, List.take_set_of_le (Nat.le_refl i), List.drop_set_of_lt (by omega)]
theorem X5V {xs : List XN} {i : Nat} {x y : XN} (h : xs[i]? = some x) : ((xs.map rXN).map cRN).set i (cRN (rXN y)) = ((xs.set i y).map rXN).map cRN := by
 rw [List.map_set, List.map_set]
theorem XcF (g : Gra) (c : Chg) (x : Nod) (hg : GV g) (ho : c.op = 3) (hx : YJ g.nodes c.id = some x) (q1 : Xn XC x.labels c.name = false) (q2 : x.labels.length < 8) :
  Con Tryz.prog 167 (edS g) [.ptr 0 0, Xs c] (edN (U1 g ⟨x.id, Yh ltS XC x.labels c.name [c.name], x.props⟩)) (.tup []) := by
 have hxm := X0R hx
 rw [X1B hg] at hx
 obtain ⟨ns, es, nn, ne⟩ := g
 have hns := hg.ns
 have hnl := hg.nl
 have hlr := (hg.nodes x hxm.1).2.2.lr
 simp only at hx hns hnl
 obtain ⟨x', hx', hx2⟩ := Option.bind_eq_some_iff.1 hx
 obtain ⟨hk, rfl⟩ : x'.id = c.id ∧ x' = x := by by_cases e : x'.id = c.id <;> simp [e] at hx2 ⊢; exact hx2
 have q0 : Xn Nod.id ns c.id = true := by rw [UC YB hns]; exact decide_eq_true ⟨x', hx', hk⟩
 rw [X7m hg hx' hk (by exact hk)]
 rw [X28 q1]
 have hle : Xf ltI Nod.id ns c.id < ns.length := (List.getElem?_eq_some_iff.1 hx').1
 refine Xc (xs := []) Tryz.func167 rfl Tryz.ntmps167 rfl rfl rfl (fun E => ?_)
 refine X3F ?_
 refine YY rfl rfl rfl rfl (fun xs ys h1 h2 => ?_)
 subst h1 h2
 have hN := Uc (xs.map rXN) (ys.map rXE) nn ne c.id (by simp at hnl ⊢; omega) ((Uh xs).2 hns)
 rw [U9, U8, q0] at hN
 simp only [edL, List.length_map] at hN hnl hle
 generalize Xf ltI Nod.id (xs.map (·.1)) c.id = i at *
 obtain ⟨⟨x1, u, v⟩, hy0, rfl⟩ : ∃ y : XN, xs[i]? = some y ∧ y.1 = x' := by
  rw [List.getElem?_map] at hx'
  obtain ⟨y, e1, e2⟩ := Option.map_eq_some_iff.1 hx'
  exact ⟨y, e1, e2⟩
 simp only at *
 have hm10 := Yy 10
 have hm7 := Yy 7
 have hm20 := Yy 20
 have hS := X0O 121 (X3d x1.labels c.name (by omega) hlr)
 have hll : (x1.labels.map Xb).length = x1.labels.length := by simp
 have hal := X3r (lt := ltS) (key := XC) x1.labels c.name
 rw [q1, hll] at hS
 have hI := YE 110 122 (YE 1 121 (XeI (x1.labels.map Xb) (Xf ltS XC x1.labels c.name) [.v (.string (X5 c.name))] (fun x hx => by obtain ⟨p, _, rfl⟩ := List.mem_map.1 hx; rfl) rfl (by omega) (by omega)))
 rw [hll] at hI
 have hI : Con Tryz.prog 232 [(121, .row 1 (x1.labels.map Xb))] [.own 121 x1.labels.length, ai (Xf ltS XC x1.labels c.name : Nat), .d (.sl 1 [[.v (.string (X5 c.name))]])] [(121, .dead), (122, .row 1 ((x1.labels.map Xb).take (Xf ltS XC x1.labels c.name) ++ [.v (.string (X5 c.name))] :: (x1.labels.map Xb).drop (Xf ltS XC x1.labels c.name)))] (.own 122 (x1.labels.length + 1)) := hI
 have eI : (x1.labels.map Xb).take (Xf ltS XC x1.labels c.name) ++ [.v (.string (X5 c.name))] :: (x1.labels.map Xb).drop (Xf ltS XC x1.labels c.name) = (x1.labels.take (Xf ltS XC x1.labels c.name) ++ [c.name] ++ x1.labels.drop (Xf ltS XC x1.labels c.name)).map Xb := by
  simp [List.map_take, List.map_drop, Xb]
 rw [eI] at hI
 have eIl : (x1.labels.take (Xf ltS XC x1.labels c.name) ++ [c.name] ++ x1.labels.drop (Xf ltS XC x1.labels c.name)).length = x1.labels.length + 1 := by
  rw [List.append_assoc]; exact X6l hal
 generalize x1.labels.take (Xf ltS XC x1.labels c.name) ++ [c.name] ++ x1.labels.drop (Xf ltS XC x1.labels c.name) = ls' at *
 generalize Xf ltS XC x1.labels c.name = p at *
 have hq8 : ((x1.labels.map Xb).length : Int) < 8 := by rw [List.length_map]; omega
 have eR : ∀ u', ((xs.map rXN).map cRN).set i ([.v (.int .i64 x1.id), .v u', .v v]) = ((xs.set i ((⟨x1.id, ls', x1.props⟩ : Nod), u', v)).map rXN).map cRN := fun u' => X5V hy0 (y := ((⟨x1.id, ls', x1.props⟩ : Nod), u', v))
 have eB : ∀ u', Xv (xs.take i) ++ (u', 1, ls'.map Xb) :: (v, 6, x1.props.map X6) :: Xv (xs.drop (i + 1)) = Xv (xs.set i ((⟨x1.id, ls', x1.props⟩ : Nod), u', v)) := fun u' => X5m hy0 (y := ((⟨x1.id, ls', x1.props⟩ : Nod), u', v))
 have eB0 := X0V hy0
 simp only at eB0
 have eX : ∀ u', (xs.map (·.1)).set i ⟨x1.id, ls', x1.props⟩ = (xs.set i ((⟨x1.id, ls', x1.props⟩ : Nod), u', v)).map (·.1) := fun u' => by rw [List.map_set]
 have eXl : ∀ u' : Value, (xs.set i ((⟨x1.id, ls', x1.props⟩ : Nod), u', v)).length = xs.length := fun u' => by simp
 have hlen2 : xs.length = ((xs.map rXN).map cRN).length := by simp
 have hRi : ((xs.map rXN).map cRN)[i]? = some [.v (.int .i64 x1.id), .v u, .v v] := by
  rw [List.getElem?_map, List.getElem?_map, hy0]; rfl
 have hz3 := X0v (xs.map rXN)
 simp only [edN, edS, List.length_map]
 clear hg hns hx hx' hx2 hxm hlr q0 q1 hnl
 generalize hR : (xs.map rXN).map cRN = R at *
 have hlm : (x1.labels.map Xb).length = x1.labels.length := by simp
 generalize hnl : x1.labels.length = nl at *
 obtain ⟨op, id, src, dst, name, ⟨k0, k1, k2, k3, k4⟩⟩ := c
 simp only at ho
 subst ho
 simp only [Xs, XY] at *
 refine QGf ?_
 show AWP Tryz.prog E _ _ _
 refine VY 0 0 3 120 rfl (by omega) rfl rfl hlen2 rfl rfl (fun cp k hc1 hc2 hc3 _ => ?_)
 refine Xm (X0L 120 210 (i * 3 + 1) 121 rfl (X04 _ hz3 hRi rfl) (Eq.trans (b := .bag (Xv xs)) (by conv => lhs; whnf) (by rw [eB0])) rfl rfl) ?_
 rw [hlm]
 have hCl := V0 (k := k) hz3
 have hset := fun u' : Value => X3T (n := xs.length) (List.replicate k none) hz3 hRi (o := 1) (d := .v u') (by simp) hlen2
 simp only [List.set_cons_succ, List.set_cons_zero] at hset
 generalize List.map some R.flatten ++ List.replicate k none = C at *
 have hj : i * 3 + 1 < C.length := by omega
 have hrd := X0N (y := .own 121 nl) hj
 have hwr := X2N (y := .own 121 nl) (z := .own 122 (nl + 1)) hj
 have hiz : 0 + i * 3 + 1 = i * 3 + 1 := by omega
 have hrd0 := Eq.trans (congrArg (fun z => (XA C (some (_, .own 121 nl)))[z]?) hiz) hrd
 have hbd : 0 + i * 3 + 1 + 1 ≤ C.length := by omega
 have hRl : R.length = xs.length := hlen2.symm
 clear hlen2 hll hnl
 have hlm' := hlm.symm
 refine QHf ?_; refine QHb ?_; refine QJf ?_; refine Qed ?_; refine Zu ?_; refine Z9 (hcon := hm7) ?_; refine Qlf ?_; refine QIf ?_; refine Z0c ?_; refine Z0v (op := .lss) (r' := .bool true) (u := .int .i64 ((x1.labels.map Xb).length : Nat)) (v := .int .i64 8) ?_ (hr' := by exact congrArg Value.bool (decide_eq_true hq8)); refine Z9 (hcon := hm20) ?_; refine JD ?_; refine QKd ?_; refine QIf ?_; refine QZa ?_; refine Z5 ?_; refine Z9 (hcon := hI) ?_; refine Qwf ?_; (refine Z0u (cs' := C) (ho' := some (i * 3 + 1, .own 122 (nl + 1))) ?_ (hcs := ?hcs107); (case hcs107 => exact (by rw [hiz]; exact hwr))); refine JD ?_
 show clo _ _ _ _
 refine X4Z 120 210 (i * 3 + 1) 122 (Xv (xs.take i)) ((v, 6, x1.props.map X6) :: Xv (xs.drop (i + 1))) (by conv => lhs; whnf) hj (by conv => lhs; whnf) (by conv => lhs; whnf) (by rw [List.length_map, eIl]) (fun u' => ?_)
 have hcap : cp * 3 ≤ (C.set (i * 3 + 1) (some (.v u'))).length := by rw [List.length_set]; omega
 refine VA (X1V 0 0 120 110 (R.set i [.v (.int .i64 x1.id), .v u', .v v]) (by conv => lhs; whnf) (by conv => lhs; whnf) rfl (hset u') (by rw [List.length_set]; exact hRl) (fun y hy => by
  rcases List.mem_or_eq_of_mem_set hy with hy | rfl
  ·exact hz3 y hy
  ·rfl) (by omega) hc2 hcap rfl rfl) ?_
 refine VA (X07 110 210 (xs.set i ((⟨x1.id, ls', x1.props⟩ : Nod), u', v)) (by refine Eq.trans (b := .row 3 (R.set i [.v (.int .i64 x1.id), .v u', .v v])) (by conv => lhs; whnf) (by rw [eR])) (by refine Eq.trans (b := .bag (Xv (xs.take i) ++ (u', 1, ls'.map Xb) :: (v, 6, x1.props.map X6) :: Xv (xs.drop (i + 1)))) (by conv => lhs; whnf) (by rw [eB]))) ?_; refine VA (X0u 4 211 ys (by conv => lhs; whnf) (by conv => lhs; whnf)) ?_
 refine X3G (show Xd _ _ _ _ _ from ⟨_, St.le_refl _, trivial, ?_⟩)
 rw [eX u', List.length_map, List.length_set]
 exact XZ ⟨rfl, rfl, rfl, rfl, trivial⟩
theorem Xf2 (g : Gra) (c : Chg) (x : Nod) (hg : GV g) (ho : c.op = 4) (hx : YJ g.nodes c.id = some x) (q1 : Xn XC x.labels c.name = true) :
  Con Tryz.prog 167 (edS g) [.ptr 0 0, Xs c] (edN (U1 g ⟨x.id, Yx XC x.labels c.name, x.props⟩)) (.tup []) := by
 have hxm := X0R hx
 rw [X1B hg] at hx
 obtain ⟨ns, es, nn, ne⟩ := g
 have hns := hg.ns
 have hnl := hg.nl
 have hpv := (hg.nodes x hxm.1).2.2
 simp only at hx hns hnl
 obtain ⟨x', hx', hx2⟩ := Option.bind_eq_some_iff.1 hx
 obtain ⟨hk, rfl⟩ : x'.id = c.id ∧ x' = x := by by_cases e : x'.id = c.id <;> simp [e] at hx2 ⊢; exact hx2
 have q0 : Xn Nod.id ns c.id = true := by rw [UC YB hns]; exact decide_eq_true ⟨x', hx', hk⟩
 rw [X7m hg hx' hk (by exact hk)]
 have hle : Xf ltI Nod.id ns c.id < ns.length := (List.getElem?_eq_some_iff.1 hx').1
 refine Xc (xs := []) Tryz.func167 rfl Tryz.ntmps167 rfl rfl rfl (fun E => ?_)
 refine X3F ?_
 refine YY rfl rfl rfl rfl (fun xs ys h1 h2 => ?_)
 subst h1 h2
 have hN := Uc (xs.map rXN) (ys.map rXE) nn ne c.id (by simp at hnl ⊢; omega) ((Uh xs).2 hns)
 rw [U9, U8, q0] at hN
 simp only [edL, List.length_map] at hN hnl hle
 generalize Xf ltI Nod.id (xs.map (·.1)) c.id = i at *
 obtain ⟨⟨x1, u, v⟩, hy0, rfl⟩ : ∃ y : XN, xs[i]? = some y ∧ y.1 = x' := by
  rw [List.getElem?_map] at hx'
  obtain ⟨y, e1, e2⟩ := Option.map_eq_some_iff.1 hx'
  exact ⟨y, e1, e2⟩
 simp only at *
 have hm10 := Yy 10
 have hlr := hpv.lr
 have hl8 := hpv.ll
 have hm23 := Yy 23
 have hS := X0O 121 (X3d x1.labels c.name (by omega) hlr)
 have hll : (x1.labels.map Xb).length = x1.labels.length := by simp
 obtain ⟨z0, hz0, ez0⟩ : ∃ z, x1.labels[Xf ltS XC x1.labels c.name]? = some z ∧ XC z = c.name := by
  have h := q1
  rw [UC V6 hlr] at h
  exact decide_eq_true_iff.1 h
 have hal : Xf ltS XC x1.labels c.name < x1.labels.length := (List.getElem?_eq_some_iff.1 hz0).1
 rw [q1, hll] at hS
 rw [X6y V6 hlr hz0 ez0]
 have hI := YE 110 122 (YE 1 121 (Xdc (x1.labels.map Xb) (Xf ltS XC x1.labels c.name) (fun x hx => by obtain ⟨p, _, rfl⟩ := List.mem_map.1 hx; rfl) (by omega) (by omega)))
 rw [hll] at hI
 have hI : Con Tryz.prog 233 [(121, .row 1 (x1.labels.map Xb))] [.own 121 x1.labels.length, ai (Xf ltS XC x1.labels c.name : Nat), ai ((Xf ltS XC x1.labels c.name + 1 : Nat) : Int)] [(121, .dead), (122, .row 1 ((x1.labels.map Xb).take (Xf ltS XC x1.labels c.name) ++ (x1.labels.map Xb).drop (Xf ltS XC x1.labels c.name + 1)))] (.own 122 (x1.labels.length - 1)) := hI
 have eI : (x1.labels.map Xb).take (Xf ltS XC x1.labels c.name) ++ (x1.labels.map Xb).drop (Xf ltS XC x1.labels c.name + 1) = (x1.labels.take (Xf ltS XC x1.labels c.name) ++ x1.labels.drop (Xf ltS XC x1.labels c.name + 1)).map Xb := by
  simp [List.map_take, List.map_drop]
 rw [eI] at hI
 have eIl : (x1.labels.take (Xf ltS XC x1.labels c.name) ++ x1.labels.drop (Xf ltS XC x1.labels c.name + 1)).length = x1.labels.length - 1 := by
  rw [List.length_append, List.length_take, List.length_drop]; omega
 clear hz0 ez0 q1 eI hlr
 generalize x1.labels.take (Xf ltS XC x1.labels c.name) ++ x1.labels.drop (Xf ltS XC x1.labels c.name + 1) = ls' at *
 generalize Xf ltS XC x1.labels c.name = p at *
 have eR : ∀ u', ((xs.map rXN).map cRN).set i ([.v (.int .i64 x1.id), .v u', .v v]) = ((xs.set i ((⟨x1.id, ls', x1.props⟩ : Nod), u', v)).map rXN).map cRN := fun u' => X5V hy0 (y := ((⟨x1.id, ls', x1.props⟩ : Nod), u', v))
 have eB : ∀ u', Xv (xs.take i) ++ (u', 1, ls'.map Xb) :: (v, 6, x1.props.map X6) :: Xv (xs.drop (i + 1)) = Xv (xs.set i ((⟨x1.id, ls', x1.props⟩ : Nod), u', v)) := fun u' => X5m hy0 (y := ((⟨x1.id, ls', x1.props⟩ : Nod), u', v))
 have eB0 := X0V hy0
 simp only at eB0
 have eX : ∀ u', (xs.map (·.1)).set i ⟨x1.id, ls', x1.props⟩ = (xs.set i ((⟨x1.id, ls', x1.props⟩ : Nod), u', v)).map (·.1) := fun u' => by rw [List.map_set]
 have hlen2 : xs.length = ((xs.map rXN).map cRN).length := by simp
 have hRi : ((xs.map rXN).map cRN)[i]? = some [.v (.int .i64 x1.id), .v u, .v v] := by
  rw [List.getElem?_map, List.getElem?_map, hy0]; rfl
 have hz3 := X0v (xs.map rXN)
 simp only [edN, edS, List.length_map]
 clear hg hns hx hx' hx2 hxm hpv q0 hnl
 generalize hR : (xs.map rXN).map cRN = R at *
 have hlm : (x1.labels.map Xb).length = x1.labels.length := by simp
 generalize hnl : x1.labels.length = nl at *
 obtain ⟨op, id, src, dst, name, ⟨k0, k1, k2, k3, k4⟩⟩ := c
 simp only at ho
 subst ho
 simp only [Xs, XY, XG, UJ] at *
 refine QGf ?_
 show AWP Tryz.prog E _ _ _
 refine VY 0 0 3 120 rfl (by omega) rfl rfl hlen2 rfl rfl (fun cp k hc1 hc2 hc3 _ => ?_)
 refine QKf ?_
 rw [hlm]
 have hCl := V0 (k := k) hz3
 have hset := fun u' : Value => X3T (n := xs.length) (List.replicate k none) hz3 hRi (o := 1) (d := .v u') (by simp) hlen2
 simp only [List.set_cons_succ, List.set_cons_zero] at hset
 generalize List.map some R.flatten ++ List.replicate k none = C at *
 have hj : i * 3 + 1 < C.length := by omega
 have hrd := X0N (y := .own 121 nl) hj
 have hwr := X2N (y := .own 121 nl) (z := .own 122 (nl - 1)) hj
 have hiz : 0 + i * 3 + 1 = i * 3 + 1 := by omega
 have hrd0 := Eq.trans (congrArg (fun z => (XA C (some (_, .own 121 nl)))[z]?) hiz) hrd
 have hbd : 0 + i * 3 + 1 + 1 ≤ C.length := by omega
 have hRl : R.length = xs.length := hlen2.symm
 clear hlen2 hnl hll
 have hlm' := hlm.symm
 refine QHf ?_; refine QNb ?_; refine Qia ?_; refine QJf ?_; refine Qed ?_; refine Z9 (hcon := hm23) ?_; refine JD ?_; refine QKd ?_; refine QIf ?_; refine Qf ?_; (refine Z7 (op := .add) (r' := .int .i64 ((p + 1 : Nat) : Int)) (u := .int .i64 (p : Nat)) (v := .int .i64 1) ?_ (hr := by exact Yk (by unfold Xw; omega))); refine Z9 (hcon := hI) ?_; refine Qwf ?_; (refine Z0u (cs' := C) (ho' := some (i * 3 + 1, .own 122 (nl - 1))) ?_ (hcs := ?hcs109); (case hcs109 => exact (by rw [hiz]; exact hwr))); refine JD ?_
 show clo _ _ _ _
 refine X4Z 120 210 (i * 3 + 1) 122 (Xv (xs.take i)) ((v, 6, x1.props.map X6) :: Xv (xs.drop (i + 1))) (by conv => lhs; whnf) hj (by conv => lhs; whnf) (by conv => lhs; whnf) (by rw [List.length_map, eIl]) (fun u' => ?_)
 have hcap : cp * 3 ≤ (C.set (i * 3 + 1) (some (.v u'))).length := by rw [List.length_set]; omega
 refine VA (X1V 0 0 120 110 (R.set i ([.v (.int .i64 x1.id), .v u', .v v])) (by conv => lhs; whnf) (by conv => lhs; whnf) rfl (hset u') (by rw [List.length_set]; exact hRl) (fun y hy => by
  rcases List.mem_or_eq_of_mem_set hy with hy | rfl
  ·exact hz3 y hy
  ·rfl) (by omega) hc2 hcap rfl rfl) ?_
 refine VA (X07 110 210 (xs.set i ((⟨x1.id, ls', x1.props⟩ : Nod), u', v)) (by refine Eq.trans (b := .row 3 (R.set i ([.v (.int .i64 x1.id), .v u', .v v]))) (by conv => lhs; whnf) (by rw [eR])) (by refine Eq.trans (b := .bag (Xv (xs.take i) ++ (u', 1, ls'.map Xb) :: (v, 6, x1.props.map X6) :: Xv (xs.drop (i + 1)))) (by conv => lhs; whnf) (by rw [eB]))) ?_; refine VA (X0u 4 211 ys (by conv => lhs; whnf) (by conv => lhs; whnf)) ?_
 refine X3G (show Xd _ _ _ _ _ from ⟨_, St.le_refl _, trivial, ?_⟩)
 rw [eX u', List.length_map, List.length_set]
 exact XZ ⟨rfl, rfl, rfl, rfl, trivial⟩
theorem XeL (g : Gra) (c : Chg) (x : Nod) (hg : GV g) (ho : c.op = 5) (hx : YJ g.nodes c.id = some x) (q1 : (XV x.props c.name c.v).length ≤ 16) :
  Con Tryz.prog 167 (edS g) [.ptr 0 0, Xs c] (edN (U1 g ⟨x.id, x.labels, XV x.props c.name c.v⟩)) (.tup []) := by
 have hxm := X0R hx
 rw [X1B hg] at hx
 obtain ⟨ns, es, nn, ne⟩ := g
 have hns := hg.ns
 have hnl := hg.nl
 have hpv := (hg.nodes x hxm.1).2.2
 simp only at hx hns hnl
 obtain ⟨x', hx', hx2⟩ := Option.bind_eq_some_iff.1 hx
 obtain ⟨hk, rfl⟩ : x'.id = c.id ∧ x' = x := by by_cases e : x'.id = c.id <;> simp [e] at hx2 ⊢; exact hx2
 have q0 : Xn Nod.id ns c.id = true := by rw [UC YB hns]; exact decide_eq_true ⟨x', hx', hk⟩
 rw [X7m hg hx' hk (by exact hk)]
 have hle : Xf ltI Nod.id ns c.id < ns.length := (List.getElem?_eq_some_iff.1 hx').1
 refine Xc (xs := []) Tryz.func167 rfl Tryz.ntmps167 rfl rfl rfl (fun E => ?_)
 refine X3F ?_
 refine YY rfl rfl rfl rfl (fun xs ys h1 h2 => ?_)
 subst h1 h2
 have hN := Uc (xs.map rXN) (ys.map rXE) nn ne c.id (by simp at hnl ⊢; omega) ((Uh xs).2 hns)
 rw [U9, U8, q0] at hN
 simp only [edL, List.length_map] at hN hnl hle
 generalize Xf ltI Nod.id (xs.map (·.1)) c.id = i at *
 obtain ⟨⟨x1, u, v⟩, hy0, rfl⟩ : ∃ y : XN, xs[i]? = some y ∧ y.1 = x' := by
  rw [List.getElem?_map] at hx'
  obtain ⟨y, e1, e2⟩ := Option.map_eq_some_iff.1 hx'
  exact ⟨y, e1, e2⟩
 simp only at *
 have hm10 := Yy 10
 have hS := YE 110 122 (YE 1 121 (X9j x1.props c.name c.v hpv.pr hpv.pl q1))
 have hS : Con Tryz.prog 234 [(121, .row 6 (x1.props.map X6))] [.own 121 x1.props.length, .d (.v (.string (X5 c.name))), XG c.v] [(121, .dead), (122, .row 6 ((XV x1.props c.name c.v).map X6))] (.own 122 (XV x1.props c.name c.v).length) := by
  clear q1
  rcases c with ⟨_, _, _, _, _, ⟨_, _, _, _, _⟩⟩
  exact hS
 clear q1
 generalize XV x1.props c.name c.v = ps' at *
 have eR : ∀ u', ((xs.map rXN).map cRN).set i ([.v (.int .i64 x1.id), .v u, .v u']) = ((xs.set i ((⟨x1.id, x1.labels, ps'⟩ : Nod), u, u')).map rXN).map cRN := fun u' => X5V hy0 (y := ((⟨x1.id, x1.labels, ps'⟩ : Nod), u, u'))
 have eB : ∀ u', (Xv (xs.take i) ++ [(u, 1, x1.labels.map Xb)]) ++ (u', 6, ps'.map X6) :: Xv (xs.drop (i + 1)) = Xv (xs.set i ((⟨x1.id, x1.labels, ps'⟩ : Nod), u, u')) := fun u' => Eq.trans (by rw [List.append_assoc]; rfl) <| X5m hy0 (y := ((⟨x1.id, x1.labels, ps'⟩ : Nod), u, u'))
 have eB0 := X0V hy0
 simp only at eB0
 have eX : ∀ u', (xs.map (·.1)).set i ⟨x1.id, x1.labels, ps'⟩ = (xs.set i ((⟨x1.id, x1.labels, ps'⟩ : Nod), u, u')).map (·.1) := fun u' => by rw [List.map_set]
 have hlen2 : xs.length = ((xs.map rXN).map cRN).length := by simp
 have hRi : ((xs.map rXN).map cRN)[i]? = some [.v (.int .i64 x1.id), .v u, .v v] := by
  rw [List.getElem?_map, List.getElem?_map, hy0]; rfl
 have hz3 := X0v (xs.map rXN)
 simp only [edN, edS, List.length_map]
 clear hg hns hx hx' hx2 hxm hpv q0 hnl
 generalize hR : (xs.map rXN).map cRN = R at *
 have hlm : (x1.props.map X6).length = x1.props.length := by simp
 generalize hnl : x1.props.length = nl at *
 obtain ⟨op, id, src, dst, name, ⟨k0, k1, k2, k3, k4⟩⟩ := c
 simp only at ho
 subst ho
 simp only [Xs, XY, XG, UJ] at *
 refine QGf ?_
 show AWP Tryz.prog E _ _ _
 refine VY 0 0 3 120 rfl (by omega) rfl rfl hlen2 rfl rfl (fun cp k hc1 hc2 hc3 _ => ?_)
 refine QLf ?_
 rw [hlm]
 have hCl := V0 (k := k) hz3
 have hset := fun u' : Value => X3T (n := xs.length) (List.replicate k none) hz3 hRi (o := 2) (d := .v u') (by simp) hlen2
 simp only [List.set_cons_succ, List.set_cons_zero] at hset
 generalize List.map some R.flatten ++ List.replicate k none = C at *
 have hj : i * 3 + 2 < C.length := by omega
 have hrd := X0N (y := .own 121 nl) hj
 have hwr := X2N (y := .own 121 nl) (z := .own 122 (ps'.length)) hj
 have hiz : 0 + i * 3 + 2 = i * 3 + 2 := by omega
 have hrd0 := Eq.trans (congrArg (fun z => (XA C (some (_, .own 121 nl)))[z]?) hiz) hrd
 have hbd : 0 + i * 3 + 2 + 1 ≤ C.length := by omega
 have hRl : R.length = xs.length := hlen2.symm
 clear hlen2 hnl
 have hlm' := hlm.symm
 refine QHf ?_; refine QNb ?_; refine Qja ?_; refine QKd ?_; refine QIf ?_; refine QTa ?_; refine QRd ?_; refine Z9 (hcon := hS) ?_; refine Qwf ?_; (refine Z0u (cs' := C) (ho' := some (i * 3 + 2, .own 122 (ps'.length))) ?_ (hcs := ?hcs111); (case hcs111 => exact (by rw [hiz]; exact hwr))); refine JD ?_
 show clo _ _ _ _
 refine X4Z 120 210 (i * 3 + 2) 122 (Xv (xs.take i) ++ [(u, 1, x1.labels.map Xb)]) (Xv (xs.drop (i + 1))) (by conv => lhs; whnf) hj (by conv => lhs; whnf) (by conv => lhs; whnf) (by rw [List.length_map]) (fun u' => ?_)
 have hcap : cp * 3 ≤ (C.set (i * 3 + 2) (some (.v u'))).length := by rw [List.length_set]; omega
 refine VA (X1V 0 0 120 110 (R.set i ([.v (.int .i64 x1.id), .v u, .v u'])) (by conv => lhs; whnf) (by conv => lhs; whnf) rfl (hset u') (by rw [List.length_set]; exact hRl) (fun y hy => by
  rcases List.mem_or_eq_of_mem_set hy with hy | rfl
  ·exact hz3 y hy
  ·rfl) (by omega) hc2 hcap rfl rfl) ?_
 refine VA (X07 110 210 (xs.set i ((⟨x1.id, x1.labels, ps'⟩ : Nod), u, u')) (by refine Eq.trans (b := .row 3 (R.set i ([.v (.int .i64 x1.id), .v u, .v u']))) (by conv => lhs; whnf) (by rw [eR])) (by refine Eq.trans (b := .bag ((Xv (xs.take i) ++ [(u, 1, x1.labels.map Xb)]) ++ (u', 6, ps'.map X6) :: Xv (xs.drop (i + 1)))) (by conv => lhs; whnf) (by rw [eB]))) ?_; refine VA (X0u 4 211 ys (by conv => lhs; whnf) (by conv => lhs; whnf)) ?_
 refine X3G (show Xd _ _ _ _ _ from ⟨_, St.le_refl _, trivial, ?_⟩)
 rw [eX u', List.length_map, List.length_set]
 exact XZ ⟨rfl, rfl, rfl, rfl, trivial⟩
end Go.Fw
