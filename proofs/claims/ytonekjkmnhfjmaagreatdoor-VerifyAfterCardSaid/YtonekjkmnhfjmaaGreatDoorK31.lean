/- A node added. -/
import Derived.Test.YtonekjkmnhfjmaaGreatDoorK29
import Derived.Test.YtonekjkmnhfjmaaGreatDoorK30
set_option maxHeartbeats 32000000
namespace Go.Fw
open Go Go.Proofs
set_option maxRecDepth 100000
set_option linter.unusedVariables false
set_option linter.unusedSimpArgs false
theorem X6h {α : Type} {xs : List α} {v : α} {i : Nat} (hi : i ≤ xs.length) : (xs.take i ++ v :: xs.drop i).length = xs.length + 1 := by rw [List.length_append, List.length_cons, List.length_take, List.length_drop]; omega
theorem X0M (rn : List RN) : ∀ x ∈ rn.map cRN, x.length = 3 := fun x hx => by obtain ⟨p, _, rfl⟩ := List.mem_map.1 hx; rfl
theorem X1x (re : List RE) : ∀ x ∈ re.map cRE, x.length = 5 := fun x hx => by obtain ⟨p, _, rfl⟩ := List.mem_map.1 hx; rfl
theorem Xh6 (g : Gra) (c : Chg) (hg : GV g) (hc : 1 ≤ c.id ∧ c.id ≤ 1000000) (ho : c.op = 1) (q1 : Xl Nod.id g.nodes c.id = false) (q2 : g.nodes.length < 2000) :
  Con Tryz.prog 167 (edS g) [.ptr 0 0, Xu c] (edN (Ui g ⟨c.id, [], []⟩)) (.tup []) := by
 obtain ⟨ns, es, nn, ne⟩ := g
 have hns := hg.ns
 have hnn := hg.nn
 simp only at q1 q2 hns hnn
 have e0 : Ui ⟨ns, es, nn, ne⟩ ⟨c.id, [], []⟩ = ⟨ns.take (Xg ltI Nod.id ns c.id) ++ [⟨c.id, [], []⟩] ++ ns.drop (Xg ltI Nod.id ns c.id), es, max nn (c.id + 1), ne⟩ := by
  unfold Ui
  simp only
  rw [X2c q1]
 rw [e0]
 have hle := X3g (lt := ltI) (key := Nod.id) ns c.id
 refine Xc (xs := []) Tryz.func167 rfl Tryz.ntmps167 rfl rfl rfl (fun E => ?_)
 refine Ud rfl rfl rfl rfl (fun xs ys h1 h2 => ?_)
 subst h1 h2
 have hN := Up (xs.map rXN) (ys.map rXE) nn ne c.id (by simp at q2 ⊢; omega) ((Uv xs).2 hns)
 rw [Uo, Un, q1] at hN
 simp only [edL, List.length_map] at hN q2 hle
 generalize Xg ltI Nod.id (xs.map (·.1)) c.id = i at *
 have hI : Con Tryz.prog 229 [(3, .row 3 ((xs.map rXN).map cRN))] [.own 3 ((xs.map rXN).map cRN).length, ai (i : Nat), .d (.sl 3 [[.v (.int .i64 c.id), .v (.slice none 0 0), .v (.slice none 0 0)]])] [(3, .dead), (110, .row 3 (((xs.map rXN).map cRN).take i ++ [.v (.int .i64 c.id), .v (.slice none 0 0), .v (.slice none 0 0)] :: ((xs.map rXN).map cRN).drop i))] (.own 110 (((xs.map rXN).map cRN).length + 1)) :=
  YP 1 3 (Xid ((xs.map rXN).map cRN) i [.v (.int .i64 c.id), .v (.slice none 0 0), .v (.slice none 0 0)] (X0M _) rfl (by simp; omega) (by simp; omega))
 have hm7 := YJ 7
 have hm20 := YJ 20
 have eX : (xs.map (·.1)).take i ++ [⟨c.id, [], []⟩] ++ (xs.map (·.1)).drop i = (xs.take i ++ ((⟨c.id, [], []⟩ : Nod), Um, Um) :: xs.drop i).map (·.1) := by
  simp [List.map_take, List.map_drop]
 have eL : (xs.take i ++ ((⟨c.id, [], []⟩ : Nod), Um, Um) :: xs.drop i).length = xs.length + 1 := X6h hle
 have eR : ((xs.map rXN).map cRN).take i ++ [.v (.int .i64 c.id), .v (.slice none 0 0), .v (.slice none 0 0)] :: ((xs.map rXN).map cRN).drop i = ((xs.take i ++ ((⟨c.id, [], []⟩ : Nod), Um, Um) :: xs.drop i).map rXN).map cRN := by
  simp [List.map_take, List.map_drop, rXN, cRN]
 have eB : Xw (xs.take i) ++ (Um, 1, []) :: (Um, 6, []) :: Xw (xs.drop i) = Xw (xs.take i ++ ((⟨c.id, [], []⟩ : Nod), Um, Um) :: xs.drop i) := by rw [X2b, X5I]; rfl
 have eB0 : Xw xs = Xw (xs.take i) ++ Xw (xs.drop i) := by rw [← X2b, List.take_append_drop]
 rw [eX]
 have hlen2 : ((xs.map rXN).map cRN).length = xs.length := by simp
 rw [hlen2] at hI
 simp only [edN, edS, List.length_map, eL]
 have q2' : (((xs.map rXN).map cRN).length : Int) < 2000 := by rw [hlen2]; omega
 have hlen2' : xs.length = ((xs.map rXN).map cRN).length := hlen2.symm
 clear hg hns e0 eX eL
 generalize hR : (xs.map rXN).map cRN = R at *
 generalize hX : xs.take i ++ ((⟨c.id, [], []⟩ : Nod), Um, Um) :: xs.drop i = X at *
 obtain ⟨op, id, src, dst, name, ⟨k0, k1, k2, k3, k4⟩⟩ := c
 try simp only at *
 subst ho
 simp only [Xu, Y1] at *
 refine Qpg ?_; refine Qre ?_; refine Qv ?_; refine Zd ?_; refine Zr (hcon := hm7) ?_; refine Qg ?_; refine Qcg ?_; refine Z5 ?_; refine Z0k (op := .lss) (r' := .bool true) (u := .int .i64 (R.length : Nat)) (v := .int .i64 2000) ?_ (hr' := by exact congrArg Value.bool (decide_eq_true q2')); refine Zr (hcon := hm20) ?_; refine JD ?_; refine Qe ?_; refine Qcg ?_; refine QPb ?_; refine ZJ ?_; refine Zo ?_; refine Zr (hcon := hI) ?_; refine Qbg ?_; refine Qqg ?_; refine Qe ?_; refine Qbg ?_; refine Qke ?_; refine Zt ?_; refine ZL ?_; refine Qbg ?_; refine Qqg ?_
 show AWP Tryz.prog E _ _ _
 refine Xk (X7q 210 6 (Xw (xs.take i)) (Xw (xs.drop i)) (by refine Eq.trans (b := .bag (Xw xs)) (by conv => lhs; whnf) (by rw [eB0]))) ?_; refine Xk (X7q 210 1 (Xw (xs.take i)) ((Um, 6, []) :: Xw (xs.drop i)) (by conv => lhs; whnf)) ?_; refine Xk (X0D 110 210 X (by refine Eq.trans (b := .row 3 (R.take i ++ [.v (.int .i64 id), .v (.slice none 0 0), .v (.slice none 0 0)] :: R.drop i)) (by conv => lhs; whnf) (by rw [eR])) (by refine Eq.trans (b := .bag (Xw (xs.take i) ++ (Um, 1, []) :: (Um, 6, []) :: Xw (xs.drop i))) (by conv => lhs; whnf) (by rw [eB]))) ?_; refine Xk (X0A 4 211 ys (by conv => lhs; whnf) (by conv => lhs; whnf)) ?_
 (show AWP Tryz.prog E _ _ _; refine X1 ?_; exact (show Xd _ _ _ _ _ from ⟨_, St.le_refl _, trivial, XX ⟨rfl, rfl, rfl, rfl, trivial⟩⟩))
theorem X5n {α : Type} {l : List α} {i : Nat} {x : α} (h : l[i]? = some x) : l = l.take i ++ x :: l.drop (i + 1) := by
 obtain ⟨hi, rfl⟩ := List.getElem?_eq_some_iff.1 h
 rw [← List.drop_eq_getElem_cons hi, List.take_append_drop]
theorem X6J {α : Type} {key : α → Int} {l : List α} {k : Int} (hs : Y0 ltI key l) (hh : Xl key l k = true) : ∃ x, l[Xg ltI key l k]? = some x ∧ key x = k := by
 rw [V0 YM hs] at hh
 exact decide_eq_true_iff.1 hh
theorem X0r {P : Program} {rs : List ResultVar} {Lo : List (Nat × AObj)} {xs : List AVal} {T U : St} (h : T.le U) (k : Xd P rs Lo xs U) : Xd P rs Lo xs T :=
 ⟨k.choose, fun E a w hs => k.choose_spec.1 E a w (h E a w hs), k.choose_spec.2⟩
theorem XhU (g : Gra) (c : Chg) (hg : GV g) (ho : c.op = 2) (q1 : Xl Nod.id g.nodes c.id = true) (q2 : UQ g.edges c.id = false) :
  Con Tryz.prog 167 (edS g) [.ptr 0 0, Xu c] (edN { g with nodes := YH Nod.id g.nodes c.id }) (.tup []) := by
 obtain ⟨ns, es, nn, ne⟩ := g
 have hns := hg.ns
 have hnl := hg.nl
 have hel := hg.el
 simp only at q1 q2 hns hnl hel
 obtain ⟨x0, hx0, hk0⟩ := X6J hns q1
 have e0 : YH Nod.id ns c.id = ns.take (Xg ltI Nod.id ns c.id) ++ ns.drop (Xg ltI Nod.id ns c.id + 1) := X6l YM hns hx0 hk0
 simp only
 rw [e0]
 have hle : Xg ltI Nod.id ns c.id < ns.length := (List.getElem?_eq_some_iff.1 hx0).1
 refine Xc (xs := []) Tryz.func167 rfl Tryz.ntmps167 rfl rfl rfl (fun E => ?_)
 refine Ud rfl rfl rfl rfl (fun xs ys h1 h2 => ?_)
 subst h1 h2
 have hN := Up (xs.map rXN) (ys.map rXE) nn ne c.id (by simp at hnl ⊢; omega) ((Uv xs).2 hns)
 rw [Uo, Un, q1] at hN
 simp only [edL, List.length_map] at hN hnl hle hel
 generalize Xg ltI Nod.id (xs.map (·.1)) c.id = i at *
 have hD : Con Tryz.prog 230 [(3, .row 3 ((xs.map rXN).map cRN))] [.own 3 ((xs.map rXN).map cRN).length, ai (i : Nat), ai ((i + 1 : Nat) : Int)] [(3, .dead), (110, .row 3 (((xs.map rXN).map cRN).take i ++ ((xs.map rXN).map cRN).drop (i + 1)))] (.own 110 (((xs.map rXN).map cRN).length - 1)) :=
  YP 1 3 (XiF ((xs.map rXN).map cRN) i (X0M _) (by simp; omega) (by simp; omega))
 have hm10 := YJ 10
 have hm12 := YJ 12
 have eX : (xs.map (·.1)).take i ++ (xs.map (·.1)).drop (i + 1) = (xs.take i ++ xs.drop (i + 1)).map (·.1) := by simp [List.map_take, List.map_drop]
 have eL : (xs.take i ++ xs.drop (i + 1)).length = xs.length - 1 := by rw [List.length_append, List.length_take, List.length_drop]; omega
 have eR : ((xs.map rXN).map cRN).take i ++ ((xs.map rXN).map cRN).drop (i + 1) = ((xs.take i ++ xs.drop (i + 1)).map rXN).map cRN := by simp [List.map_take, List.map_drop]
 obtain ⟨y0, hy0⟩ : ∃ y, xs[i]? = some y := ⟨_, List.getElem?_eq_getElem hle⟩
 have eB0 : Xw xs = Xw (xs.take i) ++ (y0.2.1, 1, y0.1.labels.map Xa) :: (y0.2.2, 6, y0.1.props.map X7) :: Xw (xs.drop (i + 1)) := by
  conv => lhs; rw [X5n hy0, X2b, X5I]
 have eB : Xw (xs.take i) ++ Xw (xs.drop (i + 1)) = Xw (xs.take i ++ xs.drop (i + 1)) := (X2b _ _).symm
 rw [eX]
 have hlen2 : ((xs.map rXN).map cRN).length = xs.length := by simp
 rw [hlen2] at hD
 simp only [edN, edS, List.length_map, eL]
 have hlen2' : xs.length = ((xs.map rXN).map cRN).length := hlen2.symm
 have hEl : ((ys.map rXE).map cRE).length = ys.length := by simp
 have hE5 := X1x (ys.map rXE)
 have hEk : ∀ k : Nat, k < ys.length → ∃ y : XE, ((ys.map rXE).map cRE)[k]? = some (cRE (rXE y)) ∧ y.1.src ≠ c.id ∧ y.1.dst ≠ c.id := by
  intro k hk
  refine ⟨ys[k], by simp [List.getElem?_map, List.getElem?_eq_getElem hk], ?_⟩
  unfold UQ at q2
  have := (List.any_eq_false.1 q2) ys[k].1 (List.mem_map.2 ⟨ys[k], List.getElem_mem hk, rfl⟩)
  simpa using this
 clear hg hns e0 eX eL hx0 hk0 q1 q2 hy0
 generalize hR : (xs.map rXN).map cRN = R at *
 generalize hRE : (ys.map rXE).map cRE = RE' at *
 generalize hX : xs.take i ++ xs.drop (i + 1) = X at *
 obtain ⟨op, id, src, dst, name, ⟨k0, k1, k2, k3, k4⟩⟩ := c
 simp only at ho hEk
 subst ho
 simp only [Xu, Y1] at *
 have hEl' : ys.length = RE'.length := hEl.symm
 refine Qpg ?_; refine Qse ?_; refine Qd ?_; refine Zr (hcon := hm10) ?_; refine Qg ?_; refine Qcg ?_; refine Z1 ?_; refine Z0l ?_; refine Qb ?_; refine QJb ?_; refine Qzc ?_; refine Qh ?_; refine Qcg ?_; refine Z5 ?_; refine Qia ?_; refine Xz (fun k : Nat => k ≤ RE'.length) (fun k => ⟨183, [(0, .ptr 0 0), (3, .ptr 100 0), (4, ai (i : Nat)), (91, .own 4 ys.length), (92, ai RE'.length), (93, ai k)], [(0, .box [.own 3 xs.length, .own 4 ys.length, ai nn, ai ne]), (3, .row 3 R), (210, .bag (Xw xs)), (4, .row 5 RE'), (211, .bag (XM ys)), (100, .box [ai 2, ai id, ai src, ai dst, .d (.v (.string (X5 name))), ai k0, ai k1, ai k2, .d (.v (.string (X5 k3))), .d (.sl 5 (XG k4))])]⟩) (fun k => RE'.length - k) 0 (Nat.zero_le _) (X6 rfl JM ⟨rfl, rfl, rfl, rfl, rfl, rfl, trivial⟩) ?_
 intro k hk
 by_cases hkl : k < RE'.length
 case pos =>
  have hkl' : (k : Int) < RE'.length := by omega
  obtain ⟨y, hy, n1, n2⟩ := hEk k (by omega)
  have hpart : (RE'.flatten.drop (k * 5)).take 5 = [.v (.int .i64 y.1.id), .v (.int .i64 y.1.src), .v (.int .i64 y.1.dst), .v (.string (X5 y.1.typ)), .v y.2] := by
   have := X3S hE5 hy (o := 0) (q := 5) (by omega)
   simpa [cRE, rXE] using this
  have hroom : k * 5 + 5 ≤ RE'.length * 5 := by omega
  refine Qrg ?_; refine JR ?_; refine Qsg ?_; refine Z0n (op := .neq) (r' := .bool true) (u := .int .i64 y.1.dst) (v := .int .i64 id) ?_ (hr' := by exact congrArg Value.bool (decide_eq_true n2)); refine ZB ?_; refine Zr (hcon := hm12) ?_; refine JD ?_; refine Qsa ?_
  clear hEl hlen2 hD hR hRE hX eB0 eB eR hEk hE5
  exact ⟨k + 1, by omega, by omega, X6 rfl JM ⟨rfl, rfl, rfl, rfl, rfl, rfl, trivial⟩⟩
 have hkl' : ¬ (k : Int) < RE'.length := by omega
 clear hEl hlen2 hE5 hEk
 refine Qka ?_; refine Qz ?_; refine Qcg ?_; refine Qq ?_; (refine Zp (op := .add) (r' := .int .i64 ((i + 1 : Nat) : Int)) (u := .int .i64 (i : Nat)) (v := .int .i64 1) ?_ (hr := by exact Yk (by unfold Xv; omega))); refine Zr (hcon := hD) ?_; refine Qbg ?_; refine Qqg ?_
 show Xd _ _ _ _ _
 refine X0r (X6x 210 (Xw (xs.take i)) ((y0.2.2, 6, y0.1.props.map X7) :: Xw (xs.drop (i + 1))) (y0.2.1, 1, y0.1.labels.map Xa) (by refine Eq.trans (b := .bag (Xw xs)) (by conv => lhs; whnf) (by rw [eB0]))) ?_; refine X0r (X6x 210 (Xw (xs.take i)) (Xw (xs.drop (i + 1))) (y0.2.2, 6, y0.1.props.map X7) (by conv => lhs; whnf)) ?_; refine X0r (X0D 110 210 X (by refine Eq.trans (b := .row 3 (R.take i ++ R.drop (i + 1))) (by conv => lhs; whnf) (by rw [eR])) (by refine Eq.trans (b := .bag (Xw (xs.take i) ++ Xw (xs.drop (i + 1)))) (by conv => lhs; whnf) (by rw [eB]))) ?_; refine X0r (X0A 4 211 ys (by refine Eq.trans (b := .row 5 RE') (by conv => lhs; whnf) (by rw [hRE])) (by conv => lhs; whnf)) ?_; exact Qtg
theorem X7u {α : Type} {sz i o : Nat} {v : α} : ∀ {R : List (List α)} {q : Nat} {r : List α}, (∀ x ∈ R, x.length = sz) → R[q]? = some r → o < sz → (R.set q (r.set o v)).flatten = R.flatten.set (q * sz + o) v
 | [], q, r, _, h, _ => by simp at h
 | x :: R, 0, r, hz, h, ho => by
  simp only [List.length_cons, Nat.zero_lt_succ, List.getElem?_cons_zero, Option.some.injEq] at h
  subst h
  have := hz x (by simp)
  rw [List.set_cons_zero, List.flatten_cons, List.flatten_cons, Nat.zero_mul, Nat.zero_add, List.set_append_left _ _ (by omega)]
 | x :: R, q + 1, r, hz, h, ho => by
  have hx := hz x (by simp)
  rw [List.getElem?_cons_succ] at h
  have ih := X7u (v := v) (i := i) (fun y hy => hz y (by simp [hy])) h ho
  rw [List.set_cons_succ, List.flatten_cons, List.flatten_cons, ih, List.set_append_right _ _ (by rw [hx, Nat.add_mul]; omega), hx]
  congr 2
  rw [Nat.add_mul]; omega
theorem X4U {α : Type} {sz o : Nat} {d : α} : ∀ {R : List (List α)} {q : Nat} {r : List α}, (∀ x ∈ R, x.length = sz) → R[q]? = some r → r[o]? = some d → R.flatten[q * sz + o]? = some d
 | [], q, r, _, h, _ => by simp at h
 | x :: R, 0, r, hz, h, ho => by
  simp only [List.length_cons, Nat.zero_lt_succ, List.getElem?_cons_zero, Option.some.injEq] at h
  subst h
  rw [List.flatten_cons, Nat.zero_mul, Nat.zero_add, List.getElem?_append_left (List.getElem?_eq_some_iff.1 ho).1]; exact ho
 | x :: R, q + 1, r, hz, h, ho => by
  have hx := hz x (by simp)
  rw [List.getElem?_cons_succ] at h
  have ih := X4U (fun y hy => hz y (by simp [hy])) h ho
  rw [List.flatten_cons, List.getElem?_append_right (by rw [hx, Nat.add_mul]; omega), hx, ← ih]
  congr 1
  rw [Nat.add_mul]; omega
theorem X0l {sz o q : Nat} {d : D} {R : List (List D)} {r : List D} (T : List (Option D)) (hz : ∀ x ∈ R, x.length = sz) (hq : R[q]? = some r) (ho : r[o]? = some d) : (R.flatten.map some ++ T)[q * sz + o]? = some (some d) := by
 have h := X4U hz hq ho
 have hl : q * sz + o < R.flatten.length := (List.getElem?_eq_some_iff.1 h).1
 rw [List.getElem?_append_left (by rw [List.length_map]; exact hl), List.getElem?_map, h]; rfl
theorem X4a {sz o q n : Nat} {d : D} {R : List (List D)} {r : List D} (T : List (Option D)) (hz : ∀ x ∈ R, x.length = sz) (hq : R[q]? = some r) (ho : o < r.length) (hn : n = R.length) :
  ((R.flatten.map some ++ T).set (q * sz + o) (some d)).take (n * sz) = (R.set q (r.set o d)).flatten.map some := by
 have hr : r.length = sz := hz r (List.mem_of_getElem? hq)
 have h := X4U hz hq (List.getElem?_eq_getElem ho)
 have hl : q * sz + o < R.flatten.length := (List.getElem?_eq_some_iff.1 h).1
 have hfl : R.flatten.length = n * sz := by
  subst hn
  exact Eq.trans (by rw [← List.length_map (f := some)]) (Yl hz)
 rw [X7u (i := 0) hz hq (by omega), List.map_set, List.set_append_left _ _ (by rw [List.length_map]; exact hl), List.take_left' (by rw [List.length_set, List.length_map]; exact hfl)]
theorem Vu {sz k : Nat} {R : List (List D)} (hz : ∀ x ∈ R, x.length = sz) : (R.flatten.map some ++ List.replicate k (none : Option D)).length = R.length * sz + k := by
 rw [List.length_append, List.length_replicate]
 exact congrArg (· + k) (Yl hz)
theorem X0T {C : List (Option D)} {j : Nat} {y : AVal} (h : j < C.length) : (Xy C (some (j, y)))[j]? = some y := by
 simp only [Xy]
 rw [List.getElem?_set_self (by rw [List.length_map]; exact h)]
theorem Xax {α : Type} {y z : α} : ∀ {l : List α} {j : Nat}, j < l.length → l.set j z = (l.set j y).take j ++ [z] ++ (l.set j y).drop (j + 1)
 | [], j, h => by simp at h
 | x :: l, 0, h => rfl
 | x :: l, j + 1, h => by
  have ih := Xax (y := y) (z := z) (l := l) (j := j) (by simpa using h)
  rw [List.set_cons_succ, List.set_cons_succ, List.take_succ_cons, List.drop_succ_cons, List.cons_append, List.cons_append, ← ih]
theorem X2X {C : List (Option D)} {j : Nat} {y z : AVal} (h : j < C.length) : Xy C (some (j, z)) = (Xy C (some (j, y))).take j ++ [z] ++ (Xy C (some (j, y))).drop (j + 1) :=
 Xax (by rw [List.length_map]; exact h)
theorem X4C {α : Type} {n : α} : ∀ {l : List α} {i : Nat}, i < l.length → l.set i n = l.take i ++ [n] ++ l.drop (i + 1)
 | [], i, h => by simp at h
 | x :: l, 0, h => rfl
 | x :: l, i + 1, h => by
  rw [List.set_cons_succ, X4C (by simpa using h), List.take_succ_cons, List.drop_succ_cons]; rfl
theorem X65 {ns : List Nod} {es : List Edg} {nn ne : Int} {x n : Nod} {k : Int} (hg : GV ⟨ns, es, nn, ne⟩) (hx : ns[Xg ltI Nod.id ns k]? = some x) (hk : x.id = k) (hn : n.id = k) :
  Ui ⟨ns, es, nn, ne⟩ n = ⟨ns.set (Xg ltI Nod.id ns k) n, es, nn, ne⟩ := by
 have h1 := (hg.nodes x (List.mem_of_getElem? hx)).2.1
 simp only at h1
 have hlt := (List.getElem?_eq_some_iff.1 hx).1
 unfold Ui
 simp only
 have hmax : max nn (n.id + 1) = nn := by omega
 subst hn
 rw [X3x YM hg.ns hx hk, hmax]
 simp only
 rw [X4C hlt]
theorem X1h {xs : List XN} {i : Nat} {y : XN} (h : xs[i]? = some y) : Xw xs = Xw (xs.take i) ++ (y.2.1, 1, y.1.labels.map Xa) :: (y.2.2, 6, y.1.props.map X7) :: Xw (xs.drop (i + 1)) := by
 conv => lhs; rw [X5n h, X2b, X5I]
theorem X5F {xs : List XN} {i : Nat} {y x : XN} (h : xs[i]? = some x) : Xw (xs.take i) ++ (y.2.1, 1, y.1.labels.map Xa) :: (y.2.2, 6, y.1.props.map X7) :: Xw (xs.drop (i + 1)) = Xw (xs.set i y) := by
 have hi := (List.getElem?_eq_some_iff.1 h).1
 have h2 : (xs.set i y)[i]? = some y := List.getElem?_set_self hi
 rw [X1h h2, List.take_set_of_le (Nat.le_refl i), List.drop_set_of_lt (by omega)]
theorem X6A {xs : List XN} {i : Nat} {x y : XN} (h : xs[i]? = some x) : ((xs.map rXN).map cRN).set i (cRN (rXN y)) = ((xs.set i y).map rXN).map cRN := by
 rw [List.map_set, List.map_set]
theorem Xcf (g : Gra) (c : Chg) (x : Nod) (hg : GV g) (ho : c.op = 3) (hx : YS g.nodes c.id = some x) (q1 : Xl XB x.labels c.name = false) (q2 : x.labels.length < 8) :
  Con Tryz.prog 167 (edS g) [.ptr 0 0, Xu c] (edN (Ui g ⟨x.id, Yp ltS XB x.labels c.name [c.name], x.props⟩)) (.tup []) := by
 have hxm := X0X hx
 rw [X23 hg] at hx
 obtain ⟨ns, es, nn, ne⟩ := g
 have hns := hg.ns
 have hnl := hg.nl
 have hlr := (hg.nodes x hxm.1).2.2.lr
 simp only at hx hns hnl
 obtain ⟨x', hx', hx2⟩ := Option.bind_eq_some_iff.1 hx
 obtain ⟨hk, rfl⟩ : x'.id = c.id ∧ x' = x := by by_cases e : x'.id = c.id <;> simp [e] at hx2 ⊢; exact hx2
 have q0 : Xl Nod.id ns c.id = true := by rw [V0 YM hns]; exact decide_eq_true ⟨x', hx', hk⟩
 rw [X65 hg hx' hk (by exact hk)]
 rw [X2c q1]
 have hle : Xg ltI Nod.id ns c.id < ns.length := (List.getElem?_eq_some_iff.1 hx').1
 refine Xc (xs := []) Tryz.func167 rfl Tryz.ntmps167 rfl rfl rfl (fun E => ?_)
 refine X4V ?_
 refine Ud rfl rfl rfl rfl (fun xs ys h1 h2 => ?_)
 subst h1 h2
 have hN := Up (xs.map rXN) (ys.map rXE) nn ne c.id (by simp at hnl ⊢; omega) ((Uv xs).2 hns)
 rw [Uo, Un, q0] at hN
 simp only [edL, List.length_map] at hN hnl hle
 generalize Xg ltI Nod.id (xs.map (·.1)) c.id = i at *
 obtain ⟨⟨x1, u, v⟩, hy0, rfl⟩ : ∃ y : XN, xs[i]? = some y ∧ y.1 = x' := by
  rw [List.getElem?_map] at hx'
  obtain ⟨y, e1, e2⟩ := Option.map_eq_some_iff.1 hx'
  exact ⟨y, e1, e2⟩
 simp only at *
 have hm10 := YJ 10
 have hm7 := YJ 7
 have hm20 := YJ 20
 have hS := X0R 121 (X33 x1.labels c.name (by omega) hlr)
 have hll : (x1.labels.map Xa).length = x1.labels.length := by simp
 have hal := X3g (lt := ltS) (key := XB) x1.labels c.name
 rw [q1, hll] at hS
 have hI := YP 110 122 (YP 1 121 (Xdf (x1.labels.map Xa) (Xg ltS XB x1.labels c.name) [.v (.string (X5 c.name))] (fun x hx => by obtain ⟨p, _, rfl⟩ := List.mem_map.1 hx; rfl) rfl (by omega) (by omega)))
 rw [hll] at hI
 have hI : Con Tryz.prog 232 [(121, .row 1 (x1.labels.map Xa))] [.own 121 x1.labels.length, ai (Xg ltS XB x1.labels c.name : Nat), .d (.sl 1 [[.v (.string (X5 c.name))]])] [(121, .dead), (122, .row 1 ((x1.labels.map Xa).take (Xg ltS XB x1.labels c.name) ++ [.v (.string (X5 c.name))] :: (x1.labels.map Xa).drop (Xg ltS XB x1.labels c.name)))] (.own 122 (x1.labels.length + 1)) := hI
 have eI : (x1.labels.map Xa).take (Xg ltS XB x1.labels c.name) ++ [.v (.string (X5 c.name))] :: (x1.labels.map Xa).drop (Xg ltS XB x1.labels c.name) = (x1.labels.take (Xg ltS XB x1.labels c.name) ++ [c.name] ++ x1.labels.drop (Xg ltS XB x1.labels c.name)).map Xa := by
  simp [List.map_take, List.map_drop, Xa]
 rw [eI] at hI
 have eIl : (x1.labels.take (Xg ltS XB x1.labels c.name) ++ [c.name] ++ x1.labels.drop (Xg ltS XB x1.labels c.name)).length = x1.labels.length + 1 := by
  rw [List.append_assoc]; exact X6h hal
 generalize x1.labels.take (Xg ltS XB x1.labels c.name) ++ [c.name] ++ x1.labels.drop (Xg ltS XB x1.labels c.name) = ls' at *
 generalize Xg ltS XB x1.labels c.name = p at *
 have hq8 : ((x1.labels.map Xa).length : Int) < 8 := by rw [List.length_map]; omega
 have eR : ∀ u', ((xs.map rXN).map cRN).set i ([.v (.int .i64 x1.id), .v u', .v v]) = ((xs.set i ((⟨x1.id, ls', x1.props⟩ : Nod), u', v)).map rXN).map cRN := fun u' => X6A hy0 (y := ((⟨x1.id, ls', x1.props⟩ : Nod), u', v))
 have eB : ∀ u', Xw (xs.take i) ++ (u', 1, ls'.map Xa) :: (v, 6, x1.props.map X7) :: Xw (xs.drop (i + 1)) = Xw (xs.set i ((⟨x1.id, ls', x1.props⟩ : Nod), u', v)) := fun u' => X5F hy0 (y := ((⟨x1.id, ls', x1.props⟩ : Nod), u', v))
 have eB0 := X1h hy0
 simp only at eB0
 have eX : ∀ u', (xs.map (·.1)).set i ⟨x1.id, ls', x1.props⟩ = (xs.set i ((⟨x1.id, ls', x1.props⟩ : Nod), u', v)).map (·.1) := fun u' => by rw [List.map_set]
 have eXl : ∀ u' : Value, (xs.set i ((⟨x1.id, ls', x1.props⟩ : Nod), u', v)).length = xs.length := fun u' => by simp
 have hlen2 : xs.length = ((xs.map rXN).map cRN).length := by simp
 have hRi : ((xs.map rXN).map cRN)[i]? = some [.v (.int .i64 x1.id), .v u, .v v] := by
  rw [List.getElem?_map, List.getElem?_map, hy0]; rfl
 have hz3 := X0M (xs.map rXN)
 simp only [edN, edS, List.length_map]
 clear hg hns hx hx' hx2 hxm hlr q0 q1 hnl
 generalize hR : (xs.map rXN).map cRN = R at *
 have hlm : (x1.labels.map Xa).length = x1.labels.length := by simp
 generalize hnl : x1.labels.length = nl at *
 obtain ⟨op, id, src, dst, name, ⟨k0, k1, k2, k3, k4⟩⟩ := c
 simp only at ho
 subst ho
 simp only [Xu, Y1] at *
 refine Qug ?_
 show AWP Tryz.prog E _ _ _
 refine X0c 0 0 3 120 rfl (by omega) rfl rfl hlen2 rfl rfl (fun cp k hc1 hc2 hc3 _ => ?_)
 refine Xk (X17 120 210 (i * 3 + 1) 121 rfl (X0l _ hz3 hRi rfl) (Eq.trans (b := .bag (Xw xs)) (by conv => lhs; whnf) (by rw [eB0])) rfl rfl) ?_
 rw [hlm]
 have hCl := Vu (k := k) hz3
 have hset := fun u' : Value => X4a (n := xs.length) (List.replicate k none) hz3 hRi (o := 1) (d := .v u') (by simp) hlen2
 simp only [List.set_cons_succ, List.set_cons_zero] at hset
 generalize List.map some R.flatten ++ List.replicate k none = C at *
 have hj : i * 3 + 1 < C.length := by omega
 have hrd := X0T (y := .own 121 nl) hj
 have hwr := X2X (y := .own 121 nl) (z := .own 122 (nl + 1)) hj
 have hiz : 0 + i * 3 + 1 = i * 3 + 1 := by omega
 have hrd0 := Eq.trans (congrArg (fun z => (Xy C (some (_, .own 121 nl)))[z]?) hiz) hrd
 have hbd : 0 + i * 3 + 1 + 1 ≤ C.length := by omega
 have hRl : R.length = xs.length := hlen2.symm
 clear hlen2 hll hnl
 have hlm' := hlm.symm
 refine Qvg ?_; refine QBc ?_; refine Qxg ?_; refine Qfe ?_; refine Zd ?_; refine Zr (hcon := hm7) ?_; refine Qg ?_; refine Qwg ?_; refine Z5 ?_; refine Z0k (op := .lss) (r' := .bool true) (u := .int .i64 ((x1.labels.map Xa).length : Nat)) (v := .int .i64 8) ?_ (hr' := by exact congrArg Value.bool (decide_eq_true hq8)); refine Zr (hcon := hm20) ?_; refine JD ?_; refine Qz ?_; refine Qwg ?_; refine QPb ?_; refine Zo ?_; refine Zr (hcon := hI) ?_; refine Qbg ?_; (refine Z0j (cs' := C) (ho' := some (i * 3 + 1, .own 122 (nl + 1))) ?_ (hcs := ?hcs107); (case hcs107 => exact (by rw [hiz]; exact hwr))); refine JD ?_
 show clo _ _ _ _
 refine X3L 120 210 (i * 3 + 1) 122 (Xw (xs.take i)) ((v, 6, x1.props.map X7) :: Xw (xs.drop (i + 1))) (by conv => lhs; whnf) hj (by conv => lhs; whnf) (by conv => lhs; whnf) (by rw [List.length_map, eIl]) (fun u' => ?_)
 have hcap : cp * 3 ≤ (C.set (i * 3 + 1) (some (.v u'))).length := by rw [List.length_set]; omega
 refine VR (X2a 0 0 120 110 (R.set i [.v (.int .i64 x1.id), .v u', .v v]) (by conv => lhs; whnf) (by conv => lhs; whnf) rfl (hset u') (by rw [List.length_set]; exact hRl) (fun y hy => by
  rcases List.mem_or_eq_of_mem_set hy with hy | rfl
  ·exact hz3 y hy
  ·rfl) (by omega) hc2 hcap rfl rfl) ?_
 refine VR (X0D 110 210 (xs.set i ((⟨x1.id, ls', x1.props⟩ : Nod), u', v)) (by refine Eq.trans (b := .row 3 (R.set i [.v (.int .i64 x1.id), .v u', .v v])) (by conv => lhs; whnf) (by rw [eR])) (by refine Eq.trans (b := .bag (Xw (xs.take i) ++ (u', 1, ls'.map Xa) :: (v, 6, x1.props.map X7) :: Xw (xs.drop (i + 1)))) (by conv => lhs; whnf) (by rw [eB]))) ?_; refine VR (X0A 4 211 ys (by conv => lhs; whnf) (by conv => lhs; whnf)) ?_
 refine X59 (show Xd _ _ _ _ _ from ⟨_, St.le_refl _, trivial, ?_⟩)
 rw [eX u', List.length_map, List.length_set]
 exact XX ⟨rfl, rfl, rfl, rfl, trivial⟩
theorem XhA (g : Gra) (c : Chg) (x : Nod) (hg : GV g) (ho : c.op = 4) (hx : YS g.nodes c.id = some x) (q1 : Xl XB x.labels c.name = true) :
  Con Tryz.prog 167 (edS g) [.ptr 0 0, Xu c] (edN (Ui g ⟨x.id, YH XB x.labels c.name, x.props⟩)) (.tup []) := by
 have hxm := X0X hx
 rw [X23 hg] at hx
 obtain ⟨ns, es, nn, ne⟩ := g
 have hns := hg.ns
 have hnl := hg.nl
 have hpv := (hg.nodes x hxm.1).2.2
 simp only at hx hns hnl
 obtain ⟨x', hx', hx2⟩ := Option.bind_eq_some_iff.1 hx
 obtain ⟨hk, rfl⟩ : x'.id = c.id ∧ x' = x := by by_cases e : x'.id = c.id <;> simp [e] at hx2 ⊢; exact hx2
 have q0 : Xl Nod.id ns c.id = true := by rw [V0 YM hns]; exact decide_eq_true ⟨x', hx', hk⟩
 rw [X65 hg hx' hk (by exact hk)]
 have hle : Xg ltI Nod.id ns c.id < ns.length := (List.getElem?_eq_some_iff.1 hx').1
 refine Xc (xs := []) Tryz.func167 rfl Tryz.ntmps167 rfl rfl rfl (fun E => ?_)
 refine X4V ?_
 refine Ud rfl rfl rfl rfl (fun xs ys h1 h2 => ?_)
 subst h1 h2
 have hN := Up (xs.map rXN) (ys.map rXE) nn ne c.id (by simp at hnl ⊢; omega) ((Uv xs).2 hns)
 rw [Uo, Un, q0] at hN
 simp only [edL, List.length_map] at hN hnl hle
 generalize Xg ltI Nod.id (xs.map (·.1)) c.id = i at *
 obtain ⟨⟨x1, u, v⟩, hy0, rfl⟩ : ∃ y : XN, xs[i]? = some y ∧ y.1 = x' := by
  rw [List.getElem?_map] at hx'
  obtain ⟨y, e1, e2⟩ := Option.map_eq_some_iff.1 hx'
  exact ⟨y, e1, e2⟩
 simp only at *
 have hm10 := YJ 10
 have hlr := hpv.lr
 have hl8 := hpv.ll
 have hm23 := YJ 23
 have hS := X0R 121 (X33 x1.labels c.name (by omega) hlr)
 have hll : (x1.labels.map Xa).length = x1.labels.length := by simp
 obtain ⟨z0, hz0, ez0⟩ : ∃ z, x1.labels[Xg ltS XB x1.labels c.name]? = some z ∧ XB z = c.name := by
  have h := q1
  rw [V0 Vo hlr] at h
  exact decide_eq_true_iff.1 h
 have hal : Xg ltS XB x1.labels c.name < x1.labels.length := (List.getElem?_eq_some_iff.1 hz0).1
 rw [q1, hll] at hS
 rw [X6l Vo hlr hz0 ez0]
 have hI := YP 110 122 (YP 1 121 (XhL (x1.labels.map Xa) (Xg ltS XB x1.labels c.name) (fun x hx => by obtain ⟨p, _, rfl⟩ := List.mem_map.1 hx; rfl) (by omega) (by omega)))
 rw [hll] at hI
 have hI : Con Tryz.prog 233 [(121, .row 1 (x1.labels.map Xa))] [.own 121 x1.labels.length, ai (Xg ltS XB x1.labels c.name : Nat), ai ((Xg ltS XB x1.labels c.name + 1 : Nat) : Int)] [(121, .dead), (122, .row 1 ((x1.labels.map Xa).take (Xg ltS XB x1.labels c.name) ++ (x1.labels.map Xa).drop (Xg ltS XB x1.labels c.name + 1)))] (.own 122 (x1.labels.length - 1)) := hI
 have eI : (x1.labels.map Xa).take (Xg ltS XB x1.labels c.name) ++ (x1.labels.map Xa).drop (Xg ltS XB x1.labels c.name + 1) = (x1.labels.take (Xg ltS XB x1.labels c.name) ++ x1.labels.drop (Xg ltS XB x1.labels c.name + 1)).map Xa := by
  simp [List.map_take, List.map_drop]
 rw [eI] at hI
 have eIl : (x1.labels.take (Xg ltS XB x1.labels c.name) ++ x1.labels.drop (Xg ltS XB x1.labels c.name + 1)).length = x1.labels.length - 1 := by
  rw [List.length_append, List.length_take, List.length_drop]; omega
 clear hz0 ez0 q1 eI hlr
 generalize x1.labels.take (Xg ltS XB x1.labels c.name) ++ x1.labels.drop (Xg ltS XB x1.labels c.name + 1) = ls' at *
 generalize Xg ltS XB x1.labels c.name = p at *
 have eR : ∀ u', ((xs.map rXN).map cRN).set i ([.v (.int .i64 x1.id), .v u', .v v]) = ((xs.set i ((⟨x1.id, ls', x1.props⟩ : Nod), u', v)).map rXN).map cRN := fun u' => X6A hy0 (y := ((⟨x1.id, ls', x1.props⟩ : Nod), u', v))
 have eB : ∀ u', Xw (xs.take i) ++ (u', 1, ls'.map Xa) :: (v, 6, x1.props.map X7) :: Xw (xs.drop (i + 1)) = Xw (xs.set i ((⟨x1.id, ls', x1.props⟩ : Nod), u', v)) := fun u' => X5F hy0 (y := ((⟨x1.id, ls', x1.props⟩ : Nod), u', v))
 have eB0 := X1h hy0
 simp only at eB0
 have eX : ∀ u', (xs.map (·.1)).set i ⟨x1.id, ls', x1.props⟩ = (xs.set i ((⟨x1.id, ls', x1.props⟩ : Nod), u', v)).map (·.1) := fun u' => by rw [List.map_set]
 have hlen2 : xs.length = ((xs.map rXN).map cRN).length := by simp
 have hRi : ((xs.map rXN).map cRN)[i]? = some [.v (.int .i64 x1.id), .v u, .v v] := by
  rw [List.getElem?_map, List.getElem?_map, hy0]; rfl
 have hz3 := X0M (xs.map rXN)
 simp only [edN, edS, List.length_map]
 clear hg hns hx hx' hx2 hxm hpv q0 hnl
 generalize hR : (xs.map rXN).map cRN = R at *
 have hlm : (x1.labels.map Xa).length = x1.labels.length := by simp
 generalize hnl : x1.labels.length = nl at *
 obtain ⟨op, id, src, dst, name, ⟨k0, k1, k2, k3, k4⟩⟩ := c
 simp only at ho
 subst ho
 simp only [Xu, Y1, Xm, US] at *
 refine Qug ?_
 show AWP Tryz.prog E _ _ _
 refine X0c 0 0 3 120 rfl (by omega) rfl rfl hlen2 rfl rfl (fun cp k hc1 hc2 hc3 _ => ?_)
 refine Qyg ?_
 rw [hlm]
 have hCl := Vu (k := k) hz3
 have hset := fun u' : Value => X4a (n := xs.length) (List.replicate k none) hz3 hRi (o := 1) (d := .v u') (by simp) hlen2
 simp only [List.set_cons_succ, List.set_cons_zero] at hset
 generalize List.map some R.flatten ++ List.replicate k none = C at *
 have hj : i * 3 + 1 < C.length := by omega
 have hrd := X0T (y := .own 121 nl) hj
 have hwr := X2X (y := .own 121 nl) (z := .own 122 (nl - 1)) hj
 have hiz : 0 + i * 3 + 1 = i * 3 + 1 := by omega
 have hrd0 := Eq.trans (congrArg (fun z => (Xy C (some (_, .own 121 nl)))[z]?) hiz) hrd
 have hbd : 0 + i * 3 + 1 + 1 ≤ C.length := by omega
 have hRl : R.length = xs.length := hlen2.symm
 clear hlen2 hnl hll
 have hlm' := hlm.symm
 refine Qvg ?_; refine QGc ?_; refine Qza ?_; refine Qxg ?_; refine Qfe ?_; refine Zr (hcon := hm23) ?_; refine JD ?_; refine Qz ?_; refine Qwg ?_; refine Qq ?_; (refine Zp (op := .add) (r' := .int .i64 ((p + 1 : Nat) : Int)) (u := .int .i64 (p : Nat)) (v := .int .i64 1) ?_ (hr := by exact Yk (by unfold Xv; omega))); refine Zr (hcon := hI) ?_; refine Qbg ?_; (refine Z0j (cs' := C) (ho' := some (i * 3 + 1, .own 122 (nl - 1))) ?_ (hcs := ?hcs109); (case hcs109 => exact (by rw [hiz]; exact hwr))); refine JD ?_
 show clo _ _ _ _
 refine X3L 120 210 (i * 3 + 1) 122 (Xw (xs.take i)) ((v, 6, x1.props.map X7) :: Xw (xs.drop (i + 1))) (by conv => lhs; whnf) hj (by conv => lhs; whnf) (by conv => lhs; whnf) (by rw [List.length_map, eIl]) (fun u' => ?_)
 have hcap : cp * 3 ≤ (C.set (i * 3 + 1) (some (.v u'))).length := by rw [List.length_set]; omega
 refine VR (X2a 0 0 120 110 (R.set i ([.v (.int .i64 x1.id), .v u', .v v])) (by conv => lhs; whnf) (by conv => lhs; whnf) rfl (hset u') (by rw [List.length_set]; exact hRl) (fun y hy => by
  rcases List.mem_or_eq_of_mem_set hy with hy | rfl
  ·exact hz3 y hy
  ·rfl) (by omega) hc2 hcap rfl rfl) ?_
 refine VR (X0D 110 210 (xs.set i ((⟨x1.id, ls', x1.props⟩ : Nod), u', v)) (by refine Eq.trans (b := .row 3 (R.set i ([.v (.int .i64 x1.id), .v u', .v v]))) (by conv => lhs; whnf) (by rw [eR])) (by refine Eq.trans (b := .bag (Xw (xs.take i) ++ (u', 1, ls'.map Xa) :: (v, 6, x1.props.map X7) :: Xw (xs.drop (i + 1)))) (by conv => lhs; whnf) (by rw [eB]))) ?_; refine VR (X0A 4 211 ys (by conv => lhs; whnf) (by conv => lhs; whnf)) ?_
 refine X59 (show Xd _ _ _ _ _ from ⟨_, St.le_refl _, trivial, ?_⟩)
 rw [eX u', List.length_map, List.length_set]
 exact XX ⟨rfl, rfl, rfl, rfl, trivial⟩
theorem XfY (g : Gra) (c : Chg) (x : Nod) (hg : GV g) (ho : c.op = 5) (hx : YS g.nodes c.id = some x) (q1 : (XP x.props c.name c.v).length ≤ 16) :
  Con Tryz.prog 167 (edS g) [.ptr 0 0, Xu c] (edN (Ui g ⟨x.id, x.labels, XP x.props c.name c.v⟩)) (.tup []) := by
 have hxm := X0X hx
 rw [X23 hg] at hx
 obtain ⟨ns, es, nn, ne⟩ := g
 have hns := hg.ns
 have hnl := hg.nl
 have hpv := (hg.nodes x hxm.1).2.2
 simp only at hx hns hnl
 obtain ⟨x', hx', hx2⟩ := Option.bind_eq_some_iff.1 hx
 obtain ⟨hk, rfl⟩ : x'.id = c.id ∧ x' = x := by by_cases e : x'.id = c.id <;> simp [e] at hx2 ⊢; exact hx2
 have q0 : Xl Nod.id ns c.id = true := by rw [V0 YM hns]; exact decide_eq_true ⟨x', hx', hk⟩
 rw [X65 hg hx' hk (by exact hk)]
 have hle : Xg ltI Nod.id ns c.id < ns.length := (List.getElem?_eq_some_iff.1 hx').1
 refine Xc (xs := []) Tryz.func167 rfl Tryz.ntmps167 rfl rfl rfl (fun E => ?_)
 refine X4V ?_
 refine Ud rfl rfl rfl rfl (fun xs ys h1 h2 => ?_)
 subst h1 h2
 have hN := Up (xs.map rXN) (ys.map rXE) nn ne c.id (by simp at hnl ⊢; omega) ((Uv xs).2 hns)
 rw [Uo, Un, q0] at hN
 simp only [edL, List.length_map] at hN hnl hle
 generalize Xg ltI Nod.id (xs.map (·.1)) c.id = i at *
 obtain ⟨⟨x1, u, v⟩, hy0, rfl⟩ : ∃ y : XN, xs[i]? = some y ∧ y.1 = x' := by
  rw [List.getElem?_map] at hx'
  obtain ⟨y, e1, e2⟩ := Option.map_eq_some_iff.1 hx'
  exact ⟨y, e1, e2⟩
 simp only at *
 have hm10 := YJ 10
 have hS := YP 110 122 (YP 1 121 (XbX x1.props c.name c.v hpv.pr hpv.pl q1))
 have hS : Con Tryz.prog 234 [(121, .row 6 (x1.props.map X7))] [.own 121 x1.props.length, .d (.v (.string (X5 c.name))), Xm c.v] [(121, .dead), (122, .row 6 ((XP x1.props c.name c.v).map X7))] (.own 122 (XP x1.props c.name c.v).length) := by
  clear q1
  rcases c with ⟨_, _, _, _, _, ⟨_, _, _, _, _⟩⟩
  exact hS
 clear q1
 generalize XP x1.props c.name c.v = ps' at *
 have eR : ∀ u', ((xs.map rXN).map cRN).set i ([.v (.int .i64 x1.id), .v u, .v u']) = ((xs.set i ((⟨x1.id, x1.labels, ps'⟩ : Nod), u, u')).map rXN).map cRN := fun u' => X6A hy0 (y := ((⟨x1.id, x1.labels, ps'⟩ : Nod), u, u'))
 have eB : ∀ u', (Xw (xs.take i) ++ [(u, 1, x1.labels.map Xa)]) ++ (u', 6, ps'.map X7) :: Xw (xs.drop (i + 1)) = Xw (xs.set i ((⟨x1.id, x1.labels, ps'⟩ : Nod), u, u')) := fun u' => Eq.trans (by rw [List.append_assoc]; rfl) <| X5F hy0 (y := ((⟨x1.id, x1.labels, ps'⟩ : Nod), u, u'))
 have eB0 := X1h hy0
 simp only at eB0
 have eX : ∀ u', (xs.map (·.1)).set i ⟨x1.id, x1.labels, ps'⟩ = (xs.set i ((⟨x1.id, x1.labels, ps'⟩ : Nod), u, u')).map (·.1) := fun u' => by rw [List.map_set]
 have hlen2 : xs.length = ((xs.map rXN).map cRN).length := by simp
 have hRi : ((xs.map rXN).map cRN)[i]? = some [.v (.int .i64 x1.id), .v u, .v v] := by
  rw [List.getElem?_map, List.getElem?_map, hy0]; rfl
 have hz3 := X0M (xs.map rXN)
 simp only [edN, edS, List.length_map]
 clear hg hns hx hx' hx2 hxm hpv q0 hnl
 generalize hR : (xs.map rXN).map cRN = R at *
 have hlm : (x1.props.map X7).length = x1.props.length := by simp
 generalize hnl : x1.props.length = nl at *
 obtain ⟨op, id, src, dst, name, ⟨k0, k1, k2, k3, k4⟩⟩ := c
 simp only at ho
 subst ho
 simp only [Xu, Y1, Xm, US] at *
 refine Qug ?_
 show AWP Tryz.prog E _ _ _
 refine X0c 0 0 3 120 rfl (by omega) rfl rfl hlen2 rfl rfl (fun cp k hc1 hc2 hc3 _ => ?_)
 refine Qzg ?_
 rw [hlm]
 have hCl := Vu (k := k) hz3
 have hset := fun u' : Value => X4a (n := xs.length) (List.replicate k none) hz3 hRi (o := 2) (d := .v u') (by simp) hlen2
 simp only [List.set_cons_succ, List.set_cons_zero] at hset
 generalize List.map some R.flatten ++ List.replicate k none = C at *
 have hj : i * 3 + 2 < C.length := by omega
 have hrd := X0T (y := .own 121 nl) hj
 have hwr := X2X (y := .own 121 nl) (z := .own 122 (ps'.length)) hj
 have hiz : 0 + i * 3 + 2 = i * 3 + 2 := by omega
 have hrd0 := Eq.trans (congrArg (fun z => (Xy C (some (_, .own 121 nl)))[z]?) hiz) hrd
 have hbd : 0 + i * 3 + 2 + 1 ≤ C.length := by omega
 have hRl : R.length = xs.length := hlen2.symm
 clear hlen2 hnl
 have hlm' := hlm.symm
 refine Qvg ?_; refine QIc ?_; refine Qz ?_; refine Qwg ?_; refine QIb ?_; refine Qxf ?_; refine Zr (hcon := hS) ?_; refine Qbg ?_; (refine Z0j (cs' := C) (ho' := some (i * 3 + 2, .own 122 (ps'.length))) ?_ (hcs := ?hcs111); (case hcs111 => exact (by rw [hiz]; exact hwr))); refine JD ?_
 show clo _ _ _ _
 refine X3L 120 210 (i * 3 + 2) 122 (Xw (xs.take i) ++ [(u, 1, x1.labels.map Xa)]) (Xw (xs.drop (i + 1))) (by conv => lhs; whnf) hj (by conv => lhs; whnf) (by conv => lhs; whnf) (by rw [List.length_map]) (fun u' => ?_)
 have hcap : cp * 3 ≤ (C.set (i * 3 + 2) (some (.v u'))).length := by rw [List.length_set]; omega
 refine VR (X2a 0 0 120 110 (R.set i ([.v (.int .i64 x1.id), .v u, .v u'])) (by conv => lhs; whnf) (by conv => lhs; whnf) rfl (hset u') (by rw [List.length_set]; exact hRl) (fun y hy => by
  rcases List.mem_or_eq_of_mem_set hy with hy | rfl
  ·exact hz3 y hy
  ·rfl) (by omega) hc2 hcap rfl rfl) ?_
 refine VR (X0D 110 210 (xs.set i ((⟨x1.id, x1.labels, ps'⟩ : Nod), u, u')) (by refine Eq.trans (b := .row 3 (R.set i ([.v (.int .i64 x1.id), .v u, .v u']))) (by conv => lhs; whnf) (by rw [eR])) (by refine Eq.trans (b := .bag ((Xw (xs.take i) ++ [(u, 1, x1.labels.map Xa)]) ++ (u', 6, ps'.map X7) :: Xw (xs.drop (i + 1)))) (by conv => lhs; whnf) (by rw [eB]))) ?_; refine VR (X0A 4 211 ys (by conv => lhs; whnf) (by conv => lhs; whnf)) ?_
 refine X59 (show Xd _ _ _ _ _ from ⟨_, St.le_refl _, trivial, ?_⟩)
 rw [eX u', List.length_map, List.length_set]
 exact XX ⟨rfl, rfl, rfl, rfl, trivial⟩
theorem Xc6 (g : Gra) (c : Chg) (hg : GV g) (hc : 1 ≤ c.id ∧ c.id ≤ 1000000) (ho : c.op = 6) (q1 : Xl Edg.id g.edges c.id = false) (qs : Xl Nod.id g.nodes c.src = true) (qd : Xl Nod.id g.nodes c.dst = true) (q2 : g.edges.length < 4000) :
  Con Tryz.prog 168 (edS g) [.ptr 0 0, Xu c] (edE (Vs g ⟨c.id, c.src, c.dst, c.name, []⟩)) (.tup []) := by
 obtain ⟨ns, es, nn, ne⟩ := g
 have hns := hg.ns
 have hnl := hg.nl
 have hes := hg.es
 have hne := hg.ne
 simp only at q1 qs qd q2 hns hes hnl hne
 have e0 : Vs ⟨ns, es, nn, ne⟩ ⟨c.id, c.src, c.dst, c.name, []⟩ = ⟨ns, es.take (Xg ltI Edg.id es c.id) ++ [⟨c.id, c.src, c.dst, c.name, []⟩] ++ es.drop (Xg ltI Edg.id es c.id), nn, max ne (c.id + 1)⟩ := by
  unfold Vs
  simp only
  rw [X2c q1]
 rw [e0]
 have hle := X3g (lt := ltI) (key := Edg.id) es c.id
 refine Xc (xs := []) Tryz.func168 rfl Tryz.ntmps168 rfl rfl rfl (fun E => ?_)
 refine Ud rfl rfl rfl rfl (fun xs ys h1 h2 => ?_)
 subst h1 h2
 have hE := X0N (xs.map rXN) (ys.map rXE) nn ne c.id (by simp at q2 ⊢; omega) ((X0L ys).2 hes)
 have hNs := Up (xs.map rXN) (ys.map rXE) nn ne c.src (by simp at hnl ⊢; omega) ((Uv xs).2 hns)
 have hNd := Up (xs.map rXN) (ys.map rXE) nn ne c.dst (by simp at hnl ⊢; omega) ((Uv xs).2 hns)
 rw [X0P, X0K, q1] at hE
 rw [Uo, Un, qs] at hNs
 rw [Uo, Un, qd] at hNd
 simp only [edL, List.length_map] at hE hNs hNd q2 hle
 generalize Xg ltI Edg.id (ys.map (·.1)) c.id = i at *
 have hI : Con Tryz.prog 236 [(4, .row 5 ((ys.map rXE).map cRE))] [.own 4 ((ys.map rXE).map cRE).length, ai (i : Nat), .d (.sl 5 [[.v (.int .i64 c.id), .v (.int .i64 c.src), .v (.int .i64 c.dst), .v (.string (X5 c.name)), .v (.slice none 0 0)]])] [(4, .dead), (110, .row 5 (((ys.map rXE).map cRE).take i ++ [.v (.int .i64 c.id), .v (.int .i64 c.src), .v (.int .i64 c.dst), .v (.string (X5 c.name)), .v (.slice none 0 0)] :: ((ys.map rXE).map cRE).drop i))] (.own 110 (((ys.map rXE).map cRE).length + 1)) :=
  YP 1 4 (Xdi ((ys.map rXE).map cRE) i [.v (.int .i64 c.id), .v (.int .i64 c.src), .v (.int .i64 c.dst), .v (.string (X5 c.name)), .v (.slice none 0 0)] (X1x _) rfl (by simp; omega) (by simp; omega))
 have hm7 := YJ 7
 have hm10 := YJ 10
 have hm20 := YJ 20
 have eX : (ys.map (·.1)).take i ++ [⟨c.id, c.src, c.dst, c.name, []⟩] ++ (ys.map (·.1)).drop i = (ys.take i ++ ((⟨c.id, c.src, c.dst, c.name, []⟩ : Edg), Um) :: ys.drop i).map (·.1) := by
  simp [List.map_take, List.map_drop]
 have eL : (ys.take i ++ ((⟨c.id, c.src, c.dst, c.name, []⟩ : Edg), Um) :: ys.drop i).length = ys.length + 1 := X6h hle
 have eR : ((ys.map rXE).map cRE).take i ++ [.v (.int .i64 c.id), .v (.int .i64 c.src), .v (.int .i64 c.dst), .v (.string (X5 c.name)), .v (.slice none 0 0)] :: ((ys.map rXE).map cRE).drop i = ((ys.take i ++ ((⟨c.id, c.src, c.dst, c.name, []⟩ : Edg), Um) :: ys.drop i).map rXE).map cRE := by
  simp [List.map_take, List.map_drop, rXE, cRE]
 have eB : XM (ys.take i) ++ (Um, 6, []) :: XM (ys.drop i) = XM (ys.take i ++ ((⟨c.id, c.src, c.dst, c.name, []⟩ : Edg), Um) :: ys.drop i) := by rw [X3f, Xb9]; rfl
 have eB0 : XM ys = XM (ys.take i) ++ XM (ys.drop i) := by rw [← X3f, List.take_append_drop]
 rw [eX]
 have hlen2 : ((ys.map rXE).map cRE).length = ys.length := by simp
 rw [hlen2] at hI
 simp only [edE, edS, List.length_map, eL]
 have q2' : (((ys.map rXE).map cRE).length : Int) < 4000 := by rw [hlen2]; omega
 have hlen2' : ys.length = ((ys.map rXE).map cRE).length := hlen2.symm
 clear hg hns hes e0 eX eL hnl
 generalize hR : (ys.map rXE).map cRE = R at *
 generalize hX : ys.take i ++ ((⟨c.id, c.src, c.dst, c.name, []⟩ : Edg), Um) :: ys.drop i = X at *
 obtain ⟨op, id, src, dst, name, ⟨k0, k1, k2, k3, k4⟩⟩ := c
 try simp only at *
 subst ho
 simp only [Xu, Y1] at *
 refine QBg ?_; refine Qee ?_; refine Z0 ?_; refine QPd ?_; refine ZB ?_; refine Zr (hcon := hm10) ?_; refine Qg ?_; refine Qcg ?_; refine Z5 ?_; refine Z0k (op := .lss) (r' := .bool true) (u := .int .i64 (R.length : Nat)) (v := .int .i64 4000) ?_ (hr' := by exact congrArg Value.bool (decide_eq_true q2')); refine Zr (hcon := hm20) ?_; refine JD ?_; refine Qe ?_; refine Qcg ?_; refine QRb ?_; refine Qke ?_; refine ZJ ?_; refine Zo ?_; refine Zr (hcon := hI) ?_; refine Qbg ?_; refine Qqg ?_; refine Qz ?_; refine Qbg ?_; refine Qke ?_; refine Zt ?_; refine ZL ?_; refine Qbg ?_; refine Qqg ?_
 show Xd _ _ _ _ _
 refine X0r (X7q 211 6 (XM (ys.take i)) (XM (ys.drop i)) (by refine Eq.trans (b := .bag (XM ys)) (by conv => lhs; whnf) (by rw [eB0]))) ?_; refine X0r (X0A 110 211 X (by refine Eq.trans (b := .row 5 (R.take i ++ [.v (.int .i64 id), .v (.int .i64 src), .v (.int .i64 dst), .v (.string (X5 name)), .v (.slice none 0 0)] :: R.drop i)) (by conv => lhs; whnf) (by rw [eR])) (by refine Eq.trans (b := .bag (XM (ys.take i) ++ (Um, 6, []) :: XM (ys.drop i))) (by conv => lhs; whnf) (by rw [eB]))) ?_; refine X0r (X0D 3 210 xs (by conv => lhs; whnf) (by conv => lhs; whnf)) ?_; exact Qtg
end Go.Fw
