/- An edge added. -/
import Derived.Test.YtonekjkmnhfjmaaGreatDoorM31
set_option maxHeartbeats 32000000
namespace Go.Fw
open Go Go.Proofs
set_option maxRecDepth 100000
set_option linter.unusedVariables false
set_option linter.unusedSimpArgs false
theorem Xe4 (g : Gra) (c : Chg) (hg : GV g) (hc : 1 ≤ c.id ∧ c.id ≤ 1000000) (ho : c.op = 6) (q1 : Xn Edg.id g.edges c.id = false) (qs : Xn Nod.id g.nodes c.src = true) (qd : Xn Nod.id g.nodes c.dst = true) (q2 : g.edges.length < 4000) :
  Con Tryz.prog 168 (edS g) [.ptr 0 0, Xs c] (edE (V5 g ⟨c.id, c.src, c.dst, c.name, []⟩)) (.tup []) := by
 obtain ⟨ns, es, nn, ne⟩ := g
 have hns := hg.ns
 have hnl := hg.nl
 have hes := hg.es
 have hne := hg.ne
 simp only at q1 qs qd q2 hns hes hnl hne
 have e0 : V5 ⟨ns, es, nn, ne⟩ ⟨c.id, c.src, c.dst, c.name, []⟩ = ⟨ns, es.take (Xf ltI Edg.id es c.id) ++ [⟨c.id, c.src, c.dst, c.name, []⟩] ++ es.drop (Xf ltI Edg.id es c.id), nn, max ne (c.id + 1)⟩ := by
  unfold V5
  simp only
  rw [X28 q1]
 rw [e0]
 have hle := X3r (lt := ltI) (key := Edg.id) es c.id
 refine Xc (xs := []) Tryz.func168 rfl Tryz.ntmps168 rfl rfl rfl (fun E => ?_)
 refine YY rfl rfl rfl rfl (fun xs ys h1 h2 => ?_)
 subst h1 h2
 have hE := X0l (xs.map rXN) (ys.map rXE) nn ne c.id (by simp at q2 ⊢; omega) ((X0c ys).2 hes)
 have hNs := Uc (xs.map rXN) (ys.map rXE) nn ne c.src (by simp at hnl ⊢; omega) ((Uh xs).2 hns)
 have hNd := Uc (xs.map rXN) (ys.map rXE) nn ne c.dst (by simp at hnl ⊢; omega) ((Uh xs).2 hns)
 rw [X0s, X0i, q1] at hE
 rw [U9, U8, qs] at hNs
 rw [U9, U8, qd] at hNd
 simp only [edL, List.length_map] at hE hNs hNd q2 hle
 generalize Xf ltI Edg.id (ys.map (·.1)) c.id = i at *
 have hI : Con Tryz.prog 236 [(4, .row 5 ((ys.map rXE).map cRE))] [.own 4 ((ys.map rXE).map cRE).length, ai (i : Nat), .d (.sl 5 [[.v (.int .i64 c.id), .v (.int .i64 c.src), .v (.int .i64 c.dst), .v (.string (X5 c.name)), .v (.slice none 0 0)]])] [(4, .dead), (110, .row 5 (((ys.map rXE).map cRE).take i ++ [.v (.int .i64 c.id), .v (.int .i64 c.src), .v (.int .i64 c.dst), .v (.string (X5 c.name)), .v (.slice none 0 0)] :: ((ys.map rXE).map cRE).drop i))] (.own 110 (((ys.map rXE).map cRE).length + 1)) :=
  YE 1 4 (XgK ((ys.map rXE).map cRE) i [.v (.int .i64 c.id), .v (.int .i64 c.src), .v (.int .i64 c.dst), .v (.string (X5 c.name)), .v (.slice none 0 0)] (X1q _) rfl (by simp; omega) (by simp; omega))
 have hm7 := Yy 7
 have hm10 := Yy 10
 have hm20 := Yy 20
 have eX : (ys.map (·.1)).take i ++ [⟨c.id, c.src, c.dst, c.name, []⟩] ++ (ys.map (·.1)).drop i = (ys.take i ++ ((⟨c.id, c.src, c.dst, c.name, []⟩ : Edg), U4) :: ys.drop i).map (·.1) := by
  simp [List.map_take, List.map_drop]
 have eL : (ys.take i ++ ((⟨c.id, c.src, c.dst, c.name, []⟩ : Edg), U4) :: ys.drop i).length = ys.length + 1 := X6l hle
 have eR : ((ys.map rXE).map cRE).take i ++ [.v (.int .i64 c.id), .v (.int .i64 c.src), .v (.int .i64 c.dst), .v (.string (X5 c.name)), .v (.slice none 0 0)] :: ((ys.map rXE).map cRE).drop i = ((ys.take i ++ ((⟨c.id, c.src, c.dst, c.name, []⟩ : Edg), U4) :: ys.drop i).map rXE).map cRE := by
  simp [List.map_take, List.map_drop, rXE, cRE]
 have eB : XR (ys.take i) ++ (U4, 6, []) :: XR (ys.drop i) = XR (ys.take i ++ ((⟨c.id, c.src, c.dst, c.name, []⟩ : Edg), U4) :: ys.drop i) := by rw [X2v, X9J]; rfl
 have eB0 : XR ys = XR (ys.take i) ++ XR (ys.drop i) := by rw [← X2v, List.take_append_drop]
 rw [eX]
 have hlen2 : ((ys.map rXE).map cRE).length = ys.length := by simp
 rw [hlen2] at hI
 simp only [edE, edS, List.length_map, eL]
 have q2' : (((ys.map rXE).map cRE).length : Int) < 4000 := by rw [hlen2]; omega
 have hlen2' : ys.length = ((ys.map rXE).map cRE).length := hlen2.symm
 clear hg hns hes e0 eX eL hnl
 generalize hR : (ys.map rXE).map cRE = R at *
 generalize hX : ys.take i ++ ((⟨c.id, c.src, c.dst, c.name, []⟩ : Edg), U4) :: ys.drop i = X at *
 obtain ⟨op, id, src, dst, name, ⟨k0, k1, k2, k3, k4⟩⟩ := c
 try simp only at *
 subst ho
 simp only [Xs, XY] at *
 refine QNf ?_; refine Qed ?_; refine Qf ?_; refine Zn ?_; refine Z9 (hcon := hm10) ?_; refine Qlf ?_; refine Qxf ?_; refine Z0c ?_; refine Z0v (op := .lss) (r' := .bool true) (u := .int .i64 (R.length : Nat)) (v := .int .i64 4000) ?_ (hr' := by exact congrArg Value.bool (decide_eq_true q2')); refine Z9 (hcon := hm20) ?_; refine Qlf ?_; refine Z1 ?_; refine Qxf ?_; refine Qbb ?_; refine Qkd ?_; refine Zx ?_; refine Z5 ?_; refine Z9 (hcon := hI) ?_; refine Qwf ?_; refine QCf ?_; refine QKd ?_; refine Qxf ?_; refine QTa ?_; refine Zb ?_; refine Zz ?_; refine Qwf ?_; refine QCf ?_
 show Xd _ _ _ _ _
 refine X0p (X5s 211 6 (XR (ys.take i)) (XR (ys.drop i)) (by refine Eq.trans (b := .bag (XR ys)) (by conv => lhs; whnf) (by rw [eB0]))) ?_; refine X0p (X0u 110 211 X (by refine Eq.trans (b := .row 5 (R.take i ++ [.v (.int .i64 id), .v (.int .i64 src), .v (.int .i64 dst), .v (.string (X5 name)), .v (.slice none 0 0)] :: R.drop i)) (by conv => lhs; whnf) (by rw [eR])) (by refine Eq.trans (b := .bag (XR (ys.take i) ++ (U4, 6, []) :: XR (ys.drop i))) (by conv => lhs; whnf) (by rw [eB]))) ?_; refine X0p (X07 3 210 xs (by conv => lhs; whnf) (by conv => lhs; whnf)) ?_; exact QFf
theorem X3Z {xs : List XE} {i : Nat} {y : XE} (h : xs[i]? = some y) : XR xs = XR (xs.take i) ++ (y.2, 6, y.1.props.map X6) :: XR (xs.drop (i + 1)) := by
 conv => lhs; rw [X3L h, X2v, X9J]
theorem XbR {xs : List XE} {i : Nat} {y x : XE} (h : xs[i]? = some x) : XR (xs.take i) ++ (y.2, 6, y.1.props.map X6) :: XR (xs.drop (i + 1)) = XR (xs.set i y) := by
 have hi := (List.getElem?_eq_some_iff.1 h).1
 have h2 : (xs.set i y)[i]? = some y := List.getElem?_set_self hi
 rw [X3Z h2, List.take_set_of_le (Nat.le_refl i), List.drop_set_of_lt (by omega)]
theorem Xcf {xs : List XE} {i : Nat} {x y : XE} (h : xs[i]? = some x) : ((xs.map rXE).map cRE).set i (cRE (rXE y)) = ((xs.set i y).map rXE).map cRE := by
 rw [List.map_set, List.map_set]
theorem Xhh {ns : List Nod} {es : List Edg} {nn ne : Int} {x n : Edg} {k : Int} (hg : GV ⟨ns, es, nn, ne⟩) (hx : es[Xf ltI Edg.id es k]? = some x) (hk : x.id = k) (hn : n.id = k) :
  V5 ⟨ns, es, nn, ne⟩ n = ⟨ns, es.set (Xf ltI Edg.id es k) n, nn, ne⟩ := by
 have h1 := (hg.edges x (List.mem_of_getElem? hx)).2.1
 simp only at h1
 have hlt := (List.getElem?_eq_some_iff.1 hx).1
 unfold V5
 simp only
 have hmax : max ne (n.id + 1) = ne := by omega
 subst hn
 rw [X2L YB hg.es hx hk, hmax]
 simp only
 rw [X4W hlt]
theorem XfT (g : Gra) (c : Chg) (hg : GV g) (ho : c.op = 7) (q1 : Xn Edg.id g.edges c.id = true) :
  Con Tryz.prog 168 (edS g) [.ptr 0 0, Xs c] (edE { g with edges := Yx Edg.id g.edges c.id }) (.tup []) := by
 obtain ⟨ns, es, nn, ne⟩ := g
 have hes := hg.es
 have hel := hg.el
 simp only at q1 hes hel
 obtain ⟨x0, hx0, hk0⟩ := X6R hes q1
 have e0 : Yx Edg.id es c.id = es.take (Xf ltI Edg.id es c.id) ++ es.drop (Xf ltI Edg.id es c.id + 1) := X6y YB hes hx0 hk0
 simp only
 rw [e0]
 have hle : Xf ltI Edg.id es c.id < es.length := (List.getElem?_eq_some_iff.1 hx0).1
 refine Xc (xs := []) Tryz.func168 rfl Tryz.ntmps168 rfl rfl rfl (fun E => ?_)
 refine YY rfl rfl rfl rfl (fun xs ys h1 h2 => ?_)
 subst h1 h2
 have hE := X0l (xs.map rXN) (ys.map rXE) nn ne c.id (by simp at hel ⊢; omega) ((X0c ys).2 hes)
 rw [X0s, X0i, q1] at hE
 simp only [edL, List.length_map] at hE hel hle
 generalize Xf ltI Edg.id (ys.map (·.1)) c.id = i at *
 have hD : Con Tryz.prog 237 [(4, .row 5 ((ys.map rXE).map cRE))] [.own 4 ((ys.map rXE).map cRE).length, ai (i : Nat), ai ((i + 1 : Nat) : Int)] [(4, .dead), (110, .row 5 (((ys.map rXE).map cRE).take i ++ ((ys.map rXE).map cRE).drop (i + 1)))] (.own 110 (((ys.map rXE).map cRE).length - 1)) :=
  YE 1 4 (XcC ((ys.map rXE).map cRE) i (X1q _) (by simp; omega) (by simp; omega))
 have hm11 := Yy 11
 have eX : (ys.map (·.1)).take i ++ (ys.map (·.1)).drop (i + 1) = (ys.take i ++ ys.drop (i + 1)).map (·.1) := by simp [List.map_take, List.map_drop]
 have eL : (ys.take i ++ ys.drop (i + 1)).length = ys.length - 1 := by rw [List.length_append, List.length_take, List.length_drop]; omega
 have eR : ((ys.map rXE).map cRE).take i ++ ((ys.map rXE).map cRE).drop (i + 1) = ((ys.take i ++ ys.drop (i + 1)).map rXE).map cRE := by simp [List.map_take, List.map_drop]
 obtain ⟨y0, hy0⟩ : ∃ y, ys[i]? = some y := ⟨_, List.getElem?_eq_getElem hle⟩
 have eB0 := X3Z hy0
 have eB : XR (ys.take i) ++ XR (ys.drop (i + 1)) = XR (ys.take i ++ ys.drop (i + 1)) := (X2v _ _).symm
 rw [eX]
 have hlen2 : ((ys.map rXE).map cRE).length = ys.length := by simp
 rw [hlen2] at hD
 simp only [edE, edS, List.length_map, eL]
 have hlen2' : ys.length = ((ys.map rXE).map cRE).length := hlen2.symm
 clear hg hes e0 eX eL hx0 hk0 q1 hy0 hlen2
 generalize hR : (ys.map rXE).map cRE = R at *
 generalize hX : ys.take i ++ ys.drop (i + 1) = X at *
 obtain ⟨op, id, src, dst, name, ⟨k0, k1, k2, k3, k4⟩⟩ := c
 simp only at ho
 subst ho
 simp only [Xs, XY] at *
 refine QMf ?_; refine QHb ?_; refine Qd ?_; refine Z9 (hcon := hm11) ?_; refine JD ?_; refine QKd ?_; refine Qxf ?_; refine Qf ?_; (refine Z7 (op := .add) (r' := .int .i64 ((i + 1 : Nat) : Int)) (u := .int .i64 (i : Nat)) (v := .int .i64 1) ?_ (hr := by exact Yk (by unfold Xw; omega))); refine Z9 (hcon := hD) ?_; refine Qwf ?_; refine QCf ?_
 show Xd _ _ _ _ _
 refine X0p (X74 211 (XR (ys.take i)) (XR (ys.drop (i + 1))) (y0.2, 6, y0.1.props.map X6) (by refine Eq.trans (b := .bag (XR ys)) (by conv => lhs; whnf) (by rw [eB0]))) ?_; refine X0p (X0u 110 211 X (by refine Eq.trans (b := .row 5 (R.take i ++ R.drop (i + 1))) (by conv => lhs; whnf) (by rw [eR])) (by refine Eq.trans (b := .bag (XR (ys.take i) ++ XR (ys.drop (i + 1)))) (by conv => lhs; whnf) (by rw [eB]))) ?_; refine X0p (X07 3 210 xs (by conv => lhs; whnf) (by conv => lhs; whnf)) ?_; exact QFf
theorem Xg5 (g : Gra) (c : Chg) (x : Edg) (hg : GV g) (ho : c.op = 8) (hx : Ua g.edges c.id = some x) (q1 : (XV x.props c.name c.v).length ≤ 16) :
  Con Tryz.prog 168 (edS g) [.ptr 0 0, Xs c] (edE (V5 g ⟨x.id, x.src, x.dst, x.typ, XV x.props c.name c.v⟩)) (.tup []) := by
 have hxm := X54 hx
 rw [X8x hg] at hx
 obtain ⟨ns, es, nn, ne⟩ := g
 have hes := hg.es
 have hel := hg.el
 have hpv := (hg.edges x hxm.1).2.2.2.2.2
 simp only at hx hes hel
 obtain ⟨x', hx', hx2⟩ := Option.bind_eq_some_iff.1 hx
 obtain ⟨hk, rfl⟩ : x'.id = c.id ∧ x' = x := by by_cases e : x'.id = c.id <;> simp [e] at hx2 ⊢; exact hx2
 have q0 : Xn Edg.id es c.id = true := by rw [UC YB hes]; exact decide_eq_true ⟨x', hx', hk⟩
 rw [Xhh hg hx' hk (by exact hk)]
 have hle : Xf ltI Edg.id es c.id < es.length := (List.getElem?_eq_some_iff.1 hx').1
 refine Xc (xs := []) Tryz.func168 rfl Tryz.ntmps168 rfl rfl rfl (fun E => ?_)
 refine X3F ?_
 refine YY rfl rfl rfl rfl (fun xs ys h1 h2 => ?_)
 subst h1 h2
 have hE := X0l (xs.map rXN) (ys.map rXE) nn ne c.id (by simp at hel ⊢; omega) ((X0c ys).2 hes)
 rw [X0s, X0i, q0] at hE
 simp only [edL, List.length_map] at hE hel hle
 generalize Xf ltI Edg.id (ys.map (·.1)) c.id = i at *
 obtain ⟨⟨x1, u⟩, hy0, rfl⟩ : ∃ y : XE, ys[i]? = some y ∧ y.1 = x' := by
  rw [List.getElem?_map] at hx'
  obtain ⟨y, e1, e2⟩ := Option.map_eq_some_iff.1 hx'
  exact ⟨y, e1, e2⟩
 simp only at *
 have hm11 := Yy 11
 have hS := YE 110 122 (YE 1 121 (X9j x1.props c.name c.v hpv.pr hpv.pl q1))
 have hS : Con Tryz.prog 234 [(121, .row 6 (x1.props.map X6))] [.own 121 x1.props.length, .d (.v (.string (X5 c.name))), XG c.v] [(121, .dead), (122, .row 6 ((XV x1.props c.name c.v).map X6))] (.own 122 (XV x1.props c.name c.v).length) := by
  clear q1
  rcases c with ⟨_, _, _, _, _, ⟨_, _, _, _, _⟩⟩
  exact hS
 clear q1
 generalize XV x1.props c.name c.v = ps' at *
 have eR : ∀ u', ((ys.map rXE).map cRE).set i ([.v (.int .i64 x1.id), .v (.int .i64 x1.src), .v (.int .i64 x1.dst), .v (.string (X5 x1.typ)), .v u']) = ((ys.set i ((⟨x1.id, x1.src, x1.dst, x1.typ, ps'⟩ : Edg), u')).map rXE).map cRE := fun u' => Xcf hy0 (y := ((⟨x1.id, x1.src, x1.dst, x1.typ, ps'⟩ : Edg), u'))
 have eB : ∀ u', (XR (ys.take i)) ++ (u', 6, ps'.map X6) :: XR (ys.drop (i + 1)) = XR (ys.set i ((⟨x1.id, x1.src, x1.dst, x1.typ, ps'⟩ : Edg), u')) := fun u' => XbR hy0 (y := ((⟨x1.id, x1.src, x1.dst, x1.typ, ps'⟩ : Edg), u'))
 have eB0 := X3Z hy0
 simp only at eB0
 have eX : ∀ u', (ys.map (·.1)).set i ⟨x1.id, x1.src, x1.dst, x1.typ, ps'⟩ = (ys.set i ((⟨x1.id, x1.src, x1.dst, x1.typ, ps'⟩ : Edg), u')).map (·.1) := fun u' => by rw [List.map_set]
 have hlen2 : ys.length = ((ys.map rXE).map cRE).length := by simp
 have hRi : ((ys.map rXE).map cRE)[i]? = some [.v (.int .i64 x1.id), .v (.int .i64 x1.src), .v (.int .i64 x1.dst), .v (.string (X5 x1.typ)), .v u] := by
  rw [List.getElem?_map, List.getElem?_map, hy0]; rfl
 have hz5 := X1q (ys.map rXE)
 simp only [edE, edS, List.length_map]
 clear hg hes hx hx' hx2 hxm hpv q0 hel
 generalize hR : (ys.map rXE).map cRE = R at *
 have hlm : (x1.props.map X6).length = x1.props.length := by simp
 generalize hnl : x1.props.length = nl at *
 obtain ⟨op, id, src, dst, name, ⟨k0, k1, k2, k3, k4⟩⟩ := c
 simp only at ho
 subst ho
 simp only [Xs, XY, XG, UJ] at *
 refine QMf ?_; refine QNb ?_; refine Qd ?_; refine Z9 (hcon := hm11) ?_; refine JD ?_
 show AWP Tryz.prog E _ _ _
 refine VY 0 1 4 120 rfl (by omega) rfl rfl hlen2 rfl rfl (fun cp k hc1 hc2 hc3 _ => ?_)
 refine QOf ?_
 rw [hlm]
 have hCl := V0 (k := k) hz5
 have hset := fun u' : Value => X3T (n := ys.length) (List.replicate k none) hz5 hRi (o := 4) (d := .v u') (by simp) hlen2
 simp only [List.set_cons_succ, List.set_cons_zero] at hset
 generalize List.map some R.flatten ++ List.replicate k none = C at *
 have hj : i * 5 + 4 < C.length := by omega
 have hrd := X0N (y := .own 121 nl) hj
 have hwr := X2N (y := .own 121 nl) (z := .own 122 (ps'.length)) hj
 have hiz : 0 + i * 5 + 4 = i * 5 + 4 := by omega
 have hrd0 := Eq.trans (congrArg (fun z => (XA C (some (_, .own 121 nl)))[z]?) hiz) hrd
 have hbd : 0 + i * 5 + 4 + 1 ≤ C.length := by omega
 have hRl : R.length = ys.length := hlen2.symm
 clear hlen2 hnl
 have hlm' := hlm.symm
 refine QAa ?_; refine Qxf ?_; refine Qf ?_; refine Qxf ?_; refine Z1 ?_; refine Z0t (sz := 5) ?_; refine ZB ?_; refine Z0x ?_ (hy := by exact hrd0); refine QTa ?_; refine QRd ?_; refine Z9 (hcon := hS) ?_; refine Z0t (sz := 5) ?_; refine ZB ?_; (refine Z0u (cs' := C) (ho' := some (i * 5 + 4, .own 122 (ps'.length))) ?_ (hcs := ?hcs113); (case hcs113 => exact (by rw [hiz]; exact hwr))); refine JD ?_
 show clo _ _ _ _
 refine X4Z 120 211 (i * 5 + 4) 122 (XR (ys.take i)) (XR (ys.drop (i + 1))) (by conv => lhs; whnf) hj (by conv => lhs; whnf) (by conv => lhs; whnf) (by rw [List.length_map]) (fun u' => ?_)
 have hcap : cp * 5 ≤ (C.set (i * 5 + 4) (some (.v u'))).length := by rw [List.length_set]; omega
 refine VA (X1V 0 1 120 110 (R.set i ([.v (.int .i64 x1.id), .v (.int .i64 x1.src), .v (.int .i64 x1.dst), .v (.string (X5 x1.typ)), .v u'])) (by conv => lhs; whnf) (by conv => lhs; whnf) rfl (hset u') (by rw [List.length_set]; exact hRl) (fun y hy => by
  rcases List.mem_or_eq_of_mem_set hy with hy | rfl
  ·exact hz5 y hy
  ·rfl) (by omega) hc2 hcap rfl rfl) ?_
 refine VA (X0u 110 211 (ys.set i ((⟨x1.id, x1.src, x1.dst, x1.typ, ps'⟩ : Edg), u')) (by refine Eq.trans (b := .row 5 (R.set i ([.v (.int .i64 x1.id), .v (.int .i64 x1.src), .v (.int .i64 x1.dst), .v (.string (X5 x1.typ)), .v u']))) (by conv => lhs; whnf) (by rw [eR])) (by refine Eq.trans (b := .bag (XR (ys.take i) ++ (u', 6, ps'.map X6) :: XR (ys.drop (i + 1)))) (by conv => lhs; whnf) (by rw [eB]))) ?_; refine VA (X07 3 210 xs (by conv => lhs; whnf) (by conv => lhs; whnf)) ?_
 refine X3G (show Xd _ _ _ _ _ from ⟨_, St.le_refl _, trivial, ?_⟩)
 rw [eX u', List.length_map, List.length_set]
 exact XZ ⟨rfl, rfl, rfl, rfl, trivial⟩
theorem Xdy (g : Gra) (c : Chg) (hg : GV g) (ho : c.op = 1) (q1 : Xn Nod.id g.nodes c.id = true) :
  YI Tryz.prog 167 (edS g) [.ptr 0 0, Xs c] (YW 7) := by
 obtain ⟨ns, es, nn, ne⟩ := g
 have hns := hg.ns
 have hnl := hg.nl
 have hes := hg.es
 have hel := hg.el
 simp only at q1 hns hes hnl hel
 refine UL Tryz.func167 rfl Tryz.ntmps167 rfl (fun E => ?_)
 refine YY rfl rfl rfl rfl (fun xs ys h1 h2 => ?_)
 subst h1 h2
 have hN := Uc (xs.map rXN) (ys.map rXE) nn ne c.id (by simp at hnl ⊢; omega) ((Uh xs).2 hns)
 rw [U9, U8, q1] at hN
 simp only [edL, List.length_map] at hN hnl
 generalize Xf ltI Nod.id (xs.map (·.1)) c.id = i at *
 simp only [edS, List.length_map]
 clear hg hns hes
 obtain ⟨op, id, src, dst, name, ⟨k0, k1, k2, k3, k4⟩⟩ := c
 simp only at ho
 subst ho
 simp only [Xs, XY] at *
 refine QBf ?_; refine Zl ?_; refine Qx ?_; refine X0 ?_; refine Va 2 rfl (fun _ => rfl) ?_; refine Z1 ?_; refine Zu ?_
 (refine .done (fun h => Bool.noConfusion h) ?_; apply V4 (hcon := V9 7); (case hxs => exact rfl); (case hys => conv => lhs; whnf); (case hle => ((repeat (first | exact trivial | refine ⟨(by (first | ((exact AVal.le_refl _)) | ((exact AVal.le_nil _)) | ((refine AVal.le_agg ?_; ((repeat (first | exact trivial | refine ⟨(by (first | ((exact AVal.le_refl _)) | ((exact AVal.le_nil _)) | ((refine AVal.le_of_eq ?_; (conv => lhs; whnf); (first | ((rfl)) | ((simp <;> fail)) | fail))) | fail)), ?_⟩ | fail)) <;> fail))) | ((refine AVal.le_of_eq ?_; (conv => lhs; whnf); (first | ((rfl)) | ((simp <;> fail)) | fail))) | fail)), ?_⟩ | fail)) <;> fail)); (case hf => exact rfl); (case hLi => (repeat (first | exact trivial | refine ⟨rfl, ?_⟩ | fail)) <;> fail))
theorem Xcy (g : Gra) (c : Chg) (hg : GV g) (ho : c.op = 1) (q1 : Xn Nod.id g.nodes c.id = false) (q2 : ¬ g.nodes.length < 2000) :
  YI Tryz.prog 167 (edS g) [.ptr 0 0, Xs c] (YW 20) := by
 obtain ⟨ns, es, nn, ne⟩ := g
 have hns := hg.ns
 have hnl := hg.nl
 have hes := hg.es
 have hel := hg.el
 simp only at q1 q2 hns hes hnl hel
 refine UL Tryz.func167 rfl Tryz.ntmps167 rfl (fun E => ?_)
 refine YY rfl rfl rfl rfl (fun xs ys h1 h2 => ?_)
 subst h1 h2
 have hN := Uc (xs.map rXN) (ys.map rXE) nn ne c.id (by simp at hnl ⊢; omega) ((Uh xs).2 hns)
 rw [U9, U8, q1] at hN
 simp only [edL, List.length_map] at hN hnl q2
 generalize Xf ltI Nod.id (xs.map (·.1)) c.id = i at *
 have hm7 := Yy 7
 have hlen2 : xs.length = ((xs.map rXN).map cRN).length := by simp
 have q2' : ¬ (((xs.map rXN).map cRN).length : Int) < 2000 := by rw [← hlen2]; omega
 generalize (xs.map rXN).map cRN = R at *
 simp only [edS, List.length_map]
 clear hg hns hes
 obtain ⟨op, id, src, dst, name, ⟨k0, k1, k2, k3, k4⟩⟩ := c
 simp only at ho
 subst ho
 simp only [Xs, XY] at *
 refine QBf ?_; refine Zl ?_; refine QIa ?_; refine Zu ?_; refine Z9 (hcon := hm7) ?_; refine QL ?_; refine Va 7 rfl (fun _ => rfl) ?_; refine Z1 ?_; refine Qxf ?_; refine Z0c ?_; refine Z0v (op := .lss) (r' := .bool false) (u := .int .i64 (R.length : Nat)) (v := .int .i64 2000) ?_ (hr' := by exact congrArg Value.bool (decide_eq_false q2'))
 (refine .done (fun h => Bool.noConfusion h) ?_; apply V4 (hcon := V9 20); (case hxs => exact rfl); (case hys => conv => lhs; whnf); (case hle => ((repeat (first | exact trivial | refine ⟨(by (first | ((exact AVal.le_refl _)) | ((exact AVal.le_nil _)) | ((refine AVal.le_agg ?_; ((repeat (first | exact trivial | refine ⟨(by (first | ((exact AVal.le_refl _)) | ((exact AVal.le_nil _)) | ((refine AVal.le_of_eq ?_; (conv => lhs; whnf); (first | ((rfl)) | ((simp <;> fail)) | fail))) | fail)), ?_⟩ | fail)) <;> fail))) | ((refine AVal.le_of_eq ?_; (conv => lhs; whnf); (first | ((rfl)) | ((simp <;> fail)) | fail))) | fail)), ?_⟩ | fail)) <;> fail)); (case hf => exact rfl); (case hLi => (repeat (first | exact trivial | refine ⟨rfl, ?_⟩ | fail)) <;> fail))
theorem XdG (g : Gra) (c : Chg) (hg : GV g) (ho : ¬ c.op = 1) (q1 : Xn Nod.id g.nodes c.id = false) :
  YI Tryz.prog 167 (edS g) [.ptr 0 0, Xs c] (YW 10) := by
 obtain ⟨ns, es, nn, ne⟩ := g
 have hns := hg.ns
 have hnl := hg.nl
 have hes := hg.es
 have hel := hg.el
 simp only at q1 hns hes hnl hel
 refine UL Tryz.func167 rfl Tryz.ntmps167 rfl (fun E => ?_)
 refine YY rfl rfl rfl rfl (fun xs ys h1 h2 => ?_)
 subst h1 h2
 have hN := Uc (xs.map rXN) (ys.map rXE) nn ne c.id (by simp at hnl ⊢; omega) ((Uh xs).2 hns)
 rw [U9, U8, q1] at hN
 simp only [edL, List.length_map] at hN hnl
 generalize Xf ltI Nod.id (xs.map (·.1)) c.id = i at *
 simp only [edS, List.length_map]
 clear hg hns hes
 obtain ⟨op, id, src, dst, name, ⟨k0, k1, k2, k3, k4⟩⟩ := c
 simp only at ho
 simp only [Xs, XY] at *
 refine QBf ?_; refine Z0y (op := .eql) (r' := .bool false) (u := .int .i64 op) (v := .int .i64 1) ?_ (hr' := by exact congrArg Value.bool (decide_eq_false ho)); refine QH ?_; refine X0 ?_; refine Va 1 rfl (fun _ => rfl) ?_; refine Z1 ?_
 (refine .done (fun h => Bool.noConfusion h) ?_; apply V4 (hcon := V9 10); (case hxs => exact rfl); (case hys => conv => lhs; whnf); (case hle => ((repeat (first | exact trivial | refine ⟨(by (first | ((exact AVal.le_refl _)) | ((exact AVal.le_nil _)) | ((refine AVal.le_agg ?_; ((repeat (first | exact trivial | refine ⟨(by (first | ((exact AVal.le_refl _)) | ((exact AVal.le_nil _)) | ((refine AVal.le_of_eq ?_; (conv => lhs; whnf); (first | ((rfl)) | ((simp <;> fail)) | fail))) | fail)), ?_⟩ | fail)) <;> fail))) | ((refine AVal.le_of_eq ?_; (conv => lhs; whnf); (first | ((rfl)) | ((simp <;> fail)) | fail))) | fail)), ?_⟩ | fail)) <;> fail)); (case hf => exact rfl); (case hLi => (repeat (first | exact trivial | refine ⟨rfl, ?_⟩ | fail)) <;> fail))
theorem XgC (ys : List XE) (n : Int) (h : UG (ys.map (·.1)) n = true) : ∃ k, ∃ hk : k < ys.length, (ys[k].1.src = n ∨ ys[k].1.dst = n) ∧ ∀ j (hj : j < ys.length), j < k → ys[j].1.src ≠ n ∧ ys[j].1.dst ≠ n := by
 induction ys with
 | nil => simp [UG] at h
 | cons y ys ih =>
  by_cases hy : y.1.src = n ∨ y.1.dst = n
  ·exact ⟨0, by simp, hy, fun j _ h => by omega⟩
  ·have h' : UG (ys.map (·.1)) n = true := by
    unfold UG at h ⊢
    rw [List.map_cons, List.any_cons] at h
    simpa [hy] using h
   obtain ⟨k, hk, e1, e2⟩ := ih h'
   refine ⟨k + 1, by simpa using hk, e1, fun j hj hjk => ?_⟩
   cases j with
   | zero => exact ⟨fun e => hy (.inl e), fun e => hy (.inr e)⟩
   | succ j => exact e2 j (by simpa using hj) (by omega)
theorem XeU (g : Gra) (c : Chg) (hg : GV g) (ho : c.op = 2) (q1 : Xn Nod.id g.nodes c.id = true) (q2 : UG g.edges c.id = true) :
  YI Tryz.prog 167 (edS g) [.ptr 0 0, Xs c] (YW 12) := by
 obtain ⟨ns, es, nn, ne⟩ := g
 have hns := hg.ns
 have hnl := hg.nl
 have hes := hg.es
 have hel := hg.el
 simp only at q1 q2 hns hes hnl hel
 refine UL Tryz.func167 rfl Tryz.ntmps167 rfl (fun E => ?_)
 refine YY rfl rfl rfl rfl (fun xs ys h1 h2 => ?_)
 subst h1 h2
 have hle := (List.getElem?_eq_some_iff.1 (X6R hns q1).choose_spec.1).1
 have hN := Uc (xs.map rXN) (ys.map rXE) nn ne c.id (by simp at hnl ⊢; omega) ((Uh xs).2 hns)
 rw [U9, U8, q1] at hN
 simp only [edL, List.length_map] at hN hnl hel hle
 generalize Xf ltI Nod.id (xs.map (·.1)) c.id = i at *
 have hlen2 : xs.length = ((xs.map rXN).map cRN).length := by simp
 have hm10 := Yy 10
 have hm12 := Yy 12
 obtain ⟨k0', hk0l, hk0, hkb⟩ := XgC ys c.id q2
 have hEl : ys.length = ((ys.map rXE).map cRE).length := by simp
 have hE5 := X1q (ys.map rXE)
 have hEk : ∀ k (h : k < ys.length), ((ys.map rXE).map cRE)[k]? = some (cRE (rXE ys[k])) := fun k h => by simp [List.getElem?_map, List.getElem?_eq_getElem h]
 generalize hRE : (ys.map rXE).map cRE = RE' at *
 generalize hR : (xs.map rXN).map cRN = R at *
 clear q1 q2
 simp only [edS, List.length_map]
 clear hg hns hes
 obtain ⟨op, id, src, dst, name, ⟨k0, k1, k2, k3, k4⟩⟩ := c
 simp only at ho
 subst ho
 simp only [Xs, XY] at *
 refine QBf ?_; refine Qec ?_; refine Z9 (hcon := hm10) ?_; refine Qlf ?_; refine Qxf ?_; refine Z1 ?_; refine Z0d ?_; refine Qob ?_; refine QFb ?_; refine Qt ?_; refine Qxf ?_; refine Z0c ?_; refine Z1 ?_; refine QK ?_; refine Xz (fun k : Nat => k ≤ k0') (fun k => ⟨183, [(0, .ptr 0 0), (3, .ptr 100 0), (4, ai (i : Nat)), (91, .own 4 ys.length), (92, ai RE'.length), (93, ai k)], [(0, .box [.own 3 xs.length, .own 4 ys.length, ai nn, ai ne]), (3, .row 3 R), (210, .bag (Xv xs)), (4, .row 5 RE'), (211, .bag (XR ys)), (100, .box [ai 2, ai id, ai src, ai dst, .d (.v (.string (X5 name))), ai k0, ai k1, ai k2, .d (.v (.string (X5 k3))), .d (.sl 5 (Xx k4))])]⟩) (fun k => RE'.length - k) 0 (Nat.zero_le _) (X7 rfl JM ⟨rfl, rfl, rfl, rfl, rfl, rfl, trivial⟩) ?_
 intro k hk
 have hkl : k < ys.length := by omega
 have hkl' : (k : Int) < RE'.length := by omega
 have hy := hEk k hkl
 generalize hyk : ys[k] = y at hy
 have hpart : (RE'.flatten.drop (k * 5)).take 5 = [.v (.int .i64 y.1.id), .v (.int .i64 y.1.src), .v (.int .i64 y.1.dst), .v (.string (X5 y.1.typ)), .v y.2] := by
  have := X47 hE5 hy (o := 0) (q := 5) (by omega)
  simpa [cRE, rXE] using this
 have hroom : k * 5 + 5 ≤ RE'.length * 5 := by omega
 by_cases hkk : k < k0'
 case pos =>
  obtain ⟨n1, n2⟩ := hkb k hkl hkk
  rw [hyk] at n1 n2
  clear hk0 hkb hEk hyk hy hR hRE
  refine QDf ?_; refine QCe ?_; refine QTa ?_; refine QEf ?_; refine Z0w (op := .neq) (r' := .bool true) (u := .int .i64 y.1.dst) (v := .int .i64 id) ?_ (hr' := by exact congrArg Value.bool (decide_eq_true n2)); refine Zn ?_; refine Z9 (hcon := hm12) ?_; refine JD ?_; refine QV ?_
  clear hE5 hpart hroom hEl
  exact ⟨k + 1, by omega, by omega, X7 rfl JM ⟨rfl, rfl, rfl, rfl, rfl, rfl, trivial⟩⟩
 obtain rfl : k = k0' := by omega
 rw [hyk] at hk0
 clear hkb hEk hyk hy hR hRE
 by_cases n1 : y.1.src = id
 case pos =>
  have n1' : ¬ (y.1.src ≠ id) := fun h => h n1
  refine QDf ?_; refine Va 12 rfl (fun _ => rfl) ?_; refine Qkd ?_; refine Z0w (op := .neq) (r' := .bool false) (u := .int .i64 y.1.src) (v := .int .i64 id) ?_ (hr' := by exact congrArg Value.bool (decide_eq_false n1')); refine Qw ?_; refine QU ?_
  (refine .done (fun h => Bool.noConfusion h) ?_; apply V4 (hcon := V9 12); (case hxs => exact rfl); (case hys => conv => lhs; whnf); (case hle => ((repeat (first | exact trivial | refine ⟨(by (first | ((exact AVal.le_refl _)) | ((exact AVal.le_nil _)) | ((refine AVal.le_agg ?_; ((repeat (first | exact trivial | refine ⟨(by (first | ((exact AVal.le_refl _)) | ((exact AVal.le_nil _)) | ((refine AVal.le_of_eq ?_; (conv => lhs; whnf); (first | ((rfl)) | ((simp <;> fail)) | fail))) | fail)), ?_⟩ | fail)) <;> fail))) | ((refine AVal.le_of_eq ?_; (conv => lhs; whnf); (first | ((rfl)) | ((simp <;> fail)) | fail))) | fail)), ?_⟩ | fail)) <;> fail)); (case hf => exact rfl); (case hLi => (repeat (first | exact trivial | refine ⟨rfl, ?_⟩ | fail)) <;> fail))
 have n2 : y.1.dst = id := by rcases hk0 with h | h; exact (n1 h).elim; exact h
 have n2' : ¬ (y.1.dst ≠ id) := fun h => h n2
 refine QDf ?_; refine Va 12 rfl (fun _ => rfl) ?_; refine Qkd ?_; refine QEf ?_; refine Z0w (op := .neq) (r' := .bool false) (u := .int .i64 y.1.dst) (v := .int .i64 id) ?_ (hr' := by exact congrArg Value.bool (decide_eq_false n2')); refine Zn ?_
 (refine .done (fun h => Bool.noConfusion h) ?_; apply V4 (hcon := V9 12); (case hxs => exact rfl); (case hys => conv => lhs; whnf); (case hle => ((repeat (first | exact trivial | refine ⟨(by (first | ((exact AVal.le_refl _)) | ((exact AVal.le_nil _)) | ((refine AVal.le_agg ?_; ((repeat (first | exact trivial | refine ⟨(by (first | ((exact AVal.le_refl _)) | ((exact AVal.le_nil _)) | ((refine AVal.le_of_eq ?_; (conv => lhs; whnf); (first | ((rfl)) | ((simp <;> fail)) | fail))) | fail)), ?_⟩ | fail)) <;> fail))) | ((refine AVal.le_of_eq ?_; (conv => lhs; whnf); (first | ((rfl)) | ((simp <;> fail)) | fail))) | fail)), ?_⟩ | fail)) <;> fail)); (case hf => exact rfl); (case hLi => (repeat (first | exact trivial | refine ⟨rfl, ?_⟩ | fail)) <;> fail))
theorem Xhc (g : Gra) (c : Chg) (x : Nod) (hg : GV g) (ho : c.op = 3) (hx : YJ g.nodes c.id = some x) (q1 : Xn XC x.labels c.name = true) :
  YI Tryz.prog 167 (edS g) [.ptr 0 0, Xs c] (YW 7) := by
 have hxm := X0R hx
 rw [X1B hg] at hx
 obtain ⟨ns, es, nn, ne⟩ := g
 have hns := hg.ns
 have hnl := hg.nl
 have hpv := (hg.nodes x hxm.1).2.2
 simp only at hx hns hnl
 obtain ⟨x', hx', hx2⟩ := Option.bind_eq_some_iff.1 hx
 obtain ⟨hk, rfl⟩ : x'.id = c.id ∧ x' = x := by by_cases e : x'.id = c.id <;> simp [e] at hx2 ⊢; exact hx2
 have q0 : Xn Nod.id ns c.id = true := by rw [UC YB hns]; exact decide_eq_true ⟨x', hx', hk⟩
 have hle : Xf ltI Nod.id ns c.id < ns.length := (List.getElem?_eq_some_iff.1 hx').1
 refine UL Tryz.func167 rfl Tryz.ntmps167 rfl (fun E => ?_)
 refine YY rfl rfl rfl rfl (fun xs ys h1 h2 => ?_)
 subst h1 h2
 have hN := Uc (xs.map rXN) (ys.map rXE) nn ne c.id (by simp at hnl ⊢; omega) ((Uh xs).2 hns)
 rw [U9, U8, q0] at hN
 simp only [edL, List.length_map] at hN hnl hle
 generalize Xf ltI Nod.id (xs.map (·.1)) c.id = i at *
 obtain ⟨⟨x1, u, v⟩, hy0, rfl⟩ : ∃ y : XN, xs[i]? = some y ∧ y.1 = x' := by
  rw [List.getElem?_map] at hx'
  obtain ⟨y, e1, e2⟩ := Option.map_eq_some_iff.1 hx'
  exact ⟨y, e1, e2⟩
 simp only at *
 have hm10 := Yy 10
 have hlr := hpv.lr
 have hl8 := hpv.ll
 have hS := X0O 121 (X3d x1.labels c.name (by omega) hlr)
 have hll : (x1.labels.map Xb).length = x1.labels.length := by simp
 rw [q1, hll] at hS
 clear hlr q1 hll
 generalize Xf ltS XC x1.labels c.name = p at *
 have eB0 := X0V hy0
 simp only at eB0
 have hlen2 : xs.length = ((xs.map rXN).map cRN).length := by simp
 have hRi : ((xs.map rXN).map cRN)[i]? = some [.v (.int .i64 x1.id), .v u, .v v] := by
  rw [List.getElem?_map, List.getElem?_map, hy0]; rfl
 have hz3 := X0v (xs.map rXN)
 simp only [edS, List.length_map]
 clear hg hns hx hx' hx2 hxm hpv q0 hnl
 generalize hR : (xs.map rXN).map cRN = R at *
 have hlm : (x1.labels.map Xb).length = x1.labels.length := by simp
 generalize hnl : x1.labels.length = nl at *
 obtain ⟨op, id, src, dst, name, ⟨k0, k1, k2, k3, k4⟩⟩ := c
 simp only at ho
 subst ho
 simp only [Xs, XY, XG, UJ] at *
 refine QGf ?_
 show AWP Tryz.prog E _ _ _
 refine VY 0 0 3 120 rfl (by omega) rfl rfl hlen2 rfl rfl (fun cp k hc1 hc2 hc3 _ => ?_)
 refine QKf ?_
 rw [hlm]
 have hCl := V0 (k := k) hz3
 generalize List.map some R.flatten ++ List.replicate k none = C at *
 have hj : i * 3 + 1 < C.length := by omega
 have hrd := X0N (y := .own 121 nl) hj
 have hiz : 0 + i * 3 + 1 = i * 3 + 1 := by omega
 have hrd0 := Eq.trans (congrArg (fun z => (XA C (some (_, .own 121 nl)))[z]?) hiz) hrd
 have hbd : 0 + i * 3 + 1 + 1 ≤ C.length := by omega
 have hRl : R.length = xs.length := hlen2.symm
 clear hlen2 hnl
 have hlm' := hlm.symm
 refine QHf ?_; refine QHb ?_; refine QJf ?_; refine Qyf ?_; refine X0 ?_; refine Va 2 rfl (fun _ => rfl) ?_; refine Z1 ?_; refine Zu ?_
 (refine .done (fun h => Bool.noConfusion h) ?_; apply V4 (hcon := V9 7); (case hxs => exact rfl); (case hys => conv => lhs; whnf); (case hle => ((repeat (first | exact trivial | refine ⟨(by (first | ((exact AVal.le_refl _)) | ((exact AVal.le_nil _)) | ((refine AVal.le_agg ?_; ((repeat (first | exact trivial | refine ⟨(by (first | ((exact AVal.le_refl _)) | ((exact AVal.le_nil _)) | ((refine AVal.le_of_eq ?_; (conv => lhs; whnf); (first | ((rfl)) | ((simp <;> fail)) | fail))) | fail)), ?_⟩ | fail)) <;> fail))) | ((refine AVal.le_of_eq ?_; (conv => lhs; whnf); (first | ((rfl)) | ((simp <;> fail)) | fail))) | fail)), ?_⟩ | fail)) <;> fail)); (case hf => exact rfl); (case hLi => (repeat (first | exact trivial | refine ⟨rfl, ?_⟩ | fail)) <;> fail))
theorem Xc8 (g : Gra) (c : Chg) (x : Nod) (hg : GV g) (ho : c.op = 3) (hx : YJ g.nodes c.id = some x) (q1 : Xn XC x.labels c.name = false) (q2 : ¬ x.labels.length < 8) :
  YI Tryz.prog 167 (edS g) [.ptr 0 0, Xs c] (YW 20) := by
 have hxm := X0R hx
 rw [X1B hg] at hx
 obtain ⟨ns, es, nn, ne⟩ := g
 have hns := hg.ns
 have hnl := hg.nl
 have hpv := (hg.nodes x hxm.1).2.2
 simp only at hx hns hnl
 obtain ⟨x', hx', hx2⟩ := Option.bind_eq_some_iff.1 hx
 obtain ⟨hk, rfl⟩ : x'.id = c.id ∧ x' = x := by by_cases e : x'.id = c.id <;> simp [e] at hx2 ⊢; exact hx2
 have q0 : Xn Nod.id ns c.id = true := by rw [UC YB hns]; exact decide_eq_true ⟨x', hx', hk⟩
 have hle : Xf ltI Nod.id ns c.id < ns.length := (List.getElem?_eq_some_iff.1 hx').1
 refine UL Tryz.func167 rfl Tryz.ntmps167 rfl (fun E => ?_)
 refine YY rfl rfl rfl rfl (fun xs ys h1 h2 => ?_)
 subst h1 h2
 have hN := Uc (xs.map rXN) (ys.map rXE) nn ne c.id (by simp at hnl ⊢; omega) ((Uh xs).2 hns)
 rw [U9, U8, q0] at hN
 simp only [edL, List.length_map] at hN hnl hle
 generalize Xf ltI Nod.id (xs.map (·.1)) c.id = i at *
 obtain ⟨⟨x1, u, v⟩, hy0, rfl⟩ : ∃ y : XN, xs[i]? = some y ∧ y.1 = x' := by
  rw [List.getElem?_map] at hx'
  obtain ⟨y, e1, e2⟩ := Option.map_eq_some_iff.1 hx'
  exact ⟨y, e1, e2⟩
 simp only at *
 have hm10 := Yy 10
 have hlr := hpv.lr
 have hl8 := hpv.ll
 have hS := X0O 121 (X3d x1.labels c.name (by omega) hlr)
 have hll : (x1.labels.map Xb).length = x1.labels.length := by simp
 rw [q1, hll] at hS
 clear hlr q1 hll
 generalize Xf ltS XC x1.labels c.name = p at *
 have hm7 := Yy 7
 have hq8 : ¬ ((x1.labels.map Xb).length : Int) < 8 := by rw [List.length_map]; omega
 clear q2
 have eB0 := X0V hy0
 simp only at eB0
 have hlen2 : xs.length = ((xs.map rXN).map cRN).length := by simp
 have hRi : ((xs.map rXN).map cRN)[i]? = some [.v (.int .i64 x1.id), .v u, .v v] := by
  rw [List.getElem?_map, List.getElem?_map, hy0]; rfl
 have hz3 := X0v (xs.map rXN)
 simp only [edS, List.length_map]
 clear hg hns hx hx' hx2 hxm hpv q0 hnl
 generalize hR : (xs.map rXN).map cRN = R at *
 have hlm : (x1.labels.map Xb).length = x1.labels.length := by simp
 generalize hnl : x1.labels.length = nl at *
 obtain ⟨op, id, src, dst, name, ⟨k0, k1, k2, k3, k4⟩⟩ := c
 simp only at ho
 subst ho
 simp only [Xs, XY, XG, UJ] at *
 refine QGf ?_
 show AWP Tryz.prog E _ _ _
 refine VY 0 0 3 120 rfl (by omega) rfl rfl hlen2 rfl rfl (fun cp k hc1 hc2 hc3 _ => ?_)
 refine QKf ?_
 rw [hlm]
 have hCl := V0 (k := k) hz3
 generalize List.map some R.flatten ++ List.replicate k none = C at *
 have hj : i * 3 + 1 < C.length := by omega
 have hrd := X0N (y := .own 121 nl) hj
 have hiz : 0 + i * 3 + 1 = i * 3 + 1 := by omega
 have hrd0 := Eq.trans (congrArg (fun z => (XA C (some (_, .own 121 nl)))[z]?) hiz) hrd
 have hbd : 0 + i * 3 + 1 + 1 ≤ C.length := by omega
 have hRl : R.length = xs.length := hlen2.symm
 clear hlen2 hnl
 have hlm' := hlm.symm
 refine QHf ?_; refine QHb ?_; refine QJf ?_; refine Qed ?_; refine Zu ?_; refine Z9 (hcon := hm7) ?_; refine QL ?_; refine Va 6 rfl (fun _ => rfl) ?_; refine Z1 ?_; refine QIf ?_; refine Z0c ?_; refine Z0v (op := .lss) (r' := .bool false) (u := .int .i64 ((x1.labels.map Xb).length : Nat)) (v := .int .i64 8) ?_ (hr' := by exact congrArg Value.bool (decide_eq_false hq8))
 (refine .done (fun h => Bool.noConfusion h) ?_; apply V4 (hcon := V9 20); (case hxs => exact rfl); (case hys => conv => lhs; whnf); (case hle => ((repeat (first | exact trivial | refine ⟨(by (first | ((exact AVal.le_refl _)) | ((exact AVal.le_nil _)) | ((refine AVal.le_agg ?_; ((repeat (first | exact trivial | refine ⟨(by (first | ((exact AVal.le_refl _)) | ((exact AVal.le_nil _)) | ((refine AVal.le_of_eq ?_; (conv => lhs; whnf); (first | ((rfl)) | ((simp <;> fail)) | fail))) | fail)), ?_⟩ | fail)) <;> fail))) | ((refine AVal.le_of_eq ?_; (conv => lhs; whnf); (first | ((rfl)) | ((simp <;> fail)) | fail))) | fail)), ?_⟩ | fail)) <;> fail)); (case hf => exact rfl); (case hLi => (repeat (first | exact trivial | refine ⟨rfl, ?_⟩ | fail)) <;> fail))
theorem XeQ (g : Gra) (c : Chg) (x : Nod) (hg : GV g) (ho : c.op = 4) (hx : YJ g.nodes c.id = some x) (q1 : Xn XC x.labels c.name = false) :
  YI Tryz.prog 167 (edS g) [.ptr 0 0, Xs c] (YW 23) := by
 have hxm := X0R hx
 rw [X1B hg] at hx
 obtain ⟨ns, es, nn, ne⟩ := g
 have hns := hg.ns
 have hnl := hg.nl
 have hpv := (hg.nodes x hxm.1).2.2
 simp only at hx hns hnl
 obtain ⟨x', hx', hx2⟩ := Option.bind_eq_some_iff.1 hx
 obtain ⟨hk, rfl⟩ : x'.id = c.id ∧ x' = x := by by_cases e : x'.id = c.id <;> simp [e] at hx2 ⊢; exact hx2
 have q0 : Xn Nod.id ns c.id = true := by rw [UC YB hns]; exact decide_eq_true ⟨x', hx', hk⟩
 have hle : Xf ltI Nod.id ns c.id < ns.length := (List.getElem?_eq_some_iff.1 hx').1
 refine UL Tryz.func167 rfl Tryz.ntmps167 rfl (fun E => ?_)
 refine YY rfl rfl rfl rfl (fun xs ys h1 h2 => ?_)
 subst h1 h2
 have hN := Uc (xs.map rXN) (ys.map rXE) nn ne c.id (by simp at hnl ⊢; omega) ((Uh xs).2 hns)
 rw [U9, U8, q0] at hN
 simp only [edL, List.length_map] at hN hnl hle
 generalize Xf ltI Nod.id (xs.map (·.1)) c.id = i at *
 obtain ⟨⟨x1, u, v⟩, hy0, rfl⟩ : ∃ y : XN, xs[i]? = some y ∧ y.1 = x' := by
  rw [List.getElem?_map] at hx'
  obtain ⟨y, e1, e2⟩ := Option.map_eq_some_iff.1 hx'
  exact ⟨y, e1, e2⟩
 simp only at *
 have hm10 := Yy 10
 have hlr := hpv.lr
 have hl8 := hpv.ll
 have hS := X0O 121 (X3d x1.labels c.name (by omega) hlr)
 have hll : (x1.labels.map Xb).length = x1.labels.length := by simp
 rw [q1, hll] at hS
 clear hlr q1 hll
 generalize Xf ltS XC x1.labels c.name = p at *
 have eB0 := X0V hy0
 simp only at eB0
 have hlen2 : xs.length = ((xs.map rXN).map cRN).length := by simp
 have hRi : ((xs.map rXN).map cRN)[i]? = some [.v (.int .i64 x1.id), .v u, .v v] := by
  rw [List.getElem?_map, List.getElem?_map, hy0]; rfl
 have hz3 := X0v (xs.map rXN)
 simp only [edS, List.length_map]
 clear hg hns hx hx' hx2 hxm hpv q0 hnl
 generalize hR : (xs.map rXN).map cRN = R at *
 have hlm : (x1.labels.map Xb).length = x1.labels.length := by simp
 generalize hnl : x1.labels.length = nl at *
 obtain ⟨op, id, src, dst, name, ⟨k0, k1, k2, k3, k4⟩⟩ := c
 simp only at ho
 subst ho
 simp only [Xs, XY, XG, UJ] at *
 refine QGf ?_
 show AWP Tryz.prog E _ _ _
 refine VY 0 0 3 120 rfl (by omega) rfl rfl hlen2 rfl rfl (fun cp k hc1 hc2 hc3 _ => ?_)
 refine QKf ?_
 rw [hlm]
 have hCl := V0 (k := k) hz3
 generalize List.map some R.flatten ++ List.replicate k none = C at *
 have hj : i * 3 + 1 < C.length := by omega
 have hrd := X0N (y := .own 121 nl) hj
 have hiz : 0 + i * 3 + 1 = i * 3 + 1 := by omega
 have hrd0 := Eq.trans (congrArg (fun z => (XA C (some (_, .own 121 nl)))[z]?) hiz) hrd
 have hbd : 0 + i * 3 + 1 + 1 ≤ C.length := by omega
 have hRl : R.length = xs.length := hlen2.symm
 clear hlen2 hnl
 have hlm' := hlm.symm
 refine QHf ?_; refine QNb ?_; refine Qia ?_; refine QJf ?_; refine Qyf ?_; refine X0 ?_; refine Va 1 rfl (fun _ => rfl) ?_; refine Z1 ?_
 (refine .done (fun h => Bool.noConfusion h) ?_; apply V4 (hcon := V9 23); (case hxs => exact rfl); (case hys => conv => lhs; whnf); (case hle => ((repeat (first | exact trivial | refine ⟨(by (first | ((exact AVal.le_refl _)) | ((exact AVal.le_nil _)) | ((refine AVal.le_agg ?_; ((repeat (first | exact trivial | refine ⟨(by (first | ((exact AVal.le_refl _)) | ((exact AVal.le_nil _)) | ((refine AVal.le_of_eq ?_; (conv => lhs; whnf); (first | ((rfl)) | ((simp <;> fail)) | fail))) | fail)), ?_⟩ | fail)) <;> fail))) | ((refine AVal.le_of_eq ?_; (conv => lhs; whnf); (first | ((rfl)) | ((simp <;> fail)) | fail))) | fail)), ?_⟩ | fail)) <;> fail)); (case hf => exact rfl); (case hLi => (repeat (first | exact trivial | refine ⟨rfl, ?_⟩ | fail)) <;> fail))
theorem X7I {C : List (Option D)} {j : Nat} {y : AVal} {d : D} (h : j < C.length) : XA (C.set j (some d)) none = (XA C (some (j, y))).take j ++ [.d d] ++ (XA C (some (j, y))).drop (j + 1) := by
 have e : XA (C.set j (some d)) none = XA C (some (j, .d d)) := by simp only [XA, List.map_set]; rfl
 rw [e]; exact X2N h
theorem Xfg (g : Gra) (c : Chg) (x : Nod) (hg : GV g) (ho : c.op = 5) (hx : YJ g.nodes c.id = some x) (q1 : ¬ (XV x.props c.name c.v).length ≤ 16) :
  YI Tryz.prog 167 (edS g) [.ptr 0 0, Xs c] (YW 20) := by
 have hxm := X0R hx
 rw [X1B hg] at hx
 obtain ⟨ns, es, nn, ne⟩ := g
 have hns := hg.ns
 have hnl := hg.nl
 have hpv := (hg.nodes x hxm.1).2.2
 simp only at hx hns hnl
 obtain ⟨x', hx', hx2⟩ := Option.bind_eq_some_iff.1 hx
 obtain ⟨hk, rfl⟩ : x'.id = c.id ∧ x' = x := by by_cases e : x'.id = c.id <;> simp [e] at hx2 ⊢; exact hx2
 have q0 : Xn Nod.id ns c.id = true := by rw [UC YB hns]; exact decide_eq_true ⟨x', hx', hk⟩
 have hle : Xf ltI Nod.id ns c.id < ns.length := (List.getElem?_eq_some_iff.1 hx').1
 refine UL Tryz.func167 rfl Tryz.ntmps167 rfl (fun E => ?_)
 refine YY rfl rfl rfl rfl (fun xs ys h1 h2 => ?_)
 subst h1 h2
 have hN := Uc (xs.map rXN) (ys.map rXE) nn ne c.id (by simp at hnl ⊢; omega) ((Uh xs).2 hns)
 rw [U9, U8, q0] at hN
 simp only [edL, List.length_map] at hN hnl hle
 generalize Xf ltI Nod.id (xs.map (·.1)) c.id = i at *
 obtain ⟨⟨x1, u, v⟩, hy0, rfl⟩ : ∃ y : XN, xs[i]? = some y ∧ y.1 = x' := by
  rw [List.getElem?_map] at hx'
  obtain ⟨y, e1, e2⟩ := Option.map_eq_some_iff.1 hx'
  exact ⟨y, e1, e2⟩
 simp only at *
 have hm10 := Yy 10
 have hS := Xai x1.props c.name c.v hpv.pr hpv.pl q1
 clear q1
 have eB0 := X0V hy0
 simp only at eB0
 have hlen2 : xs.length = ((xs.map rXN).map cRN).length := by simp
 have hRi : ((xs.map rXN).map cRN)[i]? = some [.v (.int .i64 x1.id), .v u, .v v] := by
  rw [List.getElem?_map, List.getElem?_map, hy0]; rfl
 have hz3 := X0v (xs.map rXN)
 simp only [edS, List.length_map]
 clear hg hns hx hx' hx2 hxm hpv q0 hnl
 generalize hR : (xs.map rXN).map cRN = R at *
 have hlm : (x1.props.map X6).length = x1.props.length := by simp
 generalize hnl : x1.props.length = nl at *
 obtain ⟨op, id, src, dst, name, ⟨k0, k1, k2, k3, k4⟩⟩ := c
 simp only at ho
 subst ho
 simp only [Xs, XY, XG, UJ] at *
 refine QGf ?_
 show AWP Tryz.prog E _ _ _
 refine VY 0 0 3 120 rfl (by omega) rfl rfl hlen2 rfl rfl (fun cp k hc1 hc2 hc3 _ => ?_)
 refine QLf ?_
 rw [hlm]
 have hCl := V0 (k := k) hz3
 generalize List.map some R.flatten ++ List.replicate k none = C at *
 have hj : i * 3 + 2 < C.length := by omega
 have hrd := X0N (y := .own 121 nl) hj
 have hiz : 0 + i * 3 + 2 = i * 3 + 2 := by omega
 have hrd0 := Eq.trans (congrArg (fun z => (XA C (some (_, .own 121 nl)))[z]?) hiz) hrd
 have hbd : 0 + i * 3 + 2 + 1 ≤ C.length := by omega
 have hRl : R.length = xs.length := hlen2.symm
 clear hlen2 hnl
 have hlm' := hlm.symm
 refine QHf ?_; refine QNb ?_; refine Qja ?_; refine X9k 9 (by kernel_rfl) rfl (fun _ => rfl) ?_; refine Qf ?_; refine QIf ?_; refine QTa ?_; refine QRd ?_
 refine .done (fun h => Bool.noConfusion h) ⟨X5P (List.zip [.tmp 77, .tmp 79, .tmp 81] [.own 121 nl, .d (.v (.string (X5 name))), .agg [ai k0, ai k1, ai k2, .d (.v (.string (X5 k3))), .d (.sl 5 (Xx k4))]]) (some (82, .d (.v undef))) [(121, .row 6 (x1.props.map X6))], X9U hS rfl rfl JM rfl, ⟨⟨rfl, rfl, rfl, trivial⟩, ⟨rfl, trivial⟩, trivial, rfl⟩, ?_⟩
 have hwr := X7I (y := .own 121 nl) (d := .v undef) hj
 refine Qwf ?_; (refine Z0u (cs' := C.set (i * 3 + 2) (some (.v undef))) (ho' := none) ?_ (hcs := ?hcs115); (case hcs115 => exact (by rw [hiz]; exact hwr))); refine JD ?_; exact rfl
end Go.Fw
