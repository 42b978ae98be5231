/- An edge taken away. -/
import Derived.Test.YtonekjkmnhfjmaaGreatDoorK31
set_option maxHeartbeats 32000000
namespace Go.Fw
open Go Go.Proofs
set_option maxRecDepth 100000
set_option linter.unusedVariables false
set_option linter.unusedSimpArgs false
theorem X4r {xs : List XE} {i : Nat} {y : XE} (h : xs[i]? = some y) : XM xs = XM (xs.take i) ++ (y.2, 6, y.1.props.map X7) :: XM (xs.drop (i + 1)) := by
 conv => lhs; rw [X5n h, X3f, Xb9]
theorem Xec {xs : List XE} {i : Nat} {y x : XE} (h : xs[i]? = some x) : XM (xs.take i) ++ (y.2, 6, y.1.props.map X7) :: XM (xs.drop (i + 1)) = XM (xs.set i y) := by
 have hi := (List.getElem?_eq_some_iff.1 h).1
 have h2 : (xs.set i y)[i]? = some y := List.getElem?_set_self hi
 rw [X4r h2, List.take_set_of_le (Nat.le_refl i), List.drop_set_of_lt (by omega)]
theorem XgG {xs : List XE} {i : Nat} {x y : XE} (h : xs[i]? = some x) : ((xs.map rXE).map cRE).set i (cRE (rXE y)) = ((xs.set i y).map rXE).map cRE := by
 rw [List.map_set, List.map_set]
theorem Xep {ns : List Nod} {es : List Edg} {nn ne : Int} {x n : Edg} {k : Int} (hg : GV ⟨ns, es, nn, ne⟩) (hx : es[Xg ltI Edg.id es k]? = some x) (hk : x.id = k) (hn : n.id = k) :
  Vs ⟨ns, es, nn, ne⟩ n = ⟨ns, es.set (Xg ltI Edg.id es k) n, nn, ne⟩ := by
 have h1 := (hg.edges x (List.mem_of_getElem? hx)).2.1
 simp only at h1
 have hlt := (List.getElem?_eq_some_iff.1 hx).1
 unfold Vs
 simp only
 have hmax : max ne (n.id + 1) = ne := by omega
 subst hn
 rw [X3x YM hg.es hx hk, hmax]
 simp only
 rw [X4C hlt]
theorem Xcw (g : Gra) (c : Chg) (hg : GV g) (ho : c.op = 7) (q1 : Xl Edg.id g.edges c.id = true) :
  Con Tryz.prog 168 (edS g) [.ptr 0 0, Xu c] (edE { g with edges := YH Edg.id g.edges c.id }) (.tup []) := by
 obtain ⟨ns, es, nn, ne⟩ := g
 have hes := hg.es
 have hel := hg.el
 simp only at q1 hes hel
 obtain ⟨x0, hx0, hk0⟩ := X6J hes q1
 have e0 : YH Edg.id es c.id = es.take (Xg ltI Edg.id es c.id) ++ es.drop (Xg ltI Edg.id es c.id + 1) := X6l YM hes hx0 hk0
 simp only
 rw [e0]
 have hle : Xg ltI Edg.id es c.id < es.length := (List.getElem?_eq_some_iff.1 hx0).1
 refine Xc (xs := []) Tryz.func168 rfl Tryz.ntmps168 rfl rfl rfl (fun E => ?_)
 refine Ud rfl rfl rfl rfl (fun xs ys h1 h2 => ?_)
 subst h1 h2
 have hE := X0N (xs.map rXN) (ys.map rXE) nn ne c.id (by simp at hel ⊢; omega) ((X0L ys).2 hes)
 rw [X0P, X0K, q1] at hE
 simp only [edL, List.length_map] at hE hel hle
 generalize Xg ltI Edg.id (ys.map (·.1)) c.id = i at *
 have hD : Con Tryz.prog 237 [(4, .row 5 ((ys.map rXE).map cRE))] [.own 4 ((ys.map rXE).map cRE).length, ai (i : Nat), ai ((i + 1 : Nat) : Int)] [(4, .dead), (110, .row 5 (((ys.map rXE).map cRE).take i ++ ((ys.map rXE).map cRE).drop (i + 1)))] (.own 110 (((ys.map rXE).map cRE).length - 1)) :=
  YP 1 4 (XdW ((ys.map rXE).map cRE) i (X1x _) (by simp; omega) (by simp; omega))
 have hm11 := YJ 11
 have eX : (ys.map (·.1)).take i ++ (ys.map (·.1)).drop (i + 1) = (ys.take i ++ ys.drop (i + 1)).map (·.1) := by simp [List.map_take, List.map_drop]
 have eL : (ys.take i ++ ys.drop (i + 1)).length = ys.length - 1 := by rw [List.length_append, List.length_take, List.length_drop]; omega
 have eR : ((ys.map rXE).map cRE).take i ++ ((ys.map rXE).map cRE).drop (i + 1) = ((ys.take i ++ ys.drop (i + 1)).map rXE).map cRE := by simp [List.map_take, List.map_drop]
 obtain ⟨y0, hy0⟩ : ∃ y, ys[i]? = some y := ⟨_, List.getElem?_eq_getElem hle⟩
 have eB0 := X4r hy0
 have eB : XM (ys.take i) ++ XM (ys.drop (i + 1)) = XM (ys.take i ++ ys.drop (i + 1)) := (X3f _ _).symm
 rw [eX]
 have hlen2 : ((ys.map rXE).map cRE).length = ys.length := by simp
 rw [hlen2] at hD
 simp only [edE, edS, List.length_map, eL]
 have hlen2' : ys.length = ((ys.map rXE).map cRE).length := hlen2.symm
 clear hg hes e0 eX eL hx0 hk0 q1 hy0 hlen2
 generalize hR : (ys.map rXE).map cRE = R at *
 generalize hX : ys.take i ++ ys.drop (i + 1) = X at *
 obtain ⟨op, id, src, dst, name, ⟨k0, k1, k2, k3, k4⟩⟩ := c
 simp only at ho
 subst ho
 simp only [Xu, Y1] at *
 refine QAg ?_; refine QBc ?_; refine Qd ?_; refine Zr (hcon := hm11) ?_; refine JD ?_; refine Qz ?_; refine Qcg ?_; refine Qq ?_; (refine Zp (op := .add) (r' := .int .i64 ((i + 1 : Nat) : Int)) (u := .int .i64 (i : Nat)) (v := .int .i64 1) ?_ (hr := by exact Yk (by unfold Xv; omega))); refine Zr (hcon := hD) ?_; refine Qbg ?_; refine Qqg ?_
 show Xd _ _ _ _ _
 refine X0r (X6x 211 (XM (ys.take i)) (XM (ys.drop (i + 1))) (y0.2, 6, y0.1.props.map X7) (by refine Eq.trans (b := .bag (XM ys)) (by conv => lhs; whnf) (by rw [eB0]))) ?_; refine X0r (X0A 110 211 X (by refine Eq.trans (b := .row 5 (R.take i ++ R.drop (i + 1))) (by conv => lhs; whnf) (by rw [eR])) (by refine Eq.trans (b := .bag (XM (ys.take i) ++ XM (ys.drop (i + 1)))) (by conv => lhs; whnf) (by rw [eB]))) ?_; refine X0r (X0D 3 210 xs (by conv => lhs; whnf) (by conv => lhs; whnf)) ?_; exact Qtg
theorem XiI (g : Gra) (c : Chg) (x : Edg) (hg : GV g) (ho : c.op = 8) (hx : Uw g.edges c.id = some x) (q1 : (XP x.props c.name c.v).length ≤ 16) :
  Con Tryz.prog 168 (edS g) [.ptr 0 0, Xu c] (edE (Vs g ⟨x.id, x.src, x.dst, x.typ, XP x.props c.name c.v⟩)) (.tup []) := by
 have hxm := X4n hx
 rw [XaY hg] at hx
 obtain ⟨ns, es, nn, ne⟩ := g
 have hes := hg.es
 have hel := hg.el
 have hpv := (hg.edges x hxm.1).2.2.2.2.2
 simp only at hx hes hel
 obtain ⟨x', hx', hx2⟩ := Option.bind_eq_some_iff.1 hx
 obtain ⟨hk, rfl⟩ : x'.id = c.id ∧ x' = x := by by_cases e : x'.id = c.id <;> simp [e] at hx2 ⊢; exact hx2
 have q0 : Xl Edg.id es c.id = true := by rw [V0 YM hes]; exact decide_eq_true ⟨x', hx', hk⟩
 rw [Xep hg hx' hk (by exact hk)]
 have hle : Xg ltI Edg.id es c.id < es.length := (List.getElem?_eq_some_iff.1 hx').1
 refine Xc (xs := []) Tryz.func168 rfl Tryz.ntmps168 rfl rfl rfl (fun E => ?_)
 refine X4V ?_
 refine Ud rfl rfl rfl rfl (fun xs ys h1 h2 => ?_)
 subst h1 h2
 have hE := X0N (xs.map rXN) (ys.map rXE) nn ne c.id (by simp at hel ⊢; omega) ((X0L ys).2 hes)
 rw [X0P, X0K, q0] at hE
 simp only [edL, List.length_map] at hE hel hle
 generalize Xg ltI Edg.id (ys.map (·.1)) c.id = i at *
 obtain ⟨⟨x1, u⟩, hy0, rfl⟩ : ∃ y : XE, ys[i]? = some y ∧ y.1 = x' := by
  rw [List.getElem?_map] at hx'
  obtain ⟨y, e1, e2⟩ := Option.map_eq_some_iff.1 hx'
  exact ⟨y, e1, e2⟩
 simp only at *
 have hm11 := YJ 11
 have hS := YP 110 122 (YP 1 121 (XbX x1.props c.name c.v hpv.pr hpv.pl q1))
 have hS : Con Tryz.prog 234 [(121, .row 6 (x1.props.map X7))] [.own 121 x1.props.length, .d (.v (.string (X5 c.name))), Xm c.v] [(121, .dead), (122, .row 6 ((XP x1.props c.name c.v).map X7))] (.own 122 (XP x1.props c.name c.v).length) := by
  clear q1
  rcases c with ⟨_, _, _, _, _, ⟨_, _, _, _, _⟩⟩
  exact hS
 clear q1
 generalize XP x1.props c.name c.v = ps' at *
 have eR : ∀ u', ((ys.map rXE).map cRE).set i ([.v (.int .i64 x1.id), .v (.int .i64 x1.src), .v (.int .i64 x1.dst), .v (.string (X5 x1.typ)), .v u']) = ((ys.set i ((⟨x1.id, x1.src, x1.dst, x1.typ, ps'⟩ : Edg), u')).map rXE).map cRE := fun u' => XgG hy0 (y := ((⟨x1.id, x1.src, x1.dst, x1.typ, ps'⟩ : Edg), u'))
 have eB : ∀ u', (XM (ys.take i)) ++ (u', 6, ps'.map X7) :: XM (ys.drop (i + 1)) = XM (ys.set i ((⟨x1.id, x1.src, x1.dst, x1.typ, ps'⟩ : Edg), u')) := fun u' => Xec hy0 (y := ((⟨x1.id, x1.src, x1.dst, x1.typ, ps'⟩ : Edg), u'))
 have eB0 := X4r hy0
 simp only at eB0
 have eX : ∀ u', (ys.map (·.1)).set i ⟨x1.id, x1.src, x1.dst, x1.typ, ps'⟩ = (ys.set i ((⟨x1.id, x1.src, x1.dst, x1.typ, ps'⟩ : Edg), u')).map (·.1) := fun u' => by rw [List.map_set]
 have hlen2 : ys.length = ((ys.map rXE).map cRE).length := by simp
 have hRi : ((ys.map rXE).map cRE)[i]? = some [.v (.int .i64 x1.id), .v (.int .i64 x1.src), .v (.int .i64 x1.dst), .v (.string (X5 x1.typ)), .v u] := by
  rw [List.getElem?_map, List.getElem?_map, hy0]; rfl
 have hz5 := X1x (ys.map rXE)
 simp only [edE, edS, List.length_map]
 clear hg hes hx hx' hx2 hxm hpv q0 hel
 generalize hR : (ys.map rXE).map cRE = R at *
 have hlm : (x1.props.map X7).length = x1.props.length := by simp
 generalize hnl : x1.props.length = nl at *
 obtain ⟨op, id, src, dst, name, ⟨k0, k1, k2, k3, k4⟩⟩ := c
 simp only at ho
 subst ho
 simp only [Xu, Y1, Xm, US] at *
 refine QAg ?_; refine QGc ?_; refine Qd ?_; refine Zr (hcon := hm11) ?_; refine JD ?_
 show AWP Tryz.prog E _ _ _
 refine X0c 0 1 4 120 rfl (by omega) rfl rfl hlen2 rfl rfl (fun cp k hc1 hc2 hc3 _ => ?_)
 refine QCg ?_
 rw [hlm]
 have hCl := Vu (k := k) hz5
 have hset := fun u' : Value => X4a (n := ys.length) (List.replicate k none) hz5 hRi (o := 4) (d := .v u') (by simp) hlen2
 simp only [List.set_cons_succ, List.set_cons_zero] at hset
 generalize List.map some R.flatten ++ List.replicate k none = C at *
 have hj : i * 5 + 4 < C.length := by omega
 have hrd := X0T (y := .own 121 nl) hj
 have hwr := X2X (y := .own 121 nl) (z := .own 122 (ps'.length)) hj
 have hiz : 0 + i * 5 + 4 = i * 5 + 4 := by omega
 have hrd0 := Eq.trans (congrArg (fun z => (Xy C (some (_, .own 121 nl)))[z]?) hiz) hrd
 have hbd : 0 + i * 5 + 4 + 1 ≤ C.length := by omega
 have hRl : R.length = ys.length := hlen2.symm
 clear hlen2 hnl
 have hlm' := hlm.symm
 refine Qfb ?_; refine Qcg ?_; refine Qq ?_; refine Qcg ?_; refine Z1 ?_; refine Z0i (sz := 5) ?_; refine ZN ?_; refine Z0o ?_ (hy := by exact hrd0); refine QIb ?_; refine Qxf ?_; refine Zr (hcon := hS) ?_; refine Z0i (sz := 5) ?_; refine ZN ?_; (refine Z0j (cs' := C) (ho' := some (i * 5 + 4, .own 122 (ps'.length))) ?_ (hcs := ?hcs113); (case hcs113 => exact (by rw [hiz]; exact hwr))); refine JD ?_
 show clo _ _ _ _
 refine X3L 120 211 (i * 5 + 4) 122 (XM (ys.take i)) (XM (ys.drop (i + 1))) (by conv => lhs; whnf) hj (by conv => lhs; whnf) (by conv => lhs; whnf) (by rw [List.length_map]) (fun u' => ?_)
 have hcap : cp * 5 ≤ (C.set (i * 5 + 4) (some (.v u'))).length := by rw [List.length_set]; omega
 refine VR (X2a 0 1 120 110 (R.set i ([.v (.int .i64 x1.id), .v (.int .i64 x1.src), .v (.int .i64 x1.dst), .v (.string (X5 x1.typ)), .v u'])) (by conv => lhs; whnf) (by conv => lhs; whnf) rfl (hset u') (by rw [List.length_set]; exact hRl) (fun y hy => by
  rcases List.mem_or_eq_of_mem_set hy with hy | rfl
  ·exact hz5 y hy
  ·rfl) (by omega) hc2 hcap rfl rfl) ?_
 refine VR (X0A 110 211 (ys.set i ((⟨x1.id, x1.src, x1.dst, x1.typ, ps'⟩ : Edg), u')) (by refine Eq.trans (b := .row 5 (R.set i ([.v (.int .i64 x1.id), .v (.int .i64 x1.src), .v (.int .i64 x1.dst), .v (.string (X5 x1.typ)), .v u']))) (by conv => lhs; whnf) (by rw [eR])) (by refine Eq.trans (b := .bag (XM (ys.take i) ++ (u', 6, ps'.map X7) :: XM (ys.drop (i + 1)))) (by conv => lhs; whnf) (by rw [eB]))) ?_; refine VR (X0D 3 210 xs (by conv => lhs; whnf) (by conv => lhs; whnf)) ?_
 refine X59 (show Xd _ _ _ _ _ from ⟨_, St.le_refl _, trivial, ?_⟩)
 rw [eX u', List.length_map, List.length_set]
 exact XX ⟨rfl, rfl, rfl, rfl, trivial⟩
theorem Xdy (g : Gra) (c : Chg) (hg : GV g) (ho : c.op = 1) (q1 : Xl Nod.id g.nodes c.id = true) :
  YV Tryz.prog 167 (edS g) [.ptr 0 0, Xu c] (Ue 7) := by
 obtain ⟨ns, es, nn, ne⟩ := g
 have hns := hg.ns
 have hnl := hg.nl
 have hes := hg.es
 have hel := hg.el
 simp only at q1 hns hes hnl hel
 refine V4 Tryz.func167 rfl Tryz.ntmps167 rfl (fun E => ?_)
 refine Ud rfl rfl rfl rfl (fun xs ys h1 h2 => ?_)
 subst h1 h2
 have hN := Up (xs.map rXN) (ys.map rXE) nn ne c.id (by simp at hnl ⊢; omega) ((Uv xs).2 hns)
 rw [Uo, Un, q1] at hN
 simp only [edL, List.length_map] at hN hnl
 generalize Xg ltI Nod.id (xs.map (·.1)) c.id = i at *
 simp only [edS, List.length_map]
 clear hg hns hes
 obtain ⟨op, id, src, dst, name, ⟨k0, k1, k2, k3, k4⟩⟩ := c
 simp only at ho
 subst ho
 simp only [Xu, Y1] at *
 refine Qpg ?_; refine Qre ?_; refine Qm ?_; refine X0 ?_; refine Vr 2 rfl (fun _ => rfl) ?_; refine Z1 ?_; refine Zd ?_
 (refine .done (fun h => Bool.noConfusion h) ?_; apply Vp (hcon := Vk 7); (case hxs => exact rfl); (case hys => conv => lhs; whnf); (case hle => ((repeat (first | exact trivial | refine ⟨(by (first | ((exact AVal.le_refl _)) | ((exact AVal.le_nil _)) | ((refine AVal.le_agg ?_; ((repeat (first | exact trivial | refine ⟨(by (first | ((exact AVal.le_refl _)) | ((exact AVal.le_nil _)) | ((refine AVal.le_of_eq ?_; (conv => lhs; whnf); (first | ((rfl)) | ((simp <;> fail)) | fail))) | fail)), ?_⟩ | fail)) <;> fail))) | ((refine AVal.le_of_eq ?_; (conv => lhs; whnf); (first | ((rfl)) | ((simp <;> fail)) | fail))) | fail)), ?_⟩ | fail)) <;> fail)); (case hf => exact rfl); (case hLi => (repeat (first | exact trivial | refine ⟨rfl, ?_⟩ | fail)) <;> fail))
theorem Xcl (g : Gra) (c : Chg) (hg : GV g) (ho : c.op = 1) (q1 : Xl Nod.id g.nodes c.id = false) (q2 : ¬ g.nodes.length < 2000) :
  YV Tryz.prog 167 (edS g) [.ptr 0 0, Xu c] (Ue 20) := by
 obtain ⟨ns, es, nn, ne⟩ := g
 have hns := hg.ns
 have hnl := hg.nl
 have hes := hg.es
 have hel := hg.el
 simp only at q1 q2 hns hes hnl hel
 refine V4 Tryz.func167 rfl Tryz.ntmps167 rfl (fun E => ?_)
 refine Ud rfl rfl rfl rfl (fun xs ys h1 h2 => ?_)
 subst h1 h2
 have hN := Up (xs.map rXN) (ys.map rXE) nn ne c.id (by simp at hnl ⊢; omega) ((Uv xs).2 hns)
 rw [Uo, Un, q1] at hN
 simp only [edL, List.length_map] at hN hnl q2
 generalize Xg ltI Nod.id (xs.map (·.1)) c.id = i at *
 have hm7 := YJ 7
 have hlen2 : xs.length = ((xs.map rXN).map cRN).length := by simp
 have q2' : ¬ (((xs.map rXN).map cRN).length : Int) < 2000 := by rw [← hlen2]; omega
 generalize (xs.map rXN).map cRN = R at *
 simp only [edS, List.length_map]
 clear hg hns hes
 obtain ⟨op, id, src, dst, name, ⟨k0, k1, k2, k3, k4⟩⟩ := c
 simp only at ho
 subst ho
 simp only [Xu, Y1] at *
 refine Qpg ?_; refine Qre ?_; refine Qv ?_; refine Zd ?_; refine Zr (hcon := hm7) ?_; refine Qja ?_; refine Vr 7 rfl (fun _ => rfl) ?_; refine Z1 ?_; refine Qcg ?_; refine Z5 ?_; refine Z0k (op := .lss) (r' := .bool false) (u := .int .i64 (R.length : Nat)) (v := .int .i64 2000) ?_ (hr' := by exact congrArg Value.bool (decide_eq_false q2'))
 (refine .done (fun h => Bool.noConfusion h) ?_; apply Vp (hcon := Vk 20); (case hxs => exact rfl); (case hys => conv => lhs; whnf); (case hle => ((repeat (first | exact trivial | refine ⟨(by (first | ((exact AVal.le_refl _)) | ((exact AVal.le_nil _)) | ((refine AVal.le_agg ?_; ((repeat (first | exact trivial | refine ⟨(by (first | ((exact AVal.le_refl _)) | ((exact AVal.le_nil _)) | ((refine AVal.le_of_eq ?_; (conv => lhs; whnf); (first | ((rfl)) | ((simp <;> fail)) | fail))) | fail)), ?_⟩ | fail)) <;> fail))) | ((refine AVal.le_of_eq ?_; (conv => lhs; whnf); (first | ((rfl)) | ((simp <;> fail)) | fail))) | fail)), ?_⟩ | fail)) <;> fail)); (case hf => exact rfl); (case hLi => (repeat (first | exact trivial | refine ⟨rfl, ?_⟩ | fail)) <;> fail))
theorem XdF (g : Gra) (c : Chg) (hg : GV g) (ho : ¬ c.op = 1) (q1 : Xl Nod.id g.nodes c.id = false) :
  YV Tryz.prog 167 (edS g) [.ptr 0 0, Xu c] (Ue 10) := by
 obtain ⟨ns, es, nn, ne⟩ := g
 have hns := hg.ns
 have hnl := hg.nl
 have hes := hg.es
 have hel := hg.el
 simp only at q1 hns hes hnl hel
 refine V4 Tryz.func167 rfl Tryz.ntmps167 rfl (fun E => ?_)
 refine Ud rfl rfl rfl rfl (fun xs ys h1 h2 => ?_)
 subst h1 h2
 have hN := Up (xs.map rXN) (ys.map rXE) nn ne c.id (by simp at hnl ⊢; omega) ((Uv xs).2 hns)
 rw [Uo, Un, q1] at hN
 simp only [edL, List.length_map] at hN hnl
 generalize Xg ltI Nod.id (xs.map (·.1)) c.id = i at *
 simp only [edS, List.length_map]
 clear hg hns hes
 obtain ⟨op, id, src, dst, name, ⟨k0, k1, k2, k3, k4⟩⟩ := c
 simp only at ho
 simp only [Xu, Y1] at *
 refine Qpg ?_; refine Qmc ?_; refine Z0p (op := .eql) (r' := .bool false) (u := .int .i64 op) (v := .int .i64 1) ?_ (hr' := by exact congrArg Value.bool (decide_eq_false ho)); refine Qj ?_; refine X0 ?_; refine Vr 1 rfl (fun _ => rfl) ?_; refine Z1 ?_
 (refine .done (fun h => Bool.noConfusion h) ?_; apply Vp (hcon := Vk 10); (case hxs => exact rfl); (case hys => conv => lhs; whnf); (case hle => ((repeat (first | exact trivial | refine ⟨(by (first | ((exact AVal.le_refl _)) | ((exact AVal.le_nil _)) | ((refine AVal.le_agg ?_; ((repeat (first | exact trivial | refine ⟨(by (first | ((exact AVal.le_refl _)) | ((exact AVal.le_nil _)) | ((refine AVal.le_of_eq ?_; (conv => lhs; whnf); (first | ((rfl)) | ((simp <;> fail)) | fail))) | fail)), ?_⟩ | fail)) <;> fail))) | ((refine AVal.le_of_eq ?_; (conv => lhs; whnf); (first | ((rfl)) | ((simp <;> fail)) | fail))) | fail)), ?_⟩ | fail)) <;> fail)); (case hf => exact rfl); (case hLi => (repeat (first | exact trivial | refine ⟨rfl, ?_⟩ | fail)) <;> fail))
theorem Xg5 (ys : List XE) (n : Int) (h : UQ (ys.map (·.1)) n = true) : ∃ k, ∃ hk : k < ys.length, (ys[k].1.src = n ∨ ys[k].1.dst = n) ∧ ∀ j (hj : j < ys.length), j < k → ys[j].1.src ≠ n ∧ ys[j].1.dst ≠ n := by
 induction ys with
 | nil => simp [UQ] at h
 | cons y ys ih =>
  by_cases hy : y.1.src = n ∨ y.1.dst = n
  ·exact ⟨0, by simp, hy, fun j _ h => by omega⟩
  ·have h' : UQ (ys.map (·.1)) n = true := by
    unfold UQ at h ⊢
    rw [List.map_cons, List.any_cons] at h
    simpa [hy] using h
   obtain ⟨k, hk, e1, e2⟩ := ih h'
   refine ⟨k + 1, by simpa using hk, e1, fun j hj hjk => ?_⟩
   cases j with
   | zero => exact ⟨fun e => hy (.inl e), fun e => hy (.inr e)⟩
   | succ j => exact e2 j (by simpa using hj) (by omega)
theorem XiP (g : Gra) (c : Chg) (hg : GV g) (ho : c.op = 2) (q1 : Xl Nod.id g.nodes c.id = true) (q2 : UQ g.edges c.id = true) :
  YV Tryz.prog 167 (edS g) [.ptr 0 0, Xu c] (Ue 12) := by
 obtain ⟨ns, es, nn, ne⟩ := g
 have hns := hg.ns
 have hnl := hg.nl
 have hes := hg.es
 have hel := hg.el
 simp only at q1 q2 hns hes hnl hel
 refine V4 Tryz.func167 rfl Tryz.ntmps167 rfl (fun E => ?_)
 refine Ud rfl rfl rfl rfl (fun xs ys h1 h2 => ?_)
 subst h1 h2
 have hle := (List.getElem?_eq_some_iff.1 (X6J hns q1).choose_spec.1).1
 have hN := Up (xs.map rXN) (ys.map rXE) nn ne c.id (by simp at hnl ⊢; omega) ((Uv xs).2 hns)
 rw [Uo, Un, q1] at hN
 simp only [edL, List.length_map] at hN hnl hel hle
 generalize Xg ltI Nod.id (xs.map (·.1)) c.id = i at *
 have hlen2 : xs.length = ((xs.map rXN).map cRN).length := by simp
 have hm10 := YJ 10
 have hm12 := YJ 12
 obtain ⟨k0', hk0l, hk0, hkb⟩ := Xg5 ys c.id q2
 have hEl : ys.length = ((ys.map rXE).map cRE).length := by simp
 have hE5 := X1x (ys.map rXE)
 have hEk : ∀ k (h : k < ys.length), ((ys.map rXE).map cRE)[k]? = some (cRE (rXE ys[k])) := fun k h => by simp [List.getElem?_map, List.getElem?_eq_getElem h]
 generalize hRE : (ys.map rXE).map cRE = RE' at *
 generalize hR : (xs.map rXN).map cRN = R at *
 clear q1 q2
 simp only [edS, List.length_map]
 clear hg hns hes
 obtain ⟨op, id, src, dst, name, ⟨k0, k1, k2, k3, k4⟩⟩ := c
 simp only at ho
 subst ho
 simp only [Xu, Y1] at *
 refine Qpg ?_; refine Qse ?_; refine Qd ?_; refine Zr (hcon := hm10) ?_; refine Qg ?_; refine Qcg ?_; refine Z1 ?_; refine Z0l ?_; refine Qb ?_; refine QJb ?_; refine Qzc ?_; refine Qh ?_; refine Qcg ?_; refine Z5 ?_; refine Qia ?_; refine Xz (fun k : Nat => k ≤ k0') (fun k => ⟨183, [(0, .ptr 0 0), (3, .ptr 100 0), (4, ai (i : Nat)), (91, .own 4 ys.length), (92, ai RE'.length), (93, ai k)], [(0, .box [.own 3 xs.length, .own 4 ys.length, ai nn, ai ne]), (3, .row 3 R), (210, .bag (Xw xs)), (4, .row 5 RE'), (211, .bag (XM ys)), (100, .box [ai 2, ai id, ai src, ai dst, .d (.v (.string (X5 name))), ai k0, ai k1, ai k2, .d (.v (.string (X5 k3))), .d (.sl 5 (XG k4))])]⟩) (fun k => RE'.length - k) 0 (Nat.zero_le _) (X6 rfl JM ⟨rfl, rfl, rfl, rfl, rfl, rfl, trivial⟩) ?_
 intro k hk
 have hkl : k < ys.length := by omega
 have hkl' : (k : Int) < RE'.length := by omega
 have hy := hEk k hkl
 generalize hyk : ys[k] = y at hy
 have hpart : (RE'.flatten.drop (k * 5)).take 5 = [.v (.int .i64 y.1.id), .v (.int .i64 y.1.src), .v (.int .i64 y.1.dst), .v (.string (X5 y.1.typ)), .v y.2] := by
  have := X3S hE5 hy (o := 0) (q := 5) (by omega)
  simpa [cRE, rXE] using this
 have hroom : k * 5 + 5 ≤ RE'.length * 5 := by omega
 by_cases hkk : k < k0'
 case pos =>
  obtain ⟨n1, n2⟩ := hkb k hkl hkk
  rw [hyk] at n1 n2
  clear hk0 hkb hEk hyk hy hR hRE
  refine Qrg ?_; refine JR ?_; refine Qsg ?_; refine Z0n (op := .neq) (r' := .bool true) (u := .int .i64 y.1.dst) (v := .int .i64 id) ?_ (hr' := by exact congrArg Value.bool (decide_eq_true n2)); refine ZB ?_; refine Zr (hcon := hm12) ?_; refine JD ?_; refine Qsa ?_
  clear hE5 hpart hroom hEl
  exact ⟨k + 1, by omega, by omega, X6 rfl JM ⟨rfl, rfl, rfl, rfl, rfl, rfl, trivial⟩⟩
 obtain rfl : k = k0' := by omega
 rw [hyk] at hk0
 clear hkb hEk hyk hy hR hRE
 by_cases n1 : y.1.src = id
 case pos =>
  have n1' : ¬ (y.1.src ≠ id) := fun h => h n1
  refine Qrg ?_; refine Vr 12 rfl (fun _ => rfl) ?_; refine Qke ?_; refine Z0n (op := .neq) (r' := .bool false) (u := .int .i64 y.1.src) (v := .int .i64 id) ?_ (hr' := by exact congrArg Value.bool (decide_eq_false n1')); refine QW ?_; refine Qra ?_
  (refine .done (fun h => Bool.noConfusion h) ?_; apply Vp (hcon := Vk 12); (case hxs => exact rfl); (case hys => conv => lhs; whnf); (case hle => ((repeat (first | exact trivial | refine ⟨(by (first | ((exact AVal.le_refl _)) | ((exact AVal.le_nil _)) | ((refine AVal.le_agg ?_; ((repeat (first | exact trivial | refine ⟨(by (first | ((exact AVal.le_refl _)) | ((exact AVal.le_nil _)) | ((refine AVal.le_of_eq ?_; (conv => lhs; whnf); (first | ((rfl)) | ((simp <;> fail)) | fail))) | fail)), ?_⟩ | fail)) <;> fail))) | ((refine AVal.le_of_eq ?_; (conv => lhs; whnf); (first | ((rfl)) | ((simp <;> fail)) | fail))) | fail)), ?_⟩ | fail)) <;> fail)); (case hf => exact rfl); (case hLi => (repeat (first | exact trivial | refine ⟨rfl, ?_⟩ | fail)) <;> fail))
 have n2 : y.1.dst = id := by rcases hk0 with h | h; exact (n1 h).elim; exact h
 have n2' : ¬ (y.1.dst ≠ id) := fun h => h n2
 refine Qrg ?_; refine Vr 12 rfl (fun _ => rfl) ?_; refine Qsg ?_; refine Z0n (op := .neq) (r' := .bool false) (u := .int .i64 y.1.dst) (v := .int .i64 id) ?_ (hr' := by exact congrArg Value.bool (decide_eq_false n2')); refine ZB ?_
 (refine .done (fun h => Bool.noConfusion h) ?_; apply Vp (hcon := Vk 12); (case hxs => exact rfl); (case hys => conv => lhs; whnf); (case hle => ((repeat (first | exact trivial | refine ⟨(by (first | ((exact AVal.le_refl _)) | ((exact AVal.le_nil _)) | ((refine AVal.le_agg ?_; ((repeat (first | exact trivial | refine ⟨(by (first | ((exact AVal.le_refl _)) | ((exact AVal.le_nil _)) | ((refine AVal.le_of_eq ?_; (conv => lhs; whnf); (first | ((rfl)) | ((simp <;> fail)) | fail))) | fail)), ?_⟩ | fail)) <;> fail))) | ((refine AVal.le_of_eq ?_; (conv => lhs; whnf); (first | ((rfl)) | ((simp <;> fail)) | fail))) | fail)), ?_⟩ | fail)) <;> fail)); (case hf => exact rfl); (case hLi => (repeat (first | exact trivial | refine ⟨rfl, ?_⟩ | fail)) <;> fail))
theorem XdY (g : Gra) (c : Chg) (x : Nod) (hg : GV g) (ho : c.op = 3) (hx : YS g.nodes c.id = some x) (q1 : Xl XB x.labels c.name = true) :
  YV Tryz.prog 167 (edS g) [.ptr 0 0, Xu c] (Ue 7) := by
 have hxm := X0X hx
 rw [X23 hg] at hx
 obtain ⟨ns, es, nn, ne⟩ := g
 have hns := hg.ns
 have hnl := hg.nl
 have hpv := (hg.nodes x hxm.1).2.2
 simp only at hx hns hnl
 obtain ⟨x', hx', hx2⟩ := Option.bind_eq_some_iff.1 hx
 obtain ⟨hk, rfl⟩ : x'.id = c.id ∧ x' = x := by by_cases e : x'.id = c.id <;> simp [e] at hx2 ⊢; exact hx2
 have q0 : Xl Nod.id ns c.id = true := by rw [V0 YM hns]; exact decide_eq_true ⟨x', hx', hk⟩
 have hle : Xg ltI Nod.id ns c.id < ns.length := (List.getElem?_eq_some_iff.1 hx').1
 refine V4 Tryz.func167 rfl Tryz.ntmps167 rfl (fun E => ?_)
 refine Ud rfl rfl rfl rfl (fun xs ys h1 h2 => ?_)
 subst h1 h2
 have hN := Up (xs.map rXN) (ys.map rXE) nn ne c.id (by simp at hnl ⊢; omega) ((Uv xs).2 hns)
 rw [Uo, Un, q0] at hN
 simp only [edL, List.length_map] at hN hnl hle
 generalize Xg ltI Nod.id (xs.map (·.1)) c.id = i at *
 obtain ⟨⟨x1, u, v⟩, hy0, rfl⟩ : ∃ y : XN, xs[i]? = some y ∧ y.1 = x' := by
  rw [List.getElem?_map] at hx'
  obtain ⟨y, e1, e2⟩ := Option.map_eq_some_iff.1 hx'
  exact ⟨y, e1, e2⟩
 simp only at *
 have hm10 := YJ 10
 have hlr := hpv.lr
 have hl8 := hpv.ll
 have hS := X0R 121 (X33 x1.labels c.name (by omega) hlr)
 have hll : (x1.labels.map Xa).length = x1.labels.length := by simp
 rw [q1, hll] at hS
 clear hlr q1 hll
 generalize Xg ltS XB x1.labels c.name = p at *
 have eB0 := X1h hy0
 simp only at eB0
 have hlen2 : xs.length = ((xs.map rXN).map cRN).length := by simp
 have hRi : ((xs.map rXN).map cRN)[i]? = some [.v (.int .i64 x1.id), .v u, .v v] := by
  rw [List.getElem?_map, List.getElem?_map, hy0]; rfl
 have hz3 := X0M (xs.map rXN)
 simp only [edS, List.length_map]
 clear hg hns hx hx' hx2 hxm hpv q0 hnl
 generalize hR : (xs.map rXN).map cRN = R at *
 have hlm : (x1.labels.map Xa).length = x1.labels.length := by simp
 generalize hnl : x1.labels.length = nl at *
 obtain ⟨op, id, src, dst, name, ⟨k0, k1, k2, k3, k4⟩⟩ := c
 simp only at ho
 subst ho
 simp only [Xu, Y1, Xm, US] at *
 refine Qug ?_
 show AWP Tryz.prog E _ _ _
 refine X0c 0 0 3 120 rfl (by omega) rfl rfl hlen2 rfl rfl (fun cp k hc1 hc2 hc3 _ => ?_)
 refine Qyg ?_
 rw [hlm]
 have hCl := Vu (k := k) hz3
 generalize List.map some R.flatten ++ List.replicate k none = C at *
 have hj : i * 3 + 1 < C.length := by omega
 have hrd := X0T (y := .own 121 nl) hj
 have hiz : 0 + i * 3 + 1 = i * 3 + 1 := by omega
 have hrd0 := Eq.trans (congrArg (fun z => (Xy C (some (_, .own 121 nl)))[z]?) hiz) hrd
 have hbd : 0 + i * 3 + 1 + 1 ≤ C.length := by omega
 have hRl : R.length = xs.length := hlen2.symm
 clear hlen2 hnl
 have hlm' := hlm.symm
 refine Qvg ?_; refine QBc ?_; refine Qxg ?_; refine Qdg ?_; refine X0 ?_; refine Vr 2 rfl (fun _ => rfl) ?_; refine Z1 ?_; refine Zd ?_
 (refine .done (fun h => Bool.noConfusion h) ?_; apply Vp (hcon := Vk 7); (case hxs => exact rfl); (case hys => conv => lhs; whnf); (case hle => ((repeat (first | exact trivial | refine ⟨(by (first | ((exact AVal.le_refl _)) | ((exact AVal.le_nil _)) | ((refine AVal.le_agg ?_; ((repeat (first | exact trivial | refine ⟨(by (first | ((exact AVal.le_refl _)) | ((exact AVal.le_nil _)) | ((refine AVal.le_of_eq ?_; (conv => lhs; whnf); (first | ((rfl)) | ((simp <;> fail)) | fail))) | fail)), ?_⟩ | fail)) <;> fail))) | ((refine AVal.le_of_eq ?_; (conv => lhs; whnf); (first | ((rfl)) | ((simp <;> fail)) | fail))) | fail)), ?_⟩ | fail)) <;> fail)); (case hf => exact rfl); (case hLi => (repeat (first | exact trivial | refine ⟨rfl, ?_⟩ | fail)) <;> fail))
theorem Xdv (g : Gra) (c : Chg) (x : Nod) (hg : GV g) (ho : c.op = 3) (hx : YS g.nodes c.id = some x) (q1 : Xl XB x.labels c.name = false) (q2 : ¬ x.labels.length < 8) :
  YV Tryz.prog 167 (edS g) [.ptr 0 0, Xu c] (Ue 20) := by
 have hxm := X0X hx
 rw [X23 hg] at hx
 obtain ⟨ns, es, nn, ne⟩ := g
 have hns := hg.ns
 have hnl := hg.nl
 have hpv := (hg.nodes x hxm.1).2.2
 simp only at hx hns hnl
 obtain ⟨x', hx', hx2⟩ := Option.bind_eq_some_iff.1 hx
 obtain ⟨hk, rfl⟩ : x'.id = c.id ∧ x' = x := by by_cases e : x'.id = c.id <;> simp [e] at hx2 ⊢; exact hx2
 have q0 : Xl Nod.id ns c.id = true := by rw [V0 YM hns]; exact decide_eq_true ⟨x', hx', hk⟩
 have hle : Xg ltI Nod.id ns c.id < ns.length := (List.getElem?_eq_some_iff.1 hx').1
 refine V4 Tryz.func167 rfl Tryz.ntmps167 rfl (fun E => ?_)
 refine Ud rfl rfl rfl rfl (fun xs ys h1 h2 => ?_)
 subst h1 h2
 have hN := Up (xs.map rXN) (ys.map rXE) nn ne c.id (by simp at hnl ⊢; omega) ((Uv xs).2 hns)
 rw [Uo, Un, q0] at hN
 simp only [edL, List.length_map] at hN hnl hle
 generalize Xg ltI Nod.id (xs.map (·.1)) c.id = i at *
 obtain ⟨⟨x1, u, v⟩, hy0, rfl⟩ : ∃ y : XN, xs[i]? = some y ∧ y.1 = x' := by
  rw [List.getElem?_map] at hx'
  obtain ⟨y, e1, e2⟩ := Option.map_eq_some_iff.1 hx'
  exact ⟨y, e1, e2⟩
 simp only at *
 have hm10 := YJ 10
 have hlr := hpv.lr
 have hl8 := hpv.ll
 have hS := X0R 121 (X33 x1.labels c.name (by omega) hlr)
 have hll : (x1.labels.map Xa).length = x1.labels.length := by simp
 rw [q1, hll] at hS
 clear hlr q1 hll
 generalize Xg ltS XB x1.labels c.name = p at *
 have hm7 := YJ 7
 have hq8 : ¬ ((x1.labels.map Xa).length : Int) < 8 := by rw [List.length_map]; omega
 clear q2
 have eB0 := X1h hy0
 simp only at eB0
 have hlen2 : xs.length = ((xs.map rXN).map cRN).length := by simp
 have hRi : ((xs.map rXN).map cRN)[i]? = some [.v (.int .i64 x1.id), .v u, .v v] := by
  rw [List.getElem?_map, List.getElem?_map, hy0]; rfl
 have hz3 := X0M (xs.map rXN)
 simp only [edS, List.length_map]
 clear hg hns hx hx' hx2 hxm hpv q0 hnl
 generalize hR : (xs.map rXN).map cRN = R at *
 have hlm : (x1.labels.map Xa).length = x1.labels.length := by simp
 generalize hnl : x1.labels.length = nl at *
 obtain ⟨op, id, src, dst, name, ⟨k0, k1, k2, k3, k4⟩⟩ := c
 simp only at ho
 subst ho
 simp only [Xu, Y1, Xm, US] at *
 refine Qug ?_
 show AWP Tryz.prog E _ _ _
 refine X0c 0 0 3 120 rfl (by omega) rfl rfl hlen2 rfl rfl (fun cp k hc1 hc2 hc3 _ => ?_)
 refine Qyg ?_
 rw [hlm]
 have hCl := Vu (k := k) hz3
 generalize List.map some R.flatten ++ List.replicate k none = C at *
 have hj : i * 3 + 1 < C.length := by omega
 have hrd := X0T (y := .own 121 nl) hj
 have hiz : 0 + i * 3 + 1 = i * 3 + 1 := by omega
 have hrd0 := Eq.trans (congrArg (fun z => (Xy C (some (_, .own 121 nl)))[z]?) hiz) hrd
 have hbd : 0 + i * 3 + 1 + 1 ≤ C.length := by omega
 have hRl : R.length = xs.length := hlen2.symm
 clear hlen2 hnl
 have hlm' := hlm.symm
 refine Qvg ?_; refine QBc ?_; refine Qxg ?_; refine Qfe ?_; refine Zd ?_; refine Zr (hcon := hm7) ?_; refine Qja ?_; refine Vr 6 rfl (fun _ => rfl) ?_; refine Z1 ?_; refine Qwg ?_; refine Z5 ?_; refine Z0k (op := .lss) (r' := .bool false) (u := .int .i64 ((x1.labels.map Xa).length : Nat)) (v := .int .i64 8) ?_ (hr' := by exact congrArg Value.bool (decide_eq_false hq8))
 (refine .done (fun h => Bool.noConfusion h) ?_; apply Vp (hcon := Vk 20); (case hxs => exact rfl); (case hys => conv => lhs; whnf); (case hle => ((repeat (first | exact trivial | refine ⟨(by (first | ((exact AVal.le_refl _)) | ((exact AVal.le_nil _)) | ((refine AVal.le_agg ?_; ((repeat (first | exact trivial | refine ⟨(by (first | ((exact AVal.le_refl _)) | ((exact AVal.le_nil _)) | ((refine AVal.le_of_eq ?_; (conv => lhs; whnf); (first | ((rfl)) | ((simp <;> fail)) | fail))) | fail)), ?_⟩ | fail)) <;> fail))) | ((refine AVal.le_of_eq ?_; (conv => lhs; whnf); (first | ((rfl)) | ((simp <;> fail)) | fail))) | fail)), ?_⟩ | fail)) <;> fail)); (case hf => exact rfl); (case hLi => (repeat (first | exact trivial | refine ⟨rfl, ?_⟩ | fail)) <;> fail))
theorem Xgk (g : Gra) (c : Chg) (x : Nod) (hg : GV g) (ho : c.op = 4) (hx : YS g.nodes c.id = some x) (q1 : Xl XB x.labels c.name = false) :
  YV Tryz.prog 167 (edS g) [.ptr 0 0, Xu c] (Ue 23) := by
 have hxm := X0X hx
 rw [X23 hg] at hx
 obtain ⟨ns, es, nn, ne⟩ := g
 have hns := hg.ns
 have hnl := hg.nl
 have hpv := (hg.nodes x hxm.1).2.2
 simp only at hx hns hnl
 obtain ⟨x', hx', hx2⟩ := Option.bind_eq_some_iff.1 hx
 obtain ⟨hk, rfl⟩ : x'.id = c.id ∧ x' = x := by by_cases e : x'.id = c.id <;> simp [e] at hx2 ⊢; exact hx2
 have q0 : Xl Nod.id ns c.id = true := by rw [V0 YM hns]; exact decide_eq_true ⟨x', hx', hk⟩
 have hle : Xg ltI Nod.id ns c.id < ns.length := (List.getElem?_eq_some_iff.1 hx').1
 refine V4 Tryz.func167 rfl Tryz.ntmps167 rfl (fun E => ?_)
 refine Ud rfl rfl rfl rfl (fun xs ys h1 h2 => ?_)
 subst h1 h2
 have hN := Up (xs.map rXN) (ys.map rXE) nn ne c.id (by simp at hnl ⊢; omega) ((Uv xs).2 hns)
 rw [Uo, Un, q0] at hN
 simp only [edL, List.length_map] at hN hnl hle
 generalize Xg ltI Nod.id (xs.map (·.1)) c.id = i at *
 obtain ⟨⟨x1, u, v⟩, hy0, rfl⟩ : ∃ y : XN, xs[i]? = some y ∧ y.1 = x' := by
  rw [List.getElem?_map] at hx'
  obtain ⟨y, e1, e2⟩ := Option.map_eq_some_iff.1 hx'
  exact ⟨y, e1, e2⟩
 simp only at *
 have hm10 := YJ 10
 have hlr := hpv.lr
 have hl8 := hpv.ll
 have hS := X0R 121 (X33 x1.labels c.name (by omega) hlr)
 have hll : (x1.labels.map Xa).length = x1.labels.length := by simp
 rw [q1, hll] at hS
 clear hlr q1 hll
 generalize Xg ltS XB x1.labels c.name = p at *
 have eB0 := X1h hy0
 simp only at eB0
 have hlen2 : xs.length = ((xs.map rXN).map cRN).length := by simp
 have hRi : ((xs.map rXN).map cRN)[i]? = some [.v (.int .i64 x1.id), .v u, .v v] := by
  rw [List.getElem?_map, List.getElem?_map, hy0]; rfl
 have hz3 := X0M (xs.map rXN)
 simp only [edS, List.length_map]
 clear hg hns hx hx' hx2 hxm hpv q0 hnl
 generalize hR : (xs.map rXN).map cRN = R at *
 have hlm : (x1.labels.map Xa).length = x1.labels.length := by simp
 generalize hnl : x1.labels.length = nl at *
 obtain ⟨op, id, src, dst, name, ⟨k0, k1, k2, k3, k4⟩⟩ := c
 simp only at ho
 subst ho
 simp only [Xu, Y1, Xm, US] at *
 refine Qug ?_
 show AWP Tryz.prog E _ _ _
 refine X0c 0 0 3 120 rfl (by omega) rfl rfl hlen2 rfl rfl (fun cp k hc1 hc2 hc3 _ => ?_)
 refine Qyg ?_
 rw [hlm]
 have hCl := Vu (k := k) hz3
 generalize List.map some R.flatten ++ List.replicate k none = C at *
 have hj : i * 3 + 1 < C.length := by omega
 have hrd := X0T (y := .own 121 nl) hj
 have hiz : 0 + i * 3 + 1 = i * 3 + 1 := by omega
 have hrd0 := Eq.trans (congrArg (fun z => (Xy C (some (_, .own 121 nl)))[z]?) hiz) hrd
 have hbd : 0 + i * 3 + 1 + 1 ≤ C.length := by omega
 have hRl : R.length = xs.length := hlen2.symm
 clear hlen2 hnl
 have hlm' := hlm.symm
 refine Qvg ?_; refine QGc ?_; refine Qza ?_; refine Qxg ?_; refine Qdg ?_; refine X0 ?_; refine Vr 1 rfl (fun _ => rfl) ?_; refine Z1 ?_
 (refine .done (fun h => Bool.noConfusion h) ?_; apply Vp (hcon := Vk 23); (case hxs => exact rfl); (case hys => conv => lhs; whnf); (case hle => ((repeat (first | exact trivial | refine ⟨(by (first | ((exact AVal.le_refl _)) | ((exact AVal.le_nil _)) | ((refine AVal.le_agg ?_; ((repeat (first | exact trivial | refine ⟨(by (first | ((exact AVal.le_refl _)) | ((exact AVal.le_nil _)) | ((refine AVal.le_of_eq ?_; (conv => lhs; whnf); (first | ((rfl)) | ((simp <;> fail)) | fail))) | fail)), ?_⟩ | fail)) <;> fail))) | ((refine AVal.le_of_eq ?_; (conv => lhs; whnf); (first | ((rfl)) | ((simp <;> fail)) | fail))) | fail)), ?_⟩ | fail)) <;> fail)); (case hf => exact rfl); (case hLi => (repeat (first | exact trivial | refine ⟨rfl, ?_⟩ | fail)) <;> fail))
theorem X9o {C : List (Option D)} {j : Nat} {y : AVal} {d : D} (h : j < C.length) : Xy (C.set j (some d)) none = (Xy C (some (j, y))).take j ++ [.d d] ++ (Xy C (some (j, y))).drop (j + 1) := by
 have e : Xy (C.set j (some d)) none = Xy C (some (j, .d d)) := by simp only [Xy, List.map_set]; rfl
 rw [e]; exact X2X h
theorem XfC (g : Gra) (c : Chg) (x : Nod) (hg : GV g) (ho : c.op = 5) (hx : YS g.nodes c.id = some x) (q1 : ¬ (XP x.props c.name c.v).length ≤ 16) :
  YV Tryz.prog 167 (edS g) [.ptr 0 0, Xu c] (Ue 20) := by
 have hxm := X0X hx
 rw [X23 hg] at hx
 obtain ⟨ns, es, nn, ne⟩ := g
 have hns := hg.ns
 have hnl := hg.nl
 have hpv := (hg.nodes x hxm.1).2.2
 simp only at hx hns hnl
 obtain ⟨x', hx', hx2⟩ := Option.bind_eq_some_iff.1 hx
 obtain ⟨hk, rfl⟩ : x'.id = c.id ∧ x' = x := by by_cases e : x'.id = c.id <;> simp [e] at hx2 ⊢; exact hx2
 have q0 : Xl Nod.id ns c.id = true := by rw [V0 YM hns]; exact decide_eq_true ⟨x', hx', hk⟩
 have hle : Xg ltI Nod.id ns c.id < ns.length := (List.getElem?_eq_some_iff.1 hx').1
 refine V4 Tryz.func167 rfl Tryz.ntmps167 rfl (fun E => ?_)
 refine Ud rfl rfl rfl rfl (fun xs ys h1 h2 => ?_)
 subst h1 h2
 have hN := Up (xs.map rXN) (ys.map rXE) nn ne c.id (by simp at hnl ⊢; omega) ((Uv xs).2 hns)
 rw [Uo, Un, q0] at hN
 simp only [edL, List.length_map] at hN hnl hle
 generalize Xg ltI Nod.id (xs.map (·.1)) c.id = i at *
 obtain ⟨⟨x1, u, v⟩, hy0, rfl⟩ : ∃ y : XN, xs[i]? = some y ∧ y.1 = x' := by
  rw [List.getElem?_map] at hx'
  obtain ⟨y, e1, e2⟩ := Option.map_eq_some_iff.1 hx'
  exact ⟨y, e1, e2⟩
 simp only at *
 have hm10 := YJ 10
 have hS := X8D x1.props c.name c.v hpv.pr hpv.pl q1
 clear q1
 have eB0 := X1h hy0
 simp only at eB0
 have hlen2 : xs.length = ((xs.map rXN).map cRN).length := by simp
 have hRi : ((xs.map rXN).map cRN)[i]? = some [.v (.int .i64 x1.id), .v u, .v v] := by
  rw [List.getElem?_map, List.getElem?_map, hy0]; rfl
 have hz3 := X0M (xs.map rXN)
 simp only [edS, List.length_map]
 clear hg hns hx hx' hx2 hxm hpv q0 hnl
 generalize hR : (xs.map rXN).map cRN = R at *
 have hlm : (x1.props.map X7).length = x1.props.length := by simp
 generalize hnl : x1.props.length = nl at *
 obtain ⟨op, id, src, dst, name, ⟨k0, k1, k2, k3, k4⟩⟩ := c
 simp only at ho
 subst ho
 simp only [Xu, Y1, Xm, US] at *
 refine Qug ?_
 show AWP Tryz.prog E _ _ _
 refine X0c 0 0 3 120 rfl (by omega) rfl rfl hlen2 rfl rfl (fun cp k hc1 hc2 hc3 _ => ?_)
 refine Qzg ?_
 rw [hlm]
 have hCl := Vu (k := k) hz3
 generalize List.map some R.flatten ++ List.replicate k none = C at *
 have hj : i * 3 + 2 < C.length := by omega
 have hrd := X0T (y := .own 121 nl) hj
 have hiz : 0 + i * 3 + 2 = i * 3 + 2 := by omega
 have hrd0 := Eq.trans (congrArg (fun z => (Xy C (some (_, .own 121 nl)))[z]?) hiz) hrd
 have hbd : 0 + i * 3 + 2 + 1 ≤ C.length := by omega
 have hRl : R.length = xs.length := hlen2.symm
 clear hlen2 hnl
 have hlm' := hlm.symm
 refine Qvg ?_; refine QIc ?_; refine XbI 9 (by kernel_rfl) rfl (fun _ => rfl) ?_; refine Qq ?_; refine Qwg ?_; refine QIb ?_; refine Qxf ?_
 refine .done (fun h => Bool.noConfusion h) ⟨X6w (List.zip [.tmp 77, .tmp 79, .tmp 81] [.own 121 nl, .d (.v (.string (X5 name))), .agg [ai k0, ai k1, ai k2, .d (.v (.string (X5 k3))), .d (.sl 5 (XG k4))]]) (some (82, .d (.v undef))) [(121, .row 6 (x1.props.map X7))], X8i hS rfl rfl JM rfl, ⟨⟨rfl, rfl, rfl, trivial⟩, ⟨rfl, trivial⟩, trivial, rfl⟩, ?_⟩
 have hwr := X9o (y := .own 121 nl) (d := .v undef) hj
 refine Qbg ?_; (refine Z0j (cs' := C.set (i * 3 + 2) (some (.v undef))) (ho' := none) ?_ (hcs := ?hcs115); (case hcs115 => exact (by rw [hiz]; exact hwr))); refine JD ?_; exact rfl
end Go.Fw
