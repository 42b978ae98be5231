/- What fails in edges. -/
import Derived.Tactics
import Derived.Tactics2
import Derived.Defers
import Derived.Recover
import Derived.Laws.Pointers
import Derived.Test.YtonekjkmnhfjmaaGreatDoorM32
set_option maxHeartbeats 32000000
namespace Go.Fw
open Go Go.Proofs
set_option maxRecDepth 100000
set_option linter.unusedVariables false
set_option linter.unusedSimpArgs false
theorem Xdr (g : Gra) (c : Chg) (hg : GV g) (ho : c.op = 6) (q1 : Xn Edg.id g.edges c.id = true) :
  YI Tryz.prog 168 (edS g) [.ptr 0 0, Xs c] (YW 7) := by
 obtain ⟨ns, es, nn, ne⟩ := g
 have hns := hg.ns
 have hnl := hg.nl
 have hes := hg.es
 have hel := hg.el
 simp only at q1 hns hes hnl hel
 refine UL Tryz.func168 rfl Tryz.ntmps168 rfl (fun E => ?_)
 refine YY rfl rfl rfl rfl (fun xs ys h1 h2 => ?_)
 subst h1 h2
 have hE := X0l (xs.map rXN) (ys.map rXE) nn ne c.id (by simp at hel ⊢; omega) ((X0c ys).2 hes)
 rw [X0s, X0i, q1] at hE
 simp only [edL, List.length_map] at hE hel hnl
 generalize Xf ltI Edg.id (ys.map (·.1)) c.id = i at *
 simp only [edS, List.length_map]
 clear hg hns hes
 obtain ⟨op, id, src, dst, name, ⟨k0, k1, k2, k3, k4⟩⟩ := c
 simp only at ho
 subst ho
 simp only [Xs, XY] at *
 refine QMf ?_; refine QFb ?_; refine X0 ?_; refine Va 2 rfl (fun _ => rfl) ?_; refine Z1 ?_; refine Zu ?_
 (refine .done (fun h => Bool.noConfusion h) ?_; apply V4 (hcon := V9 7); (case hxs => exact rfl); (case hys => conv => lhs; whnf); (case hle => ((repeat (first | exact trivial | refine ⟨(by (first | ((exact AVal.le_refl _)) | ((exact AVal.le_nil _)) | ((refine AVal.le_agg ?_; ((repeat (first | exact trivial | refine ⟨(by (first | ((exact AVal.le_refl _)) | ((exact AVal.le_nil _)) | ((refine AVal.le_of_eq ?_; (conv => lhs; whnf); (first | ((rfl)) | ((simp <;> fail)) | fail))) | fail)), ?_⟩ | fail)) <;> fail))) | ((refine AVal.le_of_eq ?_; (conv => lhs; whnf); (first | ((rfl)) | ((simp <;> fail)) | fail))) | fail)), ?_⟩ | fail)) <;> fail)); (case hf => exact rfl); (case hLi => (repeat (first | exact trivial | refine ⟨rfl, ?_⟩ | fail)) <;> fail))
theorem Xeb (g : Gra) (c : Chg) (hg : GV g) (ho : c.op = 6) (q1 : Xn Edg.id g.edges c.id = false) (qs : Xn Nod.id g.nodes c.src = false) :
  YI Tryz.prog 168 (edS g) [.ptr 0 0, Xs c] (YW 10) := by
 obtain ⟨ns, es, nn, ne⟩ := g
 have hns := hg.ns
 have hnl := hg.nl
 have hes := hg.es
 have hel := hg.el
 simp only at q1 qs hns hes hnl hel
 refine UL Tryz.func168 rfl Tryz.ntmps168 rfl (fun E => ?_)
 refine YY rfl rfl rfl rfl (fun xs ys h1 h2 => ?_)
 subst h1 h2
 have hNs := Uc (xs.map rXN) (ys.map rXE) nn ne c.src (by simp at hnl ⊢; omega) ((Uh xs).2 hns)
 have hNd := Uc (xs.map rXN) (ys.map rXE) nn ne c.dst (by simp at hnl ⊢; omega) ((Uh xs).2 hns)
 rw [U9, U8, qs] at hNs
 rw [U9, U8] at hNd
 simp only [edL, List.length_map] at hNs hNd
 have hm7 := Yy 7
 generalize Xn Nod.id (xs.map (·.1)) c.dst = bd at *
 have hE := X0l (xs.map rXN) (ys.map rXE) nn ne c.id (by simp at hel ⊢; omega) ((X0c ys).2 hes)
 rw [X0s, X0i, q1] at hE
 simp only [edL, List.length_map] at hE hel hnl
 generalize Xf ltI Edg.id (ys.map (·.1)) c.id = i at *
 simp only [edS, List.length_map]
 clear hg hns hes
 obtain ⟨op, id, src, dst, name, ⟨k0, k1, k2, k3, k4⟩⟩ := c
 simp only at ho
 subst ho
 simp only [Xs, XY] at *
 refine QNf ?_; refine Qyf ?_; refine X0 ?_; refine Va 4 rfl (fun _ => rfl) ?_; refine Qf ?_; refine QU ?_
 (refine .done (fun h => Bool.noConfusion h) ?_; apply V4 (hcon := V9 10); (case hxs => exact rfl); (case hys => conv => lhs; whnf); (case hle => ((repeat (first | exact trivial | refine ⟨(by (first | ((exact AVal.le_refl _)) | ((exact AVal.le_nil _)) | ((refine AVal.le_agg ?_; ((repeat (first | exact trivial | refine ⟨(by (first | ((exact AVal.le_refl _)) | ((exact AVal.le_nil _)) | ((refine AVal.le_of_eq ?_; (conv => lhs; whnf); (first | ((rfl)) | ((simp <;> fail)) | fail))) | fail)), ?_⟩ | fail)) <;> fail))) | ((refine AVal.le_of_eq ?_; (conv => lhs; whnf); (first | ((rfl)) | ((simp <;> fail)) | fail))) | fail)), ?_⟩ | fail)) <;> fail)); (case hf => exact rfl); (case hLi => (repeat (first | exact trivial | refine ⟨rfl, ?_⟩ | fail)) <;> fail))
theorem XgH (g : Gra) (c : Chg) (hg : GV g) (ho : c.op = 6) (q1 : Xn Edg.id g.edges c.id = false) (qs : Xn Nod.id g.nodes c.src = true) (qd : Xn Nod.id g.nodes c.dst = false) :
  YI Tryz.prog 168 (edS g) [.ptr 0 0, Xs c] (YW 10) := by
 obtain ⟨ns, es, nn, ne⟩ := g
 have hns := hg.ns
 have hnl := hg.nl
 have hes := hg.es
 have hel := hg.el
 simp only at q1 qs qd hns hes hnl hel
 refine UL Tryz.func168 rfl Tryz.ntmps168 rfl (fun E => ?_)
 refine YY rfl rfl rfl rfl (fun xs ys h1 h2 => ?_)
 subst h1 h2
 have hNs := Uc (xs.map rXN) (ys.map rXE) nn ne c.src (by simp at hnl ⊢; omega) ((Uh xs).2 hns)
 have hNd := Uc (xs.map rXN) (ys.map rXE) nn ne c.dst (by simp at hnl ⊢; omega) ((Uh xs).2 hns)
 rw [U9, U8, qs] at hNs
 rw [U9, U8, qd] at hNd
 simp only [edL, List.length_map] at hNs hNd
 have hm7 := Yy 7
 have hE := X0l (xs.map rXN) (ys.map rXE) nn ne c.id (by simp at hel ⊢; omega) ((X0c ys).2 hes)
 rw [X0s, X0i, q1] at hE
 simp only [edL, List.length_map] at hE hel hnl
 generalize Xf ltI Edg.id (ys.map (·.1)) c.id = i at *
 simp only [edS, List.length_map]
 clear hg hns hes
 obtain ⟨op, id, src, dst, name, ⟨k0, k1, k2, k3, k4⟩⟩ := c
 simp only at ho
 subst ho
 simp only [Xs, XY] at *
 refine QNf ?_; refine Qyf ?_; refine X0 ?_; refine Va 4 rfl (fun _ => rfl) ?_; refine QX ?_; refine Zn ?_
 (refine .done (fun h => Bool.noConfusion h) ?_; apply V4 (hcon := V9 10); (case hxs => exact rfl); (case hys => conv => lhs; whnf); (case hle => ((repeat (first | exact trivial | refine ⟨(by (first | ((exact AVal.le_refl _)) | ((exact AVal.le_nil _)) | ((refine AVal.le_agg ?_; ((repeat (first | exact trivial | refine ⟨(by (first | ((exact AVal.le_refl _)) | ((exact AVal.le_nil _)) | ((refine AVal.le_of_eq ?_; (conv => lhs; whnf); (first | ((rfl)) | ((simp <;> fail)) | fail))) | fail)), ?_⟩ | fail)) <;> fail))) | ((refine AVal.le_of_eq ?_; (conv => lhs; whnf); (first | ((rfl)) | ((simp <;> fail)) | fail))) | fail)), ?_⟩ | fail)) <;> fail)); (case hf => exact rfl); (case hLi => (repeat (first | exact trivial | refine ⟨rfl, ?_⟩ | fail)) <;> fail))
theorem XbJ (g : Gra) (c : Chg) (hg : GV g) (ho : c.op = 6) (q1 : Xn Edg.id g.edges c.id = false) (qs : Xn Nod.id g.nodes c.src = true) (qd : Xn Nod.id g.nodes c.dst = true) (q2 : ¬ g.edges.length < 4000) :
  YI Tryz.prog 168 (edS g) [.ptr 0 0, Xs c] (YW 20) := by
 obtain ⟨ns, es, nn, ne⟩ := g
 have hns := hg.ns
 have hnl := hg.nl
 have hes := hg.es
 have hel := hg.el
 simp only at q1 qs qd q2 hns hes hnl hel
 refine UL Tryz.func168 rfl Tryz.ntmps168 rfl (fun E => ?_)
 refine YY rfl rfl rfl rfl (fun xs ys h1 h2 => ?_)
 subst h1 h2
 have hNs := Uc (xs.map rXN) (ys.map rXE) nn ne c.src (by simp at hnl ⊢; omega) ((Uh xs).2 hns)
 have hNd := Uc (xs.map rXN) (ys.map rXE) nn ne c.dst (by simp at hnl ⊢; omega) ((Uh xs).2 hns)
 rw [U9, U8, qs] at hNs
 rw [U9, U8, qd] at hNd
 simp only [edL, List.length_map] at hNs hNd
 have hm7 := Yy 7
 have hE := X0l (xs.map rXN) (ys.map rXE) nn ne c.id (by simp at hel ⊢; omega) ((X0c ys).2 hes)
 rw [X0s, X0i, q1] at hE
 simp only [edL, List.length_map] at hE hel hnl q2
 generalize Xf ltI Edg.id (ys.map (·.1)) c.id = i at *
 have hm10 := Yy 10
 have hlen2 : ys.length = ((ys.map rXE).map cRE).length := by simp
 have q2' : ¬ (((ys.map rXE).map cRE).length : Int) < 4000 := by rw [← hlen2]; omega
 generalize (ys.map rXE).map cRE = R at *
 simp only [edS, List.length_map]
 clear hg hns hes
 obtain ⟨op, id, src, dst, name, ⟨k0, k1, k2, k3, k4⟩⟩ := c
 simp only at ho
 subst ho
 simp only [Xs, XY] at *
 refine QNf ?_; refine Qed ?_; refine Qf ?_; refine Zn ?_; refine Z9 (hcon := hm10) ?_; refine QL ?_; refine Va 7 rfl (fun _ => rfl) ?_; refine Z1 ?_; refine Qxf ?_; refine Z0c ?_; refine Z0v (op := .lss) (r' := .bool false) (u := .int .i64 (R.length : Nat)) (v := .int .i64 4000) ?_ (hr' := by exact congrArg Value.bool (decide_eq_false q2'))
 (refine .done (fun h => Bool.noConfusion h) ?_; apply V4 (hcon := V9 20); (case hxs => exact rfl); (case hys => conv => lhs; whnf); (case hle => ((repeat (first | exact trivial | refine ⟨(by (first | ((exact AVal.le_refl _)) | ((exact AVal.le_nil _)) | ((refine AVal.le_agg ?_; ((repeat (first | exact trivial | refine ⟨(by (first | ((exact AVal.le_refl _)) | ((exact AVal.le_nil _)) | ((refine AVal.le_of_eq ?_; (conv => lhs; whnf); (first | ((rfl)) | ((simp <;> fail)) | fail))) | fail)), ?_⟩ | fail)) <;> fail))) | ((refine AVal.le_of_eq ?_; (conv => lhs; whnf); (first | ((rfl)) | ((simp <;> fail)) | fail))) | fail)), ?_⟩ | fail)) <;> fail)); (case hf => exact rfl); (case hLi => (repeat (first | exact trivial | refine ⟨rfl, ?_⟩ | fail)) <;> fail))
theorem Xcb (g : Gra) (c : Chg) (hg : GV g) (ho : c.op = 7) (q1 : Xn Edg.id g.edges c.id = false) :
  YI Tryz.prog 168 (edS g) [.ptr 0 0, Xs c] (YW 11) := by
 obtain ⟨ns, es, nn, ne⟩ := g
 have hns := hg.ns
 have hnl := hg.nl
 have hes := hg.es
 have hel := hg.el
 simp only at q1 hns hes hnl hel
 refine UL Tryz.func168 rfl Tryz.ntmps168 rfl (fun E => ?_)
 refine YY rfl rfl rfl rfl (fun xs ys h1 h2 => ?_)
 subst h1 h2
 have hE := X0l (xs.map rXN) (ys.map rXE) nn ne c.id (by simp at hel ⊢; omega) ((X0c ys).2 hes)
 rw [X0s, X0i, q1] at hE
 simp only [edL, List.length_map] at hE hel hnl
 generalize Xf ltI Edg.id (ys.map (·.1)) c.id = i at *
 simp only [edS, List.length_map]
 clear hg hns hes
 obtain ⟨op, id, src, dst, name, ⟨k0, k1, k2, k3, k4⟩⟩ := c
 simp only at ho
 subst ho
 simp only [Xs, XY] at *
 refine QMf ?_; refine QHb ?_; refine X0 ?_; refine Va 1 rfl (fun _ => rfl) ?_; refine Z1 ?_
 (refine .done (fun h => Bool.noConfusion h) ?_; apply V4 (hcon := V9 11); (case hxs => exact rfl); (case hys => conv => lhs; whnf); (case hle => ((repeat (first | exact trivial | refine ⟨(by (first | ((exact AVal.le_refl _)) | ((exact AVal.le_nil _)) | ((refine AVal.le_agg ?_; ((repeat (first | exact trivial | refine ⟨(by (first | ((exact AVal.le_refl _)) | ((exact AVal.le_nil _)) | ((refine AVal.le_of_eq ?_; (conv => lhs; whnf); (first | ((rfl)) | ((simp <;> fail)) | fail))) | fail)), ?_⟩ | fail)) <;> fail))) | ((refine AVal.le_of_eq ?_; (conv => lhs; whnf); (first | ((rfl)) | ((simp <;> fail)) | fail))) | fail)), ?_⟩ | fail)) <;> fail)); (case hf => exact rfl); (case hLi => (repeat (first | exact trivial | refine ⟨rfl, ?_⟩ | fail)) <;> fail))
theorem Xgo (g : Gra) (c : Chg) (hg : GV g) (ho : c.op = 8) (q1 : Xn Edg.id g.edges c.id = false) :
  YI Tryz.prog 168 (edS g) [.ptr 0 0, Xs c] (YW 11) := by
 obtain ⟨ns, es, nn, ne⟩ := g
 have hns := hg.ns
 have hnl := hg.nl
 have hes := hg.es
 have hel := hg.el
 simp only at q1 hns hes hnl hel
 refine UL Tryz.func168 rfl Tryz.ntmps168 rfl (fun E => ?_)
 refine YY rfl rfl rfl rfl (fun xs ys h1 h2 => ?_)
 subst h1 h2
 have hE := X0l (xs.map rXN) (ys.map rXE) nn ne c.id (by simp at hel ⊢; omega) ((X0c ys).2 hes)
 rw [X0s, X0i, q1] at hE
 simp only [edL, List.length_map] at hE hel hnl
 generalize Xf ltI Edg.id (ys.map (·.1)) c.id = i at *
 simp only [edS, List.length_map]
 clear hg hns hes
 obtain ⟨op, id, src, dst, name, ⟨k0, k1, k2, k3, k4⟩⟩ := c
 simp only at ho
 subst ho
 simp only [Xs, XY] at *
 refine QMf ?_; refine QNb ?_; refine X0 ?_; refine Va 1 rfl (fun _ => rfl) ?_; refine Z1 ?_
 (refine .done (fun h => Bool.noConfusion h) ?_; apply V4 (hcon := V9 11); (case hxs => exact rfl); (case hys => conv => lhs; whnf); (case hle => ((repeat (first | exact trivial | refine ⟨(by (first | ((exact AVal.le_refl _)) | ((exact AVal.le_nil _)) | ((refine AVal.le_agg ?_; ((repeat (first | exact trivial | refine ⟨(by (first | ((exact AVal.le_refl _)) | ((exact AVal.le_nil _)) | ((refine AVal.le_of_eq ?_; (conv => lhs; whnf); (first | ((rfl)) | ((simp <;> fail)) | fail))) | fail)), ?_⟩ | fail)) <;> fail))) | ((refine AVal.le_of_eq ?_; (conv => lhs; whnf); (first | ((rfl)) | ((simp <;> fail)) | fail))) | fail)), ?_⟩ | fail)) <;> fail)); (case hf => exact rfl); (case hLi => (repeat (first | exact trivial | refine ⟨rfl, ?_⟩ | fail)) <;> fail))
theorem Xi2 (g : Gra) (c : Chg) (x : Edg) (hg : GV g) (ho : c.op = 8) (hx : Ua g.edges c.id = some x) (q1 : ¬ (XV x.props c.name c.v).length ≤ 16) :
  YI Tryz.prog 168 (edS g) [.ptr 0 0, Xs c] (YW 20) := by
 have hxm := X54 hx
 rw [X8x hg] at hx
 obtain ⟨ns, es, nn, ne⟩ := g
 have hes := hg.es
 have hel := hg.el
 have hpv := (hg.edges x hxm.1).2.2.2.2.2
 simp only at hx hes hel
 obtain ⟨x', hx', hx2⟩ := Option.bind_eq_some_iff.1 hx
 obtain ⟨hk, rfl⟩ : x'.id = c.id ∧ x' = x := by by_cases e : x'.id = c.id <;> simp [e] at hx2 ⊢; exact hx2
 have q0 : Xn Edg.id es c.id = true := by rw [UC YB hes]; exact decide_eq_true ⟨x', hx', hk⟩
 have hle : Xf ltI Edg.id es c.id < es.length := (List.getElem?_eq_some_iff.1 hx').1
 refine UL Tryz.func168 rfl Tryz.ntmps168 rfl (fun E => ?_)
 refine YY rfl rfl rfl rfl (fun xs ys h1 h2 => ?_)
 subst h1 h2
 have hE := X0l (xs.map rXN) (ys.map rXE) nn ne c.id (by simp at hel ⊢; omega) ((X0c ys).2 hes)
 rw [X0s, X0i, q0] at hE
 simp only [edL, List.length_map] at hE hel hle
 generalize Xf ltI Edg.id (ys.map (·.1)) c.id = i at *
 obtain ⟨⟨x1, u⟩, hy0, rfl⟩ : ∃ y : XE, ys[i]? = some y ∧ y.1 = x' := by
  rw [List.getElem?_map] at hx'
  obtain ⟨y, e1, e2⟩ := Option.map_eq_some_iff.1 hx'
  exact ⟨y, e1, e2⟩
 simp only at *
 have hm11 := Yy 11
 have hS := Xai x1.props c.name c.v hpv.pr hpv.pl q1
 clear q1
 have eB0 := X3Z hy0
 simp only at eB0
 have hlen2 : ys.length = ((ys.map rXE).map cRE).length := by simp
 have hRi : ((ys.map rXE).map cRE)[i]? = some [.v (.int .i64 x1.id), .v (.int .i64 x1.src), .v (.int .i64 x1.dst), .v (.string (X5 x1.typ)), .v u] := by
  rw [List.getElem?_map, List.getElem?_map, hy0]; rfl
 have hz5 := X1q (ys.map rXE)
 simp only [edS, List.length_map]
 clear hg hes hx hx' hx2 hxm hpv q0 hel
 generalize hR : (ys.map rXE).map cRE = R at *
 have hlm : (x1.props.map X6).length = x1.props.length := by simp
 generalize hnl : x1.props.length = nl at *
 obtain ⟨op, id, src, dst, name, ⟨k0, k1, k2, k3, k4⟩⟩ := c
 simp only at ho
 subst ho
 simp only [Xs, XY, XG, UJ] at *
 refine QMf ?_; refine QNb ?_; refine Qd ?_; refine Z9 (hcon := hm11) ?_; refine JD ?_
 show AWP Tryz.prog E _ _ _
 refine VY 0 1 4 120 rfl (by omega) rfl rfl hlen2 rfl rfl (fun cp k hc1 hc2 hc3 _ => ?_)
 refine QOf ?_
 rw [hlm]
 have hCl := V0 (k := k) hz5
 generalize List.map some R.flatten ++ List.replicate k none = C at *
 have hj : i * 5 + 4 < C.length := by omega
 have hrd := X0N (y := .own 121 nl) hj
 have hiz : 0 + i * 5 + 4 = i * 5 + 4 := by omega
 have hrd0 := Eq.trans (congrArg (fun z => (XA C (some (_, .own 121 nl)))[z]?) hiz) hrd
 have hbd : 0 + i * 5 + 4 + 1 ≤ C.length := by omega
 have hRl : R.length = ys.length := hlen2.symm
 clear hlen2 hnl
 have hlm' := hlm.symm
 skip
 refine X9k 19 (by kernel_rfl) rfl (fun _ => rfl) ?_; refine Z1 ?_; refine Qxf ?_; refine Qf ?_; refine Qxf ?_; refine Z1 ?_; refine Z0t (sz := 5) ?_; refine ZB ?_; refine Z0x ?_ (hy := by exact hrd0); refine QTa ?_; refine QRd ?_
 refine .done (fun h => Bool.noConfusion h) ⟨X5P (List.zip [.tmp 35, .tmp 37, .tmp 39] [.own 121 nl, .d (.v (.string (X5 name))), .agg [ai k0, ai k1, ai k2, .d (.v (.string (X5 k3))), .d (.sl 5 (Xx k4))]]) (some (40, .d (.v undef))) [(121, .row 6 (x1.props.map X6))], X9U hS rfl rfl JM rfl, ⟨⟨rfl, rfl, rfl, trivial⟩, ⟨rfl, trivial⟩, trivial, rfl⟩, ?_⟩
 have hwr := X7I (y := .own 121 nl) (d := .v undef) hj
 refine Z0t (sz := 5) ?_; refine ZB ?_; (refine Z0u (cs' := C.set (i * 5 + 4) (some (.v undef))) (ho' := none) ?_ (hcs := ?hcs117); (case hcs117 => exact (by rw [hiz]; exact hwr))); refine JD ?_; exact rfl
theorem X9d (p : Addr) (w : World) :
  CallsD Tryz.prog 166 #[.pointer (some p)] .returning w fun e u' w' => e = .returned (.tuple #[]) ∧ u' = .returning ∧ w' = w := by
 have hnil : ∀ w : World, (binOp BinOp.neq 20 .nilIface .nilIface).run Tryz.prog w = .ok (.bool false) w := fun _ => by kernel_rfl
 refine callsD_of_wpS Tryz.func166 rfl fun c₀ cs hu => ?_
 apply wpS_seq
 apply wpS_region
 simp [wpOpsS, go_sem, recoverD, hu, Tryz.ntmps166, Exit.thenS]
 apply wpS_seq
 apply wpS_region
 simp [wpOpsS, go_sem, hnil, Exit.thenS]
 refine wpS_cond (t := false) (by simp [Act.eval, Array.replicate]) ?_
 simp only [Bool.false_eq_true, if_false]
 refine wpS_of_wp (wp_skip ?_)
 cases c₀
 simp_all [bodyPostS, results, Tryz.results166]
theorem X8w (p : Addr) (e e0 : Int) (w : World) (hc : w.cell? p = some (.int .i64 e0)) (hz : w.frozen? p = false) :
  CallsD Tryz.prog 166 #[.pointer (some p)] (.panicking [{ v := .iface 194 (.int .i64 e), recovered := false }]) w fun x u' w' =>
   x = .returned (.tuple #[]) ∧ u' = .panicking [{ v := .iface 194 (.int .i64 e), recovered := true }] ∧ w' = w.setCell p (.int .i64 e) := by
 have hne : ∀ w : World, (binOp BinOp.neq 20 (.iface 194 (.int .i64 e)) .nilIface).run Tryz.prog w = .ok (.bool true) w := fun _ => by kernel_rfl
 have hta : ∀ w : World, (Instr.typeAssert (.iface 194 (.int .i64 e)) 20 194 true).run Tryz.prog w = .ok (.tuple #[.int .i64 e, .bool true]) w := fun _ => by kernel_rfl
 refine callsD_of_wpS Tryz.func166 rfl fun c₀ cs hu => ?_
 apply wpS_seq
 apply wpS_region
 simp [wpOpsS, go_sem, recoverD, hu, Tryz.ntmps166, Exit.thenS]
 apply wpS_seq
 apply wpS_region
 simp [wpOpsS, go_sem, hne, Exit.thenS]
 refine wpS_cond (t := true) (by simp [Act.eval, Array.replicate]) ?_
 simp only [if_true]
 apply wpS_seq
 apply wpS_seq
 apply wpS_region
 simp [wpOpsS, go_sem, hta, Exit.thenS]
 apply wpS_seq
 apply wpS_region
 simp [wpOpsS, go_sem, Exit.thenS]
 refine wpS_cond (t := true) (by simp [Act.eval, Array.replicate]) ?_
 simp only [if_true]
 apply wpS_seq
 apply wpS_region
 simp [wpOpsS, go_sem, hc, hz, Exit.thenS]
 refine wpS_of_wp (wp_ret ?_)
 simp [bodyPostS, results, Tryz.results166, Exit.thenS]
abbrev edD : List (Nat × AObj) := [(0, .dead), (3, .dead), (4, .dead)]
theorem X6w (γ : Nat) : Xa .dead edD γ = .dead := by
 by_cases h0 : (0 : Nat) = γ
 ·subst h0; rfl
 ·rw [XK _ _ _ h0]
  by_cases h3 : (3 : Nat) = γ
  ·subst h3; rfl
  ·rw [XK _ _ _ h3]
   by_cases h4 : (4 : Nat) = γ
   ·subst h4; rfl
   ·rw [XK _ _ _ h4]; rfl
section
variable (g g' : Gra) (c : Chg)
theorem Xf7 (hc : YF c ≠ 0) : Con Tryz.prog 110 (edS g) [.ptr 0 0, Xs c] edD (ai (YF c)) := by
 refine X37 (xs := [ai (YF c)]) Tryz.func110 rfl Tryz.ntmps110 rfl (fun E hds => ?_)
 have hk := X2M c
 generalize YF c = e at *
 obtain ⟨op, id, src, dst, name, ⟨k0, k1, k2, k3, k4⟩⟩ := c
 simp only [Xs, XY] at *
 refine QPf ?_
 show AW Tryz.prog E _ _ _
 refine X0x ?_; refine QWb ?_; refine Z9 (hcon := hk) ?_; refine Qgd ?_; refine QIa ?_; refine Qlb ?_
 show AWP Tryz.prog E _ _ _
 refine X1 ?_
 exact fun a w hs => show Leaves _ _ _ _ _ _ _ from Xeg (rs := [.cell 4 31]) (xs := [ai e]) hds rfl rfl ⟨_, St.le_refl _, ⟨⟨_, _, _, rfl, rfl, .inl ⟨rfl, rfl⟩⟩, trivial⟩, fun γ => .inr (X6w γ)⟩ hs
theorem XgG (hc : YF c = 0) (ho : c.op ≤ 5) (hcon : Con Tryz.prog 167 (edS g) [.ptr 0 0, Xs c] (edN g') (.tup [])) : Con Tryz.prog 110 (edS g) [.ptr 0 0, Xs c] (edN g') (ai 0) := by
 refine X37 (xs := [ai 0]) Tryz.func110 rfl Tryz.ntmps110 rfl (fun E hds => ?_)
 have hk := X2M c
 rw [hc] at hk
 obtain ⟨op, id, src, dst, name, ⟨k0, k1, k2, k3, k4⟩⟩ := c
 simp only [Xs, XY] at *
 refine QPf ?_
 show AW Tryz.prog E _ _ _
 refine QQf ?_
 show AW Tryz.prog E _ _ _
 refine X4F (f := 166) 1 101 50 rfl rfl hds (by decide) (Li := edS g) (Lo := (edN g')) (xs := [ai 0]) (fun γ hγ => by
  simp only [Xt, Bool.or_eq_true, Bool.or_false] at hγ
  rcases hγ with h | h | h <;> (have := Nat.eq_of_beq_eq_true h; omega)) ?_
 refine Z0z ?_
 refine .done (fun h => Bool.noConfusion h) ⟨rfl, fun E' b hds' hb hconv => ?_⟩
 refine QRf ?_; refine Qx ?_; refine QAa ?_; refine ZL ?_; refine Z9 (hcon := hcon) ?_; refine JD ?_; refine Qa ?_; refine Qlb ?_
 show AWP Tryz.prog E' _ _ _
 refine X1 ?_
 exact fun a w hs => show Leaves _ _ _ _ _ _ _ from Xbh (rs := [.cell 4 31]) (xs := [ai 0]) rfl hds' rfl rfl hconv X9d ⟨_, St.le_refl _, ⟨⟨_, _, _, rfl, rfl, .inl ⟨rfl, rfl⟩⟩, trivial⟩, XZ ⟨rfl, rfl, rfl, rfl, trivial⟩⟩ hs
theorem Xd3 (hc : YF c = 0) (ho : ¬ c.op ≤ 5) (hcon : Con Tryz.prog 168 (edS g) [.ptr 0 0, Xs c] (edE g') (.tup [])) : Con Tryz.prog 110 (edS g) [.ptr 0 0, Xs c] (edE g') (ai 0) := by
 refine X37 (xs := [ai 0]) Tryz.func110 rfl Tryz.ntmps110 rfl (fun E hds => ?_)
 have hk := X2M c
 rw [hc] at hk
 obtain ⟨op, id, src, dst, name, ⟨k0, k1, k2, k3, k4⟩⟩ := c
 simp only [Xs, XY] at *
 refine QPf ?_
 show AW Tryz.prog E _ _ _
 refine QQf ?_
 show AW Tryz.prog E _ _ _
 refine X4F (f := 166) 1 101 50 rfl rfl hds (by decide) (Li := edS g) (Lo := (edE g')) (xs := [ai 0]) (fun γ hγ => by
  simp only [Xt, Bool.or_eq_true, Bool.or_false] at hγ
  rcases hγ with h | h | h <;> (have := Nat.eq_of_beq_eq_true h; omega)) ?_
 refine Z0z ?_
 refine .done (fun h => Bool.noConfusion h) ⟨rfl, fun E' b hds' hb hconv => ?_⟩
 refine QRf ?_; refine JD ?_; refine JF ?_; refine QAa ?_; refine ZL ?_; refine Z9 (hcon := hcon) ?_; refine JD ?_; refine Qa ?_; refine Qlb ?_
 show AWP Tryz.prog E' _ _ _
 refine X1 ?_
 exact fun a w hs => show Leaves _ _ _ _ _ _ _ from Xbh (rs := [.cell 4 31]) (xs := [ai 0]) rfl hds' rfl rfl hconv X9d ⟨_, St.le_refl _, ⟨⟨_, _, _, rfl, rfl, .inl ⟨rfl, rfl⟩⟩, trivial⟩, XZ ⟨rfl, rfl, rfl, rfl, trivial⟩⟩ hs
theorem Xei (hc : YF c = 0) (ho : c.op ≤ 5) (e : Int) (hcon : YI Tryz.prog 167 (edS g) [.ptr 0 0, Xs c] (YW e)) : Con Tryz.prog 110 (edS g) [.ptr 0 0, Xs c] edD (ai e) := by
 refine X37 (xs := [ai e]) Tryz.func110 rfl Tryz.ntmps110 rfl (fun E hds => ?_)
 have hk := X2M c
 rw [hc] at hk
 obtain ⟨op, id, src, dst, name, ⟨k0, k1, k2, k3, k4⟩⟩ := c
 simp only [Xs, XY] at *
 refine QPf ?_
 show AW Tryz.prog E _ _ _
 refine QQf ?_
 show AW Tryz.prog E _ _ _
 refine X4F (f := 166) 1 101 50 rfl rfl hds (by decide) (Li := edS g) (Lo := edD) (xs := [ai e]) (fun γ hγ => by
  simp only [Xt, Bool.or_eq_true, Bool.or_false] at hγ
  rcases hγ with h | h | h <;> (have := Nat.eq_of_beq_eq_true h; omega)) ?_
 refine Z0z ?_
 refine .done (fun h => Bool.noConfusion h) ⟨rfl, fun E' b hds' hb hconv => ?_⟩
 refine QRf ?_; refine Qx ?_; refine Xb4 (ch := YW e) 2 rfl ?_; refine Qpb ?_
 refine .done (fun h => Bool.noConfusion h) ⟨edS g, [.ptr 0 0, .agg [ai op, ai id, ai src, ai dst, .d (.v (.string (X5 name))), ai k0, ai k1, ai k2, .d (.v (.string (X5 k3))), .d (.sl 5 (Xx k4))]], ?_, hcon, rfl, ⟨rfl, rfl, rfl, trivial⟩, fun a w hs => ?_⟩
 ·exact JM
 ·exact QSf
theorem XhZ (hc : YF c = 0) (ho : ¬ c.op ≤ 5) (e : Int) (hcon : YI Tryz.prog 168 (edS g) [.ptr 0 0, Xs c] (YW e)) : Con Tryz.prog 110 (edS g) [.ptr 0 0, Xs c] edD (ai e) := by
 refine X37 (xs := [ai e]) Tryz.func110 rfl Tryz.ntmps110 rfl (fun E hds => ?_)
 have hk := X2M c
 rw [hc] at hk
 obtain ⟨op, id, src, dst, name, ⟨k0, k1, k2, k3, k4⟩⟩ := c
 simp only [Xs, XY] at *
 refine QPf ?_
 show AW Tryz.prog E _ _ _
 refine QQf ?_
 show AW Tryz.prog E _ _ _
 refine X4F (f := 166) 1 101 50 rfl rfl hds (by decide) (Li := edS g) (Lo := edD) (xs := [ai e]) (fun γ hγ => by
  simp only [Xt, Bool.or_eq_true, Bool.or_false] at hγ
  rcases hγ with h | h | h <;> (have := Nat.eq_of_beq_eq_true h; omega)) ?_
 refine Z0z ?_
 refine .done (fun h => Bool.noConfusion h) ⟨rfl, fun E' b hds' hb hconv => ?_⟩
 refine QRf ?_; refine JD ?_; refine JF ?_; refine Xb4 (ch := YW e) 2 rfl ?_; refine Qpb ?_
 refine .done (fun h => Bool.noConfusion h) ⟨edS g, [.ptr 0 0, .agg [ai op, ai id, ai src, ai dst, .d (.v (.string (X5 name))), ai k0, ai k1, ai k2, .d (.v (.string (X5 k3))), .d (.sl 5 (Xx k4))]], ?_, hcon, rfl, ⟨rfl, rfl, rfl, trivial⟩, fun a w hs => ?_⟩
 ·exact JM
 ·exact QSf
end
theorem X2G (l : List Nod) (n : Int) : Xn Nod.id l n = (YJ l n).isSome := by
 unfold Xn YJ; rw [Bool.eq_iff_iff, List.any_eq_true, List.find?_isSome]
theorem X6v (l : List Edg) (n : Int) : Xn Edg.id l n = (Ua l n).isSome := by
 unfold Xn Ua; rw [Bool.eq_iff_iff, List.any_eq_true, List.find?_isSome]
section
variable (g : Gra) (c : Chg)
theorem XbD (hg : GV g) (hc : YF c = 0) (ho : c.op ≤ 5) :
  ((U3 g c).2 = 0 ∧ Con Tryz.prog 167 (edS g) [.ptr 0 0, Xs c] (edN (U3 g c).1) (.tup [])) ∨ ((U3 g c).2 ≠ 0 ∧ YI Tryz.prog 167 (edS g) [.ptr 0 0, Xs c] (YW (U3 g c).2)) := by
 obtain ⟨⟨o1, o8⟩, hid, -, -⟩ := X3z hc
 by_cases h1 : c.op = 1
 ·have e : U3 g c = if Xn Nod.id g.nodes c.id = true then (Ya, 7) else if 2000 ≤ g.nodes.length then (Ya, 20) else (U1 g ⟨c.id, [], []⟩, 0) := by unfold U3; rw [if_pos h1]
  rw [e]
  by_cases q1 : Xn Nod.id g.nodes c.id = true
  ·rw [if_pos q1]; exact .inr ⟨by simp, Xdy g c hg h1 q1⟩
  ·rw [if_neg q1]
   have q1 : Xn Nod.id g.nodes c.id = false := by simpa using q1
   by_cases q2 : 2000 ≤ g.nodes.length
   ·rw [if_pos q2]; exact .inr ⟨by simp, Xcy g c hg h1 q1 (by omega)⟩
   ·rw [if_neg q2]; exact .inl ⟨rfl, Xga g c hg hid h1 q1 (by omega)⟩
 have e : U3 g c = match YJ g.nodes c.id with | none => (Ya, 10) | some n => X0k g c n := by unfold U3; rw [if_neg h1, if_neg (by omega), if_neg (by omega)]; rfl
 rw [e]
 cases hn : YJ g.nodes c.id with
 | none => exact .inr ⟨by simp, XdG g c hg h1 (by rw [X2G, hn]; rfl)⟩
 | some x =>
  simp only
  have q0 : Xn Nod.id g.nodes c.id = true := by rw [X2G, hn]; rfl
  unfold X0k
  by_cases h2 : c.op = 2
  ·rw [if_pos h2]
   by_cases q2 : UG g.edges c.id = true
   ·rw [if_pos q2]; exact .inr ⟨by simp, XeU g c hg h2 q0 q2⟩
   ·rw [if_neg q2]; exact .inl ⟨rfl, Xfe g c hg h2 q0 (by simpa using q2)⟩
  rw [if_neg h2]
  by_cases h3 : c.op = 3
  ·rw [if_pos h3]
   by_cases q1 : Xn XC x.labels c.name = true
   ·rw [if_pos q1]; exact .inr ⟨by simp, Xhc g c x hg h3 hn q1⟩
   ·rw [if_neg q1]
    have q1 : Xn XC x.labels c.name = false := by simpa using q1
    by_cases q2 : 8 ≤ x.labels.length
    ·rw [if_pos q2]; exact .inr ⟨by simp, Xc8 g c x hg h3 hn q1 (by omega)⟩
    ·rw [if_neg q2]; exact .inl ⟨rfl, XcF g c x hg h3 hn q1 (by omega)⟩
  rw [if_neg h3]
  by_cases h4 : c.op = 4
  ·rw [if_pos h4]
   by_cases q1 : Xn XC x.labels c.name = false
   ·rw [if_pos q1]; exact .inr ⟨by simp, XeQ g c x hg h4 hn q1⟩
   ·rw [if_neg q1]; exact .inl ⟨rfl, Xf2 g c x hg h4 hn (by simpa using q1)⟩
  rw [if_neg h4]
  have h5 : c.op = 5 := by omega
  by_cases q1 : 16 < (XV x.props c.name c.v).length
  ·rw [if_pos q1]; exact .inr ⟨by simp, Xfg g c x hg h5 hn (by omega)⟩
  ·rw [if_neg q1]; exact .inl ⟨rfl, XeL g c x hg h5 hn (by omega)⟩
theorem X82 (hg : GV g) (hc : YF c = 0) (ho : ¬ c.op ≤ 5) :
  ((U3 g c).2 = 0 ∧ Con Tryz.prog 168 (edS g) [.ptr 0 0, Xs c] (edE (U3 g c).1) (.tup [])) ∨ ((U3 g c).2 ≠ 0 ∧ YI Tryz.prog 168 (edS g) [.ptr 0 0, Xs c] (YW (U3 g c).2)) := by
 obtain ⟨⟨o1, o8⟩, hid, -, -⟩ := X3z hc
 by_cases h6 : c.op = 6
 ·have e : U3 g c = if Xn Edg.id g.edges c.id = true then (Ya, 7) else if Xn Nod.id g.nodes c.src = false ∨ Xn Nod.id g.nodes c.dst = false then (Ya, 10) else if 4000 ≤ g.edges.length then (Ya, 20) else (V5 g ⟨c.id, c.src, c.dst, c.name, []⟩, 0) := by unfold U3; rw [if_neg (by omega), if_pos h6]
  rw [e]
  by_cases q1 : Xn Edg.id g.edges c.id = true
  ·rw [if_pos q1]; exact .inr ⟨by simp, Xdr g c hg h6 q1⟩
  rw [if_neg q1]
  have q1 : Xn Edg.id g.edges c.id = false := by simpa using q1
  cases qs : Xn Nod.id g.nodes c.src with
  | false => rw [if_pos (.inl rfl)]; exact .inr ⟨by simp, Xeb g c hg h6 q1 qs⟩
  | true =>
   cases qd : Xn Nod.id g.nodes c.dst with
   | false => rw [if_pos (.inr rfl)]; exact .inr ⟨by simp, XgH g c hg h6 q1 qs qd⟩
   | true =>
    rw [if_neg (by simp)]
    by_cases q2 : 4000 ≤ g.edges.length
    ·rw [if_pos q2]; exact .inr ⟨by simp, XbJ g c hg h6 q1 qs qd (by omega)⟩
    ·rw [if_neg q2]; exact .inl ⟨rfl, Xe4 g c hg hid h6 q1 qs qd (by omega)⟩
 have h78 : c.op = 7 ∨ c.op = 8 := by omega
 have e : U3 g c = match Ua g.edges c.id with | none => (Ya, 11) | some n => X0j g c n := by unfold U3; rw [if_neg (by omega), if_neg h6, if_pos h78]; rfl
 rw [e]
 cases hn : Ua g.edges c.id with
 | none =>
  have q1 : Xn Edg.id g.edges c.id = false := by rw [X6v, hn]; rfl
  rcases h78 with h | h
  ·exact .inr ⟨by simp, Xcb g c hg h q1⟩
  ·exact .inr ⟨by simp, Xgo g c hg h q1⟩
 | some x =>
  simp only
  have q0 : Xn Edg.id g.edges c.id = true := by rw [X6v, hn]; rfl
  unfold X0j
  by_cases h8 : c.op = 8
  ·rw [if_pos h8]
   by_cases q1 : 16 < (XV x.props c.name c.v).length
   ·rw [if_pos q1]; exact .inr ⟨by simp, Xi2 g c x hg h8 hn (by omega)⟩
   ·rw [if_neg q1]; exact .inl ⟨rfl, Xg5 g c x hg h8 hn (by omega)⟩
  ·rw [if_neg h8]
   exact .inl ⟨rfl, XfT g c hg (by omega) q0⟩
theorem Xf3 (hg : GV g) (ho : c.op ≤ 5) (h : (XS g c).2 = 0) : Con Tryz.prog 110 (edS g) [.ptr 0 0, Xs c] (edN (XS g c).1) (ai 0) := by
 by_cases hc : YF c = 0
 ·have e : XS g c = U3 g c := by unfold XS; rw [if_neg (by simp [hc])]
  rw [e] at h ⊢
  rcases XbD g c hg hc ho with ⟨-, k⟩ | ⟨k, -⟩
  ·exact XgG g _ c hc ho k
  ·exact absurd h k
 ·unfold XS at h; rw [if_pos hc] at h; exact absurd h hc
theorem Xd4 (hg : GV g) (ho : ¬ c.op ≤ 5) (h : (XS g c).2 = 0) : Con Tryz.prog 110 (edS g) [.ptr 0 0, Xs c] (edE (XS g c).1) (ai 0) := by
 by_cases hc : YF c = 0
 ·have e : XS g c = U3 g c := by unfold XS; rw [if_neg (by simp [hc])]
  rw [e] at h ⊢
  rcases X82 g c hg hc ho with ⟨-, k⟩ | ⟨k, -⟩
  ·exact Xd3 g _ c hc ho k
  ·exact absurd h k
 ·unfold XS at h; rw [if_pos hc] at h; exact absurd h hc
theorem XeP (hg : GV g) (h : (XS g c).2 ≠ 0) : Con Tryz.prog 110 (edS g) [.ptr 0 0, Xs c] edD (ai (XS g c).2) := by
 by_cases hc : YF c = 0
 ·have e : XS g c = U3 g c := by unfold XS; rw [if_neg (by simp [hc])]
  rw [e] at h ⊢
  by_cases ho : c.op ≤ 5
  ·rcases XbD g c hg hc ho with ⟨k, -⟩ | ⟨-, k⟩
   ·exact absurd k h
   ·exact Xei g c hc ho _ k
  ·rcases X82 g c hg hc ho with ⟨k, -⟩ | ⟨-, k⟩
   ·exact absurd k h
   ·exact XhZ g c hc ho _ k
 ·have e : XS g c = (Ya, YF c) := by unfold XS; rw [if_pos hc]
  rw [e]; exact Xf7 g c hc
end
theorem XfF (γ : Nat) (xs : List (List D)) (hl : xs.length ≤ 100000) : Con Tryz.prog 163 [] [.d (.sl 3 xs)] [(swp 100 γ 100, .row 3 xs)] (.own (swp 100 γ 100) xs.length) := by
 have h : Con Tryz.prog 163 [] [.d (.sl 3 xs)] [(100, .row 3 xs)] (.own 100 xs.length) := by
  refine Xc (xs := [.own 100 xs.length]) Tryz.func163 rfl Tryz.ntmps163 rfl rfl rfl (fun E => ?_)
  refine QTf ?_
  refine X0I rfl (fun h => ?_) (fun _ => ?_)
  ·subst h
   refine QUf ?_; exact ⟨_, YX 2 100 3 rfl rfl rfl, ⟨rfl, trivial⟩, XZ ⟨rfl, trivial⟩⟩
  ·refine QVf ?_
   refine ⟨_, St.le_refl _, ⟨?_, trivial⟩, XZ ⟨rfl, trivial⟩⟩
   simp only [X1j]; simp [St.get, St.set, St.own, Xa]
 exact YE 100 γ h
theorem XhN (γ : Nat) (xs : List (List D)) (hl : xs.length ≤ 100000) : Con Tryz.prog 165 [] [.d (.sl 5 xs)] [(swp 100 γ 100, .row 5 xs)] (.own (swp 100 γ 100) xs.length) := by
 have h : Con Tryz.prog 165 [] [.d (.sl 5 xs)] [(100, .row 5 xs)] (.own 100 xs.length) := by
  refine Xc (xs := [.own 100 xs.length]) Tryz.func165 rfl Tryz.ntmps165 rfl rfl rfl (fun E => ?_)
  refine QTf ?_
  refine X0I rfl (fun h => ?_) (fun _ => ?_)
  ·subst h
   refine QUf ?_; exact ⟨_, YX 2 100 5 rfl rfl rfl, ⟨rfl, trivial⟩, XZ ⟨rfl, trivial⟩⟩
  ·refine QVf ?_
   refine ⟨_, St.le_refl _, ⟨?_, trivial⟩, XZ ⟨rfl, trivial⟩⟩
   simp only [X1j]; simp [St.get, St.set, St.own, Xa]
 exact YE 100 γ h
theorem XeD (γ : Nat) (xs : List (List D)) (hl : xs.length ≤ 100000) : Con Tryz.prog 118 [] [.d (.sl 1 xs)] [(swp 100 γ 100, .row 1 xs)] (.own (swp 100 γ 100) xs.length) := by
 have h : Con Tryz.prog 118 [] [.d (.sl 1 xs)] [(100, .row 1 xs)] (.own 100 xs.length) := by
  refine Xc (xs := [.own 100 xs.length]) Tryz.func118 rfl Tryz.ntmps118 rfl rfl rfl (fun E => ?_)
  refine QTf ?_
  refine X0I rfl (fun h => ?_) (fun _ => ?_)
  ·subst h
   refine QUf ?_; exact ⟨_, YX 2 100 1 rfl rfl rfl, ⟨rfl, trivial⟩, XZ ⟨rfl, trivial⟩⟩
  ·refine QVf ?_
   refine ⟨_, St.le_refl _, ⟨?_, trivial⟩, XZ ⟨rfl, trivial⟩⟩
   simp only [X1j]; simp [St.get, St.set, St.own, Xa]
 exact YE 100 γ h
theorem X8C (γ : Nat) (xs : List (List D)) (hl : xs.length ≤ 100000) : Con Tryz.prog 164 [] [.d (.sl 6 xs)] [(swp 100 γ 100, .row 6 xs)] (.own (swp 100 γ 100) xs.length) := by
 have h : Con Tryz.prog 164 [] [.d (.sl 6 xs)] [(100, .row 6 xs)] (.own 100 xs.length) := by
  refine Xc (xs := [.own 100 xs.length]) Tryz.func164 rfl Tryz.ntmps164 rfl rfl rfl (fun E => ?_)
  refine QTf ?_
  refine X0I rfl (fun h => ?_) (fun _ => ?_)
  ·subst h
   refine QUf ?_; exact ⟨_, YX 2 100 6 rfl rfl rfl, ⟨rfl, trivial⟩, XZ ⟨rfl, trivial⟩⟩
  ·refine QVf ?_
   refine ⟨_, St.le_refl _, ⟨?_, trivial⟩, XZ ⟨rfl, trivial⟩⟩
   simp only [X1j]; simp [St.get, St.set, St.own, Xa]
 exact YE 100 γ h
theorem X5l {sz o q : Nat} {d : D} {R : List (List D)} {r : List D} (T : List (Option D)) (hz : ∀ x ∈ R, x.length = sz) (hq : R[q]? = some r) (ho : o < r.length) :
  (R.flatten.map some ++ T).set (q * sz + o) (some d) = (R.set q (r.set o d)).flatten.map some ++ T := by
 have hr : r.length = sz := hz r (List.mem_of_getElem? hq)
 have h := X49 hz hq (List.getElem?_eq_getElem ho)
 have hl : q * sz + o < R.flatten.length := (List.getElem?_eq_some_iff.1 h).1
 rw [X6f (i := 0) hz hq (by omega), List.map_set, List.set_append_left _ _ (by rw [List.length_map]; exact hl)]
theorem X7q {sz q : Nat} {R : List (List D)} {r : List D} (T : List (Option D)) (hz : ∀ x ∈ R, x.length = sz) (hq : R[q]? = some r) : ((XA (R.flatten.map some ++ T) none).drop (0 + q * sz)).take sz = r.map .d := by
 rw [Nat.zero_add]
 have hr : r.length = sz := hz r (List.mem_of_getElem? hq)
 have hq' := (List.getElem?_eq_some_iff.1 hq).1
 have e1 := X3L hq
 have hl : (R.take q).flatten.length = q * sz := by
  have h := Yc (fun x hx => hz x (List.mem_of_mem_take (i := q) hx))
  rw [List.length_take, Nat.min_eq_left (by omega)] at h
  exact Eq.trans (by rw [← List.length_map (f := some)]) h
 conv => lhs; rw [e1]
 simp only [XA, List.map_append, List.flatten_append, List.flatten_cons, List.append_assoc]
 rw [List.drop_left' (by rw [List.length_map, List.length_map]; exact hl), List.take_left' (by rw [List.length_map, List.length_map]; exact hr), List.map_map]
 rfl
theorem X7i {C : List (Option D)} {j : Nat} {z : AVal} (h : j < C.length) : XA C (some (j, z)) = (XA C none).take j ++ [z] ++ (XA C none).drop (j + 1) := by
 simp only [XA]
 exact X4W (by rw [List.length_map]; exact h)
def UT (ns : List Nod) (ys : List XN) : List (List D) := (ys.map rXN).map cRN ++ (ns.drop ys.length).map X9
theorem XeR (ns : List Nod) (ys : List XN) : ∀ x ∈ UT ns ys, x.length = 3 := by
 intro x hx
 rcases List.mem_append.1 hx with h | h
 ·obtain ⟨p, _, rfl⟩ := List.mem_map.1 h; rfl
 ·obtain ⟨p, _, rfl⟩ := List.mem_map.1 h; rfl
theorem Xh0 {ns : List Nod} {ys : List XN} (h : ys.length ≤ ns.length) : (UT ns ys).length = ns.length := by
 unfold UT
 rw [List.length_append, List.length_map, List.length_map, List.length_map, List.length_drop]; omega
theorem Xfo {ns : List Nod} {ys : List XN} {n : Nod} (h : ns[ys.length]? = some n) : (UT ns ys)[ys.length]? = some (X9 n) := by
 unfold UT
 rw [List.getElem?_append_right (by rw [List.length_map, List.length_map]; exact Nat.le_refl _), List.length_map, List.length_map, Nat.sub_self, List.getElem?_map, List.getElem?_drop, Nat.add_zero, h]; rfl
theorem Xh1 {ns : List Nod} {ys : List XN} {n : Nod} {u : Value} {v : Value} (h : ns[ys.length]? = some n) : (UT ns ys).set ys.length (cRN (rXN (n, u, v))) = UT ns (ys ++ [(n, u, v)]) := by
 unfold UT
 have hlt := (List.getElem?_eq_some_iff.1 h).1
 have hd : ns.drop ys.length = n :: ns.drop (ys.length + 1) := by
  have := List.drop_eq_getElem_cons hlt
  rw [List.getElem?_eq_getElem hlt] at h
  rw [this]; congr 1; simpa using h
 rw [List.set_append_right _ _ (by rw [List.length_map, List.length_map]; exact Nat.le_refl _), List.length_map, List.length_map, Nat.sub_self, hd, List.map_cons, List.set_cons_zero, List.map_append, List.map_append, List.append_assoc, List.length_append, List.length_singleton]
 rfl
theorem Xcp (ns : List Nod) : UT ns [] = ns.map X9 := by simp [UT]
theorem Xct {ns : List Nod} {ys : List XN} (h : ns.length ≤ ys.length) : UT ns ys = (ys.map rXN).map cRN := by
 unfold UT; rw [List.drop_eq_nil_of_le h]; simp
theorem XeV {ns : List Nod} {ys : List XN} {n : Nod} {u : Value} {v : Value} (hy : ys.map (·.1) = ns.take ys.length) (h : ns[ys.length]? = some n) : (ys ++ [((n, u, v) : XN)]).map (·.1) = ns.take (ys ++ [((n, u, v) : XN)]).length := by
 have hlt := (List.getElem?_eq_some_iff.1 h).1
 rw [List.map_append, hy, List.length_append, List.length_singleton, List.take_add_one, h]; rfl
def UU (ns : List Edg) (ys : List XE) : List (List D) := (ys.map rXE).map cRE ++ (ns.drop ys.length).map Xe
theorem Xc6 (ns : List Edg) (ys : List XE) : ∀ x ∈ UU ns ys, x.length = 5 := by
 intro x hx
 rcases List.mem_append.1 hx with h | h
 ·obtain ⟨p, _, rfl⟩ := List.mem_map.1 h; rfl
 ·obtain ⟨p, _, rfl⟩ := List.mem_map.1 h; rfl
theorem XfD {ns : List Edg} {ys : List XE} (h : ys.length ≤ ns.length) : (UU ns ys).length = ns.length := by
 unfold UU
 rw [List.length_append, List.length_map, List.length_map, List.length_map, List.length_drop]; omega
theorem Xht {ns : List Edg} {ys : List XE} {n : Edg} (h : ns[ys.length]? = some n) : (UU ns ys)[ys.length]? = some (Xe n) := by
 unfold UU
 rw [List.getElem?_append_right (by rw [List.length_map, List.length_map]; exact Nat.le_refl _), List.length_map, List.length_map, Nat.sub_self, List.getElem?_map, List.getElem?_drop, Nat.add_zero, h]; rfl
theorem XdN {ns : List Edg} {ys : List XE} {n : Edg} {u : Value} (h : ns[ys.length]? = some n) : (UU ns ys).set ys.length (cRE (rXE (n, u))) = UU ns (ys ++ [(n, u)]) := by
 unfold UU
 have hlt := (List.getElem?_eq_some_iff.1 h).1
 have hd : ns.drop ys.length = n :: ns.drop (ys.length + 1) := by
  have := List.drop_eq_getElem_cons hlt
  rw [List.getElem?_eq_getElem hlt] at h
  rw [this]; congr 1; simpa using h
 rw [List.set_append_right _ _ (by rw [List.length_map, List.length_map]; exact Nat.le_refl _), List.length_map, List.length_map, Nat.sub_self, hd, List.map_cons, List.set_cons_zero, List.map_append, List.map_append, List.append_assoc, List.length_append, List.length_singleton]
 rfl
theorem Xft (ns : List Edg) : UU ns [] = ns.map Xe := by simp [UU]
theorem Xh9 {ns : List Edg} {ys : List XE} (h : ns.length ≤ ys.length) : UU ns ys = (ys.map rXE).map cRE := by
 unfold UU; rw [List.drop_eq_nil_of_le h]; simp
theorem XbX {ns : List Edg} {ys : List XE} {n : Edg} {u : Value} (hy : ys.map (·.1) = ns.take ys.length) (h : ns[ys.length]? = some n) : (ys ++ [((n, u) : XE)]).map (·.1) = ns.take (ys ++ [((n, u) : XE)]).length := by
 have hlt := (List.getElem?_eq_some_iff.1 h).1
 rw [List.map_append, hy, List.length_append, List.length_singleton, List.take_add_one, h]; rfl
end Go.Fw
