/- Small graphs and values: how long their lists are. -/
import Derived.KernelRfl
import Derived.Test.YtonekjkmnhfjmaaGreatDoorM42
import Derived.Test.YtonekjkmnhfjmaaGreatDoorM47
import Derived.Test.YtonekjkmnhfjmaaGreatDoorM50
set_option maxHeartbeats 16000000
namespace Go.Fw
open Go
set_option linter.unusedVariables false
set_option linter.unusedSimpArgs false
theorem XaR : ∀ {l : List Val} {x : Val}, X1a l → x ∈ l → VI x
 | [], _, _, h => by simp at h
 | v :: r, x, h, hx => by
  rw [X1a] at h
  rcases List.mem_cons.1 hx with rfl | hx
  ·exact h.1
  ·exact XaR h.2 hx
theorem X92 {v : Val} (h : Yd v = true) : VI v := by
 obtain ⟨k, n, d, s, l⟩ := v
 obtain ⟨_, _, _, rfl, _⟩ := X6a h
 rw [VI]
 exact ⟨by simp, by rw [X1a]; trivial⟩
theorem X5O {g : Gra} (h : GV g) : GraB g := by
 have h1 := h.nl
 have h2 := h.el
 refine ⟨by omega, by omega, fun n hn => ?_, fun e he => ?_⟩
 ·have hp := (h.nodes n hn).2.2
  have h3 := hp.ll
  have h4 := hp.pl
  exact ⟨by omega, by omega, fun p hp' => X92 (hp.pv p hp')⟩
 ·have hp := (h.edges e he).2.2.2.2.2
  have h4 := hp.pl
  exact ⟨by omega, fun p hp' => X92 (hp.pv p hp')⟩
open Go Go.Proofs
set_option maxRecDepth 100000
def X29 (l : List Val) : Prop := Con Tryz.prog 152 [] [.d (.sl 5 (Xx l))] [] (.d (.sl 5 (Xx l)))
theorem XbO {l : List Val} {i : Nat} {x : Val} (h : l[i]? = some x) : Xx (l.take (i + 1)) = Xx (l.take i) ++ [Y1 x] := by
 rw [X19, X19, X1K h, List.map_append]; rfl
theorem Xbq (l : List Val) (hl : l.length ≤ 2000) (ih : ∀ x ∈ l, match x with | .mk _ _ _ _ m => X29 m) : X29 l := by
 unfold X29
 refine Xc (xs := [.d (.sl 5 (Xx l))]) Tryz.func152 rfl Tryz.ntmps152 rfl rfl rfl (fun E => ?_)
 have hlm := Vb l
 refine Qc ?_; refine Qac ?_; refine Xm (YX 3 130 5 rfl rfl rfl) ?_
 refine Xz (fun i : Nat => i ≤ l.length) (fun i => ⟨25, [(0, .d (.sl 5 (Xx l))), (3, .own 130 (Xx (l.take i)).length), (4, ai i)], [(130, .row 5 (Xx (l.take i)))]⟩) (fun i => l.length - i) 0 (Nat.zero_le _)
  (X7 rfl ⟨JL, AVal.le_of_eq (by rw [List.take_zero]; rfl), JL, trivial⟩ ⟨by rw [List.take_zero]; rfl, trivial⟩) ?_
 intro i hi
 have hroom : (Xx (l.take i)).length ≤ 2000 := by rw [Vb, List.length_take]; omega
 by_cases hil : i < l.length
 case neg =>
  obtain rfl : i = l.length := by omega
  have hn : ¬ ((l.length : Nat) : Int) < (Xx l).length := by omega
  rw [List.take_length] at hroom ⊢
  generalize Xx l = L at *
  refine QJd ?_
  (show AWP Tryz.prog E _ _ _; refine X1 ?_; exact (show Xd _ _ _ _ _ from ⟨_, St.le_refl _, ⟨rfl, trivial⟩, X3 _⟩))
 have hn : (i : Int) < (Xx l).length := by omega
 obtain ⟨x, hx⟩ := Xu (l := l) hil
 have hxc := X3c hx
 have hst := XbO hx
 have hi2 := ih x (List.mem_of_getElem? hx)
 obtain ⟨k, n, d, s, m⟩ := x
 simp only at hi2
 unfold X29 at hi2
 rw [Y1] at hxc hst
 clear ih hx
 generalize Xx m = M at *
 refine Qnc ?_; refine Qic ?_; refine Zw (γ := 100) ?_; refine Qlb ?_; refine QUa ?_; refine Z9 (hcon := hi2) ?_; refine QCf ?_; refine QAa ?_; refine ZL ?_; refine QMd ?_
 refine ⟨i + 1, by omega, by omega, ?_⟩
 dsimp only
 rw [hst]
 exact QNd
theorem X7A : ∀ v : Val, VI v → match v with | .mk _ _ _ _ m => X29 m
 | .mk k n d s l => fun hb => by
  rw [VI] at hb
  exact Xbq l hb.1 fun x hx => X7A x (XaR hb.2 hx)
termination_by v => SizeOf.sizeOf v
decreasing_by
 have h1 := List.sizeOf_lt_of_mem (show x ∈ l from hx)
 simp only [Val.mk.sizeOf_spec]
 omega
theorem Xe0 (k n d : Int) (s : List UInt8) (l : List Val) (h : VI (.mk k n d s l)) : Con Tryz.prog 152 [] [.d (.sl 5 [[.v (.int .i64 k), .v (.int .i64 n), .v (.int .i64 d), .v (.string (X5 s)), .sl 5 (Xx l)]])] [] (.d (.sl 5 [[.v (.int .i64 k), .v (.int .i64 n), .v (.int .i64 d), .v (.string (X5 s)), .sl 5 (Xx l)]])) := by
 have hc := Xbq [.mk k n d s l] (by simp) fun x hx => by
  obtain rfl := List.mem_singleton.1 hx
  exact X7A _ h
 unfold X29 at hc
 rw [Xx, Xx, Y1] at hc
 exact hc
theorem X9g (l : List Prp) (hb : X4t l) : Con Tryz.prog 101 [] [.d (.sl 6 (l.map X6))] [] (.d (.sl 6 (l.map X6))) := by
 refine Xc (xs := [.d (.sl 6 (l.map X6))]) Tryz.func101 rfl Tryz.ntmps101 rfl rfl rfl (fun E => ?_)
 have hl := hb.1
 have hlm : (l.map X6).length = l.length := by simp
 refine Qc ?_; refine Qac ?_; refine Xm (YX 3 130 6 rfl rfl rfl) ?_
 refine Xz (fun i : Nat => i ≤ l.length) (fun i => ⟨30, [(0, .d (.sl 6 (l.map X6))), (3, .own 130 ((l.take i).map X6).length), (4, ai i)], [(130, .row 6 ((l.take i).map X6))]⟩) (fun i => l.length - i) 0 (Nat.zero_le _)
  (X7 rfl JM ⟨rfl, trivial⟩) ?_
 intro i hi
 have hroom : ((l.take i).map X6).length ≤ 2000 := by rw [List.length_map, List.length_take]; omega
 by_cases hil : i < l.length
 case neg =>
  obtain rfl : i = l.length := by omega
  have hn : ¬ ((l.length : Nat) : Int) < (l.map X6).length := by omega
  rw [List.take_length] at hroom ⊢
  refine QJd ?_
  (show AWP Tryz.prog E _ _ _; refine X1 ?_; exact (show Xd _ _ _ _ _ from ⟨_, St.le_refl _, ⟨rfl, trivial⟩, X3 _⟩))
 have hn : (i : Int) < (l.map X6).length := by omega
 obtain ⟨x, hx⟩ := Xu (l := l) hil
 have hxc : (l.map X6)[i]? = some (X6 x) := XD hx
 have hst : (l.take (i + 1)).map X6 = (l.take i).map X6 ++ [X6 x] := by rw [X1K hx, List.map_append]; rfl
 have hv := hb.2 x (List.mem_of_getElem? hx)
 obtain ⟨key, ⟨k, n, d, s, m⟩⟩ := x
 have hc := Xe0 k n d s m hv
 simp only [X6, Y1] at hxc hst
 clear hx hv hb
 generalize Xx m = M at *
 refine Qcc ?_; refine QKd ?_; refine Qgc ?_; refine Qf ?_; refine Zj ?_; refine ZN ?_; refine ZK ?_; refine Z5 ?_; refine Z9 (hcon := hc) ?_; refine Qkb ?_; refine Zx ?_; refine QMd ?_
 refine ⟨i + 1, by omega, by omega, ?_⟩
 dsimp only
 rw [hst]
 exact QNd
theorem X7B (g : Gra) (hb : GraB g) : Con Tryz.prog 53 [] [Xl g] [] (Xl g) := by
 refine Xc (xs := [Xl g]) Tryz.func53 rfl Tryz.ntmps53 rfl rfl rfl (fun E => ?_)
 obtain ⟨ns, es, nn, ne⟩ := g
 have hl1 := hb.nl
 have hl2 := hb.el
 have hbn := hb.nodes
 have hbe := hb.edges
 clear hb
 unfold Xl
 simp only at hl1 hl2 hbn hbe ⊢
 have hm1 : (ns.map X9).length = ns.length := by simp
 have hm2 : (es.map Xe).length = es.length := by simp
 refine Qod ?_; refine JD ?_; refine Qjd ?_; refine Zx ?_; refine QWf ?_; refine Qua ?_; refine Xm (X3E 102 0 130 3 rfl rfl rfl rfl rfl) ?_; refine Xm (X3E 102 1 131 5 rfl rfl rfl rfl rfl) ?_
 refine Xz (fun i : Nat => i ≤ ns.length) (fun i => ⟨63, [(1, .ptr 100 0), (2, .ptr 101 0), (3, .ptr 102 0), (4, ai i)], [(100, .box [.d (.sl 3 (ns.map X9)), .d (.sl 5 (es.map Xe)), ai nn, ai ne]), (101, .box [ani, ani, ai 0, ai 0]), (102, .box [.own 130 ((ns.take i).map X9).length, .own 131 0, ai nn, ai ne]), (130, .row 3 ((ns.take i).map X9)), (131, .row 5 [])]⟩) (fun i => ns.length - i) 0 (Nat.zero_le _)
  (X7 rfl JM ⟨rfl, rfl, rfl, rfl, rfl, trivial⟩) ?_
 intro i hi
 have hroom : ((ns.take i).map X9).length ≤ 100000 := by rw [List.length_map, List.length_take]; omega
 by_cases hil : i < ns.length
 case pos =>
  have hn : (i : Int) < (ns.map X9).length := by omega
  obtain ⟨x, hx⟩ := Xu (l := ns) hil
  have hxc : (ns.map X9)[i]? = some (X9 x) := XD hx
  have hst : (ns.take (i + 1)).map X9 = (ns.take i).map X9 ++ [X9 x] := by rw [X1K hx, List.map_append]; rfl
  obtain ⟨hbl, hbp⟩ := hbn x (List.mem_of_getElem? hx)
  obtain ⟨xid, xl, xp⟩ := x
  have hc := X9g xp hbp
  have hlx : (xl.map Xb).length ≤ 2000 := by rw [List.length_map]; exact hbl
  simp only [X9] at hxc hst
  clear hx hbn hbe hbp
  refine Qif ?_; refine Qic ?_; refine Qyd ?_; refine Qlb ?_; refine QCe ?_; refine QTa ?_; refine ZZ (len := 0) (γ := 104) ?_; refine QTa ?_; refine Z0I (γ := 104) ?_; refine QTa ?_; refine QVg ?_; refine QBa ?_
  refine ⟨i + 1, by omega, by omega, ?_⟩
  dsimp only
  rw [hst]
  exact X7 rfl JM ⟨rfl, rfl, (by refine Eq.trans (b := .box [.own 130 (_ + _), .own 131 0, ai nn, ai ne]) rfl ?_; simp only [List.length_append, List.length_map, List.length_cons, List.length_nil]), rfl, rfl, trivial⟩
 obtain rfl : i = ns.length := by omega
 have hn : ¬ ((ns.length : Nat) : Int) < (ns.map X9).length := by omega
 rw [List.take_length] at hroom ⊢
 clear hbn
 refine Qgf ?_; refine Qua ?_
 refine Xz (fun i : Nat => i ≤ es.length) (fun i => ⟨63, [(1, .ptr 100 0), (2, .ptr 101 0), (3, .ptr 102 0), (6, ai i)], [(100, .box [.d (.sl 3 (ns.map X9)), .d (.sl 5 (es.map Xe)), ai nn, ai ne]), (101, .box [ani, ani, ai 0, ai 0]), (102, .box [.own 130 (ns.map X9).length, .own 131 ((es.take i).map Xe).length, ai nn, ai ne]), (130, .row 3 (ns.map X9)), (131, .row 5 ((es.take i).map Xe))]⟩) (fun i => es.length - i) 0 (Nat.zero_le _)
  (X7 rfl JM ⟨rfl, rfl, rfl, rfl, rfl, trivial⟩) ?_
 clear hi hil hn
 intro i hi
 have hroom2 : ((es.take i).map Xe).length ≤ 100000 := by rw [List.length_map, List.length_take]; omega
 by_cases hil : i < es.length
 case neg =>
  obtain rfl : i = es.length := by omega
  have hn : ¬ ((es.length : Nat) : Int) < (es.map Xe).length := by omega
  rw [List.take_length] at hroom2 ⊢
  refine Qgf ?_; refine X0 ?_
  show AWP Tryz.prog E _ _ _
  refine QId ?_; refine Xm (Yb 131 rfl) ?_; refine Xm (X21 102 0 130 rfl rfl rfl rfl) ?_; refine Xm (X21 102 1 131 rfl rfl rfl rfl) ?_; refine QLg ?_
  (show AWP Tryz.prog E _ _ _; refine X1 ?_; exact (show Xd _ _ _ _ _ from ⟨_, St.le_refl _, ⟨⟨101, 0, _, rfl, rfl, .inr ⟨4, _, rfl, rfl, rfl, rfl⟩⟩, trivial⟩, X3 _⟩))
 have hn : (i : Int) < (es.map Xe).length := by omega
 obtain ⟨x, hx⟩ := Xu (l := es) hil
 have hxc : (es.map Xe)[i]? = some (Xe x) := XD hx
 have hst : (es.take (i + 1)).map Xe = (es.take i).map Xe ++ [Xe x] := by rw [X1K hx, List.map_append]; rfl
 have hbp := hbe x (List.mem_of_getElem? hx)
 obtain ⟨xid, xs, xd, xt, xp⟩ := x
 have hc := X9g xp hbp
 simp only [Xe] at hxc hst
 clear hx hbe hbp
 refine Qif ?_; refine Qic ?_; refine Qyd ?_; refine Qlb ?_; refine QUa ?_; refine Z9 (hcon := hc) ?_; refine QCf ?_; refine QCe ?_; refine ZL ?_; refine Z5 ?_; refine Z6 ?_; refine QCf ?_; refine QBa ?_
 refine ⟨i + 1, by omega, by omega, ?_⟩
 dsimp only
 rw [hst]
 exact X7 rfl JM ⟨rfl, rfl, (by refine Eq.trans (b := .box [.own 130 (ns.map X9).length, .own 131 (_ + _), ai nn, ai ne]) rfl ?_; simp only [List.length_append, List.length_map, List.length_cons, List.length_nil]), rfl, rfl, trivial⟩
theorem X7k (h : Hist) (hb : 0 ≤ h.base ∧ h.base ≤ 1000000000000000) (hl : h.cs.length ≤ 1000) : Con Tryz.prog 61 [] [Xq h] [] (ai (XB h)) := by
 refine Xc (xs := [ai (XB h)]) Tryz.func61 rfl Tryz.ntmps61 rfl rfl rfl (fun E => ?_)
 obtain ⟨base, ⟨ns, es, nn, ne⟩, cs⟩ := h
 simp only [Xq, XB] at *
 have hlm := Ue cs
 rw [← hlm]
 refine QVa ?_; refine QTa ?_; refine Zd ?_; refine Zb ?_; refine Qb ?_
 (show AWP Tryz.prog E _ _ _; refine X1 ?_; exact (show Xd _ _ _ _ _ from ⟨_, St.le_refl _, ⟨rfl, trivial⟩, X3 _⟩))
theorem X6M (h : Hist) (ts : Int) (hf : HistHold h) : Con Tryz.prog 56 [] [Xq h, ai ts] [] (ai (XI h ts)) := by
 refine Xc (xs := [ai (XI h ts)]) Tryz.func56 rfl Tryz.ntmps56 rfl rfl rfl (fun E => ?_)
 have hk := X11 h hf
 have hv := U6 (h := h)
 unfold XI
 by_cases c : XM h ≠ 0
 ·rw [if_pos c]
  clear hv hf
  generalize XM h = e at *
  obtain ⟨base, ⟨ns, es, nn, ne⟩, cs⟩ := h
  simp only [Xq] at *
  refine QSa ?_; refine QEg ?_; refine Qgd ?_; refine QIa ?_; refine Qb ?_
  (show AWP Tryz.prog E _ _ _; refine X1 ?_; exact (show Xd _ _ _ _ _ from ⟨_, St.le_refl _, ⟨rfl, trivial⟩, X3 _⟩))
 rw [if_neg c]
 have c : XM h = 0 := by simpa using c
 have hv := hv.1 c
 rw [c] at hk
 have hl := X7k h hv.b hv.cl
 clear hv hf c
 generalize XB h = z at *
 obtain ⟨base, ⟨ns, es, nn, ne⟩, cs⟩ := h
 simp only [Xq] at *
 by_cases c1 : ts < base
 ·rw [if_pos (.inl c1)]
  refine QSa ?_; refine QGg ?_; refine Qze ?_; refine Z8 ?_; refine Qw ?_; refine Zn ?_; refine Qle ?_
  (show AWP Tryz.prog E _ _ _; refine X1 ?_; exact (show Xd _ _ _ _ _ from ⟨_, St.le_refl _, ⟨rfl, trivial⟩, X3 _⟩))
 by_cases c2 : z < ts
 ·rw [if_pos (.inr c2)]
  refine QUg ?_; refine QD ?_; refine Qle ?_
  (show AWP Tryz.prog E _ _ _; refine X1 ?_; exact (show Xd _ _ _ _ _ from ⟨_, St.le_refl _, ⟨rfl, trivial⟩, X3 _⟩))
 rw [if_neg (by omega)]
 refine QUg ?_; refine Zs ?_; refine QI ?_; refine Qc ?_
 (show AWP Tryz.prog E _ _ _; refine X1 ?_; exact (show Xd _ _ _ _ _ from ⟨_, St.le_refl _, ⟨rfl, trivial⟩, X3 _⟩))
theorem X5U (h : Hist) (n : Nat) (hf : HistHold h) (hb : GraB h.g) (hn : n ≤ h.cs.length) (hok : (XJ h.g (h.cs.take n)).2 = 0) : Con Tryz.prog 57 [] [Xq h, ai n] [] (Xl (XJ h.g (h.cs.take n)).1) := by
 refine Xc (xs := [Xl (XJ h.g (h.cs.take n)).1]) Tryz.func57 rfl Tryz.ntmps57 rfl rfl rfl (fun E => ?_)
 obtain ⟨base, g, cs⟩ := h
 have hcp := X7B g hb
 have hgh := hf.g
 have hcok := hf.cs
 have hl := hf.cl
 simp only at hcp hgh hcok hl hn hok ⊢
 have hlm := Ue cs
 clear hf hb
 generalize hR : XJ g (cs.take n) = R at *
 obtain ⟨ns, es, nn, ne⟩ := g
 simp only [Xq, Xl] at hcp ⊢
 refine Qod ?_; refine JD ?_; refine QSd ?_; refine Z9 (hcon := hcp) ?_; refine QWf ?_; refine Qua ?_
 clear hcp
 refine Xz (ι := Nat × Gra) (fun q => q.1 ≤ n ∧ GraHold q.2 ∧ XJ q.2 ((cs.take n).drop q.1) = R) (fun q => ⟨32, [(1, ai n), (2, .ptr 100 0), (4, .ptr 101 0), (5, .ptr 102 0), (6, ai q.1)], [(100, .box [ai base, .d (.sl 3 (ns.map X9)), .d (.sl 5 (es.map Xe)), ai nn, ai ne, .d (.sl 2 (cs.map Xh))]), (101, .box [ani, ani, ai 0, ai 0]), (102, .box [.d (.sl 3 (q.2.nodes.map X9)), .d (.sl 5 (q.2.edges.map Xe)), ai q.2.nn, ai q.2.ne])]⟩) (fun q => n - q.1) (0, ⟨ns, es, nn, ne⟩) ⟨Nat.zero_le _, hgh, by simpa using hR⟩
  (X7 rfl JM ⟨rfl, rfl, rfl, trivial⟩) ?_
 rintro ⟨i, g⟩ ⟨hi, hg, hr⟩
 simp only at hi hg hr
 clear hR hgh
 by_cases hil : i < n
 case neg =>
  have hnn : ¬ (i : Int) < (n : Nat) := by omega
  rw [List.drop_of_length_le (by rw [List.length_take]; omega)] at hr
  have hr : (g, 0) = R := hr
  subst hr
  obtain ⟨ns', es', nn', ne'⟩ := g
  simp only
  refine QOc ?_; refine Qwa ?_; refine QWb ?_; refine Qlb ?_
  (show AWP Tryz.prog E _ _ _; refine X1 ?_; exact (show Xd _ _ _ _ _ from ⟨_, St.le_refl _, ⟨⟨101, 0, _, rfl, rfl, .inr ⟨4, _, rfl, rfl, rfl, rfl⟩⟩, trivial⟩, X3 _⟩))
 have hnn : (i : Int) < (n : Nat) := by omega
 obtain ⟨x, hx⟩ := Xu (l := cs) (k := i) (by omega)
 have hxc : (cs.map Xh)[i]? = some (Xh x) := XD hx
 have hxt : (cs.take n)[i]? = some x := by rw [List.getElem?_take, if_pos hil]; exact hx
 have hxk := (hcok x (List.mem_of_getElem? hx)).1
 have hs := X3p g x.l hg hxk.2 hxk.1
 have hg' := X7n g x.l
 rw [X6T hxt] at hr
 have he : (Xo g x.l).2.2 = 0 := by
  by_cases q : (Xo g x.l).2.2 ≠ 0
  ·rw [if_pos q] at hr
   rw [← hr] at hok
   exact hok
  ·simpa using q
 rw [if_neg (by simp [he])] at hr
 rw [he] at hs
 clear hx hxt hcok hg hxk he hok
 generalize (Xo g x.l).1 = g' at *
 generalize (Xo g x.l).2.1 = m at *
 obtain ⟨ts, l⟩ := x
 obtain ⟨ns1, es1, nn1, ne1⟩ := g
 obtain ⟨ns', es', nn', ne'⟩ := g'
 simp only [Xl, Xh] at hs hxc
 have hil2 : i < (cs.map Xh).length := by omega
 refine QOc ?_; refine Qxa ?_; refine Qqg ?_; refine Qgc ?_; refine Z9 (hcon := hs) ?_; refine QQg ?_; refine Qyd ?_; refine QJg ?_; refine QLg ?_; refine QBa ?_; exact ⟨(i + 1, ⟨ns', es', nn', ne'⟩), ⟨by simp only; omega, hg', hr⟩, by simp only; omega, X7 rfl JM ⟨rfl, rfl, rfl, trivial⟩⟩
theorem XbK (c : Chg) (hok : Y3 c.v) : Con Tryz.prog 68 [] [Xs c, Xs c] [] (ab true) := by
 refine Xc (xs := [ab true]) Tryz.func68 rfl Tryz.ntmps68 rfl rfl rfl (fun E => ?_)
 have ho := X43 c.v hok
 unfold X1p at ho
 obtain ⟨op, id, src, dst, name, ⟨vk, vn, vd, vs, vl⟩⟩ := c
 simp only [Xs, XY, XG] at *
 refine Qad ?_; refine Qjd ?_; refine Zl ?_; refine Qbb ?_; refine QIe ?_; refine Qbb ?_; refine QIe ?_; refine Qbb ?_; refine QIe ?_; refine Qbb ?_; refine Zr ?_; refine Zn ?_; refine Z1 ?_; refine QRd ?_; refine QRd ?_; refine Z9 (hcon := ho) ?_; refine Zl ?_; refine Qna ?_
 (show AWP Tryz.prog E _ _ _; refine X1 ?_; exact (show Xd _ _ _ _ _ from ⟨_, St.le_refl _, ⟨rfl, trivial⟩, X3 _⟩))
theorem Xby (l : List Chg) (hl : X0m l) : Con Tryz.prog 33 [] [.d (.sl 10 (l.map XL)), .d (.sl 10 (l.map XL))] [] (ab true) := by
 refine Xc (xs := [ab true]) Tryz.func33 rfl Tryz.ntmps33 rfl rfl rfl (fun E => ?_)
 have hlm : (l.map XL).length = l.length := by simp
 have hl2 := hl.2
 refine Qdh ?_
 refine Xz (fun i : Nat => i ≤ l.length) (fun i => ⟨27, [(0, .d (.sl 10 (l.map XL))), (1, .d (.sl 10 (l.map XL))), (5, ai i)], []⟩) (fun i => l.length - i) 0 (Nat.zero_le _)
  (X7 rfl JM trivial) ?_
 intro i hi
 by_cases hil : i < l.length
 case neg =>
  obtain rfl : i = l.length := by omega
  have hn : ¬ ((l.length : Nat) : Int) < (l.map XL).length := by omega
  refine Qlc ?_; refine Qc ?_
  (show AWP Tryz.prog E _ _ _; refine X1 ?_; exact (show Xd _ _ _ _ _ from ⟨_, St.le_refl _, ⟨rfl, trivial⟩, X3 _⟩))
 have hn : (i : Int) < (l.map XL).length := by omega
 obtain ⟨x, hx⟩ := Xu (l := l) hil
 have hxc : (l.map XL)[i]? = some (XL x) := XD hx
 have hs := XbK x (hl.1 x (List.mem_of_getElem? hx)).2
 obtain ⟨op, id, src, dst, name, ⟨vk, vn, vd, vs, vl⟩⟩ := x
 simp only [XL, Xs, XY] at hxc hs
 clear hx hl
 refine Qnc ?_; refine Qic ?_; refine Qud ?_; refine Z9 (hcon := hs) ?_; refine QYb ?_; refine QBa ?_; exact ⟨i + 1, hil, by omega, X7 rfl JM trivial⟩
theorem X5c (h : Hist) (hf : HistHold h) : Con Tryz.prog 22 [] [Xq h, Xq h] [] (ab true) := by
 refine Xc (xs := [ab true]) Tryz.func22 rfl Tryz.ntmps22 rfl rfl rfl (fun E => ?_)
 obtain ⟨base, g, cs⟩ := h
 have hsg := X1U g hf.g
 have hcok := hf.cs
 have hl := hf.cl
 simp only at hsg hcok hl
 have hlm := Ue cs
 clear hf
 obtain ⟨ns, es, nn, ne⟩ := g
 simp only [Xq, Xl] at *
 refine Qad ?_; refine Qsb ?_; refine QTa ?_; refine Zv ?_; refine Z1 ?_; refine QRd ?_; refine QRd ?_; refine Z9 (hcon := hsg) ?_; refine Zu ?_; refine Zq ?_; refine QZa ?_; refine Zd ?_; refine QTa ?_; refine Zd ?_; refine Zv ?_; refine QI ?_; refine Qua ?_
 clear hsg
 refine Xz (fun i : Nat => i ≤ cs.length) (fun i => ⟨64, [(2, .ptr 100 0), (3, .ptr 101 0), (5, ai i)], [(100, .box [ai base, .d (.sl 3 (ns.map X9)), .d (.sl 5 (es.map Xe)), ai nn, ai ne, .d (.sl 2 (cs.map Xh))]), (101, .box [ai base, .d (.sl 3 (ns.map X9)), .d (.sl 5 (es.map Xe)), ai nn, ai ne, .d (.sl 2 (cs.map Xh))])]⟩) (fun i => cs.length - i) 0 (Nat.zero_le _)
  (X7 rfl JM ⟨rfl, rfl, trivial⟩) ?_
 intro i hi
 by_cases hil : i < cs.length
 case neg =>
  obtain rfl : i = cs.length := by omega
  have hn : ¬ ((cs.length : Nat) : Int) < (cs.map Xh).length := by omega
  refine Qgf ?_; refine Qc ?_
  (show AWP Tryz.prog E _ _ _; refine X1 ?_; exact (show Xd _ _ _ _ _ from ⟨_, St.le_refl _, ⟨rfl, trivial⟩, X3 _⟩))
 have hn : (i : Int) < (cs.map Xh).length := by omega
 obtain ⟨x, hx⟩ := Xu (l := cs) hil
 have hxc : (cs.map Xh)[i]? = some (Xh x) := XD hx
 have hs := Xby x.l (hcok x (List.mem_of_getElem? hx)).1
 obtain ⟨ts, l⟩ := x
 simp only [Xh] at hxc hs
 clear hx hcok
 refine Qif ?_; refine Qgc ?_; refine QTa ?_; refine Qgc ?_; refine Zv ?_; refine QZa ?_; refine Qgc ?_; refine QTa ?_; refine Qgc ?_; refine Z9 (hcon := hs) ?_; exact Qeh
end Go.Fw
