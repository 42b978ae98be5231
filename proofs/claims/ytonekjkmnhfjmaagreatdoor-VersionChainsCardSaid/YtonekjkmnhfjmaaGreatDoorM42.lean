/- The program's histories: new ones, states, commits, changes since a time, pruning. -/
import Derived.KernelRfl
import Derived.Test.YtonekjkmnhfjmaaGreatDoorM41
set_option maxHeartbeats 16000000
namespace Go.Fw
open Go Go.Proofs
set_option maxRecDepth 100000
set_option linter.unusedVariables false
set_option linter.unusedSimpArgs false
theorem Xdv (h : Hist) (hv : HV h) (hf : HistFit h) : Con Tryz.prog 52 [] [Xq h] [(130, .row 2 (h.cs.map Xh))] (.agg [ai h.base, .d (.sl 3 (h.g.nodes.map X9)), .d (.sl 5 (h.g.edges.map Xe)), ai h.g.nn, ai h.g.ne, .own 130 (h.cs.map Xh).length]) := by
 refine Xc (xs := [.agg [ai h.base, .d (.sl 3 (h.g.nodes.map X9)), .d (.sl 5 (h.g.edges.map Xe)), ai h.g.nn, ai h.g.ne, .own 130 (h.cs.map Xh).length]]) Tryz.func52 rfl Tryz.ntmps52 rfl rfl rfl (fun E => ?_)
 have hap := X2S h.g [] hf.hold.g (by simp)
 rw [X5b (X23 hv.g)] at hap
 have hlen := hf.len
 have hcl := hv.cl
 obtain ⟨base, ⟨ns, es, nn, ne⟩, cs⟩ := h
 have hlm := Ue cs
 simp only [Xq, Xl, List.map_nil] at *
 clear hv hf
 refine Qod ?_; refine JD ?_; refine QSd ?_; refine Z9 (hcon := hap) ?_; refine QQg ?_; refine Zw (γ := 102) ?_; refine QJg ?_; refine QUa ?_; refine ZL ?_; refine Zx ?_; refine Qyd ?_; refine Qlb ?_; refine Qsb ?_; refine Qjb ?_
 clear hap
 refine Xm (X3E 103 5 130 2 rfl rfl rfl rfl rfl) ?_
 refine Xz (fun i : Nat => i ≤ cs.length) (fun i => ⟨40, [(1, .ptr 100 0), (2, .ptr 101 0), (6, .ptr 103 0), (21, .d (.sl 2 (cs.map Xh))), (22, ai (cs.map Xh).length), (23, ai i)], [(100, .box [ai base, .d (.sl 3 (ns.map X9)), .d (.sl 5 (es.map Xe)), ai nn, ai ne, .d (.sl 2 (cs.map Xh))]), (101, .box [ai 0, ani, ani, ai 0, ai 0, ani]), (103, .box [ai base, .d (.sl 3 (ns.map X9)), .d (.sl 5 (es.map Xe)), ai nn, ai ne, .own 130 ((cs.take i).map Xh).length]), (130, .row 2 ((cs.take i).map Xh))]⟩) (fun i => cs.length - i) 0 (Nat.zero_le _)
  (X7 rfl JM ⟨rfl, rfl, rfl, rfl, trivial⟩) ?_
 intro i hi
 have hroom : ((cs.take i).map Xh).length ≤ 1000 := by rw [List.length_map, List.length_take]; omega
 by_cases hil : i < cs.length
 case neg =>
  obtain rfl : i = cs.length := by omega
  have hn : ¬ ((cs.length : Nat) : Int) < (cs.map Xh).length := by omega
  rw [List.take_length] at hroom ⊢
  refine QM ?_; refine QWb ?_; refine Qlb ?_
  (show AWP Tryz.prog E _ _ _; refine X1 ?_; exact (show Xd _ _ _ _ _ from ⟨_, St.le_refl _, ⟨⟨101, 0, _, rfl, rfl, .inr ⟨6, _, rfl, rfl, rfl, rfl⟩⟩, trivial⟩, XZ ⟨rfl, trivial⟩⟩))
 have hn : (i : Int) < (cs.map Xh).length := by omega
 obtain ⟨x, hx⟩ := Xu (l := cs) hil
 have hxc : (cs.map Xh)[i]? = some (Xh x) := XD hx
 have hst : (cs.take (i + 1)).map Xh = (cs.take i).map Xh ++ [Xh x] := by rw [X1K hx, List.map_append]; rfl
 have hc := X6G (x.l.map XL) (by rw [List.length_map]; exact hlen x (List.mem_of_getElem? hx))
 obtain ⟨ts, l⟩ := x
 simp only [Xh] at hxc hst
 clear hx hlen
 refine QPg ?_; refine QCe ?_; refine Qkd ?_; refine QVg ?_; refine QV ?_
 refine ⟨i + 1, by omega, by omega, ?_⟩
 dsimp only
 rw [hst]
 exact QWg
theorem X5H (h : Hist) (hv : HV h) (hf : HistFit h) : Con Tryz.prog 52 [] [Xq h] [] (Xq h) := by
 refine Xc (xs := [Xq h]) Tryz.func52 rfl Tryz.ntmps52 rfl rfl rfl (fun E => ?_)
 have hap := X2S h.g [] hf.hold.g (by simp)
 rw [X5b (X23 hv.g)] at hap
 have hlen := hf.len
 have hcl := hv.cl
 obtain ⟨base, ⟨ns, es, nn, ne⟩, cs⟩ := h
 have hlm := Ue cs
 simp only [Xq, Xl, List.map_nil] at *
 clear hv hf
 refine Qod ?_; refine JD ?_; refine QSd ?_; refine Z9 (hcon := hap) ?_; refine QQg ?_; refine Zw (γ := 102) ?_; refine QJg ?_; refine QUa ?_; refine ZL ?_; refine Zx ?_; refine Qyd ?_; refine Qlb ?_; refine Qsb ?_; refine Qjb ?_
 clear hap
 refine Xm (X3E 103 5 130 2 rfl rfl rfl rfl rfl) ?_
 refine Xz (fun i : Nat => i ≤ cs.length) (fun i => ⟨40, [(1, .ptr 100 0), (2, .ptr 101 0), (6, .ptr 103 0), (21, .d (.sl 2 (cs.map Xh))), (22, ai (cs.map Xh).length), (23, ai i)], [(100, .box [ai base, .d (.sl 3 (ns.map X9)), .d (.sl 5 (es.map Xe)), ai nn, ai ne, .d (.sl 2 (cs.map Xh))]), (101, .box [ai 0, ani, ani, ai 0, ai 0, ani]), (103, .box [ai base, .d (.sl 3 (ns.map X9)), .d (.sl 5 (es.map Xe)), ai nn, ai ne, .own 130 ((cs.take i).map Xh).length]), (130, .row 2 ((cs.take i).map Xh))]⟩) (fun i => cs.length - i) 0 (Nat.zero_le _)
  (X7 rfl JM ⟨rfl, rfl, rfl, rfl, trivial⟩) ?_
 intro i hi
 have hroom : ((cs.take i).map Xh).length ≤ 1000 := by rw [List.length_map, List.length_take]; omega
 by_cases hil : i < cs.length
 case neg =>
  obtain rfl : i = cs.length := by omega
  have hn : ¬ ((cs.length : Nat) : Int) < (cs.map Xh).length := by omega
  rw [List.take_length] at hroom ⊢
  refine QM ?_; refine X0 ?_
  show AWP Tryz.prog E _ _ _
  refine QId ?_; refine Xm (X21 103 5 130 rfl rfl rfl rfl) ?_; refine QLg ?_
  (show AWP Tryz.prog E _ _ _; refine X1 ?_; exact (show Xd _ _ _ _ _ from ⟨_, St.le_refl _, ⟨⟨101, 0, _, rfl, rfl, .inr ⟨6, _, rfl, rfl, rfl, rfl⟩⟩, trivial⟩, X3 _⟩))
 have hn : (i : Int) < (cs.map Xh).length := by omega
 obtain ⟨x, hx⟩ := Xu (l := cs) hil
 have hxc : (cs.map Xh)[i]? = some (Xh x) := XD hx
 have hst : (cs.take (i + 1)).map Xh = (cs.take i).map Xh ++ [Xh x] := by rw [X1K hx, List.map_append]; rfl
 have hc := X6G (x.l.map XL) (by rw [List.length_map]; exact hlen x (List.mem_of_getElem? hx))
 obtain ⟨ts, l⟩ := x
 simp only [Xh] at hxc hst
 clear hx hlen
 refine QPg ?_; refine QCe ?_; refine Qkd ?_; refine QVg ?_; refine QV ?_
 refine ⟨i + 1, by omega, by omega, ?_⟩
 dsimp only
 rw [hst]
 exact QWg
theorem X3A {g : Gra} (hg : GraHold g) (ts : Int) : HistFit ⟨ts, g, []⟩ := ⟨⟨hg, by simp, by simp⟩, by simp⟩
theorem X8r (g : Gra) (ts : Int) (hg : GraHold g) : Con Tryz.prog 14 [] [Xl g, ai ts] [] (.tup [Xq (VF g ts), ai (XM ⟨ts, g, []⟩)]) := by
 refine Xc (xs := [Xq (VF g ts), ai (XM ⟨ts, g, []⟩)]) Tryz.func14 rfl Tryz.ntmps14 rfl rfl rfl (fun E => ?_)
 have hf := X3A hg ts
 have hk := X1g ⟨ts, g, []⟩ hf.hold
 have hv := U6 (h := ⟨ts, g, []⟩)
 unfold VF
 by_cases c : XM ⟨ts, g, []⟩ ≠ 0
 ·rw [if_pos c]
  clear hv hf hg
  generalize XM ⟨ts, g, []⟩ = e at *
  obtain ⟨ns, es, nn, ne⟩ := g
  simp only [Xq, Xl, List.map_nil] at *
  refine Qod ?_; refine QQ ?_; refine ZL ?_; refine Zx ?_; refine QWf ?_; refine QEg ?_; refine QFg ?_
  (show AWP Tryz.prog E _ _ _; refine X1 ?_; exact (show Xd _ _ _ _ _ from ⟨_, Y5 101 (cs' := [ai 0, .d (.sl 3 []), .d (.sl 5 []), ai 0, ai 0, .d (.sl 2 [])]) rfl JM rfl, ⟨⟨101, 0, _, rfl, rfl, .inr ⟨6, _, rfl, rfl, rfl, rfl⟩⟩, rfl, trivial⟩, X3 _⟩))
 rw [if_neg c]
 have c : XM ⟨ts, g, []⟩ = 0 := by simpa using c
 have hv := hv.1 c
 rw [c] at hk ⊢
 have hc := X5H ⟨ts, g, []⟩ hv hf
 clear hv hf hg c
 obtain ⟨ns, es, nn, ne⟩ := g
 simp only [Xq, Xl, List.map_nil] at *
 refine Qod ?_; refine QQ ?_; refine ZL ?_; refine Zx ?_; refine QWf ?_; refine QGg ?_; refine QWb ?_; refine Z9 (hcon := hc) ?_; refine Qfa ?_
 (show AWP Tryz.prog E _ _ _; refine X1 ?_; exact (show Xd _ _ _ _ _ from ⟨_, St.le_refl _, ⟨⟨101, 0, _, rfl, rfl, .inr ⟨6, _, rfl, rfl, rfl, rfl⟩⟩, rfl, trivial⟩, X3 _⟩))
theorem X2g {h : Hist} {ts : Int} (e : XI h ts = 0) : ∃ k : Nat, ts - h.base = (k : Int) ∧ (ts - h.base).toNat = k ∧ k ≤ h.cs.length := by
 obtain ⟨v, h1, h2⟩ := Ux e
 unfold XB at h2
 exact ⟨(ts - h.base).toNat, by omega, rfl, by omega⟩
theorem X2q {h : Hist} {ts : Int} (e : XI h ts = 0) : 0 ≤ h.base ∧ h.base ≤ 1000000000000000 ∧ -1000000000000000000 ≤ ts ∧ ts ≤ 1000000000000000000 := by
 obtain ⟨v, h1, h2⟩ := Ux e
 have := v.b
 have := v.cl
 unfold XB at h2
 omega
theorem X6L {h : Hist} {ts : Int} (e : XI h ts = 0) : XJ h.g (h.cs.take (ts - h.base).toNat) = (atG h ts, 0) := by
 obtain ⟨v, _, _⟩ := Ux e
 have := X1u v.ok (ts - h.base).toNat
 unfold atG
 generalize XJ h.g (h.cs.take (ts - h.base).toNat) = r at *
 obtain ⟨a, b⟩ := r
 simp only at this
 rw [this]
theorem X02 (h : Hist) (ts : Int) (hf : HistFit h) : Con Tryz.prog 16 [] [Xq h, ai ts] [] (.tup [Xl (atS h ts), ai (XI h ts)]) := by
 refine Xc (xs := [Xl (atS h ts), ai (XI h ts)]) Tryz.func16 rfl Tryz.ntmps16 rfl rfl rfl (fun E => ?_)
 have hk := X8S h ts hf.hold
 unfold atS
 by_cases c : XI h ts ≠ 0
 ·rw [if_pos c]
  clear hf
  generalize XI h ts = e at *
  obtain ⟨base, ⟨ns, es, nn, ne⟩, cs⟩ := h
  simp only [Xq, Xl, List.map_nil] at *
  refine QXg ?_; refine QFg ?_
  (show AWP Tryz.prog E _ _ _; refine X1 ?_; exact (show Xd _ _ _ _ _ from ⟨_, Y5 101 (cs' := [.d (.sl 3 []), .d (.sl 5 []), ai 0, ai 0]) rfl JM rfl, ⟨⟨101, 0, _, rfl, rfl, .inr ⟨4, _, rfl, rfl, rfl, rfl⟩⟩, rfl, trivial⟩, X3 _⟩))
 rw [if_neg c]
 have c : XI h ts = 0 := by simpa using c
 rw [c] at hk ⊢
 obtain ⟨k, k1, k2, k3⟩ := X2g c
 have hb := X2q c
 have hr := X6L c
 rw [k2] at hr
 have hc := X5H h (Ux c).1 hf
 have hap := X5e h.g (h.cs.take k) hf.hold.g (fun x hx => hf.hold.cs x (List.mem_of_mem_take hx)) (by have := hf.hold.cl; rw [List.length_take]; omega)
 rw [hr] at hap
 have hlm := Ue h.cs
 have hsl : (((h.cs.map Xh).take k).drop 0) = (h.cs.take k).map Xh := by simp
 generalize atG h ts = g' at *
 clear hf hr c k2
 obtain ⟨base, ⟨ns, es, nn, ne⟩, cs⟩ := h
 obtain ⟨ns', es', nn', ne'⟩ := g'
 simp only [Xq, Xl] at *
 have hkl : k ≤ (cs.map Xh).length := by omega
 refine QXg ?_; refine Qid ?_; refine QWb ?_; refine Z9 (hcon := hc) ?_; refine Qlb ?_; refine QSd ?_; refine QTa ?_; refine QZa ?_
 (refine Z4 (op := .sub) (r' := .int .i64 (k : Nat)) (u := .int .i64 ts) (v := .int .i64 base) ?_ (hr' := by exact congrArg (Value.int .i64) k1) (hr := by exact XU (by unfold Xw; omega)))
 refine ZV (lb := 0) (hb := k) (ys := (cs.take k).map Xh) ?_ (hys := by exact hsl); refine Z9 (hcon := hap) ?_; refine ZF ?_; refine ZF ?_; refine Qfa ?_
 (show AWP Tryz.prog E _ _ _; refine X1 ?_; exact (show Xd _ _ _ _ _ from ⟨_, St.le_refl _, ⟨⟨101, 0, _, rfl, rfl, .inr ⟨4, _, rfl, rfl, rfl, rfl⟩⟩, rfl, trivial⟩, X3 _⟩))
theorem X5y (h : Hist) (l : List Chg) (hf : HistFit h) (hl : X0m l) (hl2 : l.length ≤ 2000000) : Con Tryz.prog 26 [] [Xq h, .d (.sl 10 (l.map XL))] [] (.tup [Xq (XX h l), ai (YC h l)]) := by
 refine Xc (xs := [Xq (XX h l), ai (YC h l)]) Tryz.func26 rfl Tryz.ntmps26 rfl rfl rfl (fun E => ?_)
 have hk := X1g h hf.hold
 have hv := U6 (h := h)
 have hlm := Ue h.cs
 by_cases c : XM h ≠ 0
 ·have ec : YC h l = XM h := by unfold YC; rw [if_pos c]
  unfold XX
  rw [ec, if_pos c]
  clear hv hf ec
  generalize XM h = e at *
  obtain ⟨base, ⟨ns, es, nn, ne⟩, cs⟩ := h
  simp only [Xq, List.map_nil] at *
  refine Qpd ?_; refine QEg ?_; refine QFg ?_
  (show AWP Tryz.prog E _ _ _; refine X1 ?_; exact (show Xd _ _ _ _ _ from ⟨_, Y5 101 (cs' := [ai 0, .d (.sl 3 []), .d (.sl 5 []), ai 0, ai 0, .d (.sl 2 [])]) rfl JM rfl, ⟨⟨101, 0, _, rfl, rfl, .inr ⟨6, _, rfl, rfl, rfl, rfl⟩⟩, rfl, trivial⟩, X3 _⟩))
 have c : XM h = 0 := by simpa using c
 have hv := hv.1 c
 by_cases c2 : h.cs.length = 1000
 ·have ec : YC h l = 20 := by unfold YC; rw [if_neg (by simp [c]), if_pos c2]
  unfold XX
  rw [ec, if_pos (by simp)]
  rw [c] at hk
  clear hv hf ec c
  obtain ⟨base, ⟨ns, es, nn, ne⟩, cs⟩ := h
  simp only [Xq, List.map_nil] at *
  have c2' : ((cs.map Xh).length : Int) = 1000 := by omega
  refine QYg ?_; refine Zd ?_; refine Zl ?_; refine Qrd ?_
  (show AWP Tryz.prog E _ _ _; refine X1 ?_; exact (show Xd _ _ _ _ _ from ⟨_, Y5 101 (cs' := [ai 0, .d (.sl 3 []), .d (.sl 5 []), ai 0, ai 0, .d (.sl 2 [])]) rfl JM rfl, ⟨⟨101, 0, _, rfl, rfl, .inr ⟨6, _, rfl, rfl, rfl, rfl⟩⟩, rfl, trivial⟩, X3 _⟩))
 have ec : YC h l = (Xo (XJ h.g h.cs).1 l).2.2 := by unfold YC; rw [if_neg (by simp [c]), if_neg c2]
 rw [c] at hk
 have hap := X5e h.g h.cs hf.hold.g hf.hold.cs hf.hold.cl
 have ha2 := X2S (XJ h.g h.cs).1 l (VV (X10 _ _ hv.g hv.ok)) hl.2
 have hok := hv.ok
 have hcl := hv.cl
 have hlast := X77 h hv.b hv.cl
 have hcp := Xdv h hv hf
 have hcc := X6G (l.map XL) (by rw [List.length_map]; exact hl2)
 have hlb : XB h + 1 ≤ 2000000000000000 ∧ 0 ≤ XB h := by have := hv.b; unfold XB; omega
 unfold XX
 rw [ec]
 rw [hok] at hap
 clear hv hf c ec hl hl2 hok
 generalize (XJ h.g h.cs).1 = g1 at *
 generalize (Xo g1 l).1 = g2 at *
 generalize (Xo g1 l).2.1 = m at *
 generalize (Xo g1 l).2.2 = e at *
 by_cases c3 : e ≠ 0
 ·rw [if_pos c3]
  clear hcp hcc hlast hlb
  obtain ⟨base, ⟨ns, es, nn, ne⟩, cs⟩ := h
  obtain ⟨ns', es', nn', ne'⟩ := g1
  obtain ⟨ns2, es2, nn2, ne2⟩ := g2
  simp only [Xq, Xl, List.map_nil] at *
  have c2' : ¬ ((cs.map Xh).length : Int) = 1000 := by omega
  refine QYg ?_; refine Zd ?_; refine Qdc ?_; refine QSd ?_; refine QTa ?_; refine Z9 (hcon := hap) ?_; refine Qxd ?_; refine Qbd ?_; refine Z1 ?_; refine Z9 (hcon := ha2) ?_; refine QQg ?_; refine Qyd ?_; refine Zy ?_; refine Z0 ?_; refine QFg ?_
  (show AWP Tryz.prog E _ _ _; refine X1 ?_; exact (show Xd _ _ _ _ _ from ⟨_, Y5 101 (cs' := [ai 0, .d (.sl 3 []), .d (.sl 5 []), ai 0, ai 0, .d (.sl 2 [])]) rfl JM rfl, ⟨⟨101, 0, _, rfl, rfl, .inr ⟨6, _, rfl, rfl, rfl, rfl⟩⟩, rfl, trivial⟩, X3 _⟩))
 rw [if_neg c3]
 obtain rfl : e = 0 := by simpa using c3
 have happ : (h.cs ++ [(⟨XB h + 1, l⟩ : Cmt)]).map Xh = h.cs.map Xh ++ [[.v (.int .i64 (XB h + 1)), .sl 10 (l.map XL)]] := by simp [Xh]
 generalize XB h = z at *
 obtain ⟨base, ⟨ns, es, nn, ne⟩, cs⟩ := h
 obtain ⟨ns', es', nn', ne'⟩ := g1
 obtain ⟨ns2, es2, nn2, ne2⟩ := g2
 simp only [Xq, Xl] at *
 rw [happ]
 have c2' : ¬ ((cs.map Xh).length : Int) = 1000 := by omega
 have hroom : (cs.map Xh).length ≤ 1000 := by omega
 refine QYg ?_; refine Zd ?_; refine Qdc ?_; refine QSd ?_; refine QTa ?_; refine Z9 (hcon := hap) ?_; refine Qxd ?_; refine Qbd ?_; refine Z1 ?_; refine Z9 (hcon := ha2) ?_; refine QQg ?_; refine Qyd ?_; refine Zy ?_; refine Z0 ?_; refine Qid ?_; refine QWb ?_; refine Z9 (hcon := hcp) ?_; refine Zw (γ := 104) ?_; refine Qlb ?_; refine QUa ?_; refine ZL ?_; refine Z9 (hcon := hlast) ?_; refine Zb ?_; refine Z1 ?_; refine Z9 (hcon := hcc) ?_; refine Zx ?_; refine Z5 ?_; refine Z6 ?_; refine QCf ?_; refine X0 ?_
 show AWP Tryz.prog E _ _ _
 refine Xm (Yb 130 (by conv => lhs; whnf)) ?_; refine Xm (X21 104 5 130 (by conv => lhs; whnf) rfl (by conv => lhs; whnf) (by simp)) ?_; refine JR ?_; refine ZL ?_; refine Qfa ?_
 (show AWP Tryz.prog E _ _ _; refine X1 ?_; exact (show Xd _ _ _ _ _ from ⟨_, St.le_refl _, ⟨⟨101, 0, _, rfl, rfl, .inr ⟨6, _, rfl, rfl, rfl, rfl⟩⟩, rfl, trivial⟩, X3 _⟩))
theorem Xdj {ts base : Int} {i : Nat} (h1 : -9223372036854775808 ≤ ts ∧ ts ≤ 9223372036854775807) (hb : 0 ≤ base ∧ base ≤ 1000000000000000) (hi : i ≤ 1000) : IntKind.i64.wrap (ts - (i : Int)) = base + 1 ↔ ts = base + 1 + (i : Int) := by
 rw [IntKind.wrap_i64]; omega
theorem X11 (h : Hist) (hf : HistHold h) : Con Tryz.prog 19 [] [Xq h] [] (ai (XM h)) := by
 refine Xc (xs := [ai (XM h)]) Tryz.func19 rfl Tryz.ntmps19 rfl rfl rfl (fun E => ?_)
 obtain ⟨base, g, cs⟩ := h
 have hgc := X9l g hf.g
 have hl := hf.cl
 have hcok := hf.cs
 have hgh := hf.g
 simp only at hgc hl hcok hgh
 have hlm := Ue cs
 unfold XM
 simp only
 clear hf
 obtain ⟨ns, es, nn, ne⟩ := g
 simp only [Xq, Xl] at *
 by_cases c1 : base < 0 ∨ 1000000000000000 < base
 ·rw [if_pos c1]
  by_cases c0 : base < 0
  ·refine Qtb ?_; refine Z8 ?_; refine Qv ?_; refine Qle ?_
   (show AWP Tryz.prog E _ _ _; refine X1 ?_; exact (show Xd _ _ _ _ _ from ⟨_, St.le_refl _, ⟨rfl, trivial⟩, X3 _⟩))
  ·have c0' : 1000000000000000 < base := by omega
   refine Qtb ?_; refine Z8 ?_; refine QZa ?_; refine QD ?_; refine Qle ?_
   (show AWP Tryz.prog E _ _ _; refine X1 ?_; exact (show Xd _ _ _ _ _ from ⟨_, St.le_refl _, ⟨rfl, trivial⟩, X3 _⟩))
 rw [if_neg c1]
 have c2 : ¬ base < 0 := by omega
 have c3 : ¬ 1000000000000000 < base := by omega
 by_cases c4 : Yj ⟨ns, es, nn, ne⟩ ≠ 0
 ·rw [if_pos c4]
  generalize Yj ⟨ns, es, nn, ne⟩ = e at *
  refine QSg ?_; refine Qgd ?_; refine QIa ?_; refine Qb ?_
  (show AWP Tryz.prog E _ _ _; refine X1 ?_; exact (show Xd _ _ _ _ _ from ⟨_, St.le_refl _, ⟨rfl, trivial⟩, X3 _⟩))
 rw [if_neg c4]
 have c4 : Yj ⟨ns, es, nn, ne⟩ = 0 := by simpa using c4
 rw [c4] at hgc
 clear c4
 by_cases c5 : 1000 < cs.length
 ·rw [if_pos c5]
  have c5' : (1000 : Int) < (cs.map Xh).length := by omega
  refine QTg ?_; refine Qle ?_
  (show AWP Tryz.prog E _ _ _; refine X1 ?_; exact (show Xd _ _ _ _ _ from ⟨_, St.le_refl _, ⟨rfl, trivial⟩, X3 _⟩))
 rw [if_neg c5]
 have c5' : ¬ (1000 : Int) < (cs.map Xh).length := by omega
 generalize hB : tsV (base + 1) cs = B
 generalize hR : XJ ⟨ns, es, nn, ne⟩ cs = R
 refine QTg ?_; refine QH ?_; refine Qua ?_
 clear hgc
 refine Xz (fun i : Nat => i ≤ cs.length ∧ tsV (base + 1 + (i : Nat)) (cs.drop i) = B) (fun i => ⟨72, [(1, .ptr 100 0), (4, ai i)], [(100, .box [ai base, .d (.sl 3 (ns.map X9)), .d (.sl 5 (es.map Xe)), ai nn, ai ne, .d (.sl 2 (cs.map Xh))])]⟩) (fun i => cs.length - i) 0 ⟨Nat.zero_le _, by simpa using hB⟩
  (X7 rfl JM ⟨rfl, trivial⟩) ?_
 rintro i ⟨hi, hg⟩
 clear hB
 by_cases hil : i < cs.length
 case pos =>
  have hn : (i : Int) < (cs.map Xh).length := by omega
  obtain ⟨x, hx⟩ := Xu (l := cs) hil
  have hxc : (cs.map Xh)[i]? = some (Xh x) := XD hx
  have hxk := (hcok x (List.mem_of_getElem? hx)).2
  rw [Xad hx] at hg
  obtain ⟨ts, l⟩ := x
  simp only [Xh] at hxc hg hxk
  have hwc := Xdj (i := i) hxk (show 0 ≤ base ∧ base ≤ 1000000000000000 by omega) (by omega)
  clear hx hcok hgh hR hxk
  generalize hW : IntKind.i64.wrap (ts - (i : Int)) = W at *
  by_cases hq : ts = base + 1 + (i : Int)
  ·rw [decide_eq_true hq, Bool.true_and] at hg
   have hw := hwc.2 hq
   clear hwc hq
   refine Qif ?_; refine Qhc ?_; refine QZg ?_; refine QTa ?_; refine Zb ?_; refine QSc ?_; refine QBa ?_; exact Qug
  ·rw [decide_eq_false hq, Bool.false_and] at hg
   subst hg
   rw [if_pos rfl]
   have hw : ¬ W = base + 1 := fun h => hq (hwc.1 h)
   clear hwc hq
   refine Qif ?_; refine Qhc ?_; refine QZg ?_; refine QTa ?_; refine Zb ?_; refine Zv ?_; refine Qle ?_
   (show AWP Tryz.prog E _ _ _; refine X1 ?_; exact (show Xd _ _ _ _ _ from ⟨_, St.le_refl _, ⟨rfl, trivial⟩, X3 _⟩))
 have hn : ¬ (i : Int) < (cs.map Xh).length := by omega
 rw [List.drop_of_length_le (by omega)] at hg
 have hg : true = B := hg
 subst hg
 rw [if_neg (by simp)]
 refine Qgf ?_; refine QSd ?_; refine Zw (γ := 101) ?_; refine Qlb ?_; refine Qua ?_
 clear hi hil hn
 refine Xz (ι := Nat × Gra) (fun q => q.1 ≤ cs.length ∧ GraHold q.2 ∧ XJ q.2 (cs.drop q.1) = R) (fun q => ⟨72, [(1, .ptr 100 0), (5, .ptr 101 0), (6, ai q.1)], [(100, .box [ai base, .d (.sl 3 (ns.map X9)), .d (.sl 5 (es.map Xe)), ai nn, ai ne, .d (.sl 2 (cs.map Xh))]), (101, .box [.d (.sl 3 (q.2.nodes.map X9)), .d (.sl 5 (q.2.edges.map Xe)), ai q.2.nn, ai q.2.ne])]⟩) (fun q => cs.length - q.1) (0, ⟨ns, es, nn, ne⟩) ⟨Nat.zero_le _, hgh, by simpa using hR⟩
  (X7 rfl JM ⟨rfl, rfl, trivial⟩) ?_
 rintro ⟨i, g⟩ ⟨hi, hg, hr⟩
 simp only at hi hg hr
 clear hR hgh
 by_cases hil : i < cs.length
 case neg =>
  have hn : ¬ (i : Int) < (cs.map Xh).length := by omega
  rw [List.drop_of_length_le (by omega)] at hr
  have hr : (g, 0) = R := hr
  subst hr
  obtain ⟨ns', es', nn', ne'⟩ := g
  simp only
  refine Qgf ?_; refine Qc ?_
  (show AWP Tryz.prog E _ _ _; refine X1 ?_; exact (show Xd _ _ _ _ _ from ⟨_, St.le_refl _, ⟨rfl, trivial⟩, X3 _⟩))
 have hn : (i : Int) < (cs.map Xh).length := by omega
 obtain ⟨x, hx⟩ := Xu (l := cs) hil
 have hxc : (cs.map Xh)[i]? = some (Xh x) := XD hx
 have hxk := (hcok x (List.mem_of_getElem? hx)).1
 have hs := X3p g x.l hg hxk.2 hxk.1
 have hg' := X7n g x.l
 rw [X6T hx] at hr
 clear hx hcok hg hxk
 generalize (Xo g x.l).1 = g' at *
 generalize (Xo g x.l).2.1 = m at *
 generalize (Xo g x.l).2.2 = e at *
 obtain ⟨ts, l⟩ := x
 obtain ⟨ns1, es1, nn1, ne1⟩ := g
 obtain ⟨ns', es', nn', ne'⟩ := g'
 simp only [Xl, Xh] at hs hxc
 by_cases hq : e ≠ 0
 ·rw [if_pos hq] at hr
  subst hr
  refine Qah ?_; refine QLa ?_; refine QIa ?_; refine Qb ?_
  (show AWP Tryz.prog E _ _ _; refine X1 ?_; exact (show Xd _ _ _ _ _ from ⟨_, St.le_refl _, ⟨rfl, trivial⟩, X3 _⟩))
 rw [if_neg hq] at hr
 obtain rfl : e = 0 := by simpa using hq
 refine Qah ?_; refine QKg ?_; refine QLg ?_; refine QBa ?_; exact QMg
def X0a (h : Hist) : Bool := X1i h.g 16 20 && (decide (h.cs.length ≤ 12) && h.cs.all fun c => UD c.l 20)
theorem Xeq {l : List Cmt} {p : Cmt → Bool} {i : Nat} {c : Cmt} (h : l[i]? = some c) : (l.drop i).all p = (p c && (l.drop (i + 1)).all p) := by
 obtain ⟨hl, h⟩ := List.getElem?_eq_some_iff.1 h
 rw [List.drop_eq_getElem_cons hl, h, List.all_cons]
theorem X7l {l : List Chg} {n : Nat} (h : UD l n = true) : l.length ≤ n := by
 unfold UD at h
 simp only [Bool.and_eq_true, decide_eq_true_eq] at h
 omega
theorem X3e {h : Hist} (hh : HistHold h) (hs : X0a h = true) : HistFit h ∧ GraB h.g ∧ h.cs.length ≤ 12 ∧ ∀ c ∈ h.cs, c.l.length ≤ 20 := by
 unfold X0a at hs
 simp only [Bool.and_eq_true, decide_eq_true_eq, List.all_eq_true] at hs
 have hl : ∀ c ∈ h.cs, c.l.length ≤ 20 := fun c hc => X7l (n := 20) (hs.2.2 c hc)
 exact ⟨⟨hh, fun c hc => by have := hl c hc; omega⟩, XhI hs.1 (by omega) (by omega), hs.2.1, hl⟩
theorem X2s (h : Hist) (hf : HistHold h) : Con Tryz.prog 12 [] [Xq h] [] (ab (X0a h)) := by
 refine Xc (xs := [ab (X0a h)]) Tryz.func12 rfl Tryz.ntmps12 rfl rfl rfl (fun E => ?_)
 obtain ⟨base, g, cs⟩ := h
 have hsm := Xch g 16 20 hf.g
 have hcok := hf.cs
 have hl := hf.cl
 simp only at hsm hcok hl
 have hlm := Ue cs
 unfold X0a
 simp only
 clear hf
 generalize X1i g 16 20 = sm at *
 obtain ⟨ns, es, nn, ne⟩ := g
 simp only [Xq, Xl] at *
 cases sm with
 | false =>
  rw [Bool.false_and]
  refine Qbh ?_; refine Qw ?_; refine Zn ?_; refine Qle ?_
  (show AWP Tryz.prog E _ _ _; refine X1 ?_; exact (show Xd _ _ _ _ _ from ⟨_, St.le_refl _, ⟨rfl, trivial⟩, X3 _⟩))
 | true =>
  rw [Bool.true_and]
  by_cases c1 : cs.length ≤ 12
  case neg =>
   rw [decide_eq_false c1, Bool.false_and]
   have c1' : (12 : Int) < (cs.map Xh).length := by omega
   refine Qbh ?_; refine QAb ?_; refine Zq ?_; refine Qle ?_
   (show AWP Tryz.prog E _ _ _; refine X1 ?_; exact (show Xd _ _ _ _ _ from ⟨_, St.le_refl _, ⟨rfl, trivial⟩, X3 _⟩))
  rw [decide_eq_true c1, Bool.true_and]
  have c1' : ¬ (12 : Int) < (cs.map Xh).length := by omega
  generalize hB : (cs.all fun c => UD c.l 20) = B
  refine Qbh ?_; refine QAb ?_; refine QDb ?_; refine Qjb ?_
  clear hsm
  refine Xz (fun i : Nat => i ≤ cs.length ∧ ((cs.drop i).all fun c => UD c.l 20) = B) (fun i => ⟨27, [(1, .ptr 100 0), (16, .d (.sl 2 (cs.map Xh))), (17, ai (cs.map Xh).length), (18, ai i)], [(100, .box [ai base, .d (.sl 3 (ns.map X9)), .d (.sl 5 (es.map Xe)), ai nn, ai ne, .d (.sl 2 (cs.map Xh))])]⟩) (fun i => cs.length - i) 0 ⟨Nat.zero_le _, by simpa using hB⟩
   (X7 rfl JM ⟨rfl, trivial⟩) ?_
  rintro i ⟨hi, hg⟩
  clear hB
  by_cases hil : i < cs.length
  case neg =>
   have hn : ¬ (i : Int) < (cs.map Xh).length := by omega
   rw [List.drop_of_length_le (by omega)] at hg
   have hg : true = B := hg
   subst hg
   refine QM ?_; refine Qc ?_
   (show AWP Tryz.prog E _ _ _; refine X1 ?_; exact (show Xd _ _ _ _ _ from ⟨_, St.le_refl _, ⟨rfl, trivial⟩, X3 _⟩))
  have hn : (i : Int) < (cs.map Xh).length := by omega
  obtain ⟨x, hx⟩ := Xu (l := cs) hil
  have hxc : (cs.map Xh)[i]? = some (Xh x) := XD hx
  have hxk := (hcok x (List.mem_of_getElem? hx)).1
  have hs := X5W x.l 20 (by omega) hxk.2 hxk.1
  rw [Xeq hx] at hg
  obtain ⟨ts, l⟩ := x
  simp only [Xh] at hxc hs hg
  clear hx hcok hxk
  have hs : Con Tryz.prog 25 [] [.d (.sl 10 (l.map XL)), ai 20] [] (ab (UD l 20)) := hs
  have hg : (UD l 20 && (cs.drop (i + 1)).all fun c => UD c.l 20) = B := hg
  generalize UD l 20 = fb at *
  cases fb with
  | true =>
   rw [Bool.true_and] at hg
   refine Qch ?_; refine QUa ?_; refine Z9 (hcon := hs) ?_; refine QYb ?_; refine QV ?_; exact Qug
  | false =>
   rw [Bool.false_and] at hg
   subst hg
   refine Qch ?_; refine QUa ?_; refine Z9 (hcon := hs) ?_; refine Zu ?_; refine Qle ?_
   (show AWP Tryz.prog E _ _ _; refine X1 ?_; exact (show Xd _ _ _ _ _ from ⟨_, St.le_refl _, ⟨rfl, trivial⟩, X3 _⟩))
theorem XfB (id : Int) : Con Tryz.prog 51 [] [ai id] [] (Xs (UH id)) := by
 refine Xc (xs := [Xs (UH id)]) Tryz.func51 rfl Tryz.ntmps51 rfl rfl rfl (fun E => ?_)
 simp only [UH, Xs, XY]
 refine Qaa ?_; refine Qlf ?_; refine Zx ?_; refine Qlb ?_
 (show AWP Tryz.prog E _ _ _; refine X1 ?_; exact (show Xd _ _ _ _ _ from ⟨_, Y5 100 (cs' := [ai 1, ai id, ai 0, ai 0, .d (.v (.string (X5 []))), ai 0, ai 0, ai 0, .d (.v (.string (X5 []))), .d (.sl 5 (Xx []))]) rfl JM rfl, ⟨⟨100, 0, _, rfl, rfl, .inr ⟨10, _, rfl, rfl, rfl, rfl⟩⟩, trivial⟩, X3 _⟩))
abbrev g44 : Gra := ⟨[], [], 1, 1⟩
abbrev h44 : Hist := ⟨5, g44, []⟩
abbrev g45 : Gra := ⟨[⟨1, [], []⟩], [], 2, 1⟩
abbrev h45 : Hist := ⟨5, g44, [⟨6, [UH 1]⟩]⟩
theorem Xb2 : Yj g44 = 0 := by decide
theorem XfM : XS g44 (UH 1) = (g45, 0) := by
 unfold XS
 rw [Xfm (by omega) (by omega), if_neg (by simp)]
 rfl
theorem X9V : Xo g44 [UH 1] = (g45, 1, 0) := by
 unfold Xo
 rw [Xb2, if_neg (by simp), Yf, XfM]
 rfl
theorem X3i : XM h44 = 0 := by
 unfold XM
 rw [if_neg (by simp only; omega), Xb2]
 rfl
theorem X64 : YC h44 [UH 1] = 0 := by
 unfold YC
 rw [X3i, if_neg (by simp), if_neg (by simp)]
 show (Xo g44 [UH 1]).2.2 = 0
 rw [X9V]
theorem X8N : XX h44 [UH 1] = h45 := by unfold XX; rw [X64]; rfl
theorem X55 : HV h45 := by
 have e := (X6j (U6.1 X3i) X64).1
 rw [X8N] at e
 exact e
theorem X8f : XI h45 6 = 0 := by rw [X0F X55, if_neg (by decide)]
theorem X8l : XI h45 7 = 23 := by rw [X0F X55, if_pos (by decide)]
theorem Xhp : atS h45 6 = g45 := by
 unfold atS
 rw [X8f, if_neg (by simp)]
 show (XJ g44 [⟨6, [UH 1]⟩]).1 = g45
 rw [XJ, X9V]
 rfl
theorem XdT : atS h45 7 = Ya := by unfold atS; rw [X8l, if_pos (by simp)]
theorem XhG : UQ h44 = 5 := by unfold UQ; rw [X3i]; rfl
theorem XdU : UQ h45 = 6 := by unfold UQ; rw [U6.2 X55]; rfl
theorem X6t : GraHold g44 := ⟨by simp, by simp, by simp, by simp⟩
theorem XhT (id : Int) : X2F (UH id) := ⟨by simp [UH], by simp [UH, Y3, VN]⟩
theorem Xbn : HistFit h44 := X3A X6t 5
theorem X7M : X0m [UH 1] := ⟨fun c hc => by rw [List.mem_singleton.1 hc]; exact XhT 1, by simp⟩
theorem X7a : HistFit h45 := ⟨⟨X6t, by simp, fun c hc => by rw [List.mem_singleton.1 hc]; exact ⟨X7M, by simp⟩⟩, fun c hc => by rw [List.mem_singleton.1 hc]; simp⟩
theorem Xcx  : Con Tryz.prog 50 [] [] [] (Xl g44) := by
 refine Xc (xs := [Xl g44]) Tryz.func50 rfl Tryz.ntmps50 rfl rfl rfl (fun E => ?_)
 refine Qaa ?_; refine JD ?_; refine Qa ?_; refine Zx ?_; refine Qlb ?_
 (show AWP Tryz.prog E _ _ _; refine X1 ?_; exact (show Xd _ _ _ _ _ from ⟨_, Y5 100 (cs' := [.d (.sl 3 []), .d (.sl 5 []), ai 1, ai 1]) rfl JM rfl, ⟨⟨100, 0, _, rfl, rfl, .inr ⟨4, _, rfl, rfl, rfl, rfl⟩⟩, trivial⟩, X3 _⟩))
theorem X32  : Con Tryz.prog 13 [] [] [] (ab true) := by
 refine Xc (xs := [ab true]) Tryz.func13 rfl Tryz.ntmps13 rfl rfl rfl (fun E => ?_)
 have h1 := Xcx
 have h2 := X8r g44 5 X6t
 have h3 := XfB 1
 have h4 := X5y h44 [UH 1] Xbn X7M (by simp)
 have h5 := X02 h45 6 X7a
 have h6 := X02 h45 7 X7a
 have h7 := X0S h44 Xbn.hold
 have h8 := X0S h45 X7a.hold
 rw [show VF g44 5 = h44 by unfold VF; rw [X3i]; rfl, show XM ⟨5, g44, []⟩ = 0 from X3i] at h2
 rw [X8N, X64] at h4
 rw [Xhp, X8f] at h5
 rw [XdT, X8l] at h6
 rw [XhG] at h7
 rw [XdU] at h8
 simp only [Xq, Xl, Xs, XY, UH, Xh, XL, X9, List.map_nil, List.map_cons] at h1 h2 h3 h4 h5 h6 h7 h8
 refine Qc ?_; refine Qa ?_; refine Z9 (hcon := h1) ?_; refine Z9 (hcon := h2) ?_; refine Qdd ?_; refine Zw (γ := 100) ?_; refine Qfa ?_; refine QWb ?_; refine Z9 (hcon := h3) ?_; refine Z5 ?_; refine Z9 (hcon := h4) ?_; refine QWd ?_; refine QWb ?_; refine Z9 (hcon := h5) ?_; refine Qxd ?_; refine QWb ?_; refine Z9 (hcon := h6) ?_; refine Qdd ?_; refine Qyd ?_; refine Zy ?_; refine QQ ?_; refine Zl ?_; refine Qf ?_; refine QIe ?_; refine Qf ?_; refine QIe ?_; refine Qf ?_; refine QIe ?_; refine Qpb ?_; refine Z9 (hcon := h7) ?_; refine QIe ?_; refine Qpb ?_; refine Z9 (hcon := h8) ?_; refine QIe ?_; refine QZa ?_; refine Zd ?_; refine Zl ?_; refine Qna ?_
 (show AWP Tryz.prog E _ _ _; refine X1 ?_; exact (show Xd _ _ _ _ _ from ⟨_, St.le_refl _, ⟨rfl, trivial⟩, X3 _⟩))
end Go.Fw
