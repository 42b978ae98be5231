/- All changes, one after the other. -/
import Derived.KernelRfl
import Derived.Test.YtonekjkmnhfjmaaGreatDoorM40
set_option maxHeartbeats 32000000
namespace Go.Fw
open Go Go.Proofs
set_option maxRecDepth 100000
set_option linter.unusedVariables false
set_option linter.unusedSimpArgs false
theorem Xe8 (l : List Nod) : ((l.map cNN).map fun x => x.map NC.toD) = l.map X9 := by rw [List.map_map]; exact List.map_congr_left fun n _ => rfl
theorem XfK (l : List Edg) : ((l.map cNE).map fun x => x.map NC.toD) = l.map Xe := by rw [List.map_map]; exact List.map_congr_left fun n _ => rfl
theorem XhF (l : List Nod) : ∀ x ∈ l.map cNN, x.length = 3 := fun x hx => by obtain ⟨p, _, rfl⟩ := List.mem_map.1 hx; rfl
theorem Xet (l : List Edg) : ∀ x ∈ l.map cNE, x.length = 5 := fun x hx => by obtain ⟨p, _, rfl⟩ := List.mem_map.1 hx; rfl
abbrev X2a (g : Gra) (a b : Nat) : AObj := .box [.own a g.nodes.length, .own b g.edges.length, ai g.nn, ai g.ne]
abbrev X2l (g : Gra) : AObj := .nest 3 (g.nodes.map cNN)
abbrev X2k (g : Gra) : AObj := .nest 5 (g.edges.map cNE)
theorem XgA (g : Gra) (c : Chg) (hg : GV g) (ho : c.op ≤ 5) (h : (XS g c).2 = 0) : Con Tryz.prog 110 [(102, X2a g 110 111), (110, X2l g), (111, X2k g)] [.ptr 102 0, Xs c] [(102, X2a (XS g c).1 120 111), (110, .dead), (111, X2k (XS g c).1), (120, X2l (XS g c).1)] (ai 0) := by
 have k := YE 0 102 (YE 4 111 (YE 3 110 (YE 110 120 (Xf3 g c hg ho h))))
 obtain ⟨op, id, src, dst, name, ⟨vk, vn, vd, vs, vl⟩⟩ := c
 exact k
theorem Xf8 (g : Gra) (c : Chg) (hg : GV g) (ho : ¬ c.op ≤ 5) (h : (XS g c).2 = 0) : Con Tryz.prog 110 [(102, X2a g 110 111), (110, X2l g), (111, X2k g)] [.ptr 102 0, Xs c] [(102, X2a (XS g c).1 110 120), (110, X2l (XS g c).1), (111, .dead), (120, X2k (XS g c).1)] (ai 0) := by
 have k := YE 0 102 (YE 4 111 (YE 3 110 (YE 110 120 (Xd4 g c hg ho h))))
 obtain ⟨op, id, src, dst, name, ⟨vk, vn, vd, vs, vl⟩⟩ := c
 exact k
theorem XdL (g : Gra) (c : Chg) (hg : GV g) (h : (XS g c).2 ≠ 0) : Con Tryz.prog 110 [(102, X2a g 110 111), (110, X2l g), (111, X2k g)] [.ptr 102 0, Xs c] [(102, .dead), (110, .dead), (111, .dead)] (ai (XS g c).2) := by
 have k := YE 0 102 (YE 4 111 (YE 3 110 (XeP g c hg h)))
 obtain ⟨op, id, src, dst, name, ⟨vk, vn, vd, vs, vl⟩⟩ := c
 exact k
theorem X2S (g : Gra) (l : List Chg) (hg : GraHold g) (hl : l.length ≤ 9223372036854775807) : Con Tryz.prog 65 [] [Xl g, .d (.sl 10 (l.map XL))] [] (.tup [Xl (Xo g l).1, ai (Xo g l).2.1, ai (Xo g l).2.2]) := by
 refine Xc (xs := [Xl (Xo g l).1, ai (Xo g l).2.1, ai (Xo g l).2.2]) Tryz.func65 rfl Tryz.ntmps65 rfl rfl rfl (fun E => ?_)
 have hk := X8P g hg
 have hlm : (l.map XL).length = l.length := by simp
 unfold Xo
 by_cases hc : Yj g ≠ 0
 ·rw [if_pos hc]
  clear hg
  generalize Yj g = e at *
  obtain ⟨ns, es, nn, ne⟩ := g
  simp only [Xl, List.map_nil] at *
  refine Qod ?_; refine QKa ?_; refine QEg ?_; refine Qgd ?_; refine Qqd ?_; refine Z1 ?_; refine QJg ?_
  (show AWP Tryz.prog E _ _ _; refine X1 ?_; exact (show Xd _ _ _ _ _ from ⟨_, Y5 101 (cs' := [.d (.sl 3 []), .d (.sl 5 []), ai 0, ai 0]) rfl JM rfl, ⟨⟨101, 0, _, rfl, rfl, .inr ⟨4, _, rfl, rfl, rfl, rfl⟩⟩, rfl, rfl, trivial⟩, X3 _⟩))
 rw [if_neg hc]
 have hc : Yj g = 0 := by simpa using hc
 rw [hc] at hk
 have hv := X2P.1 hc
 have hcp := XfZ g hv
 clear hc hg
 generalize hR : Yf g 0 l = R
 obtain ⟨ns, es, nn, ne⟩ := g
 simp only [Xl] at hk hcp ⊢
 refine Qod ?_; refine QKa ?_; refine QGg ?_; refine QWb ?_; refine Z9 (hcon := hcp) ?_; refine Zx ?_; refine QWf ?_; refine Qt ?_; refine Qjb ?_
 clear hk hcp
 refine Xz (ι := Nat × Gra) (fun q => q.1 ≤ l.length ∧ GV q.2 ∧ Yf q.2 q.1 (l.drop q.1) = R) (fun q => ⟨40, [(1, .d (.sl 10 (l.map XL))), (4, .ptr 101 0), (8, .ptr 102 0), (21, .d (.sl 10 (l.map XL))), (22, ai (l.map XL).length), (23, ai q.1)], [(101, .box [ani, ani, ai 0, ai 0]), (102, X2a q.2 110 111), (110, X2l q.2), (111, X2k q.2)]⟩) (fun q => l.length - q.1) (0, ⟨ns, es, nn, ne⟩) ⟨Nat.zero_le _, hv, by simpa using hR⟩
  (X7 rfl JM ⟨rfl, rfl, rfl, rfl, trivial⟩) ?_
 rintro ⟨i, g⟩ ⟨hi, hg, hr⟩
 simp only at hi hg hr
 clear hv hR
 by_cases hil : i < l.length
 case neg =>
  have hn : ¬ (i : Int) < (l.map XL).length := by omega
  rw [Xbb (by omega)] at hr
  obtain rfl : i = l.length := by omega
  subst hr
  obtain ⟨ns, es, nn, ne⟩ := g
  simp only
  refine QM ?_; refine X0 ?_
  show AWP Tryz.prog E _ _ _
  refine Xm (XaS 110 (by conv => lhs; whnf) (XhF _)) ?_; refine Xm (XaS 111 (by conv => lhs; whnf) (Xet _)) ?_
  rw [Xe8, XfK]
  refine Xm (X21 102 0 110 (by conv => lhs; whnf) rfl (by conv => lhs; whnf) (by rw [List.length_map])) ?_; refine Xm (X21 102 1 111 (by conv => lhs; whnf) rfl (by conv => lhs; whnf) (by rw [List.length_map])) ?_
  rw [← hlm]
  refine JR ?_; refine QRd ?_; refine Z1 ?_; refine Zd ?_; refine QJg ?_
  (show AWP Tryz.prog E _ _ _; refine X1 ?_; exact (show Xd _ _ _ _ _ from ⟨_, St.le_refl _, ⟨⟨101, 0, _, rfl, rfl, .inr ⟨4, _, rfl, rfl, rfl, rfl⟩⟩, rfl, rfl, trivial⟩, X3 _⟩))
 have hn : (i : Int) < (l.map XL).length := by omega
 obtain ⟨x, hx⟩ := Xu (l := l) hil
 have hxc : (l.map XL)[i]? = some (XL x) := XD hx
 rw [X8m hx] at hr
 clear hx
 by_cases hq : (XS g x).2 ≠ 0
 ·rw [if_pos hq] at hr
  subst hr
  have hs := XdL g x hg hq
  clear hg
  generalize (XS g x).2 = e at *
  obtain ⟨op, id, src, dst, name, ⟨vk, vn, vd, vs, vl⟩⟩ := x
  simp only [Xl, Xs, XY, XL, List.map_nil] at *
  refine QNg ?_; refine Qgd ?_; refine Qqd ?_; refine Qf ?_; refine QJg ?_
  (show AWP Tryz.prog E _ _ _; refine X1 ?_; exact (show Xd _ _ _ _ _ from ⟨_, Y5 101 (cs' := [.d (.sl 3 []), .d (.sl 5 []), ai 0, ai 0]) rfl JM rfl, ⟨⟨101, 0, _, rfl, rfl, .inr ⟨4, _, rfl, rfl, rfl, rfl⟩⟩, rfl, rfl, trivial⟩, X3 _⟩))
 rw [if_neg hq] at hr
 have hq : (XS g x).2 = 0 := by simpa using hq
 have hg' := X6z hg hq
 by_cases ho : x.op ≤ 5
 ·have hs := XgA g x hg ho hq
  clear hg hq
  generalize (XS g x).1 = g' at *
  obtain ⟨op, id, src, dst, name, ⟨vk, vn, vd, vs, vl⟩⟩ := x
  simp only [Xs, XY, XL] at *
  refine QNg ?_; refine Qid ?_; refine QV ?_
  refine ⟨(i + 1, g'), ⟨by simp only; omega, hg', hr⟩, by simp only; omega, ?_⟩
  refine St.le_trans (X9b 110 120 (by decide) (by decide)) ?_; exact QXf
 ·have hs := Xf8 g x hg ho hq
  clear hg hq
  generalize (XS g x).1 = g' at *
  obtain ⟨op, id, src, dst, name, ⟨vk, vn, vd, vs, vl⟩⟩ := x
  simp only [Xs, XY, XL] at *
  refine QNg ?_; refine Qid ?_; refine QV ?_
  refine ⟨(i + 1, g'), ⟨by simp only; omega, hg', hr⟩, by simp only; omega, ?_⟩
  refine St.le_trans (X9b 111 120 (by decide) (by decide)) ?_; exact QXf
theorem V3 : Tryz.prog.cellsOf 3 = 1 := by kernel_rfl
theorem X2A : Tryz.prog.cellsOf 9 = 1 := by kernel_rfl
theorem XhX : Tryz.prog.cellsOf 80 = 1 := by kernel_rfl
theorem X4h : Tryz.prog.cellsOf 82 = 5 := by kernel_rfl
theorem X9Z : Tryz.prog.cellsOf 84 = 10 := by kernel_rfl
section
variable {H : Type} {enc : TypeId × Value → H} {W : World}
theorem Xb0 : ∀ n, OpensN enc Tryz.prog W n 82 Y3 Y1
 | 0 => ⟨fun cs x hx => by simp [DataW.trod] at hx⟩
 | n + 1 =>
  (XhU Tryz.underlying82 X4h (fun m hm =>
   X2u rfl V3 ((V8 Tryz.underlying3).at m) (X2u rfl V3 ((V8 Tryz.underlying3).at m) (X2u rfl V3 ((V8 Tryz.underlying3).at m)
    (X2u rfl X2A ((X2z Tryz.underlying9).at m)
     (X2u rfl XhX (X1k (p := Y3) (f := Y1) Tryz.underlying80 X4h (by decide) (fun m' hm' => Xb0 m')) XdS)))))).to
   (fun r => .mk r.1 r.2.1 r.2.2.1 r.2.2.2.1 r.2.2.2.2.1) fun r h => ⟨by rw [Y3]; exact ⟨h.2.2.2.1, h.2.2.2.2.1.2, X7t h.2.2.2.2.1.1⟩, by rw [Y1, X19]; rfl⟩
termination_by n => n
decreasing_by omega
theorem Xa4 : Opens enc Tryz.prog W 82 Y3 Y1 := X1M Xb0
theorem XeX : Opens enc Tryz.prog W 84 X2F XL :=
 (X1z Tryz.underlying84 X9Z
  (YP rfl V3 (V8 Tryz.underlying3) (YP rfl V3 (V8 Tryz.underlying3) (YP rfl V3 (V8 Tryz.underlying3) (YP rfl V3 (V8 Tryz.underlying3)
   (YP rfl X2A (X2z Tryz.underlying9) (YP rfl X4h Xa4 X1E))))))).to
  (fun r => ⟨r.1, r.2.1, r.2.2.1, r.2.2.2.1, r.2.2.2.2.1, r.2.2.2.2.2.1⟩) fun r h => ⟨⟨h.2.2.2.2.1, h.2.2.2.2.2.1⟩, by
   obtain ⟨op, id, src, dst, name, v, u⟩ := r
   cases v
   rfl⟩
end
theorem Xh8 : Tryz.prog.cellsOf 57 = 1 := by kernel_rfl
theorem X80 : Tryz.prog.cellsOf 58 = 1 := by kernel_rfl
theorem Xgw : Tryz.prog.cellsOf 22 = 1 := by kernel_rfl
theorem XcN : Tryz.prog.cellsOf 23 = 1 := by kernel_rfl
theorem X7Y : Tryz.prog.cellsOf 111 = 6 := by kernel_rfl
theorem XaD : Tryz.prog.cellsOf 60 = 3 := by kernel_rfl
theorem X8Y : Tryz.prog.cellsOf 98 = 5 := by kernel_rfl
theorem X8J : Tryz.prog.cellsOf 25 = 4 := by kernel_rfl
def X7D (g : Gra) : List D := [.sl 3 (g.nodes.map X9), .sl 5 (g.edges.map Xe), .v (.int .i64 g.nn), .v (.int .i64 g.ne)]
section
variable {H : Type} {enc : TypeId × Value → H} {W : World}
theorem Xdq : Opens enc Tryz.prog W 111 X0E X6 :=
 (X1z Tryz.underlying111 X7Y
  (YP rfl X2A (X2z Tryz.underlying9) (YP rfl X4h Xa4 X1E))).to
  (fun r => ⟨r.1, r.2.1⟩) fun r h => ⟨⟨h.1, h.2.1⟩, by
   obtain ⟨k, v, u⟩ := r
   cases v
   simp [X6, Y1]⟩
theorem X8F : Opens enc Tryz.prog W 58 (fun l : List Prp => (∀ c ∈ l, X0E c) ∧ l.length ≤ 9223372036854775807) (fun l => [.sl 6 (l.map X6)]) :=
 X1M fun n => X1k Tryz.underlying58 X7Y (by decide) fun m _ => Xdq.at m
theorem Xgr : Opens enc Tryz.prog W 57 (fun l : List (List UInt8) => (∀ c ∈ l, c.length ≤ 9223372036854775807) ∧ l.length ≤ 9223372036854775807) (fun l => [.sl 1 (l.map Xb)]) :=
 X1M fun n => X1k Tryz.underlying57 X2A (by decide) fun m _ => (X2z Tryz.underlying9).at m
theorem XcW : Opens enc Tryz.prog W 60 X2K X9 :=
 (X1z Tryz.underlying60 XaD
  (YP rfl V3 (V8 Tryz.underlying3) (YP rfl Xh8 Xgr (YP rfl X80 X8F X1E)))).to
  (fun r => ⟨r.1, r.2.1, r.2.2.1⟩) fun r h => ⟨⟨h.2.1.2, h.2.1.1, h.2.2.1.2, h.2.2.1.1⟩, rfl⟩
theorem Xgm : Opens enc Tryz.prog W 98 X4n Xe :=
 (X1z Tryz.underlying98 X8Y
  (YP rfl V3 (V8 Tryz.underlying3) (YP rfl V3 (V8 Tryz.underlying3) (YP rfl V3 (V8 Tryz.underlying3)
   (YP rfl X2A (X2z Tryz.underlying9) (YP rfl X80 X8F X1E)))))).to
  (fun r => ⟨r.1, r.2.1, r.2.2.1, r.2.2.2.1, r.2.2.2.2.1⟩) fun r h => ⟨⟨h.2.2.2.1, h.2.2.2.2.1.2, h.2.2.2.2.1.1⟩, rfl⟩
theorem Xcs : Opens enc Tryz.prog W 22 (fun l : List Nod => (∀ c ∈ l, X2K c) ∧ l.length ≤ 9223372036854775807) (fun l => [.sl 3 (l.map X9)]) :=
 X1M fun n => X1k Tryz.underlying22 XaD (by decide) fun m _ => XcW.at m
theorem XcJ : Opens enc Tryz.prog W 23 (fun l : List Edg => (∀ c ∈ l, X4n c) ∧ l.length ≤ 9223372036854775807) (fun l => [.sl 5 (l.map Xe)]) :=
 X1M fun n => X1k Tryz.underlying23 X8Y (by decide) fun m _ => Xgm.at m
theorem Xhy : Opens enc Tryz.prog W 25 GraHold X7D :=
 (X1z Tryz.underlying25 X8J
  (YP rfl Xgw Xcs (YP rfl XcN XcJ (YP rfl V3 (V8 Tryz.underlying3) (YP rfl V3 (V8 Tryz.underlying3) X1E))))).to
  (fun r => ⟨r.1, r.2.1, r.2.2.1, r.2.2.2.1⟩) fun r h => ⟨⟨h.1.2, h.2.1.2, h.1.1, h.2.1.1⟩, rfl⟩
end
open Go
structure Cmt where
 ts : Int
 l : List Chg
structure Hist where
 base : Int
 g : Gra
 cs : List Cmt
abbrev X1Z : Hist := ⟨0, Ya, []⟩
def XJ : Gra → List Cmt → Gra × Int
 | g, [] => (g, 0)
 | g, c :: r => if (Xo g c.l).2.2 ≠ 0 then (Ya, (Xo g c.l).2.2) else XJ (Xo g c.l).1 r
def tsV : Int → List Cmt → Bool
 | _, [] => true
 | b, c :: r => decide (c.ts = b) && tsV (b + 1) r
def XM (h : Hist) : Int :=
 if h.base < 0 ∨ 1000000000000000 < h.base then 1 else if Yj h.g ≠ 0 then Yj h.g else if 1000 < h.cs.length then 4
 else if tsV (h.base + 1) h.cs = false then 26 else (XJ h.g h.cs).2
def XB (h : Hist) : Int := h.base + h.cs.length
def XI (h : Hist) (ts : Int) : Int := if XM h ≠ 0 then XM h else if ts < h.base ∨ XB h < ts then 23 else 0
def VF (g : Gra) (ts : Int) : Hist := if XM ⟨ts, g, []⟩ ≠ 0 then X1Z else ⟨ts, g, []⟩
def UQ (h : Hist) : Int := if XM h ≠ 0 then 0 else XB h
def atG (h : Hist) (ts : Int) : Gra := (XJ h.g (h.cs.take (ts - h.base).toNat)).1
def atS (h : Hist) (ts : Int) : Gra := if XI h ts ≠ 0 then Ya else atG h ts
def YC (h : Hist) (l : List Chg) : Int :=
 if XM h ≠ 0 then XM h else if h.cs.length = 1000 then 20 else (Xo (XJ h.g h.cs).1 l).2.2
def XX (h : Hist) (l : List Chg) : Hist := if YC h l ≠ 0 then X1Z else { h with cs := h.cs ++ [⟨XB h + 1, l⟩] }
theorem X3k : ∀ (l : List Cmt) (b : Int), tsV b l = true ↔ ∀ (i : Nat) (c : Cmt), l[i]? = some c → c.ts = b + i
 | [], b => by simp [tsV]
 | c :: r, b => by
  rw [tsV, Bool.and_eq_true, X3k r, decide_eq_true_eq]
  constructor
  ·rintro ⟨h1, h2⟩ i x hx
   cases i with
   | zero => simp at hx; subst hx; simp [h1]
   | succ i => have := h2 i x (by simpa using hx); rw [this]; push_cast; omega
  ·intro h
   refine ⟨by simpa using h 0 c (by simp), fun i x hx => ?_⟩
   have := h (i + 1) x (by simpa using hx)
   rw [this]; push_cast; omega
theorem Xad {l : List Cmt} {b : Int} {i : Nat} {c : Cmt} (h : l[i]? = some c) : tsV (b + i) (l.drop i) = (decide (c.ts = b + i) && tsV (b + (i + 1 : Nat)) (l.drop (i + 1))) := by
 obtain ⟨hi, h⟩ := List.getElem?_eq_some_iff.1 h
 rw [List.drop_eq_getElem_cons hi, h, tsV, show b + (i : Int) + 1 = b + ((i + 1 : Nat) : Int) by push_cast; omega]
theorem X2E : ∀ (a b : List Cmt) (g : Gra), XJ g (a ++ b) = if (XJ g a).2 ≠ 0 then (Ya, (XJ g a).2) else XJ (XJ g a).1 b
 | [], b, g => by simp [XJ]
 | c :: r, b, g => by
  rw [List.cons_append, XJ, XJ]
  by_cases q : (Xo g c.l).2.2 ≠ 0
  ·rw [if_pos q, if_pos q, if_pos q]
  ·rw [if_neg q, if_neg q, X2E r b]
theorem XfG (a : List Cmt) (c : Cmt) (g : Gra) (h : (XJ g a).2 = 0) : XJ g (a ++ [c]) = if (Xo (XJ g a).1 c.l).2.2 ≠ 0 then (Ya, (Xo (XJ g a).1 c.l).2.2) else ((Xo (XJ g a).1 c.l).1, 0) := by
 rw [X2E, if_neg (by simp [h])]; rfl
theorem X1u {l : List Cmt} {g : Gra} (h : (XJ g l).2 = 0) (n : Nat) : (XJ g (l.take n)).2 = 0 := by
 have e := X2E (l.take n) (l.drop n) g
 rw [List.take_append_drop] at e
 by_cases q : (XJ g (l.take n)).2 = 0
 ·exact q
 ·rw [if_pos q] at e; rw [e] at h; exact absurd h q
theorem X10 : ∀ (l : List Cmt) (g : Gra), GV g → (XJ g l).2 = 0 → GV (XJ g l).1
 | [], g, h, _ => h
 | c :: r, g, h, hs => by
  rw [XJ] at hs ⊢
  by_cases q : (Xo g c.l).2.2 ≠ 0
  ·rw [if_pos q] at hs; exact absurd hs q
  ·rw [if_neg q] at hs ⊢
   exact X10 r _ (X2m (by simpa using q)) hs
theorem X5b {g : Gra} (h : Yj g = 0) : Xo g [] = (g, 0, 0) := by
 unfold Xo; rw [if_neg (by simp [h])]; rfl
theorem X23 {g : Gra} (h : GV g) : Yj g = 0 := X2P.2 h
structure HV (h : Hist) : Prop where
 b : 0 ≤ h.base ∧ h.base ≤ 1000000000000000
 g : GV h.g
 cl : h.cs.length ≤ 1000
 ts : tsV (h.base + 1) h.cs = true
 ok : (XJ h.g h.cs).2 = 0
theorem U6 {h : Hist} : XM h = 0 ↔ HV h := by
 unfold XM
 constructor
 ·intro e
  by_cases c1 : h.base < 0 ∨ 1000000000000000 < h.base
  ·rw [if_pos c1] at e; simp at e
  rw [if_neg c1] at e
  by_cases c2 : Yj h.g ≠ 0
  ·rw [if_pos c2] at e; exact absurd e c2
  rw [if_neg c2] at e
  by_cases c3 : 1000 < h.cs.length
  ·rw [if_pos c3] at e; simp at e
  rw [if_neg c3] at e
  by_cases c4 : tsV (h.base + 1) h.cs = false
  ·rw [if_pos c4] at e; simp at e
  rw [if_neg c4] at e
  exact ⟨by omega, X2P.1 (by simpa using c2), by omega, by simpa using c4, e⟩
 ·intro v
  have := v.b
  have := v.cl
  rw [if_neg (by omega), if_neg (by simp [X23 v.g]), if_neg (by omega), if_neg (by simp [v.ts])]
  exact v.ok
theorem X6j {h : Hist} {l : List Chg} (v : HV h) (e : YC h l = 0) : HV (XX h l) ∧ XX h l = { h with cs := h.cs ++ [⟨XB h + 1, l⟩] } ∧ (Xo (XJ h.g h.cs).1 l).2.2 = 0 ∧ XJ h.g (h.cs ++ [⟨XB h + 1, l⟩]) = ((Xo (XJ h.g h.cs).1 l).1, 0) := by
 have e2 : XX h l = { h with cs := h.cs ++ [⟨XB h + 1, l⟩] } := by unfold XX; rw [if_neg (by simp [e])]
 unfold YC at e
 rw [if_neg (by simp [U6.2 v])] at e
 by_cases c : h.cs.length = 1000
 ·rw [if_pos c] at e; simp at e
 rw [if_neg c] at e
 have e3 := XfG h.cs ⟨XB h + 1, l⟩ h.g v.ok
 simp only at e3
 rw [if_neg (by simp [e])] at e3
 refine ⟨?_, e2, e, e3⟩
 rw [e2]
 have := v.cl
 refine ⟨v.b, v.g, ?_, ?_, ?_⟩
 ·simp only [List.length_append, List.length_singleton]; omega
 ·simp only
  rw [X3k]
  intro i c hc
  rw [List.getElem?_append] at hc
  split at hc
  ·exact (X3k _ _).1 v.ts i c hc
  ·rename_i hi
   have : i - h.cs.length = 0 := by
    cases hk : i - h.cs.length with
    | zero => rfl
    | succ k => rw [hk] at hc; simp at hc
   rw [this] at hc
   simp at hc
   subst hc
   simp only [XB]
   have : i = h.cs.length := by omega
   subst this; omega
 ·simp only [e3]
theorem Ux {h : Hist} {ts : Int} (e : XI h ts = 0) : HV h ∧ h.base ≤ ts ∧ ts ≤ XB h := by
 unfold XI at e
 by_cases c : XM h ≠ 0
 ·rw [if_pos c] at e; exact absurd e c
 rw [if_neg c] at e
 by_cases c2 : ts < h.base ∨ XB h < ts
 ·rw [if_pos c2] at e; simp at e
 exact ⟨U6.1 (by simpa using c), by omega, by omega⟩
theorem X0F {h : Hist} {ts : Int} (v : HV h) : XI h ts = if ts < h.base ∨ XB h < ts then 23 else 0 := by
 unfold XI
 rw [if_neg (by simp [U6.2 v])]
theorem XdI : Tryz.prog.cellsOf 43 = 1 := by kernel_rfl
section
variable {H : Type} {enc : TypeId × Value → H} {W : World}
def X0m (l : List Chg) : Prop := (∀ c ∈ l, X2F c) ∧ l.length ≤ 9223372036854775807
theorem X6X : Opens enc Tryz.prog W 43 X0m (fun l => [.sl 10 (l.map XL)]) :=
 X1M fun n => X1k Tryz.underlying43 X9Z (by decide) fun m _ => XeX.at m
end
def Xh (c : Cmt) : List D := [.v (.int .i64 c.ts), .sl 10 (c.l.map XL)]
def X7K (h : Hist) : List D := .v (.int .i64 h.base) :: (X7D h.g ++ [.sl 2 (h.cs.map Xh)])
def Xq (h : Hist) : AVal := .agg [ai h.base, .d (.sl 3 (h.g.nodes.map X9)), .d (.sl 5 (h.g.edges.map Xe)), ai h.g.nn, ai h.g.ne, .d (.sl 2 (h.cs.map Xh))]
theorem X3m (h : Hist) : Xq h = .agg ((X7K h).map .d) := rfl
def X4z (c : Cmt) : Prop := X0m c.l ∧ -9223372036854775808 ≤ c.ts ∧ c.ts ≤ 9223372036854775807
structure HistHold (h : Hist) : Prop where
 g : GraHold h.g
 cl : h.cs.length ≤ 9223372036854775807
 cs : ∀ c ∈ h.cs, X4z c
theorem X9t : Tryz.prog.cellsOf 78 = 2 := by kernel_rfl
theorem Xgt : Tryz.prog.cellsOf 26 = 1 := by kernel_rfl
theorem XgE : Tryz.prog.cellsOf 28 = 6 := by kernel_rfl
section
variable {H : Type} {enc : TypeId × Value → H} {W : World}
theorem XfY : Opens enc Tryz.prog W 78 X4z Xh :=
 (X1z Tryz.underlying78 X9t
  (YP rfl V3 (V8 Tryz.underlying3) (YP rfl XdI X6X X1E))).to
  (fun r => ⟨r.1, r.2.1⟩) fun r h => ⟨⟨h.2.1, h.1⟩, rfl⟩
theorem XeW : Opens enc Tryz.prog W 26 (fun l : List Cmt => (∀ c ∈ l, X4z c) ∧ l.length ≤ 9223372036854775807) (fun l => [.sl 2 (l.map Xh)]) :=
 X1M fun n => X1k Tryz.underlying26 X9t (by decide) fun m _ => XfY.at m
theorem X2B : Opens enc Tryz.prog W 28 HistHold X7K :=
 (X1z Tryz.underlying28 XgE
  (YP rfl V3 (V8 Tryz.underlying3) (YP rfl X8J Xhy (YP rfl Xgt XeW X1E)))).to
  (fun r => ⟨r.1, r.2.1, r.2.2.1⟩) fun r h => ⟨⟨h.2.1, h.2.2.1.2, h.2.2.1.1⟩, by
   obtain ⟨b, g, cs, u⟩ := r
   rfl⟩
end
structure HistFit (h : Hist) : Prop where
 hold : HistHold h
 len : ∀ c ∈ h.cs, c.l.length ≤ 2000000
theorem Ue (cs : List Cmt) : (cs.map Xh).length = cs.length := by simp
theorem X6T {g : Gra} {l : List Cmt} {i : Nat} {c : Cmt} (h : l[i]? = some c) : XJ g (l.drop i) = if (Xo g c.l).2.2 ≠ 0 then (Ya, (Xo g c.l).2.2) else XJ (Xo g c.l).1 (l.drop (i + 1)) := by
 obtain ⟨hl, h⟩ := List.getElem?_eq_some_iff.1 h
 rw [List.drop_eq_getElem_cons hl, h, XJ]
theorem X6G (xs : List (List D)) (hl : xs.length ≤ 2000000) : Con Tryz.prog 66 [] [.d (.sl 10 xs)] [] (.d (.sl 10 xs)) := by
 refine Xc (xs := [.d (.sl 10 xs)]) Tryz.func66 rfl Tryz.ntmps66 rfl rfl rfl (fun E => ?_)
 refine QTf ?_
 refine X0I rfl (fun h => ?_) (fun _ => ?_)
 ·subst h
  refine QUf ?_; exact ⟨_, XF 2 (AVal.le_nil 10), ⟨rfl, trivial⟩, X3 _⟩
 ·exact QOg
theorem X5e (g : Gra) (cs : List Cmt) (hg : GraHold g) (hc : ∀ c ∈ cs, X4z c) (hl : cs.length ≤ 9223372036854775807) : Con Tryz.prog 55 [] [Xl g, .d (.sl 2 (cs.map Xh))] [] (.tup [Xl (XJ g cs).1, ai (XJ g cs).2]) := by
 refine Xc (xs := [Xl (XJ g cs).1, ai (XJ g cs).2]) Tryz.func55 rfl Tryz.ntmps55 rfl rfl rfl (fun E => ?_)
 have hlm := Ue cs
 generalize hR : XJ g cs = R
 obtain ⟨ns, es, nn, ne⟩ := g
 simp only [Xl]
 refine Qod ?_; refine Qba ?_; refine Qjb ?_
 refine Xz (ι := Nat × Gra) (fun q => q.1 ≤ cs.length ∧ GraHold q.2 ∧ XJ q.2 (cs.drop q.1) = R) (fun q => ⟨32, [(2, .ptr 100 0), (4, .ptr 101 0), (11, .d (.sl 2 (cs.map Xh))), (12, ai (cs.map Xh).length), (13, ai q.1)], [(100, .box [.d (.sl 3 (q.2.nodes.map X9)), .d (.sl 5 (q.2.edges.map Xe)), ai q.2.nn, ai q.2.ne]), (101, .box [ani, ani, ai 0, ai 0])]⟩) (fun q => cs.length - q.1) (0, ⟨ns, es, nn, ne⟩) ⟨Nat.zero_le _, hg, by simpa using hR⟩
  (X7 rfl JM ⟨rfl, rfl, trivial⟩) ?_
 rintro ⟨i, g⟩ ⟨hi, hg, hr⟩
 simp only at hi hg hr
 clear hR
 by_cases hil : i < cs.length
 case neg =>
  have hn : ¬ (i : Int) < (cs.map Xh).length := by omega
  rw [List.drop_of_length_le (by omega)] at hr
  have hr : (g, 0) = R := hr
  subst hr
  obtain ⟨ns, es, nn, ne⟩ := g
  simp only
  refine QM ?_; refine QWb ?_; refine Qfa ?_
  (show AWP Tryz.prog E _ _ _; refine X1 ?_; exact (show Xd _ _ _ _ _ from ⟨_, St.le_refl _, ⟨⟨101, 0, _, rfl, rfl, .inr ⟨4, _, rfl, rfl, rfl, rfl⟩⟩, rfl, trivial⟩, X3 _⟩))
 have hn : (i : Int) < (cs.map Xh).length := by omega
 obtain ⟨x, hx⟩ := Xu (l := cs) hil
 have hxc : (cs.map Xh)[i]? = some (Xh x) := XD hx
 have hs := X2S g x.l hg (hc x (List.mem_of_getElem? hx)).1.2
 have hg' := X7n g x.l
 rw [X6T hx] at hr
 clear hx hc hg
 generalize (Xo g x.l).1 = g' at *
 generalize (Xo g x.l).2.1 = m at *
 generalize (Xo g x.l).2.2 = e at *
 obtain ⟨ts, l⟩ := x
 obtain ⟨ns, es, nn, ne⟩ := g
 obtain ⟨ns', es', nn', ne'⟩ := g'
 simp only [Xl, Xh] at *
 by_cases hq : e ≠ 0
 ·rw [if_pos hq] at hr
  subst hr
  simp only [List.map_nil]
  refine QRg ?_; refine Qyd ?_; refine QJg ?_; refine QLa ?_; refine Qqd ?_; refine Z1 ?_; refine Qfa ?_
  (show AWP Tryz.prog E _ _ _; refine X1 ?_; exact (show Xd _ _ _ _ _ from ⟨_, Y5 101 (cs' := [.d (.sl 3 []), .d (.sl 5 []), ai 0, ai 0]) rfl JM rfl, ⟨⟨101, 0, _, rfl, rfl, .inr ⟨4, _, rfl, rfl, rfl, rfl⟩⟩, rfl, trivial⟩, X3 _⟩))
 rw [if_neg hq] at hr
 obtain rfl : e = 0 := by simpa using hq
 refine QRg ?_; refine Qyd ?_; refine QJg ?_; refine QKg ?_; refine QLg ?_; refine QV ?_; exact QMg
theorem X1g (h : Hist) (hf : HistHold h) : Con Tryz.prog 18 [] [Xq h] [] (ai (XM h)) := by
 refine Xc (xs := [ai (XM h)]) Tryz.func18 rfl Tryz.ntmps18 rfl rfl rfl (fun E => ?_)
 obtain ⟨base, g, cs⟩ := h
 have hgc := X8P g hf.g
 have hap := X5e g cs hf.g hf.cs hf.cl
 have hl := hf.cl
 simp only at hgc hap hl
 have hlm := Ue cs
 unfold XM
 simp only
 clear hf
 obtain ⟨ns, es, nn, ne⟩ := g
 simp only [Xq, Xl] at *
 by_cases c1 : base < 0 ∨ 1000000000000000 < base
 ·rw [if_pos c1]
  by_cases c0 : base < 0
  ·refine Qtb ?_; refine Z8 ?_; refine Qv ?_; refine Qle ?_
   (show AWP Tryz.prog E _ _ _; refine X1 ?_; exact (show Xd _ _ _ _ _ from ⟨_, St.le_refl _, ⟨rfl, trivial⟩, X3 _⟩))
  ·have c0' : 1000000000000000 < base := by omega
   refine Qtb ?_; refine Z8 ?_; refine QZa ?_; refine QD ?_; refine Qle ?_
   (show AWP Tryz.prog E _ _ _; refine X1 ?_; exact (show Xd _ _ _ _ _ from ⟨_, St.le_refl _, ⟨rfl, trivial⟩, X3 _⟩))
 rw [if_neg c1]
 have c2 : ¬ base < 0 := by omega
 have c3 : ¬ 1000000000000000 < base := by omega
 by_cases c4 : Yj ⟨ns, es, nn, ne⟩ ≠ 0
 ·rw [if_pos c4]
  clear hap
  generalize Yj ⟨ns, es, nn, ne⟩ = e at *
  refine QSg ?_; refine Qgd ?_; refine QIa ?_; refine Qb ?_
  (show AWP Tryz.prog E _ _ _; refine X1 ?_; exact (show Xd _ _ _ _ _ from ⟨_, St.le_refl _, ⟨rfl, trivial⟩, X3 _⟩))
 rw [if_neg c4]
 have c4 : Yj ⟨ns, es, nn, ne⟩ = 0 := by simpa using c4
 rw [c4] at hgc
 clear c4
 by_cases c5 : 1000 < cs.length
 ·rw [if_pos c5]
  have c5' : (1000 : Int) < (cs.map Xh).length := by omega
  clear hap
  refine QTg ?_; refine Qle ?_
  (show AWP Tryz.prog E _ _ _; refine X1 ?_; exact (show Xd _ _ _ _ _ from ⟨_, St.le_refl _, ⟨rfl, trivial⟩, X3 _⟩))
 rw [if_neg c5]
 have c5' : ¬ (1000 : Int) < (cs.map Xh).length := by omega
 generalize hB : tsV (base + 1) cs = B
 generalize XJ ⟨ns, es, nn, ne⟩ cs = R at *
 obtain ⟨⟨ns', es', nn', ne'⟩, e⟩ := R
 simp only at hap ⊢
 refine QTg ?_; refine Qtd ?_; refine Qjb ?_
 clear hgc
 refine Xz (fun i : Nat => i ≤ cs.length ∧ tsV (base + 1 + (i : Nat)) (cs.drop i) = B) (fun i => ⟨52, [(1, .ptr 100 0), (27, .d (.sl 2 (cs.map Xh))), (28, ai (cs.map Xh).length), (29, ai i)], [(100, .box [ai base, .d (.sl 3 (ns.map X9)), .d (.sl 5 (es.map Xe)), ai nn, ai ne, .d (.sl 2 (cs.map Xh))])]⟩) (fun i => cs.length - i) 0 ⟨Nat.zero_le _, by simpa using hB⟩
  (X7 rfl JM ⟨rfl, trivial⟩) ?_
 rintro i ⟨hi, hg⟩
 clear hB
 by_cases hil : i < cs.length
 case neg =>
  have hn : ¬ (i : Int) < (cs.map Xh).length := by omega
  rw [List.drop_of_length_le (by omega)] at hg
  have hg : true = B := hg
  subst hg
  rw [if_neg (by simp)]
  refine QM ?_; refine QSd ?_; refine QTa ?_; refine Z9 (hcon := hap) ?_; refine Qdd ?_; refine Zw (γ := 101) ?_; refine Zy ?_; refine QQ ?_; refine Qb ?_
  (show AWP Tryz.prog E _ _ _; refine X1 ?_; exact (show Xd _ _ _ _ _ from ⟨_, St.le_refl _, ⟨rfl, trivial⟩, X3 _⟩))
 have hn : (i : Int) < (cs.map Xh).length := by omega
 obtain ⟨x, hx⟩ := Xu (l := cs) hil
 have hxc : (cs.map Xh)[i]? = some (Xh x) := XD hx
 rw [Xad hx] at hg
 obtain ⟨ts, l⟩ := x
 simp only [Xh] at hxc hg
 clear hx hap
 by_cases hq : ts = base + 1 + (i : Int)
 ·rw [decide_eq_true hq, Bool.true_and] at hg
  subst hq
  refine QTe ?_; refine Qlb ?_; refine Qjd ?_; refine Zb ?_; refine Z1 ?_; refine Zb ?_; refine QSc ?_; refine QV ?_; exact Qug
 ·rw [decide_eq_false hq, Bool.false_and] at hg
  subst hg
  rw [if_pos rfl]
  refine QTe ?_; refine Qlb ?_; refine Qjd ?_; refine Zb ?_; refine Z1 ?_; refine Zb ?_; refine Zv ?_; refine Qle ?_
  (show AWP Tryz.prog E _ _ _; refine X1 ?_; exact (show Xd _ _ _ _ _ from ⟨_, St.le_refl _, ⟨rfl, trivial⟩, X3 _⟩))
theorem X77 (h : Hist) (hb : 0 ≤ h.base ∧ h.base ≤ 1000000000000000) (hl : h.cs.length ≤ 1000) : Con Tryz.prog 60 [] [Xq h] [] (ai (XB h)) := by
 refine Xc (xs := [ai (XB h)]) Tryz.func60 rfl Tryz.ntmps60 rfl rfl rfl (fun E => ?_)
 obtain ⟨base, ⟨ns, es, nn, ne⟩, cs⟩ := h
 simp only [Xq, XB] at *
 have hlm := Ue cs
 rw [← hlm]
 refine QVa ?_; refine QTa ?_; refine Zd ?_; refine Zb ?_; refine Qb ?_
 (show AWP Tryz.prog E _ _ _; refine X1 ?_; exact (show Xd _ _ _ _ _ from ⟨_, St.le_refl _, ⟨rfl, trivial⟩, X3 _⟩))
theorem X8S (h : Hist) (ts : Int) (hf : HistHold h) : Con Tryz.prog 54 [] [Xq h, ai ts] [] (ai (XI h ts)) := by
 refine Xc (xs := [ai (XI h ts)]) Tryz.func54 rfl Tryz.ntmps54 rfl rfl rfl (fun E => ?_)
 have hk := X1g h hf
 have hv := U6 (h := h)
 unfold XI
 by_cases c : XM h ≠ 0
 ·rw [if_pos c]
  clear hv hf
  generalize XM h = e at *
  obtain ⟨base, ⟨ns, es, nn, ne⟩, cs⟩ := h
  simp only [Xq] at *
  refine QSa ?_; refine QEg ?_; refine Qgd ?_; refine QIa ?_; refine Qb ?_
  (show AWP Tryz.prog E _ _ _; refine X1 ?_; exact (show Xd _ _ _ _ _ from ⟨_, St.le_refl _, ⟨rfl, trivial⟩, X3 _⟩))
 rw [if_neg c]
 have c : XM h = 0 := by simpa using c
 have hv := hv.1 c
 rw [c] at hk
 have hl := X77 h hv.b hv.cl
 clear hv hf c
 generalize XB h = z at *
 obtain ⟨base, ⟨ns, es, nn, ne⟩, cs⟩ := h
 simp only [Xq] at *
 by_cases c1 : ts < base
 ·rw [if_pos (.inl c1)]
  refine QSa ?_; refine QGg ?_; refine Qze ?_; refine Z8 ?_; refine Qw ?_; refine Zn ?_; refine Qle ?_
  (show AWP Tryz.prog E _ _ _; refine X1 ?_; exact (show Xd _ _ _ _ _ from ⟨_, St.le_refl _, ⟨rfl, trivial⟩, X3 _⟩))
 by_cases c2 : z < ts
 ·rw [if_pos (.inr c2)]
  refine QUg ?_; refine QD ?_; refine Qle ?_
  (show AWP Tryz.prog E _ _ _; refine X1 ?_; exact (show Xd _ _ _ _ _ from ⟨_, St.le_refl _, ⟨rfl, trivial⟩, X3 _⟩))
 rw [if_neg (by omega)]
 refine QUg ?_; refine Zs ?_; refine QI ?_; refine Qc ?_
 (show AWP Tryz.prog E _ _ _; refine X1 ?_; exact (show Xd _ _ _ _ _ from ⟨_, St.le_refl _, ⟨rfl, trivial⟩, X3 _⟩))
theorem X0S (h : Hist) (hf : HistHold h) : Con Tryz.prog 20 [] [Xq h] [] (ai (UQ h)) := by
 refine Xc (xs := [ai (UQ h)]) Tryz.func20 rfl Tryz.ntmps20 rfl rfl rfl (fun E => ?_)
 have hk := X1g h hf
 have hv := U6 (h := h)
 unfold UQ
 by_cases c : XM h ≠ 0
 ·rw [if_pos c]
  clear hv hf
  generalize XM h = e at *
  obtain ⟨base, ⟨ns, es, nn, ne⟩, cs⟩ := h
  simp only [Xq] at *
  refine QSa ?_; refine QEg ?_; refine Zv ?_; refine Qle ?_
  (show AWP Tryz.prog E _ _ _; refine X1 ?_; exact (show Xd _ _ _ _ _ from ⟨_, St.le_refl _, ⟨rfl, trivial⟩, X3 _⟩))
 rw [if_neg c]
 have c : XM h = 0 := by simpa using c
 have hv := hv.1 c
 rw [c] at hk
 have hl := X77 h hv.b hv.cl
 clear hv hf c
 generalize XB h = z at *
 obtain ⟨base, ⟨ns, es, nn, ne⟩, cs⟩ := h
 simp only [Xq] at *
 refine QSa ?_; refine QEg ?_; refine QSc ?_; refine QWb ?_; refine Z9 (hcon := hl) ?_; refine Qb ?_
 (show AWP Tryz.prog E _ _ _; refine X1 ?_; exact (show Xd _ _ _ _ _ from ⟨_, St.le_refl _, ⟨rfl, trivial⟩, X3 _⟩))
end Go.Fw
