/- All changes, one after the other. -/
import Derived.KernelRfl
import Derived.Test.YtonekjkmnhfjmaaGreatDoorK46
set_option maxHeartbeats 32000000
namespace Go.Fw
open Go Go.Proofs
set_option maxRecDepth 100000
set_option linter.unusedVariables false
set_option linter.unusedSimpArgs false
theorem Xdl (l : List Nod) : ((l.map cNN).map fun x => x.map NC.toD) = l.map X9 := by rw [List.map_map]; exact List.map_congr_left fun n _ => rfl
theorem XfD (l : List Edg) : ((l.map cNE).map fun x => x.map NC.toD) = l.map Xf := by rw [List.map_map]; exact List.map_congr_left fun n _ => rfl
theorem Xi2 (l : List Nod) : ∀ x ∈ l.map cNN, x.length = 3 := fun x hx => by obtain ⟨p, _, rfl⟩ := List.mem_map.1 hx; rfl
theorem Xeq (l : List Edg) : ∀ x ∈ l.map cNE, x.length = 5 := fun x hx => by obtain ⟨p, _, rfl⟩ := List.mem_map.1 hx; rfl
abbrev X2e (g : Gra) (a b : Nat) : AObj := .box [.own a g.nodes.length, .own b g.edges.length, ai g.nn, ai g.ne]
abbrev X2E (g : Gra) : AObj := .nest 3 (g.nodes.map cNN)
abbrev X2p (g : Gra) : AObj := .nest 5 (g.edges.map cNE)
theorem XcK (g : Gra) (c : Chg) (hg : GV g) (ho : c.op ≤ 5) (h : (XW g c).2 = 0) : Con Tryz.prog 110 [(102, X2e g 110 111), (110, X2E g), (111, X2p g)] [.ptr 102 0, Xu c] [(102, X2e (XW g c).1 120 111), (110, .dead), (111, X2p (XW g c).1), (120, X2E (XW g c).1)] (ai 0) := by
 have k := YP 0 102 (YP 4 111 (YP 3 110 (YP 110 120 (XdX g c hg ho h))))
 obtain ⟨op, id, src, dst, name, ⟨vk, vn, vd, vs, vl⟩⟩ := c
 exact k
theorem XcX (g : Gra) (c : Chg) (hg : GV g) (ho : ¬ c.op ≤ 5) (h : (XW g c).2 = 0) : Con Tryz.prog 110 [(102, X2e g 110 111), (110, X2E g), (111, X2p g)] [.ptr 102 0, Xu c] [(102, X2e (XW g c).1 110 120), (110, X2E (XW g c).1), (111, .dead), (120, X2p (XW g c).1)] (ai 0) := by
 have k := YP 0 102 (YP 4 111 (YP 3 110 (YP 110 120 (XeF g c hg ho h))))
 obtain ⟨op, id, src, dst, name, ⟨vk, vn, vd, vs, vl⟩⟩ := c
 exact k
theorem Xej (g : Gra) (c : Chg) (hg : GV g) (h : (XW g c).2 ≠ 0) : Con Tryz.prog 110 [(102, X2e g 110 111), (110, X2E g), (111, X2p g)] [.ptr 102 0, Xu c] [(102, .dead), (110, .dead), (111, .dead)] (ai (XW g c).2) := by
 have k := YP 0 102 (YP 4 111 (YP 3 110 (Xdw g c hg h)))
 obtain ⟨op, id, src, dst, name, ⟨vk, vn, vd, vs, vl⟩⟩ := c
 exact k
theorem Xde (g : Gra) (l : List Chg) (hg : GraHold g) (hl : l.length ≤ 9223372036854775807) : Con Tryz.prog 65 [] [Xj g, .d (.sl 10 (l.map YI))] [] (.tup [Xj (Y7 g l).1, ai (Y7 g l).2.1, ai (Y7 g l).2.2]) := by
 refine Xc (xs := [Xj (Y7 g l).1, ai (Y7 g l).2.1, ai (Y7 g l).2.2]) Tryz.func65 rfl Tryz.ntmps65 rfl rfl rfl (fun E => ?_)
 have hk := X5k g hg
 have hlm : (l.map YI).length = l.length := by simp
 unfold Y7
 by_cases hc : Yh g ≠ 0
 ·rw [if_pos hc]
  clear hg
  generalize Yh g = e at *
  obtain ⟨ns, es, nn, ne⟩ := g
  simp only [Xj, List.map_nil] at *
  refine Qoe ?_; refine QBb ?_; refine QZd ?_; refine Qxi ?_; refine ZK ?_; refine QBb ?_
  (show AWP Tryz.prog E _ _ _; refine X1 ?_; exact (show Xd _ _ _ _ _ from ⟨_, YU 101 (cs' := [.d (.sl 3 []), .d (.sl 5 []), ai 0, ai 0]) rfl JM rfl, ⟨⟨101, 0, _, rfl, rfl, .inr ⟨4, _, rfl, rfl, rfl, rfl⟩⟩, rfl, rfl, trivial⟩, X3 _⟩))
 rw [if_neg hc]
 have hc : Yh g = 0 := by simpa using hc
 rw [hc] at hk
 have hv := X5x.1 hc
 have hcp := XcP g hv
 clear hc hg
 generalize hR : V5 g 0 l = R
 obtain ⟨ns, es, nn, ne⟩ := g
 simp only [Xj] at hk hcp ⊢
 refine Qoe ?_; refine QBb ?_; refine QZd ?_; refine Qve ?_; refine QTc ?_; refine Zr (hcon := hcp) ?_; refine ZJ ?_; refine ZI (γ := 102) ?_; refine Qec ?_; refine Qh ?_; refine Qcc ?_
 clear hk hcp
 refine Xz (ι := Nat × Gra) (fun q => q.1 ≤ l.length ∧ GV q.2 ∧ V5 q.2 q.1 (l.drop q.1) = R) (fun q => ⟨40, [(1, .d (.sl 10 (l.map YI))), (4, .ptr 101 0), (8, .ptr 102 0), (21, .d (.sl 10 (l.map YI))), (22, ai (l.map YI).length), (23, ai q.1)], [(101, .box [ani, ani, ai 0, ai 0]), (102, X2e q.2 110 111), (110, X2E q.2), (111, X2p q.2)]⟩) (fun q => l.length - q.1) (0, ⟨ns, es, nn, ne⟩) ⟨Nat.zero_le _, hv, by simpa using hR⟩
  (X6 rfl JM ⟨rfl, rfl, rfl, rfl, trivial⟩) ?_
 rintro ⟨i, g⟩ ⟨hi, hg, hr⟩
 simp only at hi hg hr
 clear hv hR
 by_cases hil : i < l.length
 case neg =>
  have hn : ¬ (i : Int) < (l.map YI).length := by omega
  rw [Xa9 (by omega)] at hr
  obtain rfl : i = l.length := by omega
  subst hr
  obtain ⟨ns, es, nn, ne⟩ := g
  simp only
  refine Qka ?_; refine X0 ?_
  show AWP Tryz.prog E _ _ _
  refine Xk (X9C 110 (by conv => lhs; whnf) (Xi2 _)) ?_; refine Xk (X9C 111 (by conv => lhs; whnf) (Xeq _)) ?_
  rw [Xdl, XfD]
  refine Xk (X8S 102 0 110 (by conv => lhs; whnf) rfl (by conv => lhs; whnf) (by rw [List.length_map])) ?_; refine Xk (X8S 102 1 111 (by conv => lhs; whnf) rfl (by conv => lhs; whnf) (by rw [List.length_map])) ?_
  rw [← hlm]
  refine JR ?_; refine Qxf ?_; refine Z1 ?_; refine Z3 ?_; refine ZK ?_; refine QBb ?_
  (show AWP Tryz.prog E _ _ _; refine X1 ?_; exact (show Xd _ _ _ _ _ from ⟨_, St.le_refl _, ⟨⟨101, 0, _, rfl, rfl, .inr ⟨4, _, rfl, rfl, rfl, rfl⟩⟩, rfl, rfl, trivial⟩, X3 _⟩))
 have hn : (i : Int) < (l.map YI).length := by omega
 obtain ⟨x, hx⟩ := Xs (l := l) hil
 have hxc : (l.map YI)[i]? = some (YI x) := Xx hx
 rw [X8I hx] at hr
 clear hx
 by_cases hq : (XW g x).2 ≠ 0
 ·rw [if_pos hq] at hr
  subst hr
  have hs := Xej g x hg hq
  clear hg
  generalize (XW g x).2 = e at *
  obtain ⟨op, id, src, dst, name, ⟨vk, vn, vd, vs, vl⟩⟩ := x
  simp only [Xj, Xu, Y1, YI, List.map_nil] at *
  refine Qfc ?_; refine QTc ?_; refine Zr (hcon := hs) ?_; refine QC ?_; refine ZH ?_; refine Qm ?_; refine QBa ?_; refine Qq ?_; refine ZK ?_; refine QBb ?_
  (show AWP Tryz.prog E _ _ _; refine X1 ?_; exact (show Xd _ _ _ _ _ from ⟨_, YU 101 (cs' := [.d (.sl 3 []), .d (.sl 5 []), ai 0, ai 0]) rfl JM rfl, ⟨⟨101, 0, _, rfl, rfl, .inr ⟨4, _, rfl, rfl, rfl, rfl⟩⟩, rfl, rfl, trivial⟩, X3 _⟩))
 rw [if_neg hq] at hr
 have hq : (XW g x).2 = 0 := by simpa using hq
 have hg' := X6o hg hq
 by_cases ho : x.op ≤ 5
 ·have hs := XcK g x hg ho hq
  clear hg hq
  generalize (XW g x).1 = g' at *
  obtain ⟨op, id, src, dst, name, ⟨vk, vn, vd, vs, vl⟩⟩ := x
  simp only [Xu, Y1, YI] at *
  refine Qfc ?_; refine QTc ?_; refine Zr (hcon := hs) ?_; refine Qie ?_; refine Qsa ?_
  refine ⟨(i + 1, g'), ⟨by simp only; omega, hg', hr⟩, by simp only; omega, ?_⟩
  refine St.le_trans (Xav 110 120 (by decide) (by decide)) ?_; exact QIg
 ·have hs := XcX g x hg ho hq
  clear hg hq
  generalize (XW g x).1 = g' at *
  obtain ⟨op, id, src, dst, name, ⟨vk, vn, vd, vs, vl⟩⟩ := x
  simp only [Xu, Y1, YI] at *
  refine Qfc ?_; refine QTc ?_; refine Zr (hcon := hs) ?_; refine Qie ?_; refine Qsa ?_
  refine ⟨(i + 1, g'), ⟨by simp only; omega, hg', hr⟩, by simp only; omega, ?_⟩
  refine St.le_trans (Xav 111 120 (by decide) (by decide)) ?_; exact QIg
theorem Vv : Tryz.prog.cellsOf 3 = 1 := by kernel_rfl
theorem X14 : Tryz.prog.cellsOf 9 = 1 := by kernel_rfl
theorem XhE : Tryz.prog.cellsOf 80 = 1 := by kernel_rfl
theorem X5a : Tryz.prog.cellsOf 82 = 5 := by kernel_rfl
theorem X8K : Tryz.prog.cellsOf 84 = 10 := by kernel_rfl
theorem Xa1 : Tryz.prog.cellsOf 100 = 6 := by kernel_rfl
def Xgg (r : Rul) : List D := [.v (.int .i64 r.kind), .v (.int .i64 r.n), .v (.string (X5 r.name)), .v (.string (X5 r.key)), .v (.string (X5 r.src)), .v (.string (X5 r.dst))]
section
variable {H : Type} {enc : TypeId × Value → H} {W : World}
theorem XaB : ∀ n, OpensN enc Tryz.prog W n 82 Ym Y5
 | 0 => ⟨fun cs x hx => by simp [DataW.trod] at hx⟩
 | n + 1 =>
  (Xhf Tryz.underlying82 X5a (fun m hm =>
   X3C rfl Vv ((Vl Tryz.underlying3).at m) (X3C rfl Vv ((Vl Tryz.underlying3).at m) (X3C rfl Vv ((Vl Tryz.underlying3).at m)
    (X3C rfl X14 ((X10 Tryz.underlying9).at m)
     (X3C rfl XhE (X1L (p := Ym) (f := Y5) Tryz.underlying80 X5a (by decide) (fun m' hm' => XaB m')) XfR)))))).to
   (fun r => .mk r.1 r.2.1 r.2.2.1 r.2.2.2.1 r.2.2.2.2.1) fun r h => ⟨by rw [Ym]; exact ⟨h.2.2.2.1, h.2.2.2.2.1.2, X81 h.2.2.2.2.1.1⟩, by rw [Y5, X2O]; rfl⟩
termination_by n => n
decreasing_by omega
theorem X92 : Opens enc Tryz.prog W 82 Ym Y5 := X1V XaB
theorem Xei : Opens enc Tryz.prog W 84 X6K YI :=
 (X2y Tryz.underlying84 X8K
  (U0 rfl Vv (Vl Tryz.underlying3) (U0 rfl Vv (Vl Tryz.underlying3) (U0 rfl Vv (Vl Tryz.underlying3) (U0 rfl Vv (Vl Tryz.underlying3)
   (U0 rfl X14 (X10 Tryz.underlying9) (U0 rfl X5a X92 X2n))))))).to
  (fun r => ⟨r.1, r.2.1, r.2.2.1, r.2.2.2.1, r.2.2.2.2.1, r.2.2.2.2.2.1⟩) fun r h => ⟨⟨h.2.2.2.2.1, h.2.2.2.2.2.1⟩, by
   obtain ⟨op, id, src, dst, name, v, u⟩ := r
   cases v
   rfl⟩
theorem XcD : Opens enc Tryz.prog W 100 (fun _ : Rul => True) Xgg :=
 (X2y Tryz.underlying100 Xa1
  (U0 rfl Vv (Vl Tryz.underlying3) (U0 rfl Vv (Vl Tryz.underlying3)
   (U0 rfl X14 (X10 Tryz.underlying9) (U0 rfl X14 (X10 Tryz.underlying9) (U0 rfl X14 (X10 Tryz.underlying9) (U0 rfl X14 (X10 Tryz.underlying9) X2n))))))).to
  (fun r => ⟨r.1, r.2.1, r.2.2.1, r.2.2.2.1, r.2.2.2.2.1, r.2.2.2.2.2.1⟩) fun r h => ⟨trivial, rfl⟩
end
theorem Xcy : Tryz.prog.cellsOf 57 = 1 := by kernel_rfl
theorem XbJ : Tryz.prog.cellsOf 58 = 1 := by kernel_rfl
theorem XdB : Tryz.prog.cellsOf 22 = 1 := by kernel_rfl
theorem Xdc : Tryz.prog.cellsOf 23 = 1 := by kernel_rfl
theorem XbR : Tryz.prog.cellsOf 111 = 6 := by kernel_rfl
theorem X7S : Tryz.prog.cellsOf 60 = 3 := by kernel_rfl
theorem X8w : Tryz.prog.cellsOf 98 = 5 := by kernel_rfl
theorem Xcb : Tryz.prog.cellsOf 25 = 4 := by kernel_rfl
def X8V (g : Gra) : List D := [.sl 3 (g.nodes.map X9), .sl 5 (g.edges.map Xf), .v (.int .i64 g.nn), .v (.int .i64 g.ne)]
theorem Xig (g : Gra) : Xj g = .agg ((X8V g).map .d) := rfl
section
variable {H : Type} {enc : TypeId × Value → H} {W : World}
theorem XhR : Opens enc Tryz.prog W 111 X1y X7 :=
 (X2y Tryz.underlying111 XbR
  (U0 rfl X14 (X10 Tryz.underlying9) (U0 rfl X5a X92 X2n))).to
  (fun r => ⟨r.1, r.2.1⟩) fun r h => ⟨⟨h.1, h.2.1⟩, by
   obtain ⟨k, v, u⟩ := r
   cases v
   simp [X7, Y5]⟩
theorem XaS : Opens enc Tryz.prog W 58 (fun l : List Prp => (∀ c ∈ l, X1y c) ∧ l.length ≤ 9223372036854775807) (fun l => [.sl 6 (l.map X7)]) :=
 X1V fun n => X1L Tryz.underlying58 XbR (by decide) fun m _ => XhR.at m
theorem XgA : Opens enc Tryz.prog W 57 (fun l : List (List UInt8) => (∀ c ∈ l, c.length ≤ 9223372036854775807) ∧ l.length ≤ 9223372036854775807) (fun l => [.sl 1 (l.map Xa)]) :=
 X1V fun n => X1L Tryz.underlying57 X14 (by decide) fun m _ => (X10 Tryz.underlying9).at m
theorem Xgl : Opens enc Tryz.prog W 60 X4o X9 :=
 (X2y Tryz.underlying60 X7S
  (U0 rfl Vv (Vl Tryz.underlying3) (U0 rfl Xcy XgA (U0 rfl XbJ XaS X2n)))).to
  (fun r => ⟨r.1, r.2.1, r.2.2.1⟩) fun r h => ⟨⟨h.2.1.2, h.2.1.1, h.2.2.1.2, h.2.2.1.1⟩, rfl⟩
theorem Xfh : Opens enc Tryz.prog W 98 X50 Xf :=
 (X2y Tryz.underlying98 X8w
  (U0 rfl Vv (Vl Tryz.underlying3) (U0 rfl Vv (Vl Tryz.underlying3) (U0 rfl Vv (Vl Tryz.underlying3)
   (U0 rfl X14 (X10 Tryz.underlying9) (U0 rfl XbJ XaS X2n)))))).to
  (fun r => ⟨r.1, r.2.1, r.2.2.1, r.2.2.2.1, r.2.2.2.2.1⟩) fun r h => ⟨⟨h.2.2.2.1, h.2.2.2.2.1.2, h.2.2.2.2.1.1⟩, rfl⟩
theorem XfN : Opens enc Tryz.prog W 22 (fun l : List Nod => (∀ c ∈ l, X4o c) ∧ l.length ≤ 9223372036854775807) (fun l => [.sl 3 (l.map X9)]) :=
 X1V fun n => X1L Tryz.underlying22 X7S (by decide) fun m _ => Xgl.at m
theorem Xg6 : Opens enc Tryz.prog W 23 (fun l : List Edg => (∀ c ∈ l, X50 c) ∧ l.length ≤ 9223372036854775807) (fun l => [.sl 5 (l.map Xf)]) :=
 X1V fun n => X1L Tryz.underlying23 X8w (by decide) fun m _ => Xfh.at m
theorem XhX : Opens enc Tryz.prog W 25 GraHold X8V :=
 (X2y Tryz.underlying25 Xcb
  (U0 rfl XdB XfN (U0 rfl Xdc Xg6 (U0 rfl Vv (Vl Tryz.underlying3) (U0 rfl Vv (Vl Tryz.underlying3) X2n))))).to
  (fun r => ⟨r.1, r.2.1, r.2.2.1, r.2.2.2.1⟩) fun r h => ⟨⟨h.1.2, h.2.1.2, h.1.1, h.2.1.1⟩, rfl⟩
theorem Xe8 : Opens enc Tryz.prog W 100 (fun _ : Rul => True) XI := XcD
theorem Xdh : Opens enc Tryz.prog W 63 (fun l : List Rul => (∀ c ∈ l, True) ∧ l.length ≤ 9223372036854775807) (fun l => [.sl 6 (l.map XI)]) :=
 X1V fun n => X1L Tryz.underlying63 Xa1 (by decide) fun m _ => Xe8.at m
end
section
variable {H : Type} {enc : TypeId × Value → H} {W : World}
def X4H (l : List Chg) : Prop := (∀ c ∈ l, X6K c) ∧ l.length ≤ 9223372036854775807
theorem Xi7 : Opens enc Tryz.prog W 43 X4H (fun l => [.sl 10 (l.map YI)]) :=
 X1V fun n => X1L Tryz.underlying43 X8K (by decide) fun m _ => Xei.at m
end
def X0v (s : List Rul) (g : Gra) (l : List Chg) : List Vio := if (Y7 g l).2.2 ≠ 0 then [] else U4 s (Y7 g l).1
theorem Xf2 (s : List Rul) (g : Gra) (l : List Chg) (hg : GraHold g) (hs : s.length ≤ 9223372036854775807) (hl : X4H l) : Con Tryz.prog 39 [] [.d (.sl 6 (s.map XI)), Xj g, .d (.sl 10 (l.map YI))] [] (.tup [.d (.sl 3 ((X0v s g l).map Ye)), ai (Y7 g l).2.2]) := by
 refine Xc (xs := [.d (.sl 3 ((X0v s g l).map Ye)), ai (Y7 g l).2.2]) Tryz.func39 rfl Tryz.ntmps39 rfl rfl rfl (fun E => ?_)
 have h1 := Xde g l hg hl.2
 have h2 := X7E s (Y7 g l).1 (X7L g l) hs
 unfold X0v
 generalize (Y7 g l).1 = g' at *
 generalize (Y7 g l).2.1 = n at *
 generalize (Y7 g l).2.2 = e at *
 clear hg hl hs
 obtain ⟨ns, es, nn, ne⟩ := g
 obtain ⟨ns', es', nn', ne'⟩ := g'
 simp only [Xj] at *
 by_cases he : e ≠ 0
 ·rw [if_pos he]
  clear h2
  refine QAi ?_; refine Qh ?_; refine ZH ?_; refine Qv ?_; refine QBb ?_
  (show AWP Tryz.prog E _ _ _; refine X1 ?_; exact (show Xd _ _ _ _ _ from ⟨_, X6 rfl (τ := [(6, .d (.sl 3 [])), (7, ai e)]) (L := []) JM trivial, ⟨rfl, rfl, trivial⟩, X3 _⟩))
 rw [if_neg he]
 obtain rfl : e = 0 := by simpa using he
 generalize U4 s ⟨ns', es', nn', ne'⟩ = R at *
 refine QAi ?_; refine Qh ?_; refine QOd ?_; refine Qd ?_; refine ZX ?_; refine Zr (hcon := h2) ?_; refine QBb ?_
 (show AWP Tryz.prog E _ _ _; refine X1 ?_; exact (show Xd _ _ _ _ _ from ⟨_, St.le_refl _, ⟨rfl, rfl, trivial⟩, X3 _⟩))
theorem Xfl (s : List Rul) (g : Gra) (l : List Chg) (hg : GraHold g) (hs : s.length ≤ 9223372036854775807) (hl : X4H l) : Con Tryz.prog 40 [] [.d (.sl 6 (s.map XI)), Xj g, .d (.sl 10 (l.map YI))] [] (.tup [.d (.sl 3 ((X0v s g l).map Ye)), ai (Y7 g l).2.2]) := by
 refine Xc (xs := [.d (.sl 3 ((X0v s g l).map Ye)), ai (Y7 g l).2.2]) Tryz.func40 rfl Tryz.ntmps40 rfl rfl rfl (fun E => ?_)
 have h1 := Xee g l hg hl.2 hl.1
 have h2 := XdQ s (Y7 g l).1 (X7L g l) hs
 unfold X0v
 generalize (Y7 g l).1 = g' at *
 generalize (Y7 g l).2.1 = n at *
 generalize (Y7 g l).2.2 = e at *
 clear hg hl hs
 obtain ⟨ns, es, nn, ne⟩ := g
 obtain ⟨ns', es', nn', ne'⟩ := g'
 simp only [Xj] at *
 by_cases he : e ≠ 0
 ·rw [if_pos he]
  clear h2
  refine QAi ?_; refine Qh ?_; refine ZH ?_; refine Qv ?_; refine QBb ?_
  (show AWP Tryz.prog E _ _ _; refine X1 ?_; exact (show Xd _ _ _ _ _ from ⟨_, X6 rfl (τ := [(6, .d (.sl 3 [])), (7, ai e)]) (L := []) JM trivial, ⟨rfl, rfl, trivial⟩, X3 _⟩))
 rw [if_neg he]
 obtain rfl : e = 0 := by simpa using he
 generalize U4 s ⟨ns', es', nn', ne'⟩ = R at *
 refine QAi ?_; refine Qh ?_; refine QOd ?_; refine Qd ?_; refine ZX ?_; refine Zr (hcon := h2) ?_; refine QBb ?_
 (show AWP Tryz.prog E _ _ _; refine X1 ?_; exact (show Xd _ _ _ _ _ from ⟨_, St.le_refl _, ⟨rfl, rfl, trivial⟩, X3 _⟩))
theorem Xed (s : List Rul) (g : Gra) (l : List Chg) (hg : GraHold g) (hs : s.length ≤ 9223372036854775807) (hl : X4H l) : Con Tryz.prog 8 [] [.d (.sl 6 (s.map XI)), Xj g, .d (.sl 10 (l.map YI))] [] (ab true) := by
 refine Xc (xs := [ab true]) Tryz.func8 rfl Tryz.ntmps8 rfl rfl rfl (fun E => ?_)
 have ha := XiK
 have hsm : (s.map XI).length = s.length := by simp
 have hlm : (l.map YI).length = l.length := by simp
 have hfw := Xgs g hg
 have h1 := Xf2 s g l hg hs hl
 have h2 := Xfl s g l hg hs hl
 have hlen : (X0v s g l).length ≤ 160000000 := by
  unfold X0v
  split
  ·simp
  ·exact X7h
 have h3 := Xi8 (X0v s g l) (by omega)
 generalize X4L g = fw at *
 generalize X0v s g l = R at *
 generalize (Y7 g l).2.2 = z at *
 have hl2 := hl.2
 clear hg hlen hl
 obtain ⟨ns, es, nn, ne⟩ := g
 simp only [Xj] at *
 have hz : z = z := rfl
 cases fw with
 | false =>
  refine QHb ?_; refine QZd ?_; refine Zr (hcon := hfw) ?_; refine Zd ?_; refine QBe ?_; refine QBi ?_
  (show AWP Tryz.prog E _ _ _; refine X1 ?_; exact (show Xd _ _ _ _ _ from ⟨_, St.le_refl _, ⟨rfl, trivial⟩, X3 _⟩))
 | true =>
  by_cases c1 : 60 < s.length
  ·have c1' : (60 : Int) < (s.map XI).length := by omega
   refine QCi ?_; refine QV ?_; refine QBi ?_
   (show AWP Tryz.prog E _ _ _; refine X1 ?_; exact (show Xd _ _ _ _ _ from ⟨_, St.le_refl _, ⟨rfl, trivial⟩, X3 _⟩))
  have c1' : ¬ (60 : Int) < (s.map XI).length := by omega
  by_cases c2 : 30 < l.length
  ·have c2' : (30 : Int) < (l.map YI).length := by omega
   refine QCi ?_; refine Qq ?_; refine QZb ?_; refine ZE ?_; refine QBi ?_
   (show AWP Tryz.prog E _ _ _; refine X1 ?_; exact (show Xd _ _ _ _ _ from ⟨_, St.le_refl _, ⟨rfl, trivial⟩, X3 _⟩))
  have c2' : ¬ (30 : Int) < (l.map YI).length := by omega
  refine QCi ?_; refine Qbc ?_; refine Qd ?_; refine ZX ?_; refine Z1 ?_; refine QAb ?_; refine Qfe ?_; refine ZX ?_; refine Z1 ?_; refine Zr (hcon := h2) ?_; refine Qee ?_; refine Z0 ?_; refine QD ?_; refine Zr (hcon := h3) ?_; refine Qt ?_; refine Z4 ?_; refine ZB ?_; refine Z1 ?_; refine Zr (hcon := ha) ?_; refine QPa ?_
  (show AWP Tryz.prog E _ _ _; refine X1 ?_; exact (show Xd _ _ _ _ _ from ⟨_, St.le_refl _, ⟨rfl, trivial⟩, X3 _⟩))
end Go.Fw
