/- The chapter's worked example holds. -/
import Derived.KernelRfl
import Derived.Test.YtpfldfkhgplcgaaGreatDoorK30
set_option maxHeartbeats 32000000
namespace Go.Fw
open Go Go.Proofs
set_option maxRecDepth 100000
set_option linter.unusedVariables false
set_option linter.unusedSimpArgs false
theorem X75 : Con Tryz.prog 10 [] [] [] (ab true) := by
 refine Xb (xs := [ab true]) Tryz.func10 rfl Tryz.ntmps10 rfl rfl rfl (fun E => ?_)
 obtain ⟨X, Y, z, T, b, s, e1, e2, e3, e4, e5, e6, e7, e8, e9, e10, e11, e12, e13⟩ := XgW
 have hall : ∀ r ∈ [exR], X0Z r := fun r hr => by simp only [List.mem_singleton] at hr; subst hr; exact XfM
 have h0 := Xf0 8
 rw [Xdw] at h0
 have h1 := X9y exD 5 7 X9W
 rw [e1] at h1
 have h2 := X6p X 5 7 3 e2
 rw [e3] at h2
 have h3 := X9b X 5 7 3 0 [exR] e2 hall (by simp)
 rw [e4] at h3
 have h4 := X6p Y 5 7 3 e5
 rw [e7] at h4
 have h5 := X9b X 5 6 3 60 [exR] e2 hall (by simp)
 rw [e8] at h5
 have h6 := X7M Y 5 e6
 rw [e9] at h6
 have h7 := Xaf 5 6 60
 rw [show X01 5 6 60 = 4 from rfl] at h7
 have h8 := X7j [exR] (by simp) (fun r hr => by simp only [List.mem_singleton] at hr; subst hr; exact X74)
 have h9 := XdI 3 [exR] hall (by simp)
 rw [e10] at h9
 have h10 := Xfn X 5 7 3 0 [exR] e2 hall (by simp)
 rw [e11] at h10
 have hT : ((T.map Ys).length : Int) = 3 := by rw [List.length_map, e12]; rfl
 have hn := XcZ
 have hbl : ¬ (((([6, 3, 1, 2, 1, 2, 1, 2, 1, 2, 1, 2] : List UInt8) ++ s).map X7).length : Int) < 12 := by simp only [List.length_map, List.length_append, List.length_cons, List.length_nil]; omega
 have hb12 : (12 : Nat) ≤ ((([6, 3, 1, 2, 1, 2, 1, 2, 1, 2, 1, 2] : List UInt8) ++ s).map X7).length := by simp
 have hsl : ((((([6, 3, 1, 2, 1, 2, 1, 2, 1, 2, 1, 2] : List UInt8) ++ s).map X7).take 12).drop 0) = ([6, 3, 1, 2, 1, 2, 1, 2, 1, 2, 1, 2] : List UInt8).map X7 := by simp
 clear e1 e2 e3 e4 e5 e6 e7 e8 e9 e10 e11 e12 e13 hall
 generalize (([6, 3, 1, 2, 1, 2, 1, 2, 1, 2, 1, 2] : List UInt8) ++ s) = bb at *
 generalize T.map Ys = TT at *
 obtain ⟨xs, xp, xo⟩ := X
 obtain ⟨ys, yp, yo⟩ := Y
 rw [UK] at hn
 simp only [List.map_cons, List.map_nil, XG] at h2 h3 h4 h5 h8 h9 h10 hn
 generalize exR.changes.map XH = cc at *
 simp only [exR, zR] at h3 h4 h5 h8 h9 h10 hn
 simp only [exD, Ub] at h0 h1 h5
 generalize List.replicate 8 YU = s8 at *
 refine Qd ?_; refine Qb ?_; refine Z9 (hcon := h0) ?_; refine Qac ?_; refine Zw (γ := 100) ?_; refine Qma ?_; refine Qg ?_; refine QDb ?_; refine Qeb ?_; refine Z9 (hcon := h1) ?_; refine Qac ?_; refine Qma ?_; refine X0 ?_
 clear h0 h1
 refine JR ?_; refine ZL ?_; refine Z9 (hcon := h2) ?_; refine Qac ?_; refine ZF ?_; refine QMb ?_; refine Qeb ?_; refine Z9 (hcon := hn) ?_; refine Z5 ?_; refine Z9 (hcon := h3) ?_; refine Qac ?_; refine ZF ?_; refine Zw (γ := 101) ?_; refine Zy ?_; refine Z0 ?_; refine Z0 ?_
 refine .done (fun _ => by kernel_rfl) ?_
 refine Qeb ?_; refine Z9 (hcon := h4) ?_; refine Qac ?_; refine ZF ?_; refine QMb ?_; refine Qeb ?_; refine Z9 (hcon := hn) ?_; refine Z5 ?_; refine Z9 (hcon := h5) ?_; refine Qac ?_; refine ZF ?_; refine Zw (γ := 102) ?_; refine Zy ?_; refine Z0 ?_; refine Z0 ?_
 refine .done (fun _ => by kernel_rfl) ?_
 refine Qeb ?_; refine Z9 (hcon := h6) ?_; refine Qac ?_; refine Qya ?_; refine X0 ?_; refine X0 ?_
 clear h2 h3 h4 h5 h6
 refine Xm (Xa (n := 130) (τ := [(1, .ptr 100 0), (3, ai 0), (4, .d (.sl 10 [])), (5, ai 0), (6, ai 0), (8, ai (z : Nat)), (9, ai 0), (10, .d (.sl 10 [[.v (.int .i64 1), .v (.int .i64 1), .sl 10 cc, .v (.int .i64 0), .v (.int .i64 0), .v (.string (X6 [])), .v (.string (X6 [])), .v (.string (X6 [])), .v (.string (X6 [])), .v (.bool false)]])), (11, ai (z : Nat)), (12, ai 0), (15, ai 20), (16, .d (Xg bb)), (17, ai 0)]) (L := [(100, .box [.d (XB xs), .d (XC xp), ab xo])]) rfl JM ⟨rfl, trivial⟩) ?_
 have hz0 : ¬ (((([] : List (List D)).length : Nat)) : Int) ≠ 0 := by simp
 refine Qk ?_; refine Zv ?_; refine Qw ?_; refine Zd ?_; refine Zv ?_; refine QY ?_; refine Zv ?_; refine QY ?_; refine Zv ?_; refine QY ?_; refine Zv ?_; refine QY ?_; refine Zv ?_; refine QY ?_; refine Zv ?_; refine QY ?_; refine Zv ?_; refine QY ?_; refine Qob ?_; refine Zq ?_; refine JD ?_; refine X9N (b := decide ((((bb.map X7).length : Nat) : Int) < 12)) rfl (decide_eq_false hbl) ?_; refine X4 ?_; refine Qb ?_; refine Z9 (hcon := h7) ?_; refine Zl ?_; refine Qw ?_; refine Z9 (hcon := hn) ?_; refine Z5 ?_; refine Z9 (hcon := h8) ?_; refine Zn ?_; refine QBa ?_; refine Zl ?_; refine Zn ?_; refine QBa ?_; refine Z9 (hcon := h9) ?_; refine Zl ?_; refine Zn ?_; refine Qw ?_; refine ZV (lb := 0) (hb := 12) (ys := ([6, 3, 1, 2, 1, 2, 1, 2, 1, 2, 1, 2] : List UInt8).map X7) ?_ (hys := by exact hsl); refine ZW ?_; refine Zr ?_; refine Zn ?_; refine Z1 ?_; refine ZL ?_; refine Z1 ?_; refine Z9 (hcon := h10) ?_; refine Zd ?_; refine Zl ?_; refine Zn ?_; refine Z0 ?_
 refine .done (fun _ => by kernel_rfl) ?_
 (show AWP Tryz.prog E _ _ _; refine X1 ?_; exact (show Xq _ _ _ _ _ from ⟨_, Xc 0 (AVal.le_of_eq (by refine Eq.trans (b := ab (decide _)) rfl ?_; rw [decide_eq_true hT])), ⟨rfl, trivial⟩, X3 _⟩))
theorem X7b {d : Disk} {q : Ask} (h : X0H d q = true) : Ud d := by
 unfold X0H at h
 simp only [Bool.and_eq_true, decide_eq_true_eq] at h
 exact ⟨by omega, by omega⟩
theorem Xek : Tryz.prog.cellsOf 5 = 1 := by kernel_rfl
section
variable {H : Type} {enc : TypeId × Value → H} {W : World}
theorem X6Z : Opens enc Tryz.prog W 60 (fun _ : List UInt8 => True) (fun l => [Xg l]) :=
 (X64 Tryz.underlying60 Xek (by decide) (Xhp Tryz.underlying5)).to id fun _ _ => ⟨trivial, rfl⟩
end
theorem X8K : Tryz.prog.cellsOf 60 = 1 := by kernel_rfl
theorem Xhj : Tryz.prog.cellsOf 27 = 1 := by kernel_rfl
theorem Xdc : Tryz.prog.cellsOf 22 = 1 := by kernel_rfl
theorem XdT : Tryz.prog.cellsOf 23 = 1 := by kernel_rfl
theorem X70 : Tryz.prog.cellsOf 70 = 2 := by kernel_rfl
theorem Xh6 : Tryz.prog.cellsOf 25 = 3 := by kernel_rfl
theorem X9A : Tryz.prog.cellsOf 26 = 1 := by kernel_rfl
section
variable {H : Type} {enc : TypeId × Value → H} {W : World}
theorem Xdi : Opens enc Tryz.prog W 27 (fun l : List Int => l.length ≤ 9223372036854775807) (fun l => [X2W l]) :=
 X4F fun n => (X3F Tryz.underlying27 UO (by decide) fun m _ => (UG Tryz.underlying3).at m).to id fun _ h => ⟨h.2, rfl⟩
theorem XhA : Opens enc Tryz.prog W 22 (fun _ : List (List UInt8) => True) (fun l => [XB l]) :=
 (X64 Tryz.underlying22 X8K (by decide) X6Z).to id fun _ _ => ⟨trivial, rfl⟩
theorem XgM : Opens enc Tryz.prog W 70 (fun _ : Wr => True) cWr :=
 (X20 Tryz.underlying70 X70 (Yy rfl UO (UG Tryz.underlying3) (Yy rfl X8K X6Z X2I))).to (fun r => ⟨r.1, r.2.1⟩) fun r h => ⟨trivial, rfl⟩
theorem Xgt : Opens enc Tryz.prog W 23 (fun _ : List Wr => True) (fun l => [XC l]) :=
 (X64 Tryz.underlying23 X70 (by decide) XgM).to id fun _ h => ⟨trivial, rfl⟩
def X87 (d : Disk) : List D := [XB d.sectors, XC d.pending, .v (.bool d.on)]
theorem X7u : Opens enc Tryz.prog W 25 (fun _ : Disk => True) X87 :=
 (X20 Tryz.underlying25 Xh6 (Yy rfl Xdc XhA (Yy rfl XdT Xgt (Yy rfl X85 (X99 Tryz.underlying4) X2I)))).to (fun r => ⟨r.1, r.2.1, r.2.2.1⟩) fun r h => ⟨trivial, rfl⟩
theorem X9k : Opens enc Tryz.prog W 26 (fun l : List Rcd => (∀ r ∈ l, V5 r) ∧ l.length ≤ 9223372036854775807) (fun l => [.sl 10 (l.map XG)]) :=
 X4F fun n => X3F Tryz.underlying26 X9K (by decide) fun m _ => Xef.at m
def XaX (q : Ask) : List D := [.v (.int .i64 q.f), .v (.int .i64 q.t), .v (.int .i64 q.ep), .v (.int .i64 q.tail), .v (.int .i64 q.other), .v (.int .i64 q.pick), .sl 10 (q.a.map XG), .sl 10 (q.b.map XG), X2W q.keep]
theorem X7S (d : Disk) : XK d = .agg ((X87 d).map .d) := rfl
theorem X80 (q : Ask) : X0A q = .agg ((XaX q).map .d) := rfl
theorem XcA : Tryz.prog.cellsOf 29 = 9 := by kernel_rfl
theorem X7z : Opens enc Tryz.prog W 29 X48 XaX :=
 (X20 Tryz.underlying29 XcA
  (Yy rfl UO (UG Tryz.underlying3) (Yy rfl UO (UG Tryz.underlying3) (Yy rfl UO (UG Tryz.underlying3) (Yy rfl UO (UG Tryz.underlying3) (Yy rfl UO (UG Tryz.underlying3) (Yy rfl UO (UG Tryz.underlying3)
   (Yy rfl X9A X9k (Yy rfl X9A X9k (Yy rfl Xhj Xdi X2I)))))))))).to
  (fun r => ⟨r.1, r.2.1, r.2.2.1, r.2.2.2.1, r.2.2.2.2.1, r.2.2.2.2.2.1, r.2.2.2.2.2.2.1, r.2.2.2.2.2.2.2.1, r.2.2.2.2.2.2.2.2.1⟩) fun r h => ⟨⟨h.2.2.2.2.2.2.1.1, h.2.2.2.2.2.2.1.2, h.2.2.2.2.2.2.2.1.1, h.2.2.2.2.2.2.2.1.2, h.2.2.2.2.2.2.2.2.1⟩, rfl⟩
end
end Go.Fw
