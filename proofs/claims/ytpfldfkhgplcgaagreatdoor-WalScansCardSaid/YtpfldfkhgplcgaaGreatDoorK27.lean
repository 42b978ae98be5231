/- The log's range: size, checks, room. -/
import Derived.KernelRfl
import Derived.Test.YtpfldfkhgplcgaaGreatDoorK26
set_option maxHeartbeats 16000000
namespace Go.Fw
open Go Go.Proofs
set_option maxRecDepth 100000
set_option linter.unusedVariables false
set_option linter.unusedSimpArgs false
theorem X5f (f t : Int) (h1 : 0 ≤ f) (h2 : f < t) (h3 : t ≤ 4096) : Con Tryz.prog 40 [] [.agg [ai f, ai t]] [] (ai ((t - f) * 64)) := by
 refine Xb (xs := [ai ((t - f) * 64)]) Tryz.func40 rfl Tryz.ntmps40 rfl rfl rfl (fun E => ?_)
 refine QHa ?_; refine QFa ?_; refine ZR ?_; refine Z0f ?_; refine Qc ?_
 (show AWP Tryz.prog E _ _ _; refine X1 ?_; exact (show Xq _ _ _ _ _ from ⟨_, St.le_refl _, ⟨rfl, trivial⟩, X3 _⟩))
theorem X5R (d : Disk) (f t ep tail : Int) : Con Tryz.prog 34 [] [.agg [ai f, ai t], XK d, ai ep, ai tail] [] (ai (XJ d f t ep tail)) := by
 refine Xb (xs := [ai (XJ d f t ep tail)]) Tryz.func34 rfl Tryz.ntmps34 rfl rfl rfl (fun E => ?_)
 have hv := X3W d
 by_cases q1 : Yp d = false
 ·have e : XJ d f t ep tail = 1 := by unfold XJ; rw [if_pos q1]
  rw [e]
  rw [q1] at hv
  obtain ⟨secs, pend, on⟩ := d
  refine Qpc ?_; refine Qe ?_; refine Qrc ?_; refine Qxa ?_; refine QEb ?_
  (show AWP Tryz.prog E _ _ _; refine X1 ?_; exact (show Xq _ _ _ _ _ from ⟨_, St.le_refl _, ⟨rfl, trivial⟩, X3 _⟩))
 have q1' : Yp d = true := by simpa using q1
 rw [q1'] at hv
 have hsl := (X2f q1').2.1
 by_cases q2 : d.on = false
 ·have e : XJ d f t ep tail = 22 := by unfold XJ; rw [if_neg q1, if_pos q2]
  rw [e]
  obtain ⟨secs, pend, on⟩ := d
  simp only at q2
  subst q2
  refine Qpc ?_; refine Qe ?_; refine Qrc ?_; refine Qne ?_; refine Qxa ?_; refine QEb ?_
  (show AWP Tryz.prog E _ _ _; refine X1 ?_; exact (show Xq _ _ _ _ _ from ⟨_, St.le_refl _, ⟨rfl, trivial⟩, X3 _⟩))
 have hm : (d.sectors.map XZ).length = d.sectors.length := by simp
 have e3 : f < 0 ∨ t ≤ f ∨ (d.sectors.length : Int) < t → XJ d f t ep tail = 1 := fun h => by unfold XJ; rw [if_neg q1, if_neg q2, if_pos h]
 have e4 : ¬ (f < 0 ∨ t ≤ f ∨ (d.sectors.length : Int) < t) → ep < 0 ∨ 1000000000000000 < ep ∨ tail < 0 ∨ (t - f) * 64 < tail → XJ d f t ep tail = 1 := fun h h' => by unfold XJ; rw [if_neg q1, if_neg q2, if_neg h, if_pos h']
 have e5 : ¬ (f < 0 ∨ t ≤ f ∨ (d.sectors.length : Int) < t) → ¬ (ep < 0 ∨ 1000000000000000 < ep ∨ tail < 0 ∨ (t - f) * 64 < tail) → XJ d f t ep tail = 0 := fun h h' => by unfold XJ; rw [if_neg q1, if_neg q2, if_neg h, if_neg h']
 generalize XJ d f t ep tail = r at *
 obtain ⟨secs, pend, on⟩ := d
 obtain rfl : on = true := by simpa using q2
 simp only at hm hsl e3 e4 e5
 clear q1 q2 q1'
 by_cases a1 : f < 0
 ·obtain rfl := e3 (.inl a1)
  clear e3 e4 e5
  refine Qpc ?_; refine Qe ?_; refine Qrc ?_; refine Qne ?_; refine Qne ?_; refine Z8 ?_; refine Qba ?_; refine QNa ?_; refine QKa ?_; refine QTc ?_
  (show AWP Tryz.prog E _ _ _; refine X1 ?_; exact (show Xq _ _ _ _ _ from ⟨_, St.le_refl _, ⟨rfl, trivial⟩, X3 _⟩))
 by_cases a2 : t ≤ f
 ·obtain rfl := e3 (.inr (.inl a2))
  clear e3 e4 e5
  refine QAe ?_; refine Zq ?_; refine QKa ?_; refine QTc ?_
  (show AWP Tryz.prog E _ _ _; refine X1 ?_; exact (show Xq _ _ _ _ _ from ⟨_, St.le_refl _, ⟨rfl, trivial⟩, X3 _⟩))
 by_cases a3 : (secs.length : Int) < t
 ·obtain rfl := e3 (.inr (.inr a3))
  have a3' : ((secs.map XZ).length : Int) < t := by omega
  clear e3 e4 e5
  refine QAe ?_; refine QAc ?_; refine QOd ?_; refine QT ?_; refine QEb ?_
  (show AWP Tryz.prog E _ _ _; refine X1 ?_; exact (show Xq _ _ _ _ _ from ⟨_, St.le_refl _, ⟨rfl, trivial⟩, X3 _⟩))
 have a3' : ¬ ((secs.map XZ).length : Int) < t := by omega
 have hz := X5f f t (by omega) (by omega) (by omega)
 have e4 := e4 (by omega)
 have e5 := e5 (by omega)
 clear e3
 by_cases b1 : ep < 0
 ·obtain rfl := e4 (.inl b1)
  clear e4 e5
  refine QAe ?_; refine QAc ?_; refine QOd ?_; refine QXb ?_; refine Qf ?_; refine Z8 ?_; refine QBe ?_; refine Qba ?_; refine QTc ?_
  (show AWP Tryz.prog E _ _ _; refine X1 ?_; exact (show Xq _ _ _ _ _ from ⟨_, St.le_refl _, ⟨rfl, trivial⟩, X3 _⟩))
 by_cases b2 : 1000000000000000 < ep
 ·obtain rfl := e4 (.inr (.inl b2))
  clear e4 e5
  refine QCe ?_; refine Qaa ?_; refine QHb ?_; refine Qba ?_; refine QTc ?_
  (show AWP Tryz.prog E _ _ _; refine X1 ?_; exact (show Xq _ _ _ _ _ from ⟨_, St.le_refl _, ⟨rfl, trivial⟩, X3 _⟩))
 by_cases b3 : tail < 0
 ·obtain rfl := e4 (.inr (.inr (.inl b3)))
  clear e4 e5
  refine QCe ?_; refine QDe ?_; refine Qba ?_; refine QTc ?_
  (show AWP Tryz.prog E _ _ _; refine X1 ?_; exact (show Xq _ _ _ _ _ from ⟨_, St.le_refl _, ⟨rfl, trivial⟩, X3 _⟩))
 by_cases b4 : (t - f) * 64 < tail
 ·obtain rfl := e4 (.inr (.inr (.inr b4)))
  clear e4 e5
  refine QCe ?_; refine QEe ?_; refine Zs ?_; refine QT ?_; refine QEb ?_
  (show AWP Tryz.prog E _ _ _; refine X1 ?_; exact (show Xq _ _ _ _ _ from ⟨_, St.le_refl _, ⟨rfl, trivial⟩, X3 _⟩))
 obtain rfl := e5 (by omega)
 clear e4 e5
 refine QCe ?_; refine QEe ?_; refine Zs ?_; refine QXb ?_; refine QMc ?_
 (show AWP Tryz.prog E _ _ _; refine X1 ?_; exact (show Xq _ _ _ _ _ from ⟨_, St.le_refl _, ⟨rfl, trivial⟩, X3 _⟩))
theorem Xaf (f t tail : Int) : Con Tryz.prog 14 [] [ai f, ai t, ai tail] [] (ai (X01 f t tail)) := by
 refine Xb (xs := [ai (X01 f t tail)]) Tryz.func14 rfl Tryz.ntmps14 rfl rfl rfl (fun E => ?_)
 have e1 : f < 0 ∨ t ≤ f ∨ 4096 < t ∨ tail < 0 ∨ (t - f) * 64 < tail → X01 f t tail = 0 := fun h => if_pos h
 have e2 : ¬ (f < 0 ∨ t ≤ f ∨ 4096 < t ∨ tail < 0 ∨ (t - f) * 64 < tail) → X01 f t tail = (t - f) * 64 - tail := fun h => if_neg h
 generalize X01 f t tail = r at *
 by_cases a1 : f < 0
 ·obtain rfl := e1 (.inl a1)
  refine QFe ?_; refine Qn ?_; refine QOa ?_; refine QBe ?_; refine Qme ?_
  (show AWP Tryz.prog E _ _ _; refine X1 ?_; exact (show Xq _ _ _ _ _ from ⟨_, St.le_refl _, ⟨rfl, trivial⟩, X3 _⟩))
 by_cases a2 : t ≤ f
 ·obtain rfl := e1 (.inr (.inl a2))
  refine QFe ?_; refine QNb ?_; refine Z2 ?_; refine Zq ?_; refine QBe ?_; refine Qme ?_
  (show AWP Tryz.prog E _ _ _; refine X1 ?_; exact (show Xq _ _ _ _ _ from ⟨_, St.le_refl _, ⟨rfl, trivial⟩, X3 _⟩))
 by_cases a3 : 4096 < t
 ·obtain rfl := e1 (.inr (.inr (.inl a3)))
  refine QGe ?_; refine Qaa ?_; refine QHb ?_; refine Qme ?_
  (show AWP Tryz.prog E _ _ _; refine X1 ?_; exact (show Xq _ _ _ _ _ from ⟨_, St.le_refl _, ⟨rfl, trivial⟩, X3 _⟩))
 by_cases a4 : tail < 0
 ·obtain rfl := e1 (.inr (.inr (.inr (.inl a4))))
  refine QGe ?_; refine QDe ?_; refine Qme ?_
  (show AWP Tryz.prog E _ _ _; refine X1 ?_; exact (show Xq _ _ _ _ _ from ⟨_, St.le_refl _, ⟨rfl, trivial⟩, X3 _⟩))
 have hz := X5f f t (by omega) (by omega) (by omega)
 by_cases a5 : (t - f) * 64 < tail
 ·obtain rfl := e1 (.inr (.inr (.inr (.inr a5))))
  clear e1 e2
  refine QGe ?_; refine QEe ?_; refine Qaa ?_; refine Qp ?_
  (show AWP Tryz.prog E _ _ _; refine X1 ?_; exact (show Xq _ _ _ _ _ from ⟨_, St.le_refl _, ⟨rfl, trivial⟩, X3 _⟩))
 obtain rfl := e2 (by omega)
 clear e1 e2
 refine QGe ?_; refine QEe ?_; refine Qmb ?_; refine Qeb ?_; refine Z9 (hcon := hz) ?_; refine Z1 ?_; refine ZR ?_; refine Qc ?_
 (show AWP Tryz.prog E _ _ _; refine X1 ?_; exact (show Xq _ _ _ _ _ from ⟨_, St.le_refl _, ⟨rfl, trivial⟩, X3 _⟩))
abbrev Ud (d : Disk) : Prop := d.sectors.length ≤ 2000 ∧ d.pending.length ≤ 2000
theorem X6e {d : Disk} (h : Yp d = true) (hf : Ud d) : UY d := X0p h (by have := hf.2; omega)
theorem XaQ (d : Disk) (f t : Int) (hd : DOk d) (hf : Ud d) (h1 : 0 ≤ f) (h2 : f ≤ t) (h3 : t ≤ d.sectors.length) : Con Tryz.prog 46 [] [.agg [ai f, ai t], XK d] [] (.d (Xg (XO d f t))) := by
 refine Xb (xs := [.d (Xg (XO d f t))]) Tryz.func46 rfl Tryz.ntmps46 rfl rfl rfl (fun E => ?_)
 obtain ⟨F, rfl⟩ : ∃ F : Nat, f = F := ⟨f.toNat, by omega⟩
 obtain ⟨N, rfl⟩ : ∃ N : Nat, t = ((F + N : Nat) : Int) := ⟨(t - F).toNat, by omega⟩
 have hS : XO d (F : Nat) ((F + N : Nat) : Int) = Y0 d F N := by
  unfold XO
  rw [Int.toNat_natCast, show (((F + N : Nat) : Int) - (F : Nat)).toNat = N by omega]
 rw [hS]
 have hr := fun a => X7M d a (X6e hd.v hf)
 have hlen := fun i (hi : i ≤ N) => VQ hd i F (by omega)
 have hmore := X5y d
 have hl1 := fun i (hi : i < N) => X3x hd (a := F + i) (by omega)
 have hsl := hf.1
 clear hS hf hd
 obtain ⟨secs, pend, on⟩ := d
 generalize hB : Y0 ⟨secs, pend, on⟩ F = B at *
 refine Qpc ?_; refine Qd ?_; refine Qyb ?_; refine Qc ?_; refine X5 ?_; refine Xm (Vp 5 130 1 rfl rfl rfl) ?_
 refine Xu (fun i : Nat => i ≤ N) (fun i => ⟨27, [(2, .ptr 100 0), (3, .ptr 101 0), (5, .own 130 ((B i).map X7).length), (6, ai ((F + i : Nat) : Int))], [(100, .box [ai (F : Nat), ai ((F + N : Nat) : Int)]), (101, .box [.d (XB secs), .d (XC pend), ab on]), (130, .row 1 ((B i).map X7))]⟩) (fun i => N - i) 0 (Nat.zero_le _)
  (Xa rfl ⟨JL, JL, (by rw [← hB]; exact AVal.le_refl _), JL, trivial⟩ ⟨rfl, rfl, (by rw [← hB]; rfl), trivial⟩) ?_
 intro i hi
 have hbl := hlen i hi
 have hroom : ((B i).map X7).length ≤ 1000000 := by rw [List.length_map]; omega
 by_cases hil : i < N
 case neg =>
  obtain rfl : i = N := by omega
  have hn : ¬ ((F + i : Nat) : Int) < ((F + i : Nat) : Int) := by omega
  refine Qg ?_; refine QFa ?_; refine Z8 ?_; refine Ql ?_; refine Qx ?_; refine Xm (Y4 130 rfl) ?_; refine Xm (U1 4 130 rfl rfl rfl) ?_
  (show AWP Tryz.prog E _ _ _; refine X1 ?_; exact (show Xq _ _ _ _ _ from ⟨_, St.le_refl _, ⟨rfl, trivial⟩, X3 _⟩))
 have hn : ((F + i : Nat) : Int) < ((F + N : Nat) : Int) := by omega
 have hr1 := hr ((F + i : Nat) : Int)
 have hst : B (i + 1) = B i ++ (Y7 ⟨secs, pend, on⟩ ((F + i : Nat) : Int)).1 := by rw [← hB]; exact hmore i F
 have hrl := hl1 i hil
 generalize (Y7 ⟨secs, pend, on⟩ ((F + i : Nat) : Int)).1 = R at *
 generalize (Y7 ⟨secs, pend, on⟩ ((F + i : Nat) : Int)).2 = R2 at *
 have hrm : (R.map X7).length ≤ 64 := by rw [List.length_map]; omega
 clear hr hmore hlen hl1 hB
 refine Qg ?_; refine QFa ?_; refine Z8 ?_; refine Qkb ?_; refine Qfb ?_; refine Z9 (hcon := hr1) ?_; refine Qac ?_; refine Qya ?_; refine Qgc ?_; refine Qkc ?_; refine Qnb ?_
 refine ⟨i + 1, hil, by omega, ?_⟩
 dsimp only
 rw [hst, List.map_append]
 exact Xa rfl ⟨JL, JL, AVal.le_of_eq (by refine Eq.trans (b := AVal.own 130 (_ + _)) rfl ?_; simp only [List.length_append, List.length_map]), JL, trivial⟩ ⟨rfl, rfl, rfl, trivial⟩
theorem X9y (d : Disk) (f t : Int) (hf : Ud d) : Con Tryz.prog 11 [] [XK d, ai f, ai t] [] (X0T (XK (YD d f t).1) (YD d f t).2) := by
 refine Xb (xs := [XK (YD d f t).1, ai (YD d f t).2]) Tryz.func11 rfl Tryz.ntmps11 rfl rfl rfl (fun E => ?_)
 have hc := X5R d f t 0 0
 by_cases he : XJ d f t 0 0 = 0
 case neg =>
  have e : YD d f t = (Ub, XJ d f t 0 0) := by unfold YD; rw [if_pos he]
  rw [e]
  generalize XJ d f t 0 0 = r at *
  clear hf
  obtain ⟨secs, pend, on⟩ := d
  refine Qsc ?_; refine Qc ?_; refine Qi ?_; refine Zx ?_; refine Qbe ?_; refine Qnc ?_; refine ZL ?_; refine QZd ?_; exact Que
 have e : YD d f t = ((Yh (Yb d f.toNat (List.replicate (t - f).toNat YU))).1, 0) := by unfold YD; rw [if_neg (by rw [he]; simp)]
 rw [e]
 clear e
 rw [he] at hc
 obtain ⟨hd, h1, h2, h3, _⟩ := X0X he
 clear he
 obtain ⟨F, rfl⟩ : ∃ F : Nat, f = F := ⟨f.toNat, by omega⟩
 obtain ⟨N, rfl⟩ : ∃ N : Nat, t = ((F + N : Nat) : Int) := ⟨(t - F).toNat, by omega⟩
 rw [Int.toNat_natCast, show (((F + N : Nat) : Int) - (F : Nat)).toNat = N by omega]
 obtain ⟨D, hD⟩ : ∃ D : Nat → Disk, ∀ i, Yb d F (List.replicate i YU) = D i := ⟨_, fun _ => rfl⟩
 have hD0 : d = D 0 := hD 0
 have hDs : ∀ i, D (i + 1) = Ui (D i) (F + i) YU := fun i => by rw [← hD, ← hD]; exact X9U YU d F i
 have hok : ∀ i, i ≤ N → DOk (D i) ∧ (D i).sectors.length = d.sectors.length ∧ (D i).pending.length ≤ 4096 := fun i hi => by
  rw [← hD]
  obtain ⟨k1, k2, k3⟩ := X17 (List.replicate i YU) d F
  refine ⟨X1K _ d F hd (by rw [List.length_replicate]; omega) fun c hcm => ?_, by rw [k1], ?_⟩
  ·rw [List.eq_of_mem_replicate hcm]; rfl
  ·rw [k3, List.length_replicate]; have := hf.1; have := hf.2; omega
 rw [hD]
 clear hD hd
 have hsl : d.sectors.length ≤ 2000 := hf.1
 subst hD0
 clear hf
 refine Qsc ?_; refine Qc ?_; refine Qi ?_; refine Zx ?_; refine Qbe ?_; refine Qnc ?_; refine ZL ?_; refine QZd ?_; refine QYd ?_; refine Qyb ?_; refine Qc ?_; refine X5 ?_
 clear hc
 refine Xu (fun i : Nat => i ≤ N) (fun i => ⟨42, [(3, .ptr 100 0), (6, .ptr 101 0), (8, .ptr 102 0), (10, ai ((F + i : Nat) : Int))], [(100, .box [.d (XB (D i).sectors), .d (XC (D i).pending), ab (D i).on]), (101, .box [ani, ani, ab false]), (102, .box [ai (F : Nat), ai ((F + N : Nat) : Int)])]⟩) (fun i => N - i) 0 (Nat.zero_le _)
  (Xa rfl JM ⟨rfl, rfl, rfl, trivial⟩) ?_
 intro i hi
 obtain ⟨o1, o2, o3⟩ := hok i hi
 by_cases hil : i < N
 case neg =>
  obtain rfl : i = N := by omega
  have hn : ¬ ((F + i : Nat) : Int) < ((F + i : Nat) : Int) := by omega
  have hs := X5n (D i) (X0p o1.v o3)
  generalize (Yh (D i)).1 = X at *
  generalize (Yh (D i)).2 = X2 at *
  clear hok hDs o1 o2 o3
  obtain ⟨xs, xp, xo⟩ := X
  refine Qg ?_; refine QFa ?_; refine Z8 ?_; refine Ql ?_; refine Qeb ?_; refine Z9 (hcon := hs) ?_; refine Qac ?_; refine QTa ?_; refine Qeb ?_; refine Qma ?_
  (show AWP Tryz.prog E _ _ _; refine X1 ?_; exact (show Xq _ _ _ _ _ from ⟨_, St.le_refl _, ⟨⟨101, 0, _, rfl, rfl, .inr ⟨3, _, rfl, rfl, rfl, rfl⟩⟩, rfl, trivial⟩, X3 _⟩))
 have hn : ((F + i : Nat) : Int) < ((F + N : Nat) : Int) := by omega
 have hw := X9B (D i) ((F + i : Nat) : Int) YU (X0p o1.v o3) (by decide)
 rw [X6B o1 (by omega) (by decide), ← hDs] at hw
 clear hok hDs o1 o2 o3
 refine Qg ?_; refine QFa ?_; refine Z8 ?_; refine Qkb ?_; refine JR ?_; refine ZL ?_; refine Z1 ?_; refine ZS ?_; refine Z9 (hcon := hw) ?_; refine Qac ?_; refine QTa ?_; refine Qnb ?_; exact ⟨i + 1, hil, by omega, Xa rfl JM ⟨rfl, rfl, rfl, trivial⟩⟩
theorem UO : Tryz.prog.cellsOf 3 = 1 := by kernel_rfl
theorem X1Y : Tryz.prog.cellsOf 9 = 1 := by kernel_rfl
theorem Xbv : Tryz.prog.cellsOf 90 = 1 := by kernel_rfl
theorem X5z : Tryz.prog.cellsOf 92 = 5 := by kernel_rfl
theorem Xag : Tryz.prog.cellsOf 94 = 10 := by kernel_rfl
theorem X95 : Tryz.prog.cellsOf 56 = 6 := by kernel_rfl
def Xd5 (r : Rul) : List D := [.v (.int .i64 r.kind), .v (.int .i64 r.n), .v (.string (X6 r.name)), .v (.string (X6 r.key)), .v (.string (X6 r.src)), .v (.string (X6 r.dst))]
section
variable {H : Type} {enc : TypeId × Value → H} {W : World}
theorem X7X : ∀ n, OpensN enc Tryz.prog W n 92 Yd Vb
 | 0 => ⟨fun cs x hx => by simp [DataW.trod] at hx⟩
 | n + 1 =>
  (Xcj Tryz.underlying92 X5z (fun m hm =>
   X2K rfl UO ((UG Tryz.underlying3).at m) (X2K rfl UO ((UG Tryz.underlying3).at m) (X2K rfl UO ((UG Tryz.underlying3).at m)
    (X2K rfl X1Y ((X2C Tryz.underlying9).at m)
     (X2K rfl Xbv (X3F (p := Yd) (f := Vb) Tryz.underlying90 X5z (by decide) (fun m' hm' => X7X m')) XfW)))))).to
   (fun r => .mk r.1 r.2.1 r.2.2.1 r.2.2.2.1 r.2.2.2.2.1) fun r h => ⟨by rw [Yd]; exact ⟨h.2.2.2.1, h.2.2.2.2.1.2, X3L h.2.2.2.2.1.1⟩, by rw [Vb, X1A]; rfl⟩
termination_by n => n
decreasing_by omega
theorem XfP : Opens enc Tryz.prog W 92 Yd Vb := X4F X7X
theorem XbZ : Opens enc Tryz.prog W 94 X3v XH :=
 (X20 Tryz.underlying94 Xag
  (Yy rfl UO (UG Tryz.underlying3) (Yy rfl UO (UG Tryz.underlying3) (Yy rfl UO (UG Tryz.underlying3) (Yy rfl UO (UG Tryz.underlying3)
   (Yy rfl X1Y (X2C Tryz.underlying9) (Yy rfl X5z XfP X2I))))))).to
  (fun r => ⟨r.1, r.2.1, r.2.2.1, r.2.2.2.1, r.2.2.2.2.1, r.2.2.2.2.2.1⟩) fun r h => ⟨⟨h.2.2.2.2.1, h.2.2.2.2.2.1⟩, by
   obtain ⟨op, id, src, dst, name, v, u⟩ := r
   cases v
   rfl⟩
theorem Xd6 : Opens enc Tryz.prog W 56 (fun _ : Rul => True) Xd5 :=
 (X20 Tryz.underlying56 X95
  (Yy rfl UO (UG Tryz.underlying3) (Yy rfl UO (UG Tryz.underlying3)
   (Yy rfl X1Y (X2C Tryz.underlying9) (Yy rfl X1Y (X2C Tryz.underlying9) (Yy rfl X1Y (X2C Tryz.underlying9) (Yy rfl X1Y (X2C Tryz.underlying9) X2I))))))).to
  (fun r => ⟨r.1, r.2.1, r.2.2.1, r.2.2.2.1, r.2.2.2.2.1, r.2.2.2.2.2.1⟩) fun r h => ⟨trivial, rfl⟩
end
theorem Xep : Tryz.prog.cellsOf 54 = 1 := by kernel_rfl
theorem X85 : Tryz.prog.cellsOf 4 = 1 := by kernel_rfl
theorem X9K : Tryz.prog.cellsOf 58 = 10 := by kernel_rfl
def XG (r : Rcd) : List D := [.v (.int .i64 r.kind), .v (.int .i64 r.ts), .sl 10 (r.changes.map XH), .v (.int .i64 r.rule.kind), .v (.int .i64 r.rule.n), .v (.string (X6 r.rule.name)), .v (.string (X6 r.rule.key)), .v (.string (X6 r.rule.src)), .v (.string (X6 r.rule.dst)), .v (.bool r.off)]
section
variable {H : Type} {enc : TypeId × Value → H} {W : World}
theorem XbR : Opens enc Tryz.prog W 54 (fun l : List Chg => (∀ c ∈ l, X3v c) ∧ l.length ≤ 9223372036854775807) (fun l => [.sl 10 (l.map XH)]) :=
 X4F fun n => X3F Tryz.underlying54 Xag (by decide) fun m _ => XbZ.at m
theorem Xef : Opens enc Tryz.prog W 58 V5 XG :=
 (X20 Tryz.underlying58 X9K
  (Yy rfl UO (UG Tryz.underlying3) (Yy rfl UO (UG Tryz.underlying3) (Yy rfl Xep XbR
   (Yy rfl X95 Xd6 (Yy rfl X85 (X99 Tryz.underlying4) X2I)))))).to
  (fun r => ⟨r.1, r.2.1, r.2.2.1, r.2.2.2.1, r.2.2.2.2.1⟩) fun r h => ⟨⟨h.2.2.1.2, h.2.2.1.1⟩, rfl⟩
end
def X0Z (r : Rcd) : Prop := V5 r ∧ (VD r).length ≤ 60000
theorem X5u {n : Int} (h1 : 0 ≤ n) (h2 : n ≤ 9223372036854775807) : (Xo n).length ≤ 10 := by
 rw [X0e h1]; exact X0q (by omega)
theorem X6G {ep : Int} {r : Rcd} (h1 : 0 ≤ ep) (h2 : ep ≤ 1000000000000000) (hr : (VD r).length ≤ 60000) : (YO ep r).length ≤ 60010 := by
 unfold YO
 rw [List.length_append]
 have := X5u h1 (by omega)
 omega
theorem X97 {b : List UInt8} (h : b.length ≤ 65536) : (YT b).length ≤ b.length + 14 := by
 unfold YT
 rw [List.length_append, List.length_append, X0U]
 have := X5u (n := (b.length : Int)) (by omega) (by omega)
 omega
theorem X7J {ep : Int} {r : Rcd} (h1 : 0 ≤ ep) (h2 : ep ≤ 1000000000000000) (hr : (VD r).length ≤ 60000) : (Ur ep r).length ≤ 130000 := by
 unfold Ur
 have h3 := X6G h1 h2 hr
 have h4 := X97 (b := YO ep r) (by omega)
 have h5 := X3R (YT (YO ep r))
 rw [List.length_append, List.length_singleton]
 omega
theorem X6c {ep : Int} (h1 : 0 ≤ ep) (h2 : ep ≤ 1000000000000000) : ∀ l : List Rcd, (∀ r ∈ l, (VD r).length ≤ 60000) → (XA ep l).length ≤ 130000 * l.length
 | [], _ => by simp [XA]
 | r :: l, h => by
  have a := X7J h1 h2 (h r (by simp))
  have b := X6c h1 h2 l fun x hx => h x (by simp [hx])
  rw [XA, List.length_append, List.length_cons]
  omega
theorem Xeh {x : UInt8} (h : x.toNat ≤ 1) : n8 (x.toNat + 1) = n8 (x + 1).toNat := by
 have : (x + 1).toNat = x.toNat + 1 := by rw [UInt8.toNat_add]; simp; omega
 rw [this]
theorem Xgb (ep : Int) (r : Rcd) (h1 : 0 ≤ ep) (h2 : ep ≤ 1000000000000000) (hr : X0Z r) : Con Tryz.prog 66 [] [ai ep, Yq r] [] (.d (Xg (Ur ep r))) := by
 refine Xb (xs := [.d (Xg (Ur ep r))]) Tryz.func66 rfl Tryz.ntmps66 rfl rfl rfl (fun E => ?_)
 have c1 := X9O ep (by omega)
 have c2 := XcU r hr.1
 have hbl := X6G h1 h2 hr.2
 have c3 := Xeu (YO ep r) (by omega)
 have hul := X5u h1 (by omega)
 have hrl := hr.2
 have hfl := X97 (b := YO ep r) (by omega)
 have hfin : Xg (Ur ep r) = .sl 1 ((Yg (YT (YO ep r))).map X7 ++ [[.v (.int .u8 0)]]) := by unfold Ur Xg; rw [List.map_append]; rfl
 rw [hfin]
 unfold YO at *
 generalize VD r = R at *
 generalize Xo ep = U at *
 have hlm1 : (U.map X7).length = U.length := by simp
 have hlm2 : (R.map X7).length = R.length := by simp
 generalize hF : YT (U ++ R) = F at *
 have hlF : (F.map X7).length = F.length := by simp
 clear hr hfin hF
 obtain ⟨kd, ts, l, ⟨k, n, name, key, src, dst⟩, off⟩ := r
 simp only [Yq] at *
 refine QEa ?_; refine Qy ?_; refine Z9 (hcon := c1) ?_; refine ZL ?_; refine Z9 (hcon := c2) ?_; refine Z0g (γ := 130) ?_; refine Z9 (hcon := c3) ?_; refine Qz ?_
 clear c1 c2 c3
 refine Xm (Vp 5 131 1 rfl rfl rfl) ?_
 refine Xu (fun i : Nat => i ≤ F.length) (fun i => ⟨34, [(5, .own 131 ((Yg (F.take i)).map X7).length), (13, .d (Xg F)), (14, ai (F.map X7).length), (15, ai i)], [(131, .row 1 ((Yg (F.take i)).map X7))]⟩) (fun i => F.length - i) 0 (Nat.zero_le _)
  (Xa rfl JM ⟨rfl, trivial⟩) ?_
 intro i hi
 have hel := X3R (F.take i)
 rw [List.length_take] at hel
 have hroom : ((Yg (F.take i)).map X7).length ≤ 130048 := by rw [List.length_map]; omega
 by_cases hil : i < F.length
 case neg =>
  obtain rfl : i = F.length := by omega
  have hn : ¬ ((F.length : Nat) : Int) < (F.map X7).length := by omega
  rw [List.take_length] at hroom ⊢
  refine QK ?_; refine Qf ?_; refine Qj ?_; refine Xm (Y4 131 rfl) ?_; refine Xm (U1 4 131 rfl rfl (by simp)) ?_
  (show AWP Tryz.prog E _ _ _; refine X1 ?_; exact (show Xq _ _ _ _ _ from ⟨_, St.le_refl _, ⟨rfl, trivial⟩, X3 _⟩))
 have hn : (i : Int) < (F.map X7).length := by omega
 obtain ⟨x, hx⟩ := Xv (l := F) hil
 have hxc : (F.map X7)[i]? = some (X7 x) := YF hx
 have hst := Xd9 hx
 by_cases hx1 : x.toNat ≤ 1
 ·have hx1' : (x.toNat : Int) ≤ 1 := by omega
  have hxe := Xeh hx1
  have hst2 : (Yg (F.take (i + 1))).map X7 = (Yg (F.take i)).map X7 ++ [[.v (.int .u8 1)], X7 (x + 1)] := by rw [hst]; unfold X0t; rw [if_pos hx1, List.map_append]; rfl
  clear hx hst hel
  refine QC ?_; refine QD ?_; refine Qv ?_; refine Zm ?_; refine Qh ?_; refine Qgc ?_; refine Z4 (op := .add) (r' := n8 (x + 1).toNat) (u := n8 x.toNat) (v := n8 1) ?_ (hr' := by exact hxe) (hr := by exact Y6 (by rw [Yv]; omega)); refine Qj ?_; refine QI ?_
  refine ⟨i + 1, hil, by omega, ?_⟩
  dsimp only
  rw [hst2]
  exact QHe
 ·have hx1' : ¬ (x.toNat : Int) ≤ 1 := by omega
  have hst2 : (Yg (F.take (i + 1))).map X7 = (Yg (F.take i)).map X7 ++ [X7 x] := by rw [hst]; unfold X0t; rw [if_neg hx1, List.map_append]; rfl
  clear hx hst hel
  refine QC ?_; refine QD ?_; refine Qv ?_; refine Zm ?_; refine JD ?_; refine JF ?_; refine Qgc ?_; refine Qj ?_; refine QI ?_
  refine ⟨i + 1, hil, by omega, ?_⟩
  dsimp only
  rw [hst2]
  exact QHe
theorem Xab (ep : Int) (l : List Rcd) (h1 : 0 ≤ ep) (h2 : ep ≤ 1000000000000000) (hr : ∀ r ∈ l, X0Z r) (hl : l.length ≤ 1000) : Con Tryz.prog 44 [] [ai ep, .d (.sl 10 (l.map XG))] [] (.tup [.d (Xg (X0w ep l)), ai (Ux l)]) := by
 refine Xb (xs := [.d (Xg (X0w ep l)), ai (Ux l)]) Tryz.func44 rfl Tryz.ntmps44 rfl rfl rfl (fun E => ?_)
 have hlm : (l.map XG).length = l.length := by simp
 have e1 : Ux l ≠ 0 → X0w ep l = [] := fun h => if_pos h
 have e2 : Ux l = 0 → X0w ep l = XA ep l := fun h => if_neg (by rw [h]; simp)
 generalize hR : Ux l = R at *
 generalize X0w ep l = P at *
 refine Qb ?_; refine Qya ?_; refine Qy ?_; refine Qz ?_; refine Xm (Vp 6 130 1 rfl rfl rfl) ?_
 refine Xu (fun i : Nat => i ≤ l.length ∧ Ux (l.drop i) = R) (fun i => ⟨28, [(0, ai ep), (6, .own 130 ((XA ep (l.take i)).map X7).length), (10, .d (.sl 10 (l.map XG))), (11, ai (l.map XG).length), (12, ai i)], [(130, .row 1 ((XA ep (l.take i)).map X7))]⟩) (fun i => l.length - i) 0 ⟨Nat.zero_le _, by simpa using hR⟩
  (Xa rfl JM ⟨rfl, trivial⟩) ?_
 rintro i ⟨hi, hg⟩
 have hel := X6c h1 h2 (l.take i) fun x hx => (hr x (List.mem_of_mem_take hx)).2
 rw [List.length_take] at hel
 have hroom : ((XA ep (l.take i)).map X7).length ≤ 130000000 := by rw [List.length_map]; omega
 by_cases hil : i < l.length
 case neg =>
  obtain rfl : i = l.length := by omega
  have hn : ¬ ((l.length : Nat) : Int) < (l.map XG).length := by omega
  rw [List.drop_length] at hg
  obtain rfl : 0 = R := hg
  obtain rfl := e2 rfl
  rw [List.take_length] at hroom ⊢
  clear e1 e2
  refine QK ?_; refine Qf ?_; refine Qya ?_; refine Xm (Y4 130 rfl) ?_; refine Xm (U1 4 130 rfl rfl rfl) ?_
  (show AWP Tryz.prog E _ _ _; refine X1 ?_; exact (show Xq _ _ _ _ _ from ⟨_, St.le_refl _, ⟨rfl, rfl, trivial⟩, X3 _⟩))
 have hn : (i : Int) < (l.map XG).length := by omega
 obtain ⟨x, hx⟩ := Xv (l := l) hil
 have hxc : (l.map XG)[i]? = some (XG x) := YF hx
 have hw := hr x (List.mem_of_getElem? hx)
 rw [XbG hx] at hg
 have c1 := X5Z x hw.1
 have c2 := Xgb ep x h1 h2 hw
 have hst := Xbd (ep := ep) hx
 have hyl := X7J h1 h2 hw.2
 have hst2 : (XA ep (l.take (i + 1))).map X7 = (XA ep (l.take i)).map X7 ++ (Ur ep x).map X7 := by rw [hst, List.map_append]
 have hym : ((Ur ep x).map X7).length ≤ 130000 := by rw [List.length_map]; exact hyl
 generalize Ur ep x = Y at *
 generalize YJ x = re at *
 clear hx hr hst hw hel
 obtain ⟨kd, ts, cl, ⟨k, n, name, key, src, dst⟩, off⟩ := x
 simp only [Yq, XG] at *
 by_cases hre : re = 0
 case neg =>
  rw [if_pos hre] at hg
  subst hg
  obtain rfl := e1 hre
  clear e1 e2 c2
  refine Qdb ?_; refine Qnc ?_; refine Z9 (hcon := c1) ?_; refine Qv ?_; refine QAa ?_; refine Qf ?_; refine Qya ?_
  (show AWP Tryz.prog E _ _ _; refine X1 ?_; exact (show Xq _ _ _ _ _ from ⟨_, Xc 4 (AVal.le_nil 1), ⟨rfl, rfl, trivial⟩, X3 _⟩))
 rw [if_neg (by simpa using hre)] at hg
 subst hre
 clear e1 e2
 refine Qdb ?_; refine Qnc ?_; refine Z9 (hcon := c1) ?_; refine QYd ?_; refine Qgc ?_; refine ZL ?_; refine Z9 (hcon := c2) ?_; refine Qkc ?_; refine QI ?_
 refine ⟨i + 1, ⟨hil, hg⟩, by omega, ?_⟩
 dsimp only
 rw [hst2]
 exact Xa rfl ⟨JL, AVal.le_of_eq (by refine Eq.trans (b := AVal.own 130 (_ + _)) rfl ?_; simp only [List.length_append, List.length_map]), JL, JL, JL, trivial⟩ ⟨rfl, trivial⟩
theorem XdI (ep : Int) (l : List Rcd) (hr : ∀ r ∈ l, X0Z r) (hl : l.length ≤ 1000) : Con Tryz.prog 21 [] [ai ep, .d (.sl 10 (l.map XG))] [] (ai (X1N ep l)) := by
 refine Xb (xs := [ai (X1N ep l)]) Tryz.func21 rfl Tryz.ntmps21 rfl rfl rfl (fun E => ?_)
 have e1 : ep < 0 ∨ 1000000000000000 < ep → X1N ep l = 0 := fun h => if_pos h
 have e2 : ¬ (ep < 0 ∨ 1000000000000000 < ep) → X1N ep l = ((X0w ep l).map X7).length := fun h => by unfold X1N; rw [if_neg h, List.length_map]
 by_cases a1 : ep < 0
 ·rw [e1 (.inl a1)]
  refine Qo ?_; refine QHb ?_; refine Qp ?_
  (show AWP Tryz.prog E _ _ _; refine X1 ?_; exact (show Xq _ _ _ _ _ from ⟨_, St.le_refl _, ⟨rfl, trivial⟩, X3 _⟩))
 by_cases a2 : 1000000000000000 < ep
 ·rw [e1 (.inr a2)]
  refine Qd ?_; refine Qvb ?_; refine Qaa ?_; refine Qp ?_
  (show AWP Tryz.prog E _ _ _; refine X1 ?_; exact (show Xq _ _ _ _ _ from ⟨_, St.le_refl _, ⟨rfl, trivial⟩, X3 _⟩))
 rw [e2 (by omega)]
 have c := Xab ep l (by omega) (by omega) hr hl
 clear e1 e2 hr
 refine Qd ?_; refine Qvb ?_; refine Qmb ?_; refine Qi ?_; refine Z9 (hcon := c) ?_; refine Qac ?_; refine Qya ?_; refine Qf ?_; refine Zd ?_; refine Qc ?_
 (show AWP Tryz.prog E _ _ _; refine X1 ?_; exact (show Xq _ _ _ _ _ from ⟨_, St.le_refl _, ⟨rfl, trivial⟩, X3 _⟩))
open Go
theorem X4d {x : UInt8} {r : List UInt8} (h : x ≠ 1) : Yf (x :: r) = (Yf r).map (fun l => x :: l) := by
 cases r with
 | nil => simp [Yf, h]
 | cons y r => rw [Yf, if_neg h]
theorem X55 : Yf [1] = none := by simp [Yf]
theorem X3C {y : UInt8} {r : List UInt8} (h : y = 1 ∨ y = 2) : Yf (1 :: y :: r) = (Yf r).map (fun l => (y - 1) :: l) := by
 rw [Yf, if_pos rfl, if_pos h]
theorem X5h {y : UInt8} {r : List UInt8} (h : ¬ (y = 1 ∨ y = 2)) : Yf (1 :: y :: r) = none := by
 rw [Yf, if_pos rfl, if_neg h]
theorem X4H {b : List UInt8} {i : Nat} {x : UInt8} (h : b[i]? = some x) : b.drop i = x :: b.drop (i + 1) := by
 obtain ⟨hi, rfl⟩ := List.getElem?_eq_some_iff.1 h
 rw [List.drop_eq_getElem_cons hi]
theorem X3k : ∀ (n : Nat) (b raw : List UInt8), b.length ≤ n → Yf b = some raw → raw.length ≤ b.length
 | _, [], raw, _, h => by simp [Yf] at h; simp [← h]
 | 0, _ :: _, _, hn, _ => by simp at hn
 | n + 1, x :: r, raw, hn, h => by
  rw [List.length_cons] at hn ⊢
  by_cases hx : x = 1
  ·subst hx
   cases r with
   | nil => rw [X55] at h; simp at h
   | cons y r =>
    by_cases hy : y = 1 ∨ y = 2
    ·rw [X3C hy] at h
     rw [List.length_cons] at hn
     cases hu : Yf r with
     | none => rw [hu] at h; simp at h
     | some l =>
      rw [hu] at h
      simp only [Option.map_some, Option.some.injEq] at h
      subst h
      have := X3k n r l (by omega) hu
      simp only [List.length_cons]
      omega
    ·rw [X5h hy] at h; simp at h
  ·rw [X4d hx] at h
   cases hu : Yf r with
   | none => rw [hu] at h; simp at h
   | some l =>
    rw [hu] at h
    simp only [Option.map_some, Option.some.injEq] at h
    subst h
    have := X3k n r l (by omega) hu
    simp only [List.length_cons]
    omega
theorem X8S {y : UInt8} (h : y = 1 ∨ y = 2) : Value.int .u8 (IntKind.u8.wrap ((y.toNat : Int) - 1)) = Value.int .u8 ((y - 1).toNat : Int) := by
 rcases h with rfl | rfl <;> rfl
theorem Xb6 : ∀ b : List UInt8, Yf (Yg b) = some b
 | [] => by simp [Yg, Yf]
 | x :: r => by
  have ih := Xb6 r
  rw [Yg]
  unfold X0t
  by_cases h : x.toNat ≤ 1
  ·rw [if_pos h]
   have hx : x = 0 ∨ x = 1 := by
    have : x.toNat = 0 ∨ x.toNat = 1 := by omega
    rcases this with e | e
    ·left; exact UInt8.toNat_inj.1 e
    ·right; exact UInt8.toNat_inj.1 e
   rw [List.cons_append, List.cons_append, List.nil_append, X3C (by rcases hx with rfl | rfl <;> decide), ih]
   rcases hx with rfl | rfl <;> rfl
  ·rw [if_neg h, List.cons_append, List.nil_append, X4d (by rintro rfl; exact h (by decide)), ih]
   rfl
theorem X8r : ∀ b : List UInt8, ∀ x ∈ Yg b, x ≠ 0
 | [], x, h => by simp [Yg] at h
 | y :: r, x, h => by
  rw [Yg, List.mem_append] at h
  rcases h with h | h
  ·unfold X0t at h
   by_cases q : y.toNat ≤ 1
   ·rw [if_pos q] at h
    simp only [List.mem_cons, List.not_mem_nil, or_false] at h
    rcases h with rfl | rfl
    ·decide
    ·have : y = 0 ∨ y = 1 := by
      have : y.toNat = 0 ∨ y.toNat = 1 := by omega
      rcases this with e | e
      ·left; exact UInt8.toNat_inj.1 e
      ·right; exact UInt8.toNat_inj.1 e
     rcases this with rfl | rfl <;> decide
   ·rw [if_neg q] at h
    simp only [List.mem_cons, List.not_mem_nil, or_false] at h
    subst h
    rintro rfl
    exact q (by decide)
  ·exact X8r r x h
theorem X9z (ep : Int) : Yu [] ep = (X0F, false) := by
 have h : (Ue [] 0).2.2 ≠ 0 := by decide
 unfold Yu
 simp only [Yf]
 unfold X1F
 rw [if_pos (.inl h)]
theorem X8Z {b : List UInt8} {ep : Int} (h : Yf b = none) : Yu b ep = (X0F, false) := by unfold Yu; rw [h]
theorem X6x {b raw : List UInt8} {ep : Int} (h : Yf b = some raw) : Yu b ep = X1F raw ep (Ue raw 0) := by unfold Yu; rw [h]
theorem X4X (b : List UInt8) (a : Int) : (Ue b a).1.length ≤ b.length := by
 unfold Ue
 simp only
 split
 ·simp
 ·split
  ·simp
  ·split
   ·simp
   ·rw [List.length_take, List.length_drop]; omega
theorem Xbi {b : List UInt8} : (UV b = false ∧ Lib.indexByte b 0 = -1) ∨ (UV b = true ∧ Lib.indexByte b 0 = ((Y8 b).length : Nat)) := by
 induction b with
 | nil => left; exact ⟨rfl, rfl⟩
 | cons x r ih =>
  unfold UV Y8 Lib.indexByte
  rw [List.any_cons, List.takeWhile_cons]
  by_cases hx : x = 0
  ·subst hx
   right
   simp
  ·have h1 : (x == 0) = false := by simpa using hx
   have h2 : (x != 0) = true := by simpa using hx
   rw [h1, h2, Bool.false_or]
   rcases ih with ⟨k1, k2⟩ | ⟨k1, k2⟩
   ·left
    rw [k2]
    exact ⟨k1, rfl⟩
   ·right
    rw [k2]
    refine ⟨k1, ?_⟩
    unfold Y8
    have : ((((List.takeWhile (fun x => x != 0) r).length : Nat) : Int) == -1) = false := by
     simp only [beq_eq_false_iff_ne, ne_eq]
     omega
    rw [this]
    simp
theorem Xg3 (b : List UInt8) : Y8 b = b.take (Y8 b).length := by
 unfold Y8
 induction b with
 | nil => rfl
 | cons x r ih =>
  rw [List.takeWhile_cons]
  by_cases hx : (x != 0) = true
  ·rw [if_pos hx, List.length_cons, List.take_succ_cons, ← ih]
  ·rw [if_neg hx]; rfl
theorem X6f {b : List UInt8} (h : UV b = true) : (Y8 b).length < b.length := by
 unfold UV Y8 at *
 induction b with
 | nil => simp at h
 | cons x r ih =>
  rw [List.takeWhile_cons]
  by_cases hx : (x != 0) = true
  ·rw [if_pos hx, List.length_cons, List.length_cons]
   have h1 : (x == 0) = false := by simpa using hx
   rw [List.any_cons, h1, Bool.false_or] at h
   have := ih h
   omega
  ·rw [if_neg hx]; simp
end Go.Fw
