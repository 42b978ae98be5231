/- The log's range: size, checks, room. -/
import Derived.KernelRfl
import Derived.Test.YtpfldfkhgplcgaaGreatDoorM26
set_option maxHeartbeats 16000000
namespace Go.Fw
open Go Go.Proofs
set_option maxRecDepth 100000
set_option linter.unusedVariables false
set_option linter.unusedSimpArgs false
theorem X5p (f t : Int) (h1 : 0 ≤ f) (h2 : f < t) (h3 : t ≤ 4096) : Con Tryz.prog 40 [] [.agg [ai f, ai t]] [] (ai ((t - f) * 64)) := by
 refine Xa (xs := [ai ((t - f) * 64)]) Tryz.func40 rfl Tryz.ntmps40 rfl rfl rfl (fun E => ?_)
 refine QJa ?_; refine QHa ?_; refine ZR ?_; refine Z0f ?_; refine Qc ?_
 (show AWP Tryz.prog E _ _ _; refine X1 ?_; exact (show Xn _ _ _ _ _ from ⟨_, St.le_refl _, ⟨rfl, trivial⟩, X3 _⟩))
theorem X68 (d : Disk) (f t ep tail : Int) : Con Tryz.prog 34 [] [.agg [ai f, ai t], XK d, ai ep, ai tail] [] (ai (XI d f t ep tail)) := by
 refine Xa (xs := [ai (XI d f t ep tail)]) Tryz.func34 rfl Tryz.ntmps34 rfl rfl rfl (fun E => ?_)
 have hv := X1a d
 by_cases q1 : Yp d = false
 ·have e : XI d f t ep tail = 1 := by unfold XI; rw [if_pos q1]
  rw [e]
  rw [q1] at hv
  obtain ⟨secs, pend, on⟩ := d
  refine Qnc ?_; refine Qe ?_; refine Qqc ?_; refine Qza ?_; refine QFb ?_
  (show AWP Tryz.prog E _ _ _; refine X1 ?_; exact (show Xn _ _ _ _ _ from ⟨_, St.le_refl _, ⟨rfl, trivial⟩, X3 _⟩))
 have q1' : Yp d = true := by simpa using q1
 rw [q1'] at hv
 have hsl := (X0E q1').2.1
 by_cases q2 : d.on = false
 ·have e : XI d f t ep tail = 22 := by unfold XI; rw [if_neg q1, if_pos q2]
  rw [e]
  obtain ⟨secs, pend, on⟩ := d
  simp only at q2
  subst q2
  refine Qnc ?_; refine Qe ?_; refine Qqc ?_; refine Qee ?_; refine Qza ?_; refine QFb ?_
  (show AWP Tryz.prog E _ _ _; refine X1 ?_; exact (show Xn _ _ _ _ _ from ⟨_, St.le_refl _, ⟨rfl, trivial⟩, X3 _⟩))
 have hm : (d.sectors.map Yj).length = d.sectors.length := by simp
 have e3 : f < 0 ∨ t ≤ f ∨ (d.sectors.length : Int) < t → XI d f t ep tail = 1 := fun h => by unfold XI; rw [if_neg q1, if_neg q2, if_pos h]
 have e4 : ¬ (f < 0 ∨ t ≤ f ∨ (d.sectors.length : Int) < t) → ep < 0 ∨ 1000000000000000 < ep ∨ tail < 0 ∨ (t - f) * 64 < tail → XI d f t ep tail = 1 := fun h h' => by unfold XI; rw [if_neg q1, if_neg q2, if_neg h, if_pos h']
 have e5 : ¬ (f < 0 ∨ t ≤ f ∨ (d.sectors.length : Int) < t) → ¬ (ep < 0 ∨ 1000000000000000 < ep ∨ tail < 0 ∨ (t - f) * 64 < tail) → XI d f t ep tail = 0 := fun h h' => by unfold XI; rw [if_neg q1, if_neg q2, if_neg h, if_neg h']
 generalize XI d f t ep tail = r at *
 obtain ⟨secs, pend, on⟩ := d
 obtain rfl : on = true := by simpa using q2
 simp only at hm hsl e3 e4 e5
 clear q1 q2 q1'
 by_cases a1 : f < 0
 ·obtain rfl := e3 (.inl a1)
  clear e3 e4 e5
  refine Qnc ?_; refine Qe ?_; refine Qqc ?_; refine Qee ?_; refine Qee ?_; refine Z8 ?_; refine Qca ?_; refine QS ?_; refine QMa ?_; refine Qsa ?_; refine QFb ?_
  (show AWP Tryz.prog E _ _ _; refine X1 ?_; exact (show Xn _ _ _ _ _ from ⟨_, St.le_refl _, ⟨rfl, trivial⟩, X3 _⟩))
 by_cases a2 : t ≤ f
 ·obtain rfl := e3 (.inr (.inl a2))
  clear e3 e4 e5
  refine Qnc ?_; refine Qe ?_; refine Qqc ?_; refine Qee ?_; refine Qee ?_; refine Z8 ?_; refine QKa ?_; refine QHa ?_; refine Z2 ?_; refine Zq ?_; refine QMa ?_; refine Qsa ?_; refine QFb ?_
  (show AWP Tryz.prog E _ _ _; refine X1 ?_; exact (show Xn _ _ _ _ _ from ⟨_, St.le_refl _, ⟨rfl, trivial⟩, X3 _⟩))
 by_cases a3 : (secs.length : Int) < t
 ·obtain rfl := e3 (.inr (.inr a3))
  have a3' : ((secs.map Yj).length : Int) < t := by omega
  clear e3 e4 e5
  refine Que ?_; refine QU ?_; refine QFb ?_
  (show AWP Tryz.prog E _ _ _; refine X1 ?_; exact (show Xn _ _ _ _ _ from ⟨_, St.le_refl _, ⟨rfl, trivial⟩, X3 _⟩))
 have a3' : ¬ ((secs.map Yj).length : Int) < t := by omega
 have hz := X5p f t (by omega) (by omega) (by omega)
 have e4 := e4 (by omega)
 have e5 := e5 (by omega)
 clear e3
 by_cases b1 : ep < 0
 ·obtain rfl := e4 (.inl b1)
  clear e4 e5
  refine Que ?_; refine QYb ?_; refine Qf ?_; refine Z8 ?_; refine QIb ?_; refine QIb ?_; refine Qca ?_; refine Qsa ?_; refine QFb ?_
  (show AWP Tryz.prog E _ _ _; refine X1 ?_; exact (show Xn _ _ _ _ _ from ⟨_, St.le_refl _, ⟨rfl, trivial⟩, X3 _⟩))
 by_cases b2 : 1000000000000000 < ep
 ·obtain rfl := e4 (.inr (.inl b2))
  clear e4 e5
  refine Qve ?_; refine Qba ?_; refine QIb ?_; refine Qca ?_; refine Qsa ?_; refine QFb ?_
  (show AWP Tryz.prog E _ _ _; refine X1 ?_; exact (show Xn _ _ _ _ _ from ⟨_, St.le_refl _, ⟨rfl, trivial⟩, X3 _⟩))
 by_cases b3 : tail < 0
 ·obtain rfl := e4 (.inr (.inr (.inl b3)))
  clear e4 e5
  refine Qve ?_; refine Qfa ?_; refine Z8 ?_; refine Zq ?_; refine Qca ?_; refine Qsa ?_; refine QFb ?_
  (show AWP Tryz.prog E _ _ _; refine X1 ?_; exact (show Xn _ _ _ _ _ from ⟨_, St.le_refl _, ⟨rfl, trivial⟩, X3 _⟩))
 by_cases b4 : (t - f) * 64 < tail
 ·obtain rfl := e4 (.inr (.inr (.inr b4)))
  clear e4 e5
  refine Qve ?_; refine Qwe ?_; refine Zs ?_; refine QU ?_; refine QFb ?_
  (show AWP Tryz.prog E _ _ _; refine X1 ?_; exact (show Xn _ _ _ _ _ from ⟨_, St.le_refl _, ⟨rfl, trivial⟩, X3 _⟩))
 obtain rfl := e5 (by omega)
 clear e4 e5
 refine Qve ?_; refine Qwe ?_; refine Zs ?_; refine QYb ?_; refine QKc ?_
 (show AWP Tryz.prog E _ _ _; refine X1 ?_; exact (show Xn _ _ _ _ _ from ⟨_, St.le_refl _, ⟨rfl, trivial⟩, X3 _⟩))
theorem X8P (f t tail : Int) : Con Tryz.prog 14 [] [ai f, ai t, ai tail] [] (ai (X1x f t tail)) := by
 refine Xa (xs := [ai (X1x f t tail)]) Tryz.func14 rfl Tryz.ntmps14 rfl rfl rfl (fun E => ?_)
 have e1 : f < 0 ∨ t ≤ f ∨ 4096 < t ∨ tail < 0 ∨ (t - f) * 64 < tail → X1x f t tail = 0 := fun h => if_pos h
 have e2 : ¬ (f < 0 ∨ t ≤ f ∨ 4096 < t ∨ tail < 0 ∨ (t - f) * 64 < tail) → X1x f t tail = (t - f) * 64 - tail := fun h => if_neg h
 generalize X1x f t tail = r at *
 by_cases a1 : f < 0
 ·obtain rfl := e1 (.inl a1)
  refine Qxe ?_; refine QOb ?_; refine QQa ?_; refine QIb ?_; refine QIb ?_; refine Qda ?_; refine Qq ?_
  (show AWP Tryz.prog E _ _ _; refine X1 ?_; exact (show Xn _ _ _ _ _ from ⟨_, St.le_refl _, ⟨rfl, trivial⟩, X3 _⟩))
 by_cases a2 : t ≤ f
 ·obtain rfl := e1 (.inr (.inl a2))
  refine Qxe ?_; refine QOb ?_; refine QCa ?_; refine Z2 ?_; refine Zq ?_; refine QIb ?_; refine QIb ?_; refine Qda ?_; refine Qq ?_
  (show AWP Tryz.prog E _ _ _; refine X1 ?_; exact (show Xn _ _ _ _ _ from ⟨_, St.le_refl _, ⟨rfl, trivial⟩, X3 _⟩))
 by_cases a3 : 4096 < t
 ·obtain rfl := e1 (.inr (.inr (.inl a3)))
  refine Qye ?_; refine Qba ?_; refine QIb ?_; refine Qda ?_; refine Qq ?_
  (show AWP Tryz.prog E _ _ _; refine X1 ?_; exact (show Xn _ _ _ _ _ from ⟨_, St.le_refl _, ⟨rfl, trivial⟩, X3 _⟩))
 by_cases a4 : tail < 0
 ·obtain rfl := e1 (.inr (.inr (.inr (.inl a4))))
  refine Qye ?_; refine Qfa ?_; refine Z8 ?_; refine Zq ?_; refine Qda ?_; refine Qq ?_
  (show AWP Tryz.prog E _ _ _; refine X1 ?_; exact (show Xn _ _ _ _ _ from ⟨_, St.le_refl _, ⟨rfl, trivial⟩, X3 _⟩))
 have hz := X5p f t (by omega) (by omega) (by omega)
 by_cases a5 : (t - f) * 64 < tail
 ·obtain rfl := e1 (.inr (.inr (.inr (.inr a5))))
  clear e1 e2
  refine Qye ?_; refine Qwe ?_; refine Qba ?_; refine Qq ?_
  (show AWP Tryz.prog E _ _ _; refine X1 ?_; exact (show Xn _ _ _ _ _ from ⟨_, St.le_refl _, ⟨rfl, trivial⟩, X3 _⟩))
 obtain rfl := e2 (by omega)
 clear e1 e2
 refine Qye ?_; refine Qwe ?_; refine Zs ?_; refine Qha ?_; refine Qgb ?_; refine Z9 (hcon := hz) ?_; refine Z1 ?_; refine ZR ?_; refine Qc ?_
 (show AWP Tryz.prog E _ _ _; refine X1 ?_; exact (show Xn _ _ _ _ _ from ⟨_, St.le_refl _, ⟨rfl, trivial⟩, X3 _⟩))
abbrev YW (d : Disk) : Prop := d.sectors.length ≤ 2000 ∧ d.pending.length ≤ 2000
theorem X4z {d : Disk} (h : Yp d = true) (hf : YW d) : UE d := X1t h (by have := hf.2; omega)
theorem Xar (d : Disk) (f t : Int) (hd : DOk d) (hf : YW d) (h1 : 0 ≤ f) (h2 : f ≤ t) (h3 : t ≤ d.sectors.length) : Con Tryz.prog 46 [] [.agg [ai f, ai t], XK d] [] (.d (Xf (Xz d f t))) := by
 refine Xa (xs := [.d (Xf (Xz d f t))]) Tryz.func46 rfl Tryz.ntmps46 rfl rfl rfl (fun E => ?_)
 obtain ⟨F, rfl⟩ : ∃ F : Nat, f = F := ⟨f.toNat, by omega⟩
 obtain ⟨N, rfl⟩ : ∃ N : Nat, t = ((F + N : Nat) : Int) := ⟨(t - F).toNat, by omega⟩
 have hS : Xz d (F : Nat) ((F + N : Nat) : Int) = Yd d F N := by
  unfold Xz
  rw [Int.toNat_natCast, show (((F + N : Nat) : Int) - (F : Nat)).toNat = N by omega]
 rw [hS]
 have hr := fun a => X8X d a (X4z hd.v hf)
 have hlen := fun i (hi : i ≤ N) => VW hd i F (by omega)
 have hmore := X7p d
 have hl1 := fun i (hi : i < N) => X3L hd (a := F + i) (by omega)
 have hsl := hf.1
 clear hS hf hd
 obtain ⟨secs, pend, on⟩ := d
 generalize hB : Yd ⟨secs, pend, on⟩ F = B at *
 refine Qnc ?_; refine Qd ?_; refine Qzb ?_; refine Qc ?_; refine X5 ?_; refine Xi (UM 5 130 1 rfl rfl rfl) ?_
 refine Xu (fun i : Nat => i ≤ N) (fun i => ⟨27, [(2, .ptr 100 0), (3, .ptr 101 0), (5, .own 130 ((B i).map X6).length), (6, ai ((F + i : Nat) : Int))], [(100, .box [ai (F : Nat), ai ((F + N : Nat) : Int)]), (101, .box [.d (XE secs), .d (XA pend), ab on]), (130, .row 1 ((B i).map X6))]⟩) (fun i => N - i) 0 (Nat.zero_le _)
  (X9 rfl ⟨JL, JL, (by rw [← hB]; exact AVal.le_refl _), JL, trivial⟩ ⟨rfl, rfl, (by rw [← hB]; rfl), trivial⟩) ?_
 intro i hi
 have hbl := hlen i hi
 have hroom : ((B i).map X6).length ≤ 1000000 := by rw [List.length_map]; omega
 by_cases hil : i < N
 case neg =>
  obtain rfl : i = N := by omega
  have hn : ¬ ((F + i : Nat) : Int) < ((F + i : Nat) : Int) := by omega
  refine Qg ?_; refine QHa ?_; refine Z8 ?_; refine Qm ?_; refine Qz ?_; refine QQd ?_; refine Xi (Yc 4 130 rfl rfl rfl) ?_
  (show AWP Tryz.prog E _ _ _; refine X1 ?_; exact (show Xn _ _ _ _ _ from ⟨_, St.le_refl _, ⟨rfl, trivial⟩, X3 _⟩))
 have hn : ((F + i : Nat) : Int) < ((F + N : Nat) : Int) := by omega
 have hr1 := hr ((F + i : Nat) : Int)
 have hst : B (i + 1) = B i ++ (Yn ⟨secs, pend, on⟩ ((F + i : Nat) : Int)).1 := by rw [← hB]; exact hmore i F
 have hrl := hl1 i hil
 generalize (Yn ⟨secs, pend, on⟩ ((F + i : Nat) : Int)).1 = R at *
 generalize (Yn ⟨secs, pend, on⟩ ((F + i : Nat) : Int)).2 = R2 at *
 have hrm : (R.map X6).length ≤ 64 := by rw [List.length_map]; omega
 clear hr hmore hlen hl1 hB
 refine Qg ?_; refine QHa ?_; refine Z8 ?_; refine Qlb ?_; refine Qgb ?_; refine Z1 ?_; refine Z9 (hcon := hr1) ?_; refine Qbc ?_; refine QAa ?_; refine Qgc ?_; refine Qj ?_; refine Qnb ?_
 refine ⟨i + 1, hil, by omega, ?_⟩
 dsimp only
 rw [hst, List.map_append]
 exact X9 rfl ⟨JL, JL, AVal.le_of_eq (by refine Eq.trans (b := AVal.own 130 (_ + _)) rfl ?_; simp only [List.length_append, List.length_map]), JL, trivial⟩ ⟨rfl, rfl, rfl, trivial⟩
theorem X9y (d : Disk) (f t : Int) (hf : YW d) : Con Tryz.prog 11 [] [XK d, ai f, ai t] [] (X1A (XK (Yu d f t).1) (Yu d f t).2) := by
 refine Xa (xs := [XK (Yu d f t).1, ai (Yu d f t).2]) Tryz.func11 rfl Tryz.ntmps11 rfl rfl rfl (fun E => ?_)
 have hc := X68 d f t 0 0
 by_cases he : XI d f t 0 0 = 0
 case neg =>
  have e : Yu d f t = (Y8, XI d f t 0 0) := by unfold Yu; rw [if_pos he]
  rw [e]
  generalize XI d f t 0 0 = r at *
  clear hf
  obtain ⟨secs, pend, on⟩ := d
  refine QFa ?_; refine Qrc ?_; refine Qc ?_; refine Qi ?_; refine Zx ?_; refine QWd ?_; refine Qkc ?_; refine ZL ?_; refine Z9 (hcon := hc) ?_; exact Qne
 have e : Yu d f t = ((Yv (XH d f.toNat (List.replicate (t - f).toNat Uc))).1, 0) := by unfold Yu; rw [if_neg (by rw [he]; simp)]
 rw [e]
 clear e
 rw [he] at hc
 obtain ⟨hd, h1, h2, h3, _⟩ := X1u he
 clear he
 obtain ⟨F, rfl⟩ : ∃ F : Nat, f = F := ⟨f.toNat, by omega⟩
 obtain ⟨N, rfl⟩ : ∃ N : Nat, t = ((F + N : Nat) : Int) := ⟨(t - F).toNat, by omega⟩
 rw [Int.toNat_natCast, show (((F + N : Nat) : Int) - (F : Nat)).toNat = N by omega]
 obtain ⟨D, hD⟩ : ∃ D : Nat → Disk, ∀ i, XH d F (List.replicate i Uc) = D i := ⟨_, fun _ => rfl⟩
 have hD0 : d = D 0 := hD 0
 have hDs : ∀ i, D (i + 1) = Uq (D i) (F + i) Uc := fun i => by rw [← hD, ← hD]; exact XcO Uc d F i
 have hok : ∀ i, i ≤ N → DOk (D i) ∧ (D i).sectors.length = d.sectors.length ∧ (D i).pending.length ≤ 4096 := fun i hi => by
  rw [← hD]
  obtain ⟨k1, k2, k3⟩ := X0n (List.replicate i Uc) d F
  refine ⟨X0N _ d F hd (by rw [List.length_replicate]; omega) fun c hcm => ?_, by rw [k1], ?_⟩
  ·rw [List.eq_of_mem_replicate hcm]; rfl
  ·rw [k3, List.length_replicate]; have := hf.1; have := hf.2; omega
 rw [hD]
 clear hD hd
 have hsl : d.sectors.length ≤ 2000 := hf.1
 subst hD0
 clear hf
 refine QFa ?_; refine Qrc ?_; refine Qc ?_; refine Qi ?_; refine Zx ?_; refine QWd ?_; refine Qkc ?_; refine ZL ?_; refine Z9 (hcon := hc) ?_; refine QOd ?_; refine Qzb ?_; refine Qc ?_; refine X5 ?_
 clear hc
 refine Xu (fun i : Nat => i ≤ N) (fun i => ⟨42, [(3, .ptr 100 0), (6, .ptr 101 0), (8, .ptr 102 0), (10, ai ((F + i : Nat) : Int))], [(100, .box [.d (XE (D i).sectors), .d (XA (D i).pending), ab (D i).on]), (101, .box [ani, ani, ab false]), (102, .box [ai (F : Nat), ai ((F + N : Nat) : Int)])]⟩) (fun i => N - i) 0 (Nat.zero_le _)
  (X9 rfl JM ⟨rfl, rfl, rfl, trivial⟩) ?_
 intro i hi
 obtain ⟨o1, o2, o3⟩ := hok i hi
 by_cases hil : i < N
 case neg =>
  obtain rfl : i = N := by omega
  have hn : ¬ ((F + i : Nat) : Int) < ((F + i : Nat) : Int) := by omega
  have hs := X60 (D i) (X1t o1.v o3)
  generalize (Yv (D i)).1 = X at *
  generalize (Yv (D i)).2 = X2 at *
  clear hok hDs o1 o2 o3
  obtain ⟨xs, xp, xo⟩ := X
  refine Qg ?_; refine QHa ?_; refine Z8 ?_; refine Qm ?_; refine Qgb ?_; refine Z9 (hcon := hs) ?_; refine Qbc ?_; refine QWa ?_; refine Qgb ?_; refine Qna ?_
  (show AWP Tryz.prog E _ _ _; refine X1 ?_; exact (show Xn _ _ _ _ _ from ⟨_, St.le_refl _, ⟨⟨101, 0, _, rfl, rfl, .inr ⟨3, _, rfl, rfl, rfl, rfl⟩⟩, rfl, trivial⟩, X3 _⟩))
 have hn : ((F + i : Nat) : Int) < ((F + N : Nat) : Int) := by omega
 have hw := X9j (D i) ((F + i : Nat) : Int) Uc (X1t o1.v o3) (by decide)
 rw [Xai o1 (by omega) (by decide), ← hDs] at hw
 clear hok hDs o1 o2 o3
 refine Qg ?_; refine QHa ?_; refine Z8 ?_; refine Qlb ?_; refine JR ?_; refine ZL ?_; refine Z1 ?_; refine ZS ?_; refine Z9 (hcon := hw) ?_; refine Qbc ?_; refine QWa ?_; refine Qnb ?_; exact ⟨i + 1, hil, by omega, X9 rfl JM ⟨rfl, rfl, rfl, trivial⟩⟩
theorem UT : Tryz.prog.cellsOf 3 = 1 := by kernel_rfl
theorem X2l : Tryz.prog.cellsOf 9 = 1 := by kernel_rfl
theorem XhK : Tryz.prog.cellsOf 90 = 1 := by kernel_rfl
theorem X5q : Tryz.prog.cellsOf 92 = 5 := by kernel_rfl
theorem X9o : Tryz.prog.cellsOf 94 = 10 := by kernel_rfl
theorem XbJ : Tryz.prog.cellsOf 56 = 6 := by kernel_rfl
def Xg7 (r : Rul) : List D := [.v (.int .i64 r.kind), .v (.int .i64 r.n), .v (.string (X7 r.name)), .v (.string (X7 r.key)), .v (.string (X7 r.src)), .v (.string (X7 r.dst))]
section
variable {H : Type} {enc : TypeId × Value → H} {W : World}
theorem X80 : ∀ n, OpensN enc Tryz.prog W n 92 YD V5
 | 0 => ⟨fun cs x hx => by simp [DataW.trod] at hx⟩
 | n + 1 =>
  (XcD Tryz.underlying92 X5q (fun m hm =>
   X3r rfl UT ((US Tryz.underlying3).at m) (X3r rfl UT ((US Tryz.underlying3).at m) (X3r rfl UT ((US Tryz.underlying3).at m)
    (X3r rfl X2l ((X2W Tryz.underlying9).at m)
     (X3r rfl XhK (X93 (p := YD) (f := V5) Tryz.underlying90 X5q (by decide) (fun m' hm' => X80 m')) XcK)))))).to
   (fun r => .mk r.1 r.2.1 r.2.2.1 r.2.2.2.1 r.2.2.2.2.1) fun r h => ⟨by rw [YD]; exact ⟨h.2.2.2.1, h.2.2.2.2.1.2, X7r h.2.2.2.2.1.1⟩, by rw [V5, X25]; rfl⟩
termination_by n => n
decreasing_by omega
theorem XgS : Opens enc Tryz.prog W 92 YD V5 := X8z X80
theorem Xey : Opens enc Tryz.prog W 94 X3C XT :=
 (X4r Tryz.underlying94 X9o
  (V8 rfl UT (US Tryz.underlying3) (V8 rfl UT (US Tryz.underlying3) (V8 rfl UT (US Tryz.underlying3) (V8 rfl UT (US Tryz.underlying3)
   (V8 rfl X2l (X2W Tryz.underlying9) (V8 rfl X5q XgS X4a))))))).to
  (fun r => ⟨r.1, r.2.1, r.2.2.1, r.2.2.2.1, r.2.2.2.2.1, r.2.2.2.2.2.1⟩) fun r h => ⟨⟨h.2.2.2.2.1, h.2.2.2.2.2.1⟩, by
   obtain ⟨op, id, src, dst, name, v, u⟩ := r
   cases v
   rfl⟩
theorem Xfo : Opens enc Tryz.prog W 56 (fun _ : Rul => True) Xg7 :=
 (X4r Tryz.underlying56 XbJ
  (V8 rfl UT (US Tryz.underlying3) (V8 rfl UT (US Tryz.underlying3)
   (V8 rfl X2l (X2W Tryz.underlying9) (V8 rfl X2l (X2W Tryz.underlying9) (V8 rfl X2l (X2W Tryz.underlying9) (V8 rfl X2l (X2W Tryz.underlying9) X4a))))))).to
  (fun r => ⟨r.1, r.2.1, r.2.2.1, r.2.2.2.1, r.2.2.2.2.1, r.2.2.2.2.2.1⟩) fun r h => ⟨trivial, rfl⟩
end
theorem Xd0 : Tryz.prog.cellsOf 54 = 1 := by kernel_rfl
theorem X8c : Tryz.prog.cellsOf 4 = 1 := by kernel_rfl
theorem Xbv : Tryz.prog.cellsOf 58 = 10 := by kernel_rfl
def Xq (r : Rcd) : List D := [.v (.int .i64 r.kind), .v (.int .i64 r.ts), .sl 10 (r.changes.map XT), .v (.int .i64 r.rule.kind), .v (.int .i64 r.rule.n), .v (.string (X7 r.rule.name)), .v (.string (X7 r.rule.key)), .v (.string (X7 r.rule.src)), .v (.string (X7 r.rule.dst)), .v (.bool r.off)]
def Ux (r : Rcd) : Prop := Vx r ∧ (U7 r).length ≤ 60000
theorem X2d {n : Int} (h1 : 0 ≤ n) (h2 : n ≤ 9223372036854775807) : (Xh n).length ≤ 10 := by
 rw [Vl h1]; exact Vo (by omega)
theorem X2s {ep : Int} {r : Rcd} (h1 : 0 ≤ ep) (h2 : ep ≤ 1000000000000000) (hr : (U7 r).length ≤ 60000) : (Y4 ep r).length ≤ 60010 := by
 unfold Y4
 rw [List.length_append]
 have := X2d h1 (by omega)
 omega
theorem X6C {b : List UInt8} (h : b.length ≤ 65536) : (XD b).length ≤ b.length + 14 := by
 unfold XD
 rw [List.length_append, List.length_append, X06]
 have := X2d (n := (b.length : Int)) (by omega) (by omega)
 omega
theorem X7l {ep : Int} {r : Rcd} (h1 : 0 ≤ ep) (h2 : ep ≤ 1000000000000000) (hr : (U7 r).length ≤ 60000) : (Yi ep r).length ≤ 130000 := by
 unfold Yi
 have h3 := X2s h1 h2 hr
 have h4 := X6C (b := Y4 ep r) (by omega)
 have h5 := X3H (XD (Y4 ep r))
 rw [List.length_append, List.length_singleton]
 omega
theorem X37 {ep : Int} (h1 : 0 ≤ ep) (h2 : ep ≤ 1000000000000000) : ∀ l : List Rcd, (∀ r ∈ l, (U7 r).length ≤ 60000) → (Xg ep l).length ≤ 130000 * l.length
 | [], _ => by simp [Xg]
 | r :: l, h => by
  have a := X7l h1 h2 (h r (by simp))
  have b := X37 h1 h2 l fun x hx => h x (by simp [hx])
  rw [Xg, List.length_append, List.length_cons]
  omega
theorem X7A {x : UInt8} (h : x.toNat ≤ 1) : n8 (x.toNat + 1) = n8 (x + 1).toNat := by
 have : (x + 1).toNat = x.toNat + 1 := by rw [UInt8.toNat_add]; simp; omega
 rw [this]
theorem XfK (ep : Int) (r : Rcd) (h1 : 0 ≤ ep) (h2 : ep ≤ 1000000000000000) (hr : Ux r) : Con Tryz.prog 66 [] [ai ep, Yz r] [] (.d (Xf (Yi ep r))) := by
 refine Xa (xs := [.d (Xf (Yi ep r))]) Tryz.func66 rfl Tryz.ntmps66 rfl rfl rfl (fun E => ?_)
 have c1 := X8C ep (by omega)
 have c2 := Xha r hr.1
 have hbl := X2s h1 h2 hr.2
 have c3 := XgV (Y4 ep r) (by omega)
 have hul := X2d h1 (by omega)
 have hrl := hr.2
 have hfl := X6C (b := Y4 ep r) (by omega)
 have hfin : Xf (Yi ep r) = .sl 1 ((XC (XD (Y4 ep r))).map X6 ++ [[.v (.int .u8 0)]]) := by unfold Yi Xf; rw [List.map_append]; rfl
 rw [hfin]
 unfold Y4 at *
 generalize U7 r = R at *
 generalize Xh ep = U at *
 have hlm1 : (U.map X6).length = U.length := by simp
 have hlm2 : (R.map X6).length = R.length := by simp
 generalize hF : XD (U ++ R) = F at *
 have hlF : (F.map X6).length = F.length := by simp
 clear hr hfin hF
 obtain ⟨kd, ts, l, ⟨k, n, name, key, src, dst⟩, off⟩ := r
 simp only [Yz] at *
 refine QGa ?_; refine Qo ?_; refine Qoc ?_; refine ZL ?_; refine Z9 (hcon := c2) ?_; refine Z0g (γ := 130) ?_; refine Z9 (hcon := c3) ?_; refine QA ?_
 clear c1 c2 c3
 refine Xi (UM 5 131 1 rfl rfl rfl) ?_
 refine Xu (fun i : Nat => i ≤ F.length) (fun i => ⟨34, [(5, .own 131 ((XC (F.take i)).map X6).length), (13, .d (Xf F)), (14, ai (F.map X6).length), (15, ai i)], [(131, .row 1 ((XC (F.take i)).map X6))]⟩) (fun i => F.length - i) 0 (Nat.zero_le _)
  (X9 rfl JM ⟨rfl, trivial⟩) ?_
 intro i hi
 have hel := X3H (F.take i)
 rw [List.length_take] at hel
 have hroom : ((XC (F.take i)).map X6).length ≤ 130048 := by rw [List.length_map]; omega
 by_cases hil : i < F.length
 case neg =>
  obtain rfl : i = F.length := by omega
  have hn : ¬ ((F.length : Nat) : Int) < (F.map X6).length := by omega
  rw [List.take_length] at hroom ⊢
  refine QM ?_; refine Qf ?_; refine Qk ?_; refine Xi (XL 131 rfl) ?_; refine Xi (Yc 4 131 rfl rfl (by simp)) ?_
  (show AWP Tryz.prog E _ _ _; refine X1 ?_; exact (show Xn _ _ _ _ _ from ⟨_, St.le_refl _, ⟨rfl, trivial⟩, X3 _⟩))
 have hn : (i : Int) < (F.map X6).length := by omega
 obtain ⟨x, hx⟩ := Xx (l := F) hil
 have hxc : (F.map X6)[i]? = some (X6 x) := YR hx
 have hst := X8y hx
 by_cases hx1 : x.toNat ≤ 1
 ·have hx1' : (x.toNat : Int) ≤ 1 := by omega
  have hxe := X7A hx1
  have hst2 : (XC (F.take (i + 1))).map X6 = (XC (F.take i)).map X6 ++ [[.v (.int .u8 1)], X6 (x + 1)] := by rw [hst]; unfold VZ; rw [if_pos hx1, List.map_append]; rfl
  clear hx hst hel
  refine QD ?_; refine QE ?_; refine Qx ?_; refine Zm ?_; refine Qh ?_; refine Qgc ?_; refine Z4 (op := .add) (r' := n8 (x + 1).toNat) (u := n8 x.toNat) (v := n8 1) ?_ (hr' := by exact hxe) (hr := by exact Ul (by rw [YK]; omega)); refine Qk ?_; refine QK ?_
  refine ⟨i + 1, hil, by omega, ?_⟩
  dsimp only
  rw [hst2]
  exact Qze
 ·have hx1' : ¬ (x.toNat : Int) ≤ 1 := by omega
  have hst2 : (XC (F.take (i + 1))).map X6 = (XC (F.take i)).map X6 ++ [X6 x] := by rw [hst]; unfold VZ; rw [if_neg hx1, List.map_append]; rfl
  clear hx hst hel
  refine QD ?_; refine QE ?_; refine Qx ?_; refine Zm ?_; refine JD ?_; refine JF ?_; refine Qgc ?_; refine Qk ?_; refine QK ?_
  refine ⟨i + 1, hil, by omega, ?_⟩
  dsimp only
  rw [hst2]
  exact Qze
theorem X9m (ep : Int) (l : List Rcd) (h1 : 0 ≤ ep) (h2 : ep ≤ 1000000000000000) (hr : ∀ r ∈ l, Ux r) (hl : l.length ≤ 1000) : Con Tryz.prog 44 [] [ai ep, .d (.sl 10 (l.map Xq))] [] (.tup [.d (Xf (UY ep l)), ai (Y2 l)]) := by
 refine Xa (xs := [.d (Xf (UY ep l)), ai (Y2 l)]) Tryz.func44 rfl Tryz.ntmps44 rfl rfl rfl (fun E => ?_)
 have hlm : (l.map Xq).length = l.length := by simp
 have e1 : Y2 l ≠ 0 → UY ep l = [] := fun h => if_pos h
 have e2 : Y2 l = 0 → UY ep l = Xg ep l := fun h => if_neg (by rw [h]; simp)
 generalize hR : Y2 l = R at *
 generalize UY ep l = P at *
 refine Qb ?_; refine QAa ?_; refine Qo ?_; refine QA ?_; refine Xi (UM 6 130 1 rfl rfl rfl) ?_
 refine Xu (fun i : Nat => i ≤ l.length ∧ Y2 (l.drop i) = R) (fun i => ⟨28, [(0, ai ep), (6, .own 130 ((Xg ep (l.take i)).map X6).length), (10, .d (.sl 10 (l.map Xq))), (11, ai (l.map Xq).length), (12, ai i)], [(130, .row 1 ((Xg ep (l.take i)).map X6))]⟩) (fun i => l.length - i) 0 ⟨Nat.zero_le _, by simpa using hR⟩
  (X9 rfl JM ⟨rfl, trivial⟩) ?_
 rintro i ⟨hi, hg⟩
 have hel := X37 h1 h2 (l.take i) fun x hx => (hr x (List.mem_of_mem_take hx)).2
 rw [List.length_take] at hel
 have hroom : ((Xg ep (l.take i)).map X6).length ≤ 130000000 := by rw [List.length_map]; omega
 by_cases hil : i < l.length
 case neg =>
  obtain rfl : i = l.length := by omega
  have hn : ¬ ((l.length : Nat) : Int) < (l.map Xq).length := by omega
  rw [List.drop_length] at hg
  obtain rfl : 0 = R := hg
  obtain rfl := e2 rfl
  rw [List.take_length] at hroom ⊢
  clear e1 e2
  refine QM ?_; refine Qf ?_; refine QAa ?_; refine QQd ?_; refine Xi (Yc 4 130 rfl rfl rfl) ?_
  (show AWP Tryz.prog E _ _ _; refine X1 ?_; exact (show Xn _ _ _ _ _ from ⟨_, St.le_refl _, ⟨rfl, rfl, trivial⟩, X3 _⟩))
 have hn : (i : Int) < (l.map Xq).length := by omega
 obtain ⟨x, hx⟩ := Xx (l := l) hil
 have hxc : (l.map Xq)[i]? = some (Xq x) := YR hx
 have hw := hr x (List.mem_of_getElem? hx)
 rw [Xa6 hx] at hg
 have c1 := X76 x hw.1
 have c2 := XfK ep x h1 h2 hw
 have hst := XaW (ep := ep) hx
 have hyl := X7l h1 h2 hw.2
 have hst2 : (Xg ep (l.take (i + 1))).map X6 = (Xg ep (l.take i)).map X6 ++ (Yi ep x).map X6 := by rw [hst, List.map_append]
 have hym : ((Yi ep x).map X6).length ≤ 130000 := by rw [List.length_map]; exact hyl
 generalize Yi ep x = Y at *
 generalize Yy x = re at *
 clear hx hr hst hw hel
 obtain ⟨kd, ts, cl, ⟨k, n, name, key, src, dst⟩, off⟩ := x
 simp only [Yz, Xq] at *
 by_cases hre : re = 0
 case neg =>
  rw [if_pos hre] at hg
  subst hg
  obtain rfl := e1 hre
  clear e1 e2 c2
  refine Qfb ?_; refine Qkc ?_; refine Qoc ?_; refine Qx ?_; refine Qte ?_; refine QAa ?_
  (show AWP Tryz.prog E _ _ _; refine X1 ?_; exact (show Xn _ _ _ _ _ from ⟨_, Xb 4 (AVal.le_nil 1), ⟨rfl, rfl, trivial⟩, X3 _⟩))
 rw [if_neg (by simpa using hre)] at hg
 subst hre
 clear e1 e2
 refine Qfb ?_; refine Qkc ?_; refine Qoc ?_; refine QOd ?_; refine Qgc ?_; refine ZL ?_; refine Z9 (hcon := c2) ?_; refine Qj ?_; refine QK ?_
 refine ⟨i + 1, ⟨hil, hg⟩, by omega, ?_⟩
 dsimp only
 rw [hst2]
 exact X9 rfl ⟨JL, AVal.le_of_eq (by refine Eq.trans (b := AVal.own 130 (_ + _)) rfl ?_; simp only [List.length_append, List.length_map]), JL, JL, JL, trivial⟩ ⟨rfl, trivial⟩
theorem X3U (ep : Int) (l : List Rcd) (hr : ∀ r ∈ l, Ux r) (hl : l.length ≤ 1000) : Con Tryz.prog 21 [] [ai ep, .d (.sl 10 (l.map Xq))] [] (ai (VC ep l)) := by
 refine Xa (xs := [ai (VC ep l)]) Tryz.func21 rfl Tryz.ntmps21 rfl rfl rfl (fun E => ?_)
 have e1 : ep < 0 ∨ 1000000000000000 < ep → VC ep l = 0 := fun h => if_pos h
 have e2 : ¬ (ep < 0 ∨ 1000000000000000 < ep) → VC ep l = ((UY ep l).map X6).length := fun h => by unfold VC; rw [if_neg h, List.length_map]
 by_cases a1 : ep < 0
 ·rw [e1 (.inl a1)]
  refine Qp ?_; refine QIb ?_; refine Qq ?_
  (show AWP Tryz.prog E _ _ _; refine X1 ?_; exact (show Xn _ _ _ _ _ from ⟨_, St.le_refl _, ⟨rfl, trivial⟩, X3 _⟩))
 by_cases a2 : 1000000000000000 < ep
 ·rw [e1 (.inr a2)]
  refine Qo ?_; refine QOa ?_; refine Qba ?_; refine Qq ?_
  (show AWP Tryz.prog E _ _ _; refine X1 ?_; exact (show Xn _ _ _ _ _ from ⟨_, St.le_refl _, ⟨rfl, trivial⟩, X3 _⟩))
 rw [e2 (by omega)]
 have c := X9m ep l (by omega) (by omega) hr hl
 clear e1 e2 hr
 refine Qo ?_; refine QOa ?_; refine Zs ?_; refine Qha ?_; refine Qi ?_; refine Z9 (hcon := c) ?_; refine Qbc ?_; refine QAa ?_; refine Qf ?_; refine Zd ?_; refine Qc ?_
 (show AWP Tryz.prog E _ _ _; refine X1 ?_; exact (show Xn _ _ _ _ _ from ⟨_, St.le_refl _, ⟨rfl, trivial⟩, X3 _⟩))
open Go
theorem X58 {x : UInt8} {r : List UInt8} (h : x ≠ 1) : YE (x :: r) = (YE r).map (fun l => x :: l) := by
 cases r with
 | nil => simp [YE, h]
 | cons y r => rw [YE, if_neg h]
theorem X8Z : YE [1] = none := by simp [YE]
theorem X4e {y : UInt8} {r : List UInt8} (h : y = 1 ∨ y = 2) : YE (1 :: y :: r) = (YE r).map (fun l => (y - 1) :: l) := by
 rw [YE, if_pos rfl, if_pos h]
theorem Xad {y : UInt8} {r : List UInt8} (h : ¬ (y = 1 ∨ y = 2)) : YE (1 :: y :: r) = none := by
 rw [YE, if_pos rfl, if_neg h]
theorem X8h {b : List UInt8} {i : Nat} {x : UInt8} (h : b[i]? = some x) : b.drop i = x :: b.drop (i + 1) := by
 obtain ⟨hi, rfl⟩ := List.getElem?_eq_some_iff.1 h
 rw [List.drop_eq_getElem_cons hi]
theorem X5Z : ∀ (n : Nat) (b raw : List UInt8), b.length ≤ n → YE b = some raw → raw.length ≤ b.length
 | _, [], raw, _, h => by simp [YE] at h; simp [← h]
 | 0, _ :: _, _, hn, _ => by simp at hn
 | n + 1, x :: r, raw, hn, h => by
  rw [List.length_cons] at hn ⊢
  by_cases hx : x = 1
  ·subst hx
   cases r with
   | nil => rw [X8Z] at h; simp at h
   | cons y r =>
    by_cases hy : y = 1 ∨ y = 2
    ·rw [X4e hy] at h
     rw [List.length_cons] at hn
     cases hu : YE r with
     | none => rw [hu] at h; simp at h
     | some l =>
      rw [hu] at h
      simp only [Option.map_some, Option.some.injEq] at h
      subst h
      have := X5Z n r l (by omega) hu
      simp only [List.length_cons]
      omega
    ·rw [Xad hy] at h; simp at h
  ·rw [X58 hx] at h
   cases hu : YE r with
   | none => rw [hu] at h; simp at h
   | some l =>
    rw [hu] at h
    simp only [Option.map_some, Option.some.injEq] at h
    subst h
    have := X5Z n r l (by omega) hu
    simp only [List.length_cons]
    omega
theorem Xep {y : UInt8} (h : y = 1 ∨ y = 2) : Value.int .u8 (IntKind.u8.wrap ((y.toNat : Int) - 1)) = Value.int .u8 ((y - 1).toNat : Int) := by
 rcases h with rfl | rfl <;> rfl
theorem X5X : ∀ b : List UInt8, YE (XC b) = some b
 | [] => by simp [XC, YE]
 | x :: r => by
  have ih := X5X r
  rw [XC]
  unfold VZ
  by_cases h : x.toNat ≤ 1
  ·rw [if_pos h]
   have hx : x = 0 ∨ x = 1 := by
    have : x.toNat = 0 ∨ x.toNat = 1 := by omega
    rcases this with e | e
    ·left; exact UInt8.toNat_inj.1 e
    ·right; exact UInt8.toNat_inj.1 e
   rw [List.cons_append, List.cons_append, List.nil_append, X4e (by rcases hx with rfl | rfl <;> decide), ih]
   rcases hx with rfl | rfl <;> rfl
  ·rw [if_neg h, List.cons_append, List.nil_append, X58 (by rintro rfl; exact h (by decide)), ih]
   rfl
theorem Xbr : ∀ b : List UInt8, ∀ x ∈ XC b, x ≠ 0
 | [], x, h => by simp [XC] at h
 | y :: r, x, h => by
  rw [XC, List.mem_append] at h
  rcases h with h | h
  ·unfold VZ at h
   by_cases q : y.toNat ≤ 1
   ·rw [if_pos q] at h
    simp only [List.mem_cons, List.not_mem_nil, or_false] at h
    rcases h with rfl | rfl
    ·decide
    ·have : y = 0 ∨ y = 1 := by
      have : y.toNat = 0 ∨ y.toNat = 1 := by omega
      rcases this with e | e
      ·left; exact UInt8.toNat_inj.1 e
      ·right; exact UInt8.toNat_inj.1 e
     rcases this with rfl | rfl <;> decide
   ·rw [if_neg q] at h
    simp only [List.mem_cons, List.not_mem_nil, or_false] at h
    subst h
    rintro rfl
    exact q (by decide)
  ·exact Xbr r x h
theorem X9V (ep : Int) : Ud [] ep = (X0V, false) := by
 have h : (Uo [] 0).2.2 ≠ 0 := by decide
 unfold Ud
 simp only [YE]
 unfold X1Y
 rw [if_pos (.inl h)]
theorem X85 {b : List UInt8} {ep : Int} (h : YE b = none) : Ud b ep = (X0V, false) := by unfold Ud; rw [h]
theorem X4u {b raw : List UInt8} {ep : Int} (h : YE b = some raw) : Ud b ep = X1Y raw ep (Uo raw 0) := by unfold Ud; rw [h]
theorem X94 (b : List UInt8) (a : Int) : (Uo b a).1.length ≤ b.length := by
 unfold Uo
 simp only
 split
 ·simp
 ·split
  ·simp
  ·split
   ·simp
   ·rw [List.length_take, List.length_drop]; omega
theorem Xeq {b : List UInt8} : (Vw b = false ∧ Lib.indexByte b 0 = -1) ∨ (Vw b = true ∧ Lib.indexByte b 0 = ((Y3 b).length : Nat)) := by
 induction b with
 | nil => left; exact ⟨rfl, rfl⟩
 | cons x r ih =>
  unfold Vw Y3 Lib.indexByte
  rw [List.any_cons, List.takeWhile_cons]
  by_cases hx : x = 0
  ·subst hx
   right
   simp
  ·have h1 : (x == 0) = false := by simpa using hx
   have h2 : (x != 0) = true := by simpa using hx
   rw [h1, h2, Bool.false_or]
   rcases ih with ⟨k1, k2⟩ | ⟨k1, k2⟩
   ·left
    rw [k2]
    exact ⟨k1, rfl⟩
   ·right
    rw [k2]
    refine ⟨k1, ?_⟩
    unfold Y3
    have : ((((List.takeWhile (fun x => x != 0) r).length : Nat) : Int) == -1) = false := by
     simp only [beq_eq_false_iff_ne, ne_eq]
     omega
    rw [this]
    simp
theorem Xa2 (b : List UInt8) : Y3 b = b.take (Y3 b).length := by
 unfold Y3
 induction b with
 | nil => rfl
 | cons x r ih =>
  rw [List.takeWhile_cons]
  by_cases hx : (x != 0) = true
  ·rw [if_pos hx, List.length_cons, List.take_succ_cons, ← ih]
  ·rw [if_neg hx]; rfl
theorem X6L {b : List UInt8} (h : Vw b = true) : (Y3 b).length < b.length := by
 unfold Vw Y3 at *
 induction b with
 | nil => simp at h
 | cons x r ih =>
  rw [List.takeWhile_cons]
  by_cases hx : (x != 0) = true
  ·rw [if_pos hx, List.length_cons, List.length_cons]
   have h1 : (x == 0) = false := by simpa using hx
   rw [List.any_cons, h1, Bool.false_or] at h
   have := ih h
   omega
  ·rw [if_neg hx]; simp
end Go.Fw
