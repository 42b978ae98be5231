/- What Append does: the disks it goes through. -/
import Derived.Test.YtpfldfkhgplcgaaGreatDoorM28
set_option maxHeartbeats 64000000
namespace Go.Fw
open Go Go.Proofs
set_option maxRecDepth 100000
set_option linter.unusedVariables false
set_option linter.unusedSimpArgs false
def Xt (d : Disk) : List D := [XE d.sectors, XA d.pending, .v (.bool d.on)]
abbrev wzC : List D := [.v (.int .u8 0)]
theorem X9C (L : List UInt8) : L.map X6 ++ List.replicate ((64 - L.length % 64) % 64) wzC = (Uy L).map X6 := by
 unfold Uy
 rw [List.map_append, List.map_replicate]
 rfl
theorem X6q (C : List (List D)) (j : Nat) : C ++ List.replicate (j + 1) wzC = (C ++ List.replicate j wzC) ++ [wzC] := by
 rw [List.replicate_succ', List.append_assoc]
structure WrOk (d : Disk) (a n : Nat) (Y : List UInt8) : Prop where
 ok : DOk d
 few : YW d
 len : Y.length = 64 * n
 room : a + n ≤ d.sectors.length
theorem X6w {d : Disk} {a n : Nat} {Y : List UInt8} (h : WrOk d a n Y) {k : Nat} (hk : k ≤ n) : DOk (XH d a (YB k Y)) ∧ UE (XH d a (YB k Y)) := by
 obtain ⟨k1, k2, k3⟩ := X0n (YB k Y) d a
 have h1 := h.few.1
 have h2 := h.few.2
 have h3 := h.room
 have h4 := X0N (YB k Y) d a h.ok (by rw [X0C]; omega) (X6O k Y (by rw [h.len]; omega))
 exact ⟨h4, X1t h4.v (by rw [k3, X0C]; omega)⟩
theorem X8I {d : Disk} {a n : Nat} {Y : List UInt8} (h : WrOk d a n Y) {k : Nat} (hk : k < n) : XH d a (YB (k + 1) Y) = Uq (XH d a (YB k Y)) (a + k) ((Y.drop (64 * k)).take 64) ∧ ((Y.drop (64 * k)).take 64).length = 64 ∧
  YO (XH d a (YB k Y)) ((a + k : Nat) : Int) ((Y.drop (64 * k)).take 64) = (XH d a (YB (k + 1) Y), 0) ∧ Va d a (YB (k + 1) Y) = Va d a (YB k Y) ++ [XH d a (YB (k + 1) Y)] := by
 have e1 : XH d a (YB (k + 1) Y) = Uq (XH d a (YB k Y)) (a + k) ((Y.drop (64 * k)).take 64) := by rw [X7i, XaR, X0C]
 have e2 : ((Y.drop (64 * k)).take 64).length = 64 := by rw [List.length_take, List.length_drop, h.len]; omega
 have e3 := (X0n (YB k Y) d a).1
 have h3 := h.room
 refine ⟨e1, e2, ?_, ?_⟩
 ·rw [e1, Xai (X6w h (by omega)).1 (by rw [e3]; omega) e2]
 ·rw [e1, X7i, Xh7, X0C]
theorem Xb1 (d : Disk) (f t ep tail : Int) (l : List Rcd) (hf : YW d) (hr : ∀ r ∈ l, Ux r) (hl : l.length ≤ 1000) : Con Tryz.prog 41 [] [XK d, ai f, ai t, ai ep, ai tail, .d (.sl 10 (l.map Xq))]
  [(133, .row 3 ((Xr d f t ep tail l).1.map Xt))] (.tup [.own 133 ((Xr d f t ep tail l).1.map Xt).length, ai (Xr d f t ep tail l).2.1, ai (Xr d f t ep tail l).2.2]) := by
 refine Xa (xs := [.own 133 ((Xr d f t ep tail l).1.map Xt).length, ai (Xr d f t ep tail l).2.1, ai (Xr d f t ep tail l).2.2]) Tryz.func41 rfl Tryz.ntmps41 rfl rfl rfl (fun E => ?_)
 have c1 := X68 d f t ep tail
 by_cases he : XI d f t ep tail = 0
 case neg =>
  have e : Xr d f t ep tail l = ([], 0, XI d f t ep tail) := by unfold Xr; rw [if_pos he]
  rw [e]
  generalize XI d f t ep tail = r at *
  clear hf hr
  obtain ⟨secs, pend, on⟩ := d
  simp only [List.map_nil, List.length_nil]
  refine QGe ?_; refine Qy ?_; refine Qoc ?_; refine Qx ?_; refine Qte ?_; refine QNb ?_
  (show AWP Tryz.prog E _ _ _; refine X1 ?_; exact (show Xn _ _ _ _ _ from ⟨_, UM 12 133 3 rfl rfl rfl, ⟨rfl, rfl, rfl, trivial⟩, Xj ⟨rfl, trivial⟩⟩))
 rw [he] at c1
 obtain ⟨hd, h1, h2, h3, h4, h5, h6, h7⟩ := X1u he
 have c2 := X9m ep l h4 h5 hr hl
 by_cases hE : Y2 l = 0
 case neg =>
  have e : Xr d f t ep tail l = ([], 0, Y2 l) := by unfold Xr; rw [if_neg (by rw [he]; simp), if_pos hE]
  rw [e]
  generalize Y2 l = r at *
  generalize UY ep l = P at *
  clear hf hr hd e he
  obtain ⟨secs, pend, on⟩ := d
  simp only [List.map_nil, List.length_nil]
  refine QGe ?_; refine QKe ?_; refine Qte ?_; refine QNb ?_
  (show AWP Tryz.prog E _ _ _; refine X1 ?_; exact (show Xn _ _ _ _ _ from ⟨_, UM 12 133 3 rfl rfl rfl, ⟨rfl, rfl, rfl, trivial⟩, Xj ⟨rfl, trivial⟩⟩))
 have eP : UY ep l = Xg ep l := if_neg (by rw [hE]; simp)
 rw [hE, eP] at c2
 have hAl := X37 h4 h5 l fun r hrr => (hr r hrr).2
 have eS : Xr d f t ep tail l = if (t - f) * 64 < tail + (Xg ep l).length then ([], 0, 20) else (VK d f t tail (Xg ep l), tail + (Xg ep l).length, 0) := by
  unfold Xr; rw [if_neg (by rw [he]; simp), if_neg (by rw [hE]; simp)]
 rw [eS]
 generalize Xg ep l = A at *
 have hAm : (A.map X6).length = A.length := by simp
 have c3 := X5p f t h1 h2 (by have := hf.1; omega)
 have hN : t ≤ 2000 := by have := hf.1; omega
 clear eS eP hE he hr
 by_cases hfull : (t - f) * 64 < tail + A.length
 ·rw [if_pos hfull]
  have hfull' : (t - f) * 64 < tail + ((A.map X6).length : Nat) := by rw [hAm]; exact hfull
  clear hf hd h3
  obtain ⟨secs, pend, on⟩ := d
  simp only [List.map_nil, List.length_nil]
  refine QMe ?_; refine QPb ?_; refine QNb ?_
  (show AWP Tryz.prog E _ _ _; refine X1 ?_; exact (show Xn _ _ _ _ _ from ⟨_, UM 12 133 3 rfl rfl rfl, ⟨rfl, rfl, rfl, trivial⟩, Xj ⟨rfl, trivial⟩⟩))
 rw [if_neg hfull]
 have hfull' : ¬ (t - f) * 64 < tail + ((A.map X6).length : Nat) := by rw [hAm]; exact hfull
 have c4 := Xar d f t hd hf h1 (by omega) h3
 have hSl : (Xz d f t).length = 64 * (t - f).toNat := by unfold Xz; exact VW hd _ _ (by omega)
 obtain ⟨F, rfl⟩ : ∃ F : Nat, f = F := ⟨f.toNat, by omega⟩
 obtain ⟨T, rfl⟩ : ∃ T : Nat, tail = T := ⟨tail.toNat, by omega⟩
 unfold VK YI
 have eT : UH d (F : Nat) t (T : Nat) A = Uy (((Xz d (F : Nat) t).take T).drop (T / 64 * 64) ++ A) := by unfold UH; rw [Int.toNat_natCast]
 rw [eT, Int.toNat_natCast, Int.toNat_natCast]
 generalize Xz d (F : Nat) t = B at *
 have hBm : (B.map X6).length = B.length := by simp
 obtain ⟨X, hX⟩ : ∃ X, X = (B.take T).drop (T / 64 * 64) := ⟨_, rfl⟩
 have hXc : ((B.map X6).take T).drop (T / 64 * 64) = X.map X6 := by rw [hX, List.map_drop, List.map_take]
 have hXl : X.length = T - T / 64 * 64 := by rw [hX, List.length_drop, List.length_take]; omega
 rw [← hX]
 clear hX eT
 have hlo : T / 64 * 64 ≤ T := by omega
 have hTB : T ≤ (B.map X6).length := by omega
 have hend : ((T : Int) + ((A.map X6).length : Nat)) = (T : Int) + (A.length : Nat) := by rw [hAm]
 have hcap : T / 64 < 2 ^ 62 := by omega
 by_cases hA : A = []
 ·subst hA
  rw [if_pos rfl]
  simp only [Va, XH, List.cons_append, List.nil_append]
  have hs := X60 d (X4z hd.v hf)
  generalize (Yv d).1 = Z at *
  generalize (Yv d).2 = Z2 at *
  obtain ⟨zs, zp, zo⟩ := Z
  clear hf hd
  obtain ⟨secs, pend, on⟩ := d
  have hXm : (X.map X6).length = X.length := by simp
  have hXs : X.length ≤ 64 := by omega
  refine QMe ?_; refine Qs ?_; refine Qf ?_; refine QNe ?_; refine Qc ?_; refine Qgb ?_; refine ZL ?_; refine Z9 (hcon := c4) ?_; refine Z1 ?_; refine Z7 (op := .mul) (r' := ni (T / 64 * 64)) (u := ni (T / 64)) (v := ni 64) ?_ (hr := by exact U0 (by rw [XM]; omega)); refine Qy ?_; refine Z0i (lb := (T / 64 * 64)) (hb := T) (ys := X.map X6) ?_ (hys := by exact hXc); refine Z1 ?_; refine Z0j ?_; refine Qc ?_; refine Qe ?_
  clear c1 c2 c3 c4
  refine Xu (fun j : Nat => j ≤ (64 - X.length % 64) % 64) (fun j => match j with
   | 0 => ⟨109, [(6, .ptr 100 0), (17, .d (Xf [])), (19, ai ((T : Int) + (([] : List UInt8).map X6).length)), (21, .dx 1 (X.map X6))], [(100, .box [.d (XE secs), .d (XA pend), ab on])]⟩
   | j + 1 => ⟨109, [(6, .ptr 100 0), (17, .d (Xf [])), (19, ai ((T : Int) + (([] : List UInt8).map X6).length)), (21, .own 132 (X.map X6 ++ List.replicate (j + 1) wzC).length)], [(100, .box [.d (XE secs), .d (XA pend), ab on]), (132, .row 1 (X.map X6 ++ List.replicate (j + 1) wzC))]⟩) (fun j => (64 - X.length % 64) % 64 - j) 0 (Nat.zero_le _)
   (X9 rfl JM ⟨rfl, trivial⟩) ?_
  intro j hj
  have hn0 : ¬ (0 : Int) < ((([] : List UInt8).map X6).length : Nat) := by simp
  cases j with
  | zero =>
   dsimp only
   by_cases hp : X.length % 64 = 0
   ·have hpc : (((X.map X6).length : Nat) : Int) % 64 = 0 := by rw [hXm]; omega
    have hpn : ¬ ¬ (((X.map X6).length : Nat) : Int) % 64 = 0 := fun h => h hpc
    refine Qg ?_; refine Z0k ?_; refine ZJ ?_; refine Zv ?_; refine Qm ?_; refine Qgb ?_; refine ZZ (γ := 133) (d := 72) ?_; refine Qw ?_; refine QUa ?_; refine Qs ?_; refine Qgb ?_; refine Z9 (hcon := hs) ?_; refine QOe ?_
    (show AWP Tryz.prog E _ _ _; refine X1 ?_; exact (show Xn _ _ _ _ _ from ⟨_, St.le_refl _, ⟨rfl, rfl, rfl, trivial⟩, Xj ⟨rfl, trivial⟩⟩))
   ·have hpc : ¬ (((X.map X6).length : Nat) : Int) % 64 = 0 := by rw [hXm]; omega
    refine Qg ?_; refine Z0k ?_; refine ZJ ?_; refine Zv ?_; refine Qh ?_; refine X4 ?_; refine X5 ?_; refine Ql ?_; refine Z5 ?_; refine Z0l (γ := 132) ?_ (hne := by exact (show [wzC] ≠ [] by simp)); refine Qc ?_; exact ⟨0 + 1, by omega, by omega, X9 rfl ⟨JL, JL, JL, AVal.le_of_eq (by refine Eq.trans (b := AVal.own 132 (_ + _)) rfl ?_; simp only [List.length_append, List.length_map, List.length_cons, List.length_nil, List.length_replicate]), trivial⟩ ⟨rfl, rfl, trivial⟩⟩
  | succ j =>
   dsimp only
   obtain ⟨W, hW⟩ : ∃ W, W = X.map X6 ++ List.replicate (j + 1) wzC := ⟨_, rfl⟩
   have hWl : W.length = X.length + (j + 1) := by rw [hW]; simp
   have hWs : X.map X6 ++ List.replicate (j + 1 + 1) wzC = W ++ [wzC] := by rw [hW]; exact X6q _ _
   rw [← hW]
   have hroom : W.length ≤ 200 := by omega
   by_cases hp : j + 1 < (64 - X.length % 64) % 64
   ·have hpc : ¬ ((W.length : Nat) : Int) % 64 = 0 := by omega
    refine QPe ?_
    refine ⟨j + 1 + 1, hp, by omega, ?_⟩
    dsimp only
    rw [hWs]
    exact X9 rfl ⟨JL, JL, JL, AVal.le_of_eq (by refine Eq.trans (b := AVal.own 132 (_ + _)) rfl ?_; simp only [List.length_append, List.length_cons, List.length_nil]), trivial⟩ ⟨rfl, rfl, trivial⟩
   ·have hpc : ((W.length : Nat) : Int) % 64 = 0 := by omega
    have hpn : ¬ ¬ ((W.length : Nat) : Int) % 64 = 0 := fun h => h hpc
    refine Qg ?_; refine Z0m ?_; refine ZJ ?_; refine Zv ?_; refine Qm ?_; refine Qgb ?_; refine ZZ (γ := 133) (d := 72) ?_; refine Qw ?_; refine QUa ?_; refine Qs ?_; refine Qgb ?_; refine Z9 (hcon := hs) ?_; refine QOe ?_
    (show AWP Tryz.prog E _ _ _; refine X1 ?_; exact (show Xn _ _ _ _ _ from ⟨_, St.le_refl _, ⟨rfl, rfl, rfl, trivial⟩, Xj ⟨rfl, trivial⟩⟩))
 rw [if_neg hA]
 have hAn : A.map X6 ≠ [] := fun h => hA (by simpa using h)
 have hA0 : A.length ≠ 0 := fun h => hA (List.eq_nil_of_length_eq_zero h)
 obtain ⟨hY1, hY2, hY3⟩ := X31 (X ++ A)
 have hYc := X9C (X ++ A)
 rw [List.map_append] at hYc
 have hXAl : (X ++ A).length = X.length + A.length := by simp
 generalize hm : (64 - (X ++ A).length % 64) % 64 = p at *
 generalize Uy (X ++ A) = Y at *
 obtain ⟨n, hn⟩ : ∃ n, Y.length = 64 * n := ⟨Y.length / 64, by omega⟩
 have hn64 : Y.length / 64 = n := by omega
 rw [hn64]
 have hwr : WrOk d (F + T / 64) n Y := ⟨hd, hf, hn, by omega⟩
 have hat := fun k (hk : k ≤ n) => X6w hwr hk
 have hstp := fun k (hk : k < n) => X8I hwr hk
 obtain ⟨D, hD⟩ : ∃ D : Nat → Disk, ∀ k, XH d (F + T / 64) (YB k Y) = D k := ⟨_, fun _ => rfl⟩
 obtain ⟨R, hR⟩ : ∃ R : Nat → List Disk, ∀ k, Va d (F + T / 64) (YB k Y) = R k := ⟨_, fun _ => rfl⟩
 simp only [hD, hR] at hat hstp ⊢
 have hD0 : d = D 0 := hD 0
 have hR0 : [d] = R 0 := hR 0
 have hRl : ∀ k, (R k).length = k + 1 := fun k => by rw [← hR, X3s, X0C]
 clear hD hR hwr
 have hsync := X60 (D n) (hat n (Nat.le_refl _)).2
 generalize (Yv (D n)).1 = Z at *
 generalize (Yv (D n)).2 = Z2 at *
 obtain ⟨zs, zp, zo⟩ := Z
 have hfin : (R n ++ [(⟨zs, zp, zo⟩ : Disk)]).map Xt = (R n).map Xt ++ [[XE zs, XA zp, .v (.bool zo)]] := by simp [Xt]
 rw [hfin, List.length_append]
 clear hfin
 have hpm : p < 64 := by rw [← hm]; omega
 have hXAm : (X.map X6).length + (A.map X6).length = X.length + A.length := by simp
 have hroomX : ((X.map X6).length + (A.map X6).length) ≤ 200000 := by omega
 subst hD0
 clear hf hd
 refine QMe ?_; refine Qs ?_; refine Qf ?_; refine QNe ?_; refine Qc ?_; refine Qgb ?_; refine ZL ?_; refine Z9 (hcon := c4) ?_; refine Z1 ?_; refine Z7 (op := .mul) (r' := ni (T / 64 * 64)) (u := ni (T / 64)) (v := ni 64) ?_ (hr := by exact U0 (by rw [XM]; omega)); refine Qy ?_; refine Z0i (lb := (T / 64 * 64)) (hb := T) (ys := X.map X6) ?_ (hys := by exact hXc); refine Z1 ?_; refine Z0l (γ := 132) ?_ (hne := by exact hAn); refine Qc ?_; refine Qe ?_
 clear c1 c2 c3 c4
 refine Xu (fun j : Nat => j ≤ p) (fun j => ⟨109, [(1, ai (F : Nat)), (6, .ptr 100 0), (17, .d (Xf A)), (19, ai ((T : Int) + (A.map X6).length)), (20, ai (T / 64 : Nat)), (21, .own 132 ((X.map X6 ++ A.map X6) ++ List.replicate j wzC).length)], [(100, .box [.d (XE (D 0).sectors), .d (XA (D 0).pending), ab (D 0).on]), (132, .row 1 ((X.map X6 ++ A.map X6) ++ List.replicate j wzC))]⟩) (fun j => p - j) 0 (Nat.zero_le _)
  (X9 rfl ⟨JL, JL, JL, JL, JL, AVal.le_of_eq (by refine Eq.trans (b := AVal.own 132 (_ + _)) rfl ?_; simp), trivial⟩ ⟨rfl, (by simp; rfl), trivial⟩) ?_
 intro j hj
 obtain ⟨W, hW⟩ : ∃ W, W = (X.map X6 ++ A.map X6) ++ List.replicate j wzC := ⟨_, rfl⟩
 have hWl : W.length = X.length + A.length + j := by rw [hW]; simp; omega
 have hWs : (X.map X6 ++ A.map X6) ++ List.replicate (j + 1) wzC = W ++ [wzC] := by rw [hW]; exact X6q _ _
 rw [← hW]
 have hroom : W.length ≤ 200000 := by omega
 by_cases hp : j < p
 ·have hpc : ¬ ((W.length : Nat) : Int) % 64 = 0 := by omega
  refine QPe ?_
  refine ⟨j + 1, hp, by omega, ?_⟩
  dsimp only
  rw [hWs]
  exact X9 rfl ⟨JL, JL, JL, JL, JL, AVal.le_of_eq (by refine Eq.trans (b := AVal.own 132 (_ + _)) rfl ?_; simp only [List.length_append, List.length_cons, List.length_nil]), trivial⟩ ⟨rfl, rfl, trivial⟩
 obtain rfl : j = p := by omega
 have hpc : ((W.length : Nat) : Int) % 64 = 0 := by omega
 have hpn : ¬ ¬ ((W.length : Nat) : Int) % 64 = 0 := fun h => h hpc
 have hWY : W = Y.map X6 := by rw [hW, hYc]
 have hgt : (0 : Int) < ((A.map X6).length : Nat) := by omega
 refine Qg ?_; refine Z0m ?_; refine ZJ ?_; refine Zv ?_; refine Qm ?_; refine X0 ?_
 subst hWY
 refine Xi (XL 132 rfl) ?_; refine Xi (Yc 21 132 rfl rfl rfl) ?_; refine JR ?_; refine ZL ?_; refine ZZ (γ := 133) (d := 72) ?_; refine Qw ?_; refine QUa ?_; refine Qq ?_; refine X5 ?_
 clear hpc hpn hWs hW hgt
 refine Xu (fun k : Nat => k ≤ n) (fun k => ⟨109, [(1, ai (F : Nat)), (6, .ptr 100 0), (19, ai ((T : Int) + (A.map X6).length)), (20, ai (T / 64 : Nat)), (21, .d (Xf (Y.drop (64 * k)))), (22, .own 133 ((R k).map Xt).length), (23, ai k)], [(100, .box [.d (XE (D k).sectors), .d (XA (D k).pending), ab (D k).on]), (133, .row 3 ((R k).map Xt))]⟩) (fun k => n - k) 0 (Nat.zero_le _)
  (X9 rfl ⟨JL, JL, JL, JL, (by rw [Nat.mul_zero, List.drop_zero]; exact AVal.le_refl _), (by rw [← hR0]; exact AVal.le_refl _), JL, trivial⟩ ⟨rfl, (by rw [← hR0]; rfl), trivial⟩) ?_
 intro k hk
 have hkl := hRl k
 have hroomR : ((R k).map Xt).length ≤ 5000 := by rw [List.length_map]; omega
 have hdl : ((Y.drop (64 * k)).map X6).length = 64 * n - 64 * k := by simp [hn]
 by_cases hkn : k < n
 case neg =>
  obtain rfl : k = n := by omega
  have hnl : ¬ (0 : Int) < (((Y.drop (64 * k)).map X6).length : Nat) := by omega
  clear hat hstp
  refine Qg ?_; refine QUa ?_; refine Qm ?_; refine Qgb ?_; refine Z9 (hcon := hsync) ?_; refine QOe ?_
  (show AWP Tryz.prog E _ _ _; refine X1 ?_; exact (show Xn _ _ _ _ _ from ⟨_, Xb 13 (AVal.le_of_eq (by refine Eq.trans (b := ai _) rfl ?_; rw [hAm])), ⟨rfl, rfl, rfl, trivial⟩, Xj ⟨rfl, trivial⟩⟩))
 have hnl : (0 : Int) < (((Y.drop (64 * k)).map X6).length : Nat) := by omega
 obtain ⟨s1, s2, s3, s4⟩ := hstp k hkn
 have hw := X9j (D k) ((F + T / 64 + k : Nat) : Int) ((Y.drop (64 * k)).take 64) (hat k hk).2 (by rw [s2]; omega)
 rw [s3] at hw
 have hc1 : (((Y.drop (64 * k)).map X6).take 64).drop 0 = ((Y.drop (64 * k)).take 64).map X6 := by rw [List.drop_zero, List.map_take]
 have hc2 : (((Y.drop (64 * k)).map X6).take ((Y.drop (64 * k)).map X6).length).drop 64 = (Y.drop (64 * (k + 1))).map X6 := by rw [List.take_length, ← List.map_drop, List.drop_drop]; congr 2
 have hR1 : (R (k + 1)).map Xt = (R k).map Xt ++ [[XE (D (k + 1)).sectors, XA (D (k + 1)).pending, .v (.bool (D (k + 1)).on)]] := by rw [s4, List.map_append]; rfl
 generalize ((Y.drop (64 * k)).take 64) = cn at *
 have h64 : 64 ≤ ((Y.drop (64 * k)).map X6).length := by omega
 clear hat hstp s1 s2 s3 s4 hsync
 refine Qg ?_; refine QUa ?_; refine Qlb ?_; refine Qgb ?_; refine Qy ?_; refine Z7 (op := .add) (r' := ni (F + T / 64)) (u := ni F) (v := ni (T / 64)) ?_ (hr := by exact Ul (by rw [XM]; omega)); refine Z1 ?_; refine Z7 (op := .add) (r' := ni (F + T / 64 + k)) (u := ni (F + T / 64)) (v := ni k) ?_ (hr := by exact Ul (by rw [XM]; omega)); refine Z1 ?_; refine ZV (lb := 0) (hb := 64) (ys := cn.map X6) ?_ (hys := by exact hc1); refine Z9 (hcon := hw) ?_; refine Qbc ?_; refine QWa ?_; refine Qf ?_; refine ZV (lb := 64) (hb := ((Y.drop (64 * k)).map X6).length) (ys := (Y.drop (64 * (k + 1))).map X6) ?_ (hys := by exact hc2); refine Qc ?_; refine Ql ?_; refine ZL ?_; refine Qk ?_; refine Qnb ?_
 refine ⟨k + 1, hkn, by omega, ?_⟩
 dsimp only
 rw [hR1]
 exact X9 rfl ⟨JL, JL, JL, JL, JL, AVal.le_of_eq (by refine Eq.trans (b := AVal.own 133 (_ + _)) rfl ?_; simp only [List.length_append, List.length_map, List.length_cons, List.length_nil]), JL, trivial⟩ ⟨rfl, rfl, trivial⟩
theorem X3A {d : Disk} (h : DOk d) : DOk (Yv d).1 ∧ (Yv d).1.sectors.length = d.sectors.length ∧ (Yv d).1.pending = [] := by
 obtain ⟨h1, h2, h3, h4⟩ := X0E h.v
 have hl : (YC d (fun _ => 64)).length = d.sectors.length := X05 _ _ _ _
 have hs : ∀ s ∈ YC d (fun _ => 64), s.length = 64 := X0T _ (X13 h.v) _
 rw [XbK h]
 refine ⟨⟨?_, rfl⟩, hl, rfl⟩
 unfold Yp
 simp only [decide_eq_true_eq]
 exact QQe
theorem Xgc (bs : List (List UInt8)) : ∀ (d : Disk) (a : Nat), DOk d → a + bs.length ≤ d.sectors.length → (∀ c ∈ bs, c.length = 64) → d.pending.length + bs.length ≤ 4096 → ∀ x ∈ Va d a bs, DOk x ∧ UE x ∧ x.sectors.length = d.sectors.length := by
 induction bs with
 | nil =>
  intro d a h _ _ hp x hx
  simp only [Va, List.mem_singleton] at hx
  subst hx
  exact ⟨h, X1t h.v (by simpa using hp), rfl⟩
 | cons b bs ih =>
  intro d a h hl hc hp x hx
  rw [List.length_cons] at hl hp
  rw [Va, List.mem_cons] at hx
  rcases hx with rfl | hx
  ·exact ⟨h, X1t h.v (by omega), rfl⟩
  ·have := ih (Uq d a b) (a + 1) (X9u h (by omega) (hc b (by simp))) (by show a + 1 + bs.length ≤ d.sectors.length; omega) (fun c q => hc c (by simp [q]))
    (by show (d.pending ++ [(⟨(a : Nat), b⟩ : Wr)]).length + bs.length ≤ 4096; rw [List.length_append, List.length_singleton]; omega) x hx
   exact ⟨this.1, this.2.1, this.2.2⟩
theorem X2p {d : Disk} {f t tail : Int} {A : List UInt8} (hd : DOk d) (h1 : 0 ≤ f) (h2 : f < t) (h3 : t ≤ d.sectors.length) (h6 : 0 ≤ tail) (h7 : tail + A.length ≤ (t - f) * 64) :
  f.toNat + tail.toNat / 64 + (YI d f t tail A).length ≤ d.sectors.length ∧ (∀ c ∈ YI d f t tail A, c.length = 64) ∧ (YI d f t tail A).length ≤ d.sectors.length := by
 have hS : (Xz d f t).length = 64 * (t - f).toNat := by unfold Xz; exact VW hd _ _ (by omega)
 unfold YI
 by_cases hA : A = []
 ·rw [if_pos hA]
  simp only [List.length_nil, List.not_mem_nil, false_implies, implies_true, true_and, Nat.zero_le, and_true]
  subst hA
  simp at h7
  omega
 ·rw [if_neg hA, X0C]
  have hT : (((Xz d f t).take tail.toNat).drop (tail.toNat / 64 * 64) ++ A).length = tail.toNat - tail.toNat / 64 * 64 + A.length := by
   rw [List.length_append, List.length_drop, List.length_take]
   omega
  obtain ⟨k1, k2, k3⟩ := X31 (((Xz d f t).take tail.toNat).drop (tail.toNat / 64 * 64) ++ A)
  unfold UH
  generalize Uy (((Xz d f t).take tail.toNat).drop (tail.toNat / 64 * 64) ++ A) = Y at *
  exact ⟨by omega, X6O _ Y (by omega), by omega⟩
theorem X0A {d : Disk} {f t ep tail : Int} {l : List Rcd} (h : (Xr d f t ep tail l).2.2 = 0) : XI d f t ep tail = 0 ∧ Y2 l = 0 ∧ tail + (Xg ep l).length ≤ (t - f) * 64 ∧ Xr d f t ep tail l = (VK d f t tail (Xg ep l), tail + (Xg ep l).length, 0) := by
 unfold Xr at h ⊢
 by_cases c1 : XI d f t ep tail ≠ 0
 ·rw [if_pos c1] at h; exact absurd h c1
 rw [if_neg c1] at h ⊢
 by_cases c2 : Y2 l ≠ 0
 ·rw [if_pos c2] at h; exact absurd h c2
 rw [if_neg c2] at h ⊢
 by_cases c3 : (t - f) * 64 < tail + (Xg ep l).length
 ·rw [if_pos c3] at h; simp at h
 rw [if_neg c3]
 exact ⟨by simpa using c1, by simpa using c2, by omega, rfl⟩
theorem X2j {d : Disk} {f t ep tail : Int} {l : List Rcd} (h : (Xr d f t ep tail l).2.2 ≠ 0) : (Xr d f t ep tail l).1 = [] ∧ (Xr d f t ep tail l).2.1 = 0 := by
 unfold Xr at h ⊢
 by_cases c1 : XI d f t ep tail ≠ 0
 ·rw [if_pos c1]; exact ⟨rfl, rfl⟩
 rw [if_neg c1] at h ⊢
 by_cases c2 : Y2 l ≠ 0
 ·rw [if_pos c2]; exact ⟨rfl, rfl⟩
 rw [if_neg c2] at h ⊢
 by_cases c3 : (t - f) * 64 < tail + (Xg ep l).length
 ·rw [if_pos c3]; exact ⟨rfl, rfl⟩
 rw [if_neg c3] at h
 simp at h
theorem X8R {d : Disk} {f t ep tail : Int} {l : List Rcd} (hf : YW d) (h : (Xr d f t ep tail l).2.2 = 0) : ∀ x ∈ (Xr d f t ep tail l).1, DOk x ∧ UE x ∧ x.sectors.length = d.sectors.length := by
 obtain ⟨s1, s2, s3, s4⟩ := X0A h
 obtain ⟨hd, h1, h2, h3, h4, h5, h6, h7⟩ := X1u s1
 rw [s4]
 simp only
 obtain ⟨k1, k2, k3⟩ := X2p (A := Xg ep l) hd h1 h2 h3 h6 s3
 intro x hx
 have f1 := hf.1
 have f2 := hf.2
 unfold VK at hx
 rw [List.mem_append, List.mem_singleton] at hx
 rcases hx with hx | rfl
 ·exact Xgc _ d _ hd k1 k2 (by omega) x hx
 ·have hl := X0N _ d _ hd k1 k2
  obtain ⟨m1, m2, m3⟩ := X3A hl
  exact ⟨m1, X1t m1.v (by rw [m3]; simp), m2.trans (by rw [(X0n _ d _).1])⟩
theorem X6T {d : Disk} {f t ep tail : Int} {l : List Rcd} (hf : YW d) (h : (Xr d f t ep tail l).2.2 = 0) : (Xr d f t ep tail l).1.length ≤ 5000 := by
 obtain ⟨s1, s2, s3, s4⟩ := X0A h
 obtain ⟨hd, h1, h2, h3, h4, h5, h6, h7⟩ := X1u s1
 rw [s4]
 obtain ⟨k1, k2, k3⟩ := X2p (A := Xg ep l) hd h1 h2 h3 h6 s3
 have f1 := hf.1
 unfold VK
 simp only [List.length_append, List.length_singleton, X3s]
 omega
theorem X63 {d : Disk} {f t ep tail : Int} {l : List Rcd} (hf : YW d) : (Xr d f t ep tail l).1.length ≤ 5000 := by
 by_cases he : (Xr d f t ep tail l).2.2 = 0
 ·exact X6T hf he
 ·rw [(X2j he).1]; simp
theorem X2i (d : Disk) (f t ep tail : Int) (l : List Rcd) (hf : YW d) (hr : ∀ r ∈ l, Ux r) (hl : l.length ≤ 1000) : Con Tryz.prog 16 [] [XK d, ai f, ai t, ai ep, ai tail, .d (.sl 10 (l.map Xq))]
  [] (.tup [XK (XB d f t ep tail l).1, ai (XB d f t ep tail l).2.1, ai (XB d f t ep tail l).2.2]) := by
 refine Xa (xs := [XK (XB d f t ep tail l).1, ai (XB d f t ep tail l).2.1, ai (XB d f t ep tail l).2.2]) Tryz.func16 rfl Tryz.ntmps16 rfl rfl rfl (fun E => ?_)
 have c1 := Xb1 d f t ep tail l hf hr hl
 by_cases he : (Xr d f t ep tail l).2.2 = 0
 case neg =>
  obtain ⟨b1, b2⟩ := X2j he
  have e : XB d f t ep tail l = (Y8, 0, (Xr d f t ep tail l).2.2) := by unfold XB; rw [if_pos he]
  rw [e]
  rw [b1, b2] at c1
  generalize (Xr d f t ep tail l).2.2 = r at *
  clear hf hr
  obtain ⟨secs, pend, on⟩ := d
  simp only [List.map_nil, List.length_nil] at c1
  refine QRe ?_; refine Zv ?_; refine QPb ?_; refine Zx ?_; refine Z1 ?_; refine Qzd ?_; exact QSe
 obtain ⟨s1, s2, s3, s4⟩ := X0A he
 obtain ⟨R, Z, hT⟩ : ∃ R Z, VK d f t tail (Xg ep l) = R ++ [Z] := ⟨_, _, rfl⟩
 have e : XB d f t ep tail l = (Z, (Xr d f t ep tail l).2.1, 0) := by
  unfold XB
  rw [if_neg (by rw [he]; simp), s4, hT]
  simp
 rw [e]
 have eT : (Xr d f t ep tail l).1 = R ++ [Z] := by rw [s4]; exact hT
 rw [he, eT] at c1
 generalize (Xr d f t ep tail l).2.1 = z at *
 have hlm : ((R ++ [Z]).map Xt).length = R.length + 1 := by simp
 have hxc : ((R ++ [Z]).map Xt)[R.length]? = some [XE Z.sectors, XA Z.pending, .v (.bool Z.on)] := by simp [Xt]
 have hRl : R.length ≤ 9223372036854775806 := by
  have := X6T hf he
  rw [eT, List.length_append, List.length_singleton] at this
  omega
 generalize (R ++ [Z]).map Xt = T at *
 clear hf hr s1 s2 s3 s4 hT eT e he
 obtain ⟨secs, pend, on⟩ := d
 refine QRe ?_; refine QEb ?_; refine X0 ?_; refine Xi (XL 133 rfl) ?_; refine Xi (Yc 15 133 rfl rfl rfl) ?_; refine Qgc ?_; refine Zd ?_; refine QTe ?_; refine QVa ?_; refine Z1 ?_; refine Qzd ?_
 (show AWP Tryz.prog E _ _ _; refine X1 ?_; exact (show Xn _ _ _ _ _ from ⟨_, St.le_refl _, ⟨⟨101, 0, _, rfl, rfl, .inr ⟨3, _, rfl, rfl, rfl, rfl⟩⟩, rfl, rfl, trivial⟩, X3 _⟩))
theorem Xbe (b : List UInt8) (hb : b.length ≤ 1000000) : Con Tryz.prog 64 [] [.d (Xf b)] [] (.d (Xf b)) := by
 refine Xa (xs := [.d (Xf b)]) Tryz.func64 rfl Tryz.ntmps64 rfl rfl rfl (fun E => ?_)
 have hlm : (b.map X6).length = b.length := by simp
 generalize hX : b.map X6 = xs at *
 have e : Xf b = .sl 1 xs := by rw [← hX]
 rw [e]
 refine Qo ?_; refine Z07 ?_; refine JD ?_
 refine X5N rfl (fun h => ?_) (fun _ => ?_)
 ·subst h
  refine Qd ?_; refine X1 ?_; exact ⟨_, Xb 2 (AVal.le_nil 1), ⟨rfl, trivial⟩, X3 _⟩
 ·refine X4 ?_; refine Qb ?_; refine ZZ (γ := 130) ?_; refine Z1 ?_; refine Qj ?_; refine X1 ?_; exact ⟨_, St.le_trans (XL 130 rfl) (Yc 2 130 rfl rfl (by simp)), ⟨rfl, trivial⟩, X3 _⟩
theorem XdW (d : Disk) (hl : UE d) : Con Tryz.prog 43 [] [XK d] [] (XK d) := by
 refine Xa (xs := [XK d]) Tryz.func43 rfl Tryz.ntmps43 rfl rfl rfl (fun E => ?_)
 obtain ⟨secs, pend, on⟩ := d
 obtain ⟨h1, h2, h3, h4⟩ := hl
 simp only at h1 h2 h3 h4
 have hsm : (secs.map Yj).length = secs.length := by simp
 have hpm : (pend.map cWr).length = pend.length := by simp
 refine Qge ?_; refine QIa ?_; refine Zx ?_; refine QWd ?_; refine QMd ?_; refine Xi (X0a 102 0 120 1 (cs := [ani, ani, ab on]) rfl rfl rfl rfl rfl) ?_; refine Xi (X0a 102 1 121 2 (cs := [.own 120 0, ani, ab on]) rfl rfl rfl rfl rfl) ?_
 refine Xu (fun i : Nat => i ≤ secs.length) (fun i => ⟨46, [(1, .ptr 100 0), (2, .ptr 101 0), (3, .ptr 102 0), (12, .d (XE secs)), (13, ai (secs.map Yj).length), (14, ai i)], [(100, .box [.d (XE secs), .d (XA pend), ab on]), (101, .box [ani, ani, ab false]), (102, .box [.own 120 ((secs.take i).map Yj).length, .own 121 0, ab on]), (120, .row 1 ((secs.take i).map Yj)), (121, .row 2 [])]⟩) (fun i => secs.length - i) 0 (Nat.zero_le _)
  (X9 rfl JM ⟨rfl, rfl, rfl, rfl, rfl, trivial⟩) ?_
 intro i hi
 have hroom : ((secs.take i).map Yj).length ≤ 4096 := by rw [List.length_map, List.length_take]; omega
 by_cases hil : i < secs.length
 case pos =>
  have hn : (i : Int) < (secs.map Yj).length := by omega
  obtain ⟨x, hx⟩ := Xx (l := secs) hil
  have hxc : (secs.map Yj)[i]? = some (Yj x) := YR hx
  have hst : (secs.take (i + 1)).map Yj = (secs.take i).map Yj ++ [Yj x] := by rw [X3v hx, List.map_append]; rfl
  have hc := Xbe x (by have := h3 x (List.mem_of_getElem? hx); omega)
  clear hx h3 h4
  refine QD ?_; refine QF ?_; refine QUc ?_; refine Z1 ?_; refine Z9 (hcon := hc) ?_; refine Qpd ?_; refine Qhd ?_; refine QK ?_
  refine ⟨i + 1, hil, by omega, ?_⟩
  dsimp only
  rw [hst]
  exact X9 rfl JM ⟨rfl, rfl, (by refine Eq.trans (b := AObj.box [.own 120 (_ + _), .own 121 0, ab on]) rfl ?_; rw [List.length_append]), rfl, rfl, trivial⟩
 obtain rfl : i = secs.length := by omega
 have hn : ¬ ((secs.length : Nat) : Int) < (secs.map Yj).length := by omega
 rw [List.take_length]
 refine QM ?_; refine QMd ?_
 refine Xu (fun i : Nat => i ≤ pend.length) (fun i => ⟨46, [(1, .ptr 100 0), (2, .ptr 101 0), (3, .ptr 102 0), (27, .d (XA pend)), (28, ai (pend.map cWr).length), (29, ai i)], [(100, .box [.d (XE secs), .d (XA pend), ab on]), (101, .box [ani, ani, ab false]), (102, .box [.own 120 (secs.map Yj).length, .own 121 ((pend.take i).map cWr).length, ab on]), (120, .row 1 (secs.map Yj)), (121, .row 2 ((pend.take i).map cWr))]⟩) (fun i => pend.length - i) 0 (Nat.zero_le _)
  (X9 rfl JM ⟨rfl, rfl, rfl, rfl, rfl, trivial⟩) ?_
 clear hn hi hil hroom
 intro i hi
 have hroom : ((pend.take i).map cWr).length ≤ 4096 := by rw [List.length_map, List.length_take]; omega
 by_cases hil : i < pend.length
 case pos =>
  have hn : (i : Int) < (pend.map cWr).length := by omega
  obtain ⟨x, hx⟩ := Xx (l := pend) hil
  have hxc : (pend.map cWr)[i]? = some (cWr x) := YR hx
  have hst : (pend.take (i + 1)).map cWr = (pend.take i).map cWr ++ [cWr x] := by rw [X3v hx, List.map_append]; rfl
  have hc := Xbe x.b (by have := h4 x (List.mem_of_getElem? hx); omega)
  clear hx h3 h4
  obtain ⟨wa, wb⟩ := x
  simp only at hc
  refine QD ?_; refine Qhe ?_; refine Qfd ?_; refine Z9 (hcon := hc) ?_; refine Zx ?_; refine Qpd ?_; refine Qhd ?_; refine QK ?_
  refine ⟨i + 1, hil, by omega, ?_⟩
  dsimp only
  rw [hst]
  exact X9 rfl JM ⟨rfl, rfl, (by refine Eq.trans (b := AObj.box [.own 120 _, .own 121 (_ + _), ab on]) rfl ?_; rw [List.length_append]), rfl, rfl, trivial⟩
 obtain rfl : i = pend.length := by omega
 have hn : ¬ ((pend.length : Nat) : Int) < (pend.map cWr).length := by omega
 rw [List.take_length]
 refine QM ?_; refine X0 ?_; refine Xi (XL 120 rfl) ?_; refine Xi (Vn 102 0 120 (cs := [.own 120 (secs.map Yj).length, .own 121 (pend.map cWr).length, ab on]) (sz := 1) (xs := secs.map Yj) rfl rfl rfl rfl) ?_; refine Xi (XL 121 rfl) ?_; refine Xi (Vn 102 1 121 (cs := [.d (XE secs), .own 121 (pend.map cWr).length, ab on]) (sz := 2) (xs := pend.map cWr) rfl rfl rfl rfl) ?_; refine JR ?_; refine ZL ?_; exact Qqe
theorem X5t (d : Disk) (f t ep tail : Int) (l : List Rcd) (hf : YW d) (hr : ∀ r ∈ l, Ux r) (hl : l.length ≤ 1000) : Con Tryz.prog 19 [] [XK d, ai f, ai t, ai ep, ai tail, .d (.sl 10 (l.map Xq))]
  [] (.d (.sl 3 ((Xr d f t ep tail l).1.map Xt))) := by
 refine Xa (xs := [.d (.sl 3 ((Xr d f t ep tail l).1.map Xt))]) Tryz.func19 rfl Tryz.ntmps19 rfl rfl rfl (fun E => ?_)
 have c1 := Xb1 d f t ep tail l hf hr hl
 have hok : ∀ x ∈ (Xr d f t ep tail l).1, UE x := fun x hx => by
  by_cases he : (Xr d f t ep tail l).2.2 = 0
  ·exact (X8R hf he x hx).2.1
  ·rw [(X2j he).1] at hx; simp at hx
 have htl := X63 hf (f := f) (t := t) (ep := ep) (tail := tail) (l := l)
 generalize (Xr d f t ep tail l).1 = T at *
 generalize (Xr d f t ep tail l).2.1 = z at *
 generalize (Xr d f t ep tail l).2.2 = e at *
 clear hf hr
 obtain ⟨secs, pend, on⟩ := d
 have hlm : (T.map Xt).length = T.length := by simp
 have hall : ∀ r ∈ T.map Xt, r.length = 3 := by
  intro r hr
  obtain ⟨p, _, rfl⟩ := List.mem_map.1 hr
  rfl
 refine QUe ?_; refine Z0m ?_; refine Z1 ?_; refine JD ?_; refine X5 ?_
 clear c1
 refine Xu (fun i : Nat => i ≤ T.length) (fun i => ⟨43, [(13, .own 133 (T.map Xt).length), (28, .own 133 (T.map Xt).length), (29, ai (T.map Xt).length), (30, ai i)], [(133, .row 3 (T.map Xt))]⟩) (fun i => T.length - i) 0 (Nat.zero_le _)
  (X9 rfl JM ⟨rfl, trivial⟩) ?_
 intro i hi
 by_cases hil : i < T.length
 case neg =>
  have hn : ¬ (i : Int) < (T.map Xt).length := by omega
  refine QM ?_; refine Qz ?_; refine Xi (XL 133 rfl) ?_; refine Xi (Yc 12 133 rfl rfl rfl) ?_
  (show AWP Tryz.prog E _ _ _; refine X1 ?_; exact (show Xn _ _ _ _ _ from ⟨_, St.le_refl _, ⟨rfl, trivial⟩, X3 _⟩))
 have hn : (i : Int) < (T.map Xt).length := by omega
 have hilm : i < (T.map Xt).length := by omega
 have h0 : 0 < (T.map Xt).length := by omega
 obtain ⟨x, hx⟩ := Xx (l := T) hil
 have hxc : (T.map Xt)[i]? = some (Xt x) := YR hx
 have hpart := X9r hall hxc (o := 0) (q := 3) (by omega)
 have hroom : i * 3 + 3 ≤ (T.map Xt).length * 3 := by omega
 have hys : ((T.map Xt).flatten.drop (i * 3)).take 3 = [XE x.sectors, XA x.pending, .v (.bool x.on)] := by
  rw [Nat.add_zero] at hpart
  rw [hpart]
  simp [Xt]
 have hcv := XdW x (hok x (List.mem_of_getElem? hx))
 clear hx hxc hpart hall hok
 obtain ⟨xs, xp, xo⟩ := x
 simp only at hys
 generalize T.map Xt = L at *
 refine QB ?_; refine JT ?_; refine QC ?_; refine Qz ?_; refine Qgc ?_; refine Qy ?_; refine Z0n ?_; refine Z0o (q := 3) (ys := [XE xs, XA xp, .v (.bool xo)]) ?_ (hb := by exact hroom) (hys := by exact hys); refine Z9 (hcon := hcv) ?_; refine Z0n ?_; refine Z0p (q := 3) (ys := [XE xs, XA xp, .v (.bool xo)]) ?_ (hb := by exact hroom) (hys := by exact hys); refine JD ?_; refine QK ?_; exact ⟨i + 1, hil, by omega, X9 rfl JM ⟨rfl, trivial⟩⟩
theorem X8q {P L : List UInt8} (h : P.length % 64 = 0) : Uy (P ++ L) = P ++ Uy L := by
 unfold Uy
 rw [List.append_assoc, List.length_append]
 congr 3
 omega
open Go
def Ui (d : Disk) (k : Nat) : List UInt8 := YZ d.pending (k : Nat) ((d.sectors[k]?).getD []) d.pending.length
theorem X4Q {d : Disk} (h : DOk d) {k : Nat} (hk : k < d.sectors.length) : (Yn d (k : Nat)).1 = Ui d k := by
 unfold Yn Ui
 rw [if_neg (by rw [h.use]; simp), if_pos ⟨by omega, by omega⟩, Int.toNat_natCast]
theorem X8k {pend : List Wr} {w : Wr} {a : Int} {s : List UInt8} : ∀ n, n ≤ pend.length → YZ (pend ++ [w]) a s n = YZ pend a s n
 | 0, _ => rfl
 | n + 1, h => by
  have e := X8k (pend := pend) (w := w) (a := a) (s := s) n (by omega)
  simp only [YZ, e, List.getElem?_append_left (show n < pend.length by omega)]
theorem Xgq {pend : List Wr} {w : Wr} {a : Int} {s : List UInt8} : YZ (pend ++ [w]) a s (pend ++ [w]).length = if w.at_ = a then w.b else YZ pend a s pend.length := by
 rw [List.length_append, List.length_singleton]
 simp only [YZ, X8k pend.length (Nat.le_refl _)]
 simp
theorem X89 (d : Disk) (a : Nat) (b : List UInt8) (k : Nat) : Ui (Uq d a b) k = if a = k then b else Ui d k := by
 unfold Ui Uq
 simp only [Xgq]
 by_cases h : a = k
 ·rw [if_pos h, if_pos (by omega)]
 ·rw [if_neg h, if_neg (by omega)]
theorem X4f (bs : List (List UInt8)) : ∀ (d : Disk) (a k : Nat), (k < a ∨ a + bs.length ≤ k → Ui (XH d a bs) k = Ui d k) ∧ ∀ i b, bs[i]? = some b → Ui (XH d a bs) (a + i) = b := by
 induction bs with
 | nil => intro d a k; exact ⟨fun _ => rfl, fun i b h => by simp at h⟩
 | cons x bs ih =>
  intro d a k
  refine ⟨fun h => ?_, fun i b h => ?_⟩
  ·rw [List.length_cons] at h
   rw [XH, (ih (Uq d a x) (a + 1) k).1 (by omega), X89, if_neg (by omega)]
  ·cases i with
   | zero =>
    simp only [List.getElem?_cons_zero, Option.some.injEq] at h
    subst h
    show Ui (XH (Uq d a x) (a + 1) bs) a = x
    rw [(ih (Uq d a x) (a + 1) a).1 (by omega), X89, if_pos rfl]
   | succ i =>
    rw [XH, show a + (i + 1) = a + 1 + i by omega]
    exact (ih (Uq d a x) (a + 1) k).2 i b (by simpa using h)
theorem X9c {rows : List (List UInt8)} {pend : List Wr} (hok : okW rows pend) {k : Nat} {s : List UInt8} (hs : rows[k]? = some s) : ∀ n, (YA rows pend (fun _ => 64) n)[k]? = some (YZ pend (k : Nat) s n)
 | 0 => hs
 | n + 1 => by
  have ih := X9c hok hs n
  rw [YA, YZ]
  cases hw : pend[n]? with
  | none => exact ih
  | some w =>
   obtain ⟨w1, w2, w3⟩ := hok.2 w (List.mem_of_getElem? hw)
   have hc : X0b 64 = 64 := rfl
   have hkl : k < (YA rows pend (fun _ => 64) n).length := (List.getElem?_eq_some_iff.1 ih).1
   simp only [X1X, hc]
   by_cases ha : w.at_ = (k : Nat)
   ·rw [if_pos ha, show w.at_.toNat = k by omega, List.getElem?_set_self hkl, ih, Option.getD_some]
    have hbl : (YZ pend (k : Nat) s n).length = 64 := by
     have := X0T (fun _ => 64) hok n _ (List.mem_of_getElem? ih)
     exact this
    rw [List.take_of_length_le (by omega), List.drop_of_length_le (by omega), List.append_nil]
   ·rw [if_neg ha, List.getElem?_set_ne (by omega)]
    exact ih
theorem X9S {d : Disk} (h : DOk d) {k : Nat} (hk : k < d.sectors.length) : Ui (Yv d).1 k = Ui d k := by
 have hp := X9c (X13 h.v) (List.getElem?_eq_getElem hk) d.pending.length
 rw [XbK h]
 unfold Ui YC
 simp only [List.length_nil, YZ]
 rw [hp, List.getElem?_eq_getElem hk]
 rfl
theorem X3g (d : Disk) : ∀ (m n f : Nat), Yd d f (m + n) = Yd d f m ++ Yd d (f + m) n
 | 0, n, f => by simp [Yd]
 | m + 1, n, f => by
  rw [show m + 1 + n = (m + n) + 1 by omega, Yd, Yd, X3g d m n (f + 1), List.append_assoc, show f + 1 + m = f + (m + 1) by omega]
theorem X4Z {d e : Disk} (hd : DOk d) (he : DOk e) (hl : e.sectors.length = d.sectors.length) : ∀ (n f : Nat), f + n ≤ d.sectors.length → (∀ k, f ≤ k → k < f + n → Ui d k = Ui e k) → Yd d f n = Yd e f n
 | 0, _, _, _ => rfl
 | n + 1, f, hf, h => by
  rw [Yd, Yd, X4Q hd (by omega), X4Q he (by omega), h f (Nat.le_refl _) (by omega), X4Z hd he hl n (f + 1) (by omega) fun k h1 h2 => h k (by omega) (by omega)]
theorem Xap {e : Disk} (he : DOk e) : ∀ (bs : List (List UInt8)) (a : Nat), a + bs.length ≤ e.sectors.length → (∀ i b, bs[i]? = some b → Ui e (a + i) = b) → Yd e a bs.length = bs.flatten
 | [], _, _, _ => rfl
 | b :: bs, a, hl, h => by
  rw [List.length_cons] at hl ⊢
  rw [Yd, X4Q he (by omega), show Ui e a = b from h 0 b rfl, List.flatten_cons, Xap he bs (a + 1) (by omega) fun i c hc => by
   rw [show a + 1 + i = a + (i + 1) by omega]
   exact h (i + 1) c (by simpa using hc)]
theorem X9w : ∀ (n : Nat) (Y : List UInt8), Y.length = 64 * n → (YB n Y).flatten = Y
 | 0, Y, h => by
  have : Y = [] := List.eq_nil_of_length_eq_zero (by omega)
  subst this; rfl
 | n + 1, Y, h => by
  rw [YB, List.flatten_cons, X9w n (Y.drop 64) (by rw [List.length_drop]; omega), List.take_append_drop]
theorem X5n {d : Disk} (hd : DOk d) {f n a : Nat} {bs : List (List UInt8)} (hn : f + n ≤ d.sectors.length) (ha : f ≤ a) (hb : a + bs.length ≤ f + n) (hc : ∀ c ∈ bs, c.length = 64) :
  Yd (Yv (XH d a bs)).1 f n = (Yd d f n).take (64 * (a - f)) ++ bs.flatten ++ (Yd d f n).drop (64 * (a - f + bs.length)) := by
 have hl := X0N bs d a hd (by omega) hc
 obtain ⟨s1, s2, s3⟩ := X3A hl
 have hsl := (X0n bs d a).1
 rw [hsl] at s2
 generalize hE : (Yv (XH d a bs)).1 = e at *
 have hv : ∀ k, k < d.sectors.length → Ui e k = Ui (XH d a bs) k := fun k hk => by rw [← hE]; exact X9S hl (by rw [hsl]; exact hk)
 have e1 : n = (a - f) + (bs.length + (f + n - a - bs.length)) := by omega
 have p1 : Yd e f (a - f) = Yd d f (a - f) := X4Z s1 hd s2.symm _ _ (by omega) fun k h1 h2 => by rw [hv k (by omega), (X4f bs d a k).1 (by omega)]
 have p2 : Yd e (f + (a - f)) bs.length = bs.flatten := by
  rw [show f + (a - f) = a by omega]
  exact Xap s1 bs a (by omega) fun i b hi => by
   have hil := (List.getElem?_eq_some_iff.1 hi).1
   rw [hv _ (by omega)]
   exact (X4f bs d a a).2 i b hi
 have p3 : Yd e (f + (a - f) + bs.length) (f + n - a - bs.length) = Yd d (f + (a - f) + bs.length) (f + n - a - bs.length) := X4Z s1 hd s2.symm _ _ (by omega) fun k h1 h2 => by rw [hv k (by omega), (X4f bs d a k).1 (by omega)]
 have q1 := VW hd (a - f) f (by omega)
 have q2 := VW hd bs.length (f + (a - f)) (by omega)
 have hd3 : Yd d f n = Yd d f (a - f) ++ (Yd d (f + (a - f)) bs.length ++ Yd d (f + (a - f) + bs.length) (f + n - a - bs.length)) := by
  conv => lhs; rw [e1]
  rw [X3g, X3g]
 have he3 : Yd e f n = Yd e f (a - f) ++ (Yd e (f + (a - f)) bs.length ++ Yd e (f + (a - f) + bs.length) (f + n - a - bs.length)) := by
  conv => lhs; rw [e1]
  rw [X3g, X3g]
 rw [he3, p1, p2, p3, hd3, List.append_assoc]
 congr 1
 ·rw [List.take_left' (by omega)]
 ·congr 1
  rw [← List.append_assoc, List.drop_left' (by rw [List.length_append]; omega)]
def X3k (S : List UInt8) (T : Nat) : Prop := S.drop T = List.replicate (S.length - T) 0
theorem Xfg {α : Type} (n k : Nat) (x : α) : (List.replicate n x).drop k = List.replicate (n - k) x := by simp
theorem XaO {d : Disk} {f t tail : Int} {A : List UInt8} (hd : DOk d) (h1 : 0 ≤ f) (h2 : f < t) (h3 : t ≤ d.sectors.length) (h6 : 0 ≤ tail) (h7 : tail + A.length ≤ (t - f) * 64) (hz : X3k (Xz d f t) tail.toNat) (hA : A ≠ []) :
  Xz (Yv (XH d (f.toNat + tail.toNat / 64) (YI d f t tail A))).1 f t = (Xz d f t).take tail.toNat ++ A ++ List.replicate ((Xz d f t).length - tail.toNat - A.length) 0 := by
 obtain ⟨k1, k2, k3⟩ := X2p (A := A) hd h1 h2 h3 h6 h7
 have hS : (Xz d f t).length = 64 * (t - f).toNat := by unfold Xz; exact VW hd _ _ (by omega)
 have hT : ((Xz d f t).take tail.toNat).length = tail.toNat := by rw [List.length_take]; omega
 obtain ⟨y1, y2, y3⟩ := X31 (((Xz d f t).take tail.toNat).drop (tail.toNat / 64 * 64) ++ A)
 have hXl : (((Xz d f t).take tail.toNat).drop (tail.toNat / 64 * 64)).length = tail.toNat - tail.toNat / 64 * 64 := by rw [List.length_drop, hT]
 have hXA : (((Xz d f t).take tail.toNat).drop (tail.toNat / 64 * 64) ++ A).length = tail.toNat - tail.toNat / 64 * 64 + A.length := by rw [List.length_append, hXl]
 have hchunks : YI d f t tail A = YB ((UH d f t tail A).length / 64) (UH d f t tail A) := if_neg hA
 have hY : UH d f t tail A = Uy (((Xz d f t).take tail.toNat).drop (tail.toNat / 64 * 64) ++ A) := rfl
 rw [← hY] at y1 y2 y3
 have hflat : (YI d f t tail A).flatten = UH d f t tail A := by rw [hchunks]; exact X9w _ _ (by omega)
 have hcl : (YI d f t tail A).length = (UH d f t tail A).length / 64 := by rw [hchunks, X0C]
 have hw := X5n (f := f.toNat) (n := (t - f).toNat) hd (by omega) (by omega) (by rw [hcl]; omega) k2 (a := f.toNat + tail.toNat / 64) (bs := YI d f t tail A)
 have h8 : tail.toNat + A.length ≤ (Xz d f t).length := by omega
 unfold Xz at hS hT hz hXl hXA y2 y3 hY h8 ⊢
 rw [hw, hflat, hcl, show f.toNat + tail.toNat / 64 - f.toNat = tail.toNat / 64 by omega]
 generalize Yd d f.toNat (t - f).toNat = S at *
 generalize tail.toNat = T at *
 have hfr : S.take (64 * (T / 64)) ++ UH d f t tail A = Uy (S.take T ++ A) := by
  have hp : S.take T ++ A = S.take (T / 64 * 64) ++ ((S.take T).drop (T / 64 * 64) ++ A) := by
   rw [← List.append_assoc]
   congr 1
   conv => lhs; rw [← List.take_append_drop (T / 64 * 64) (S.take T)]
   rw [List.take_take, Nat.min_eq_left (by omega)]
  rw [hp, X8q (by rw [List.length_take]; omega), ← hY, show 64 * (T / 64) = T / 64 * 64 by omega]
 rw [hfr]
 unfold Uy
 rw [List.append_assoc (S.take T ++ A)]
 congr 1
 have hdr : S.drop (64 * (T / 64 + (UH d f t tail A).length / 64)) = List.replicate (S.length - 64 * (T / 64 + (UH d f t tail A).length / 64)) 0 := by
  have e : 64 * (T / 64 + (UH d f t tail A).length / 64) = T + (64 * (T / 64 + (UH d f t tail A).length / 64) - T) := by omega
  rw [e, ← List.drop_drop, hz, Xfg]
  congr 1
  omega
 rw [hdr, List.replicate_append_replicate]
 congr 1
 rw [List.length_append, hT]
 clear hw hcl hflat hY hchunks hfr hdr hz
 generalize (UH d f t tail A).length = yl at *
 omega
end Go.Fw
