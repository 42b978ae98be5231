/- What Append does: the disks it goes through. -/
import Derived.Test.YtpfldfkhgplcgaaGreatDoorK28
set_option maxHeartbeats 64000000
namespace Go.Fw
open Go Go.Proofs
set_option maxRecDepth 100000
set_option linter.unusedVariables false
set_option linter.unusedSimpArgs false
def Ys (d : Disk) : List D := [XB d.sectors, XC d.pending, .v (.bool d.on)]
abbrev wzC : List D := [.v (.int .u8 0)]
theorem Xdj (L : List UInt8) : L.map X7 ++ List.replicate ((64 - L.length % 64) % 64) wzC = (V3 L).map X7 := by
 unfold V3
 rw [List.map_append, List.map_replicate]
 rfl
theorem X7c (C : List (List D)) (j : Nat) : C ++ List.replicate (j + 1) wzC = (C ++ List.replicate j wzC) ++ [wzC] := by
 rw [List.replicate_succ', List.append_assoc]
structure WrOk (d : Disk) (a n : Nat) (Y : List UInt8) : Prop where
 ok : DOk d
 few : Ud d
 len : Y.length = 64 * n
 room : a + n ≤ d.sectors.length
theorem X7k {d : Disk} {a n : Nat} {Y : List UInt8} (h : WrOk d a n Y) {k : Nat} (hk : k ≤ n) : DOk (Yb d a (YB k Y)) ∧ UY (Yb d a (YB k Y)) := by
 obtain ⟨k1, k2, k3⟩ := X17 (YB k Y) d a
 have h1 := h.few.1
 have h2 := h.few.2
 have h3 := h.room
 have h4 := X1K (YB k Y) d a h.ok (by rw [X0W]; omega) (X5o k Y (by rw [h.len]; omega))
 exact ⟨h4, X0p h4.v (by rw [k3, X0W]; omega)⟩
theorem XdG {d : Disk} {a n : Nat} {Y : List UInt8} (h : WrOk d a n Y) {k : Nat} (hk : k < n) : Yb d a (YB (k + 1) Y) = Ui (Yb d a (YB k Y)) (a + k) ((Y.drop (64 * k)).take 64) ∧ ((Y.drop (64 * k)).take 64).length = 64 ∧
  Yw (Yb d a (YB k Y)) ((a + k : Nat) : Int) ((Y.drop (64 * k)).take 64) = (Yb d a (YB (k + 1) Y), 0) ∧ Vg d a (YB (k + 1) Y) = Vg d a (YB k Y) ++ [Yb d a (YB (k + 1) Y)] := by
 have e1 : Yb d a (YB (k + 1) Y) = Ui (Yb d a (YB k Y)) (a + k) ((Y.drop (64 * k)).take 64) := by rw [X4W, X9H, X0W]
 have e2 : ((Y.drop (64 * k)).take 64).length = 64 := by rw [List.length_take, List.length_drop, h.len]; omega
 have e3 := (X17 (YB k Y) d a).1
 have h3 := h.room
 refine ⟨e1, e2, ?_, ?_⟩
 ·rw [e1, X6B (X7k h (by omega)).1 (by rw [e3]; omega) e2]
 ·rw [e1, X4W, Xd8, X0W]
theorem X8Y (d : Disk) (f t ep tail : Int) (l : List Rcd) (hf : Ud d) (hr : ∀ r ∈ l, X0Z r) (hl : l.length ≤ 1000) : Con Tryz.prog 41 [] [XK d, ai f, ai t, ai ep, ai tail, .d (.sl 10 (l.map XG))]
  [(133, .row 3 ((XT d f t ep tail l).1.map Ys))] (.tup [.own 133 ((XT d f t ep tail l).1.map Ys).length, ai (XT d f t ep tail l).2.1, ai (XT d f t ep tail l).2.2]) := by
 refine Xb (xs := [.own 133 ((XT d f t ep tail l).1.map Ys).length, ai (XT d f t ep tail l).2.1, ai (XT d f t ep tail l).2.2]) Tryz.func41 rfl Tryz.ntmps41 rfl rfl rfl (fun E => ?_)
 have c1 := X5R d f t ep tail
 by_cases he : XJ d f t ep tail = 0
 case neg =>
  have e : XT d f t ep tail l = ([], 0, XJ d f t ep tail) := by unfold XT; rw [if_pos he]
  rw [e]
  generalize XJ d f t ep tail = r at *
  clear hf hr
  obtain ⟨secs, pend, on⟩ := d
  simp only [List.map_nil, List.length_nil]
  refine QUe ?_; refine Qw ?_; refine Z9 (hcon := c1) ?_; refine Qv ?_; refine QAa ?_; refine Qf ?_; refine QMb ?_
  (show AWP Tryz.prog E _ _ _; refine X1 ?_; exact (show Xq _ _ _ _ _ from ⟨_, Vp 12 133 3 rfl rfl rfl, ⟨rfl, rfl, rfl, trivial⟩, Xh ⟨rfl, trivial⟩⟩))
 rw [he] at c1
 obtain ⟨hd, h1, h2, h3, h4, h5, h6, h7⟩ := X0X he
 have c2 := Xab ep l h4 h5 hr hl
 by_cases hE : Ux l = 0
 case neg =>
  have e : XT d f t ep tail l = ([], 0, Ux l) := by unfold XT; rw [if_neg (by rw [he]; simp), if_pos hE]
  rw [e]
  generalize Ux l = r at *
  generalize X0w ep l = P at *
  clear hf hr hd e he
  obtain ⟨secs, pend, on⟩ := d
  simp only [List.map_nil, List.length_nil]
  refine QZe ?_; refine QAa ?_; refine Qf ?_; refine QMb ?_
  (show AWP Tryz.prog E _ _ _; refine X1 ?_; exact (show Xq _ _ _ _ _ from ⟨_, Vp 12 133 3 rfl rfl rfl, ⟨rfl, rfl, rfl, trivial⟩, Xh ⟨rfl, trivial⟩⟩))
 have eP : X0w ep l = XA ep l := if_neg (by rw [hE]; simp)
 rw [hE, eP] at c2
 have hAl := X6c h4 h5 l fun r hrr => (hr r hrr).2
 have eS : XT d f t ep tail l = if (t - f) * 64 < tail + (XA ep l).length then ([], 0, 20) else (X0v d f t tail (XA ep l), tail + (XA ep l).length, 0) := by
  unfold XT; rw [if_neg (by rw [he]; simp), if_neg (by rw [hE]; simp)]
 rw [eS]
 generalize XA ep l = A at *
 have hAm : (A.map X7).length = A.length := by simp
 have c3 := X5f f t h1 h2 (by have := hf.1; omega)
 have hN : t ≤ 2000 := by have := hf.1; omega
 clear eS eP hE he hr
 by_cases hfull : (t - f) * 64 < tail + A.length
 ·rw [if_pos hfull]
  have hfull' : (t - f) * 64 < tail + ((A.map X7).length : Nat) := by rw [hAm]; exact hfull
  clear hf hd h3
  obtain ⟨secs, pend, on⟩ := d
  simp only [List.map_nil, List.length_nil]
  refine Qaf ?_; refine Zs ?_; refine QOb ?_; refine QMb ?_
  (show AWP Tryz.prog E _ _ _; refine X1 ?_; exact (show Xq _ _ _ _ _ from ⟨_, Vp 12 133 3 rfl rfl rfl, ⟨rfl, rfl, rfl, trivial⟩, Xh ⟨rfl, trivial⟩⟩))
 rw [if_neg hfull]
 have hfull' : ¬ (t - f) * 64 < tail + ((A.map X7).length : Nat) := by rw [hAm]; exact hfull
 have c4 := XaQ d f t hd hf h1 (by omega) h3
 have hSl : (XO d f t).length = 64 * (t - f).toNat := by unfold XO; exact VQ hd _ _ (by omega)
 obtain ⟨F, rfl⟩ : ∃ F : Nat, f = F := ⟨f.toNat, by omega⟩
 obtain ⟨T, rfl⟩ : ∃ T : Nat, tail = T := ⟨tail.toNat, by omega⟩
 unfold X0v V8
 have eT : UP d (F : Nat) t (T : Nat) A = V3 (((XO d (F : Nat) t).take T).drop (T / 64 * 64) ++ A) := by unfold UP; rw [Int.toNat_natCast]
 rw [eT, Int.toNat_natCast, Int.toNat_natCast]
 generalize XO d (F : Nat) t = B at *
 have hBm : (B.map X7).length = B.length := by simp
 obtain ⟨X, hX⟩ : ∃ X, X = (B.take T).drop (T / 64 * 64) := ⟨_, rfl⟩
 have hXc : ((B.map X7).take T).drop (T / 64 * 64) = X.map X7 := by rw [hX, List.map_drop, List.map_take]
 have hXl : X.length = T - T / 64 * 64 := by rw [hX, List.length_drop, List.length_take]; omega
 rw [← hX]
 clear hX eT
 have hlo : T / 64 * 64 ≤ T := by omega
 have hTB : T ≤ (B.map X7).length := by omega
 have hend : ((T : Int) + ((A.map X7).length : Nat)) = (T : Int) + (A.length : Nat) := by rw [hAm]
 have hcap : T / 64 < 2 ^ 62 := by omega
 by_cases hA : A = []
 ·subst hA
  rw [if_pos rfl]
  simp only [Vg, Yb, List.cons_append, List.nil_append]
  have hs := X5n d (X6e hd.v hf)
  generalize (Yh d).1 = Z at *
  generalize (Yh d).2 = Z2 at *
  obtain ⟨zs, zp, zo⟩ := Z
  clear hf hd
  obtain ⟨secs, pend, on⟩ := d
  have hXm : (X.map X7).length = X.length := by simp
  have hXs : X.length ≤ 64 := by omega
  refine Qaf ?_; refine Zs ?_; refine Qs ?_; refine Z7 (op := .quo) (r' := ni (T / 64)) (u := ni T) (v := ni 64) ?_ (hr := by exact VR (by decide) (by rw [Xr]; omega)); refine Qc ?_; refine Qeb ?_; refine ZL ?_; refine Z9 (hcon := c4) ?_; refine Z1 ?_; refine Z7 (op := .mul) (r' := ni (T / 64 * 64)) (u := ni (T / 64)) (v := ni 64) ?_ (hr := by exact YK (by rw [Xr]; omega)); refine Qw ?_; refine Z0i (lb := (T / 64 * 64)) (hb := T) (ys := X.map X7) ?_ (hys := by exact hXc); refine Z1 ?_; refine Z0j ?_; refine Qc ?_; refine Qe ?_
  clear c1 c2 c3 c4
  refine Xu (fun j : Nat => j ≤ (64 - X.length % 64) % 64) (fun j => match j with
   | 0 => ⟨109, [(6, .ptr 100 0), (17, .d (Xg [])), (19, ai ((T : Int) + (([] : List UInt8).map X7).length)), (21, .dx 1 (X.map X7))], [(100, .box [.d (XB secs), .d (XC pend), ab on])]⟩
   | j + 1 => ⟨109, [(6, .ptr 100 0), (17, .d (Xg [])), (19, ai ((T : Int) + (([] : List UInt8).map X7).length)), (21, .own 132 (X.map X7 ++ List.replicate (j + 1) wzC).length)], [(100, .box [.d (XB secs), .d (XC pend), ab on]), (132, .row 1 (X.map X7 ++ List.replicate (j + 1) wzC))]⟩) (fun j => (64 - X.length % 64) % 64 - j) 0 (Nat.zero_le _)
   (Xa rfl JM ⟨rfl, trivial⟩) ?_
  intro j hj
  have hn0 : ¬ (0 : Int) < ((([] : List UInt8).map X7).length : Nat) := by simp
  cases j with
  | zero =>
   dsimp only
   by_cases hp : X.length % 64 = 0
   ·have hpc : (((X.map X7).length : Nat) : Int) % 64 = 0 := by rw [hXm]; omega
    have hpn : ¬ ¬ (((X.map X7).length : Nat) : Int) % 64 = 0 := fun h => h hpc
    refine Qg ?_; refine Z0k ?_; refine ZJ ?_; refine Zv ?_; refine Ql ?_; refine Qeb ?_; refine ZZ (γ := 133) (d := 72) ?_; refine Qja ?_; refine QWd ?_; refine Qr ?_; refine Qeb ?_; refine Z9 (hcon := hs) ?_; refine Qbf ?_
    (show AWP Tryz.prog E _ _ _; refine X1 ?_; exact (show Xq _ _ _ _ _ from ⟨_, St.le_refl _, ⟨rfl, rfl, rfl, trivial⟩, Xh ⟨rfl, trivial⟩⟩))
   ·have hpc : ¬ (((X.map X7).length : Nat) : Int) % 64 = 0 := by rw [hXm]; omega
    refine Qg ?_; refine Z0k ?_; refine ZJ ?_; refine QAa ?_; refine X4 ?_; refine X5 ?_; refine Qk ?_; refine Z5 ?_; refine Z0l (γ := 132) ?_ (hne := by exact (show [wzC] ≠ [] by simp)); refine Qc ?_; exact ⟨0 + 1, by omega, by omega, Xa rfl ⟨JL, JL, JL, AVal.le_of_eq (by refine Eq.trans (b := AVal.own 132 (_ + _)) rfl ?_; simp only [List.length_append, List.length_map, List.length_cons, List.length_nil, List.length_replicate]), trivial⟩ ⟨rfl, rfl, trivial⟩⟩
  | succ j =>
   dsimp only
   obtain ⟨W, hW⟩ : ∃ W, W = X.map X7 ++ List.replicate (j + 1) wzC := ⟨_, rfl⟩
   have hWl : W.length = X.length + (j + 1) := by rw [hW]; simp
   have hWs : X.map X7 ++ List.replicate (j + 1 + 1) wzC = W ++ [wzC] := by rw [hW]; exact X7c _ _
   rw [← hW]
   have hroom : W.length ≤ 200 := by omega
   by_cases hp : j + 1 < (64 - X.length % 64) % 64
   ·have hpc : ¬ ((W.length : Nat) : Int) % 64 = 0 := by omega
    refine Qg ?_; refine Z0m ?_; refine ZJ ?_; refine QAa ?_; refine X4 ?_; refine X5 ?_; refine Qk ?_; refine Qj ?_
    refine ⟨j + 1 + 1, hp, by omega, ?_⟩
    dsimp only
    rw [hWs]
    exact Xa rfl ⟨JL, JL, JL, AVal.le_of_eq (by refine Eq.trans (b := AVal.own 132 (_ + _)) rfl ?_; simp only [List.length_append, List.length_cons, List.length_nil]), trivial⟩ ⟨rfl, rfl, trivial⟩
   ·have hpc : ((W.length : Nat) : Int) % 64 = 0 := by omega
    have hpn : ¬ ¬ ((W.length : Nat) : Int) % 64 = 0 := fun h => h hpc
    refine Qg ?_; refine Z0m ?_; refine ZJ ?_; refine Zv ?_; refine Ql ?_; refine Qeb ?_; refine ZZ (γ := 133) (d := 72) ?_; refine Qja ?_; refine QWd ?_; refine Qr ?_; refine Qeb ?_; refine Z9 (hcon := hs) ?_; refine Qbf ?_
    (show AWP Tryz.prog E _ _ _; refine X1 ?_; exact (show Xq _ _ _ _ _ from ⟨_, St.le_refl _, ⟨rfl, rfl, rfl, trivial⟩, Xh ⟨rfl, trivial⟩⟩))
 rw [if_neg hA]
 have hAn : A.map X7 ≠ [] := fun h => hA (by simpa using h)
 have hA0 : A.length ≠ 0 := fun h => hA (List.eq_nil_of_length_eq_zero h)
 obtain ⟨hY1, hY2, hY3⟩ := X4v (X ++ A)
 have hYc := Xdj (X ++ A)
 rw [List.map_append] at hYc
 have hXAl : (X ++ A).length = X.length + A.length := by simp
 generalize hm : (64 - (X ++ A).length % 64) % 64 = p at *
 generalize V3 (X ++ A) = Y at *
 obtain ⟨n, hn⟩ : ∃ n, Y.length = 64 * n := ⟨Y.length / 64, by omega⟩
 have hn64 : Y.length / 64 = n := by omega
 rw [hn64]
 have hwr : WrOk d (F + T / 64) n Y := ⟨hd, hf, hn, by omega⟩
 have hat := fun k (hk : k ≤ n) => X7k hwr hk
 have hstp := fun k (hk : k < n) => XdG hwr hk
 obtain ⟨D, hD⟩ : ∃ D : Nat → Disk, ∀ k, Yb d (F + T / 64) (YB k Y) = D k := ⟨_, fun _ => rfl⟩
 obtain ⟨R, hR⟩ : ∃ R : Nat → List Disk, ∀ k, Vg d (F + T / 64) (YB k Y) = R k := ⟨_, fun _ => rfl⟩
 simp only [hD, hR] at hat hstp ⊢
 have hD0 : d = D 0 := hD 0
 have hR0 : [d] = R 0 := hR 0
 have hRl : ∀ k, (R k).length = k + 1 := fun k => by rw [← hR, X5k, X0W]
 clear hD hR hwr
 have hsync := X5n (D n) (hat n (Nat.le_refl _)).2
 generalize (Yh (D n)).1 = Z at *
 generalize (Yh (D n)).2 = Z2 at *
 obtain ⟨zs, zp, zo⟩ := Z
 have hfin : (R n ++ [(⟨zs, zp, zo⟩ : Disk)]).map Ys = (R n).map Ys ++ [[XB zs, XC zp, .v (.bool zo)]] := by simp [Ys]
 rw [hfin, List.length_append]
 clear hfin
 have hpm : p < 64 := by rw [← hm]; omega
 have hXAm : (X.map X7).length + (A.map X7).length = X.length + A.length := by simp
 have hroomX : ((X.map X7).length + (A.map X7).length) ≤ 200000 := by omega
 subst hD0
 clear hf hd
 refine Qaf ?_; refine Zs ?_; refine Qs ?_; refine Z7 (op := .quo) (r' := ni (T / 64)) (u := ni T) (v := ni 64) ?_ (hr := by exact VR (by decide) (by rw [Xr]; omega)); refine Qc ?_; refine Qeb ?_; refine ZL ?_; refine Z9 (hcon := c4) ?_; refine Z1 ?_; refine Z7 (op := .mul) (r' := ni (T / 64 * 64)) (u := ni (T / 64)) (v := ni 64) ?_ (hr := by exact YK (by rw [Xr]; omega)); refine Qw ?_; refine Z0i (lb := (T / 64 * 64)) (hb := T) (ys := X.map X7) ?_ (hys := by exact hXc); refine Z1 ?_; refine Z0l (γ := 132) ?_ (hne := by exact hAn); refine Qc ?_; refine Qe ?_
 clear c1 c2 c3 c4
 refine Xu (fun j : Nat => j ≤ p) (fun j => ⟨109, [(1, ai (F : Nat)), (6, .ptr 100 0), (17, .d (Xg A)), (19, ai ((T : Int) + (A.map X7).length)), (20, ai (T / 64 : Nat)), (21, .own 132 ((X.map X7 ++ A.map X7) ++ List.replicate j wzC).length)], [(100, .box [.d (XB (D 0).sectors), .d (XC (D 0).pending), ab (D 0).on]), (132, .row 1 ((X.map X7 ++ A.map X7) ++ List.replicate j wzC))]⟩) (fun j => p - j) 0 (Nat.zero_le _)
  (Xa rfl ⟨JL, JL, JL, JL, JL, AVal.le_of_eq (by refine Eq.trans (b := AVal.own 132 (_ + _)) rfl ?_; simp), trivial⟩ ⟨rfl, (by simp; rfl), trivial⟩) ?_
 intro j hj
 obtain ⟨W, hW⟩ : ∃ W, W = (X.map X7 ++ A.map X7) ++ List.replicate j wzC := ⟨_, rfl⟩
 have hWl : W.length = X.length + A.length + j := by rw [hW]; simp; omega
 have hWs : (X.map X7 ++ A.map X7) ++ List.replicate (j + 1) wzC = W ++ [wzC] := by rw [hW]; exact X7c _ _
 rw [← hW]
 have hroom : W.length ≤ 200000 := by omega
 by_cases hp : j < p
 ·have hpc : ¬ ((W.length : Nat) : Int) % 64 = 0 := by omega
  refine Qg ?_; refine Z0m ?_; refine ZJ ?_; refine QAa ?_; refine X4 ?_; refine X5 ?_; refine Qk ?_; refine Qj ?_
  refine ⟨j + 1, hp, by omega, ?_⟩
  dsimp only
  rw [hWs]
  exact Xa rfl ⟨JL, JL, JL, JL, JL, AVal.le_of_eq (by refine Eq.trans (b := AVal.own 132 (_ + _)) rfl ?_; simp only [List.length_append, List.length_cons, List.length_nil]), trivial⟩ ⟨rfl, rfl, trivial⟩
 obtain rfl : j = p := by omega
 have hpc : ((W.length : Nat) : Int) % 64 = 0 := by omega
 have hpn : ¬ ¬ ((W.length : Nat) : Int) % 64 = 0 := fun h => h hpc
 have hWY : W = Y.map X7 := by rw [hW, hYc]
 have hgt : (0 : Int) < ((A.map X7).length : Nat) := by omega
 refine Qg ?_; refine Z0m ?_; refine ZJ ?_; refine Zv ?_; refine Ql ?_; refine X0 ?_
 subst hWY
 refine Xm (Y4 132 rfl) ?_; refine Xm (U1 21 132 rfl rfl rfl) ?_; refine JR ?_; refine ZL ?_; refine ZZ (γ := 133) (d := 72) ?_; refine Qja ?_; refine QWd ?_; refine Qp ?_; refine X5 ?_
 clear hpc hpn hWs hW hgt
 refine Xu (fun k : Nat => k ≤ n) (fun k => ⟨109, [(1, ai (F : Nat)), (6, .ptr 100 0), (19, ai ((T : Int) + (A.map X7).length)), (20, ai (T / 64 : Nat)), (21, .d (Xg (Y.drop (64 * k)))), (22, .own 133 ((R k).map Ys).length), (23, ai k)], [(100, .box [.d (XB (D k).sectors), .d (XC (D k).pending), ab (D k).on]), (133, .row 3 ((R k).map Ys))]⟩) (fun k => n - k) 0 (Nat.zero_le _)
  (Xa rfl ⟨JL, JL, JL, JL, (by rw [Nat.mul_zero, List.drop_zero]; exact AVal.le_refl _), (by rw [← hR0]; exact AVal.le_refl _), JL, trivial⟩ ⟨rfl, (by rw [← hR0]; rfl), trivial⟩) ?_
 intro k hk
 have hkl := hRl k
 have hroomR : ((R k).map Ys).length ≤ 5000 := by rw [List.length_map]; omega
 have hdl : ((Y.drop (64 * k)).map X7).length = 64 * n - 64 * k := by simp [hn]
 by_cases hkn : k < n
 case neg =>
  obtain rfl : k = n := by omega
  have hnl : ¬ (0 : Int) < (((Y.drop (64 * k)).map X7).length : Nat) := by omega
  clear hat hstp
  refine Qg ?_; refine QWd ?_; refine Ql ?_; refine Qeb ?_; refine Z9 (hcon := hsync) ?_; refine Qbf ?_
  (show AWP Tryz.prog E _ _ _; refine X1 ?_; exact (show Xq _ _ _ _ _ from ⟨_, Xc 13 (AVal.le_of_eq (by refine Eq.trans (b := ai _) rfl ?_; rw [hAm])), ⟨rfl, rfl, rfl, trivial⟩, Xh ⟨rfl, trivial⟩⟩))
 have hnl : (0 : Int) < (((Y.drop (64 * k)).map X7).length : Nat) := by omega
 obtain ⟨s1, s2, s3, s4⟩ := hstp k hkn
 have hw := X9B (D k) ((F + T / 64 + k : Nat) : Int) ((Y.drop (64 * k)).take 64) (hat k hk).2 (by rw [s2]; omega)
 rw [s3] at hw
 have hc1 : (((Y.drop (64 * k)).map X7).take 64).drop 0 = ((Y.drop (64 * k)).take 64).map X7 := by rw [List.drop_zero, List.map_take]
 have hc2 : (((Y.drop (64 * k)).map X7).take ((Y.drop (64 * k)).map X7).length).drop 64 = (Y.drop (64 * (k + 1))).map X7 := by rw [List.take_length, ← List.map_drop, List.drop_drop]; congr 2
 have hR1 : (R (k + 1)).map Ys = (R k).map Ys ++ [[XB (D (k + 1)).sectors, XC (D (k + 1)).pending, .v (.bool (D (k + 1)).on)]] := by rw [s4, List.map_append]; rfl
 generalize ((Y.drop (64 * k)).take 64) = cn at *
 have h64 : 64 ≤ ((Y.drop (64 * k)).map X7).length := by omega
 clear hat hstp s1 s2 s3 s4 hsync
 refine Qg ?_; refine QWd ?_; refine Qkb ?_; refine Qeb ?_; refine Qw ?_; refine Z7 (op := .add) (r' := ni (F + T / 64)) (u := ni F) (v := ni (T / 64)) ?_ (hr := by exact Y6 (by rw [Xr]; omega)); refine Z1 ?_; refine Z7 (op := .add) (r' := ni (F + T / 64 + k)) (u := ni (F + T / 64)) (v := ni k) ?_ (hr := by exact Y6 (by rw [Xr]; omega)); refine Z1 ?_; refine ZV (lb := 0) (hb := 64) (ys := cn.map X7) ?_ (hys := by exact hc1); refine Z9 (hcon := hw) ?_; refine Qac ?_; refine QTa ?_; refine Qf ?_; refine ZV (lb := 64) (hb := ((Y.drop (64 * k)).map X7).length) (ys := (Y.drop (64 * (k + 1))).map X7) ?_ (hys := by exact hc2); refine Qc ?_; refine Qk ?_; refine ZL ?_; refine Qj ?_; refine Qnb ?_
 refine ⟨k + 1, hkn, by omega, ?_⟩
 dsimp only
 rw [hR1]
 exact Xa rfl ⟨JL, JL, JL, JL, JL, AVal.le_of_eq (by refine Eq.trans (b := AVal.own 133 (_ + _)) rfl ?_; simp only [List.length_append, List.length_map, List.length_cons, List.length_nil]), JL, trivial⟩ ⟨rfl, rfl, trivial⟩
theorem X4x {d : Disk} (h : DOk d) : DOk (Yh d).1 ∧ (Yh d).1.sectors.length = d.sectors.length ∧ (Yh d).1.pending = [] := by
 obtain ⟨h1, h2, h3, h4⟩ := X2f h.v
 have hl : (Vi d (fun _ => 64)).length = d.sectors.length := X1e _ _ _ _
 have hs : ∀ s ∈ Vi d (fun _ => 64), s.length = 64 := X2J _ (X2g h.v) _
 rw [X5O h]
 refine ⟨⟨?_, rfl⟩, hl, rfl⟩
 unfold Yp
 simp only [decide_eq_true_eq]
 exact ⟨by omega, by omega, by simp, hs, fun w hw => by simp at hw⟩
theorem XgX (bs : List (List UInt8)) : ∀ (d : Disk) (a : Nat), DOk d → a + bs.length ≤ d.sectors.length → (∀ c ∈ bs, c.length = 64) → d.pending.length + bs.length ≤ 4096 → ∀ x ∈ Vg d a bs, DOk x ∧ UY x ∧ x.sectors.length = d.sectors.length := by
 induction bs with
 | nil =>
  intro d a h _ _ hp x hx
  simp only [Vg, List.mem_singleton] at hx
  subst hx
  exact ⟨h, X0p h.v (by simpa using hp), rfl⟩
 | cons b bs ih =>
  intro d a h hl hc hp x hx
  rw [List.length_cons] at hl hp
  rw [Vg, List.mem_cons] at hx
  rcases hx with rfl | hx
  ·exact ⟨h, X0p h.v (by omega), rfl⟩
  ·have := ih (Ui d a b) (a + 1) (X7N h (by omega) (hc b (by simp))) (by show a + 1 + bs.length ≤ d.sectors.length; omega) (fun c q => hc c (by simp [q]))
    (by show (d.pending ++ [(⟨(a : Nat), b⟩ : Wr)]).length + bs.length ≤ 4096; rw [List.length_append, List.length_singleton]; omega) x hx
   exact ⟨this.1, this.2.1, this.2.2⟩
theorem X3y {d : Disk} {f t tail : Int} {A : List UInt8} (hd : DOk d) (h1 : 0 ≤ f) (h2 : f < t) (h3 : t ≤ d.sectors.length) (h6 : 0 ≤ tail) (h7 : tail + A.length ≤ (t - f) * 64) :
  f.toNat + tail.toNat / 64 + (V8 d f t tail A).length ≤ d.sectors.length ∧ (∀ c ∈ V8 d f t tail A, c.length = 64) ∧ (V8 d f t tail A).length ≤ d.sectors.length := by
 have hS : (XO d f t).length = 64 * (t - f).toNat := by unfold XO; exact VQ hd _ _ (by omega)
 unfold V8
 by_cases hA : A = []
 ·rw [if_pos hA]
  simp only [List.length_nil, List.not_mem_nil, false_implies, implies_true, true_and, Nat.zero_le, and_true]
  subst hA
  simp at h7
  omega
 ·rw [if_neg hA, X0W]
  have hT : (((XO d f t).take tail.toNat).drop (tail.toNat / 64 * 64) ++ A).length = tail.toNat - tail.toNat / 64 * 64 + A.length := by
   rw [List.length_append, List.length_drop, List.length_take]
   omega
  obtain ⟨k1, k2, k3⟩ := X4v (((XO d f t).take tail.toNat).drop (tail.toNat / 64 * 64) ++ A)
  unfold UP
  generalize V3 (((XO d f t).take tail.toNat).drop (tail.toNat / 64 * 64) ++ A) = Y at *
  exact ⟨by omega, X5o _ Y (by omega), by omega⟩
theorem X49 {d : Disk} {f t ep tail : Int} {l : List Rcd} (h : (XT d f t ep tail l).2.2 = 0) : XJ d f t ep tail = 0 ∧ Ux l = 0 ∧ tail + (XA ep l).length ≤ (t - f) * 64 ∧ XT d f t ep tail l = (X0v d f t tail (XA ep l), tail + (XA ep l).length, 0) := by
 unfold XT at h ⊢
 by_cases c1 : XJ d f t ep tail ≠ 0
 ·rw [if_pos c1] at h; exact absurd h c1
 rw [if_neg c1] at h ⊢
 by_cases c2 : Ux l ≠ 0
 ·rw [if_pos c2] at h; exact absurd h c2
 rw [if_neg c2] at h ⊢
 by_cases c3 : (t - f) * 64 < tail + (XA ep l).length
 ·rw [if_pos c3] at h; simp at h
 rw [if_neg c3]
 exact ⟨by simpa using c1, by simpa using c2, by omega, rfl⟩
theorem X4Q {d : Disk} {f t ep tail : Int} {l : List Rcd} (h : (XT d f t ep tail l).2.2 ≠ 0) : (XT d f t ep tail l).1 = [] ∧ (XT d f t ep tail l).2.1 = 0 := by
 unfold XT at h ⊢
 by_cases c1 : XJ d f t ep tail ≠ 0
 ·rw [if_pos c1]; exact ⟨rfl, rfl⟩
 rw [if_neg c1] at h ⊢
 by_cases c2 : Ux l ≠ 0
 ·rw [if_pos c2]; exact ⟨rfl, rfl⟩
 rw [if_neg c2] at h ⊢
 by_cases c3 : (t - f) * 64 < tail + (XA ep l).length
 ·rw [if_pos c3]; exact ⟨rfl, rfl⟩
 rw [if_neg c3] at h
 simp at h
theorem XdU {d : Disk} {f t ep tail : Int} {l : List Rcd} (hf : Ud d) (h : (XT d f t ep tail l).2.2 = 0) : ∀ x ∈ (XT d f t ep tail l).1, DOk x ∧ UY x ∧ x.sectors.length = d.sectors.length := by
 obtain ⟨s1, s2, s3, s4⟩ := X49 h
 obtain ⟨hd, h1, h2, h3, h4, h5, h6, h7⟩ := X0X s1
 rw [s4]
 simp only
 obtain ⟨k1, k2, k3⟩ := X3y (A := XA ep l) hd h1 h2 h3 h6 s3
 intro x hx
 have f1 := hf.1
 have f2 := hf.2
 unfold X0v at hx
 rw [List.mem_append, List.mem_singleton] at hx
 rcases hx with hx | rfl
 ·exact XgX _ d _ hd k1 k2 (by omega) x hx
 ·have hl := X1K _ d _ hd k1 k2
  obtain ⟨m1, m2, m3⟩ := X4x hl
  exact ⟨m1, X0p m1.v (by rw [m3]; simp), m2.trans (by rw [(X17 _ d _).1])⟩
theorem Xam {d : Disk} {f t ep tail : Int} {l : List Rcd} (hf : Ud d) (h : (XT d f t ep tail l).2.2 = 0) : (XT d f t ep tail l).1.length ≤ 5000 := by
 obtain ⟨s1, s2, s3, s4⟩ := X49 h
 obtain ⟨hd, h1, h2, h3, h4, h5, h6, h7⟩ := X0X s1
 rw [s4]
 obtain ⟨k1, k2, k3⟩ := X3y (A := XA ep l) hd h1 h2 h3 h6 s3
 have f1 := hf.1
 unfold X0v
 simp only [List.length_append, List.length_singleton, X5k]
 omega
theorem XdW {d : Disk} {f t ep tail : Int} {l : List Rcd} (hf : Ud d) : (XT d f t ep tail l).1.length ≤ 5000 := by
 by_cases he : (XT d f t ep tail l).2.2 = 0
 ·exact Xam hf he
 ·rw [(X4Q he).1]; simp
theorem X9b (d : Disk) (f t ep tail : Int) (l : List Rcd) (hf : Ud d) (hr : ∀ r ∈ l, X0Z r) (hl : l.length ≤ 1000) : Con Tryz.prog 16 [] [XK d, ai f, ai t, ai ep, ai tail, .d (.sl 10 (l.map XG))]
  [] (.tup [XK (Uz d f t ep tail l).1, ai (Uz d f t ep tail l).2.1, ai (Uz d f t ep tail l).2.2]) := by
 refine Xb (xs := [XK (Uz d f t ep tail l).1, ai (Uz d f t ep tail l).2.1, ai (Uz d f t ep tail l).2.2]) Tryz.func16 rfl Tryz.ntmps16 rfl rfl rfl (fun E => ?_)
 have c1 := X8Y d f t ep tail l hf hr hl
 by_cases he : (XT d f t ep tail l).2.2 = 0
 case neg =>
  obtain ⟨b1, b2⟩ := X4Q he
  have e : Uz d f t ep tail l = (Ub, 0, (XT d f t ep tail l).2.2) := by unfold Uz; rw [if_pos he]
  rw [e]
  rw [b1, b2] at c1
  generalize (XT d f t ep tail l).2.2 = r at *
  clear hf hr
  obtain ⟨secs, pend, on⟩ := d
  simp only [List.map_nil, List.length_nil] at c1
  refine Qsc ?_; refine Qya ?_; refine Qeb ?_; refine Qw ?_; refine QBa ?_; refine Z9 (hcon := c1) ?_; refine Qbc ?_; refine Zv ?_; refine QOb ?_; refine Zx ?_; refine Z1 ?_; refine Zy ?_; refine Qya ?_; exact X1 ⟨_, Xl 101 (cs := [ani, ani, ab false]) (cs' := [.d (XB []), .d (XC []), ab false]) rfl ⟨AVal.le_nil 1, AVal.le_nil 2, AVal.le_refl _, trivial⟩ rfl, ⟨⟨101, 0, _, rfl, rfl, .inr ⟨3, _, rfl, rfl, rfl, rfl⟩⟩, rfl, rfl, trivial⟩, X3 _⟩
 obtain ⟨s1, s2, s3, s4⟩ := X49 he
 obtain ⟨R, Z, hT⟩ : ∃ R Z, X0v d f t tail (XA ep l) = R ++ [Z] := ⟨_, _, rfl⟩
 have e : Uz d f t ep tail l = (Z, (XT d f t ep tail l).2.1, 0) := by
  unfold Uz
  rw [if_neg (by rw [he]; simp), s4, hT]
  simp
 rw [e]
 have eT : (XT d f t ep tail l).1 = R ++ [Z] := by rw [s4]; exact hT
 rw [he, eT] at c1
 generalize (XT d f t ep tail l).2.1 = z at *
 have hlm : ((R ++ [Z]).map Ys).length = R.length + 1 := by simp
 have hxc : ((R ++ [Z]).map Ys)[R.length]? = some [XB Z.sectors, XC Z.pending, .v (.bool Z.on)] := by simp [Ys]
 have hRl : R.length ≤ 9223372036854775806 := by
  have := Xam hf he
  rw [eT, List.length_append, List.length_singleton] at this
  omega
 generalize (R ++ [Z]).map Ys = T at *
 clear hf hr s1 s2 s3 s4 hT eT e he
 obtain ⟨secs, pend, on⟩ := d
 refine Qsc ?_; refine Qya ?_; refine Qeb ?_; refine Qw ?_; refine QBa ?_; refine Z9 (hcon := c1) ?_; refine Qbc ?_; refine QDb ?_; refine X0 ?_; refine Xm (Y4 133 rfl) ?_; refine Xm (U1 15 133 rfl rfl rfl) ?_; refine Qgc ?_; refine Zd ?_; refine Z4 (op := .sub) (r' := .int .i64 (R.length : Nat)) (u := .int .i64 (T.length : Nat)) (v := .int .i64 1) ?_ (hr' := by exact congrArg (Value.int .i64) (show ((T.length : Nat) : Int) - 1 = (R.length : Nat) by omega)) (hr := by exact X0B (by unfold YP; omega)); refine QSa ?_; refine Z1 ?_; refine Zy ?_; refine Qya ?_
 (show AWP Tryz.prog E _ _ _; refine X1 ?_; exact (show Xq _ _ _ _ _ from ⟨_, St.le_refl _, ⟨⟨101, 0, _, rfl, rfl, .inr ⟨3, _, rfl, rfl, rfl, rfl⟩⟩, rfl, rfl, trivial⟩, X3 _⟩))
theorem X8e (b : List UInt8) (hb : b.length ≤ 1000000) : Con Tryz.prog 64 [] [.d (Xg b)] [] (.d (Xg b)) := by
 refine Xb (xs := [.d (Xg b)]) Tryz.func64 rfl Tryz.ntmps64 rfl rfl rfl (fun E => ?_)
 have hlm : (b.map X7).length = b.length := by simp
 generalize hX : b.map X7 = xs at *
 have e : Xg b = .sl 1 xs := by rw [← hX]
 rw [e]
 refine Qy ?_; refine Z07 ?_; refine JD ?_
 refine X5H rfl (fun h => ?_) (fun _ => ?_)
 ·subst h
  refine Qd ?_; refine X1 ?_; exact ⟨_, Xc 2 (AVal.le_nil 1), ⟨rfl, trivial⟩, X3 _⟩
 ·refine X4 ?_; refine Qb ?_; refine ZZ (γ := 130) ?_; refine Z1 ?_; refine Qkc ?_; refine X1 ?_; exact ⟨_, St.le_trans (Y4 130 rfl) (U1 2 130 rfl rfl (by simp)), ⟨rfl, trivial⟩, X3 _⟩
theorem XdL (d : Disk) (hl : UY d) : Con Tryz.prog 43 [] [XK d] [] (XK d) := by
 refine Xb (xs := [XK d]) Tryz.func43 rfl Tryz.ntmps43 rfl rfl rfl (fun E => ?_)
 obtain ⟨secs, pend, on⟩ := d
 obtain ⟨h1, h2, h3, h4⟩ := hl
 simp only at h1 h2 h3 h4
 have hsm : (secs.map XZ).length = secs.length := by simp
 have hpm : (pend.map cWr).length = pend.length := by simp
 refine Qpe ?_; refine QVd ?_; refine Xm (Vx 102 0 120 1 (cs := [ani, ani, ab on]) rfl rfl rfl rfl rfl) ?_; refine Xm (Vx 102 1 121 2 (cs := [.own 120 0, ani, ab on]) rfl rfl rfl rfl rfl) ?_
 refine Xu (fun i : Nat => i ≤ secs.length) (fun i => ⟨46, [(1, .ptr 100 0), (2, .ptr 101 0), (3, .ptr 102 0), (12, .d (XB secs)), (13, ai (secs.map XZ).length), (14, ai i)], [(100, .box [.d (XB secs), .d (XC pend), ab on]), (101, .box [ani, ani, ab false]), (102, .box [.own 120 ((secs.take i).map XZ).length, .own 121 0, ab on]), (120, .row 1 ((secs.take i).map XZ)), (121, .row 2 [])]⟩) (fun i => secs.length - i) 0 (Nat.zero_le _)
  (Xa rfl JM ⟨rfl, rfl, rfl, rfl, rfl, trivial⟩) ?_
 intro i hi
 have hroom : ((secs.take i).map XZ).length ≤ 4096 := by rw [List.length_map, List.length_take]; omega
 by_cases hil : i < secs.length
 case pos =>
  have hn : (i : Int) < (secs.map XZ).length := by omega
  obtain ⟨x, hx⟩ := Xv (l := secs) hil
  have hxc : (secs.map XZ)[i]? = some (XZ x) := YF hx
  have hst : (secs.take (i + 1)).map XZ = (secs.take i).map XZ ++ [XZ x] := by rw [X2N hx, List.map_append]; rfl
  have hc := X8e x (by have := h3 x (List.mem_of_getElem? hx); omega)
  clear hx h3 h4
  refine QC ?_; refine QD ?_; refine Qc ?_; refine QWc ?_; refine Z1 ?_; refine QZd ?_; refine Z5 ?_; refine Z6 ?_; refine Qjd ?_; refine QI ?_
  refine ⟨i + 1, hil, by omega, ?_⟩
  dsimp only
  rw [hst]
  exact Xa rfl JM ⟨rfl, rfl, (by refine Eq.trans (b := AObj.box [.own 120 (_ + _), .own 121 0, ab on]) rfl ?_; rw [List.length_append]), rfl, rfl, trivial⟩
 obtain rfl : i = secs.length := by omega
 have hn : ¬ ((secs.length : Nat) : Int) < (secs.map XZ).length := by omega
 rw [List.take_length]
 refine QK ?_; refine QVd ?_
 refine Xu (fun i : Nat => i ≤ pend.length) (fun i => ⟨46, [(1, .ptr 100 0), (2, .ptr 101 0), (3, .ptr 102 0), (27, .d (XC pend)), (28, ai (pend.map cWr).length), (29, ai i)], [(100, .box [.d (XB secs), .d (XC pend), ab on]), (101, .box [ani, ani, ab false]), (102, .box [.own 120 (secs.map XZ).length, .own 121 ((pend.take i).map cWr).length, ab on]), (120, .row 1 (secs.map XZ)), (121, .row 2 ((pend.take i).map cWr))]⟩) (fun i => pend.length - i) 0 (Nat.zero_le _)
  (Xa rfl JM ⟨rfl, rfl, rfl, rfl, rfl, trivial⟩) ?_
 clear hn hi hil hroom
 intro i hi
 have hroom : ((pend.take i).map cWr).length ≤ 4096 := by rw [List.length_map, List.length_take]; omega
 by_cases hil : i < pend.length
 case pos =>
  have hn : (i : Int) < (pend.map cWr).length := by omega
  obtain ⟨x, hx⟩ := Xv (l := pend) hil
  have hxc : (pend.map cWr)[i]? = some (cWr x) := YF hx
  have hst : (pend.take (i + 1)).map cWr = (pend.take i).map cWr ++ [cWr x] := by rw [X2N hx, List.map_append]; rfl
  have hc := X8e x.b (by have := h4 x (List.mem_of_getElem? hx); omega)
  clear hx h3 h4
  obtain ⟨wa, wb⟩ := x
  simp only at hc
  refine QC ?_; refine QSa ?_; refine Zw (γ := 103) ?_; refine QTa ?_; refine QWc ?_; refine Qhd ?_; refine QZd ?_; refine Zx ?_; refine Z5 ?_; refine Z6 ?_; refine Qjd ?_; refine QI ?_
  refine ⟨i + 1, hil, by omega, ?_⟩
  dsimp only
  rw [hst]
  exact Xa rfl JM ⟨rfl, rfl, (by refine Eq.trans (b := AObj.box [.own 120 _, .own 121 (_ + _), ab on]) rfl ?_; rw [List.length_append]), rfl, rfl, trivial⟩
 obtain rfl : i = pend.length := by omega
 have hn : ¬ ((pend.length : Nat) : Int) < (pend.map cWr).length := by omega
 rw [List.take_length]
 refine QK ?_; refine X0 ?_; refine Xm (Y4 120 rfl) ?_; refine Xm (Ut 102 0 120 (cs := [.own 120 (secs.map XZ).length, .own 121 (pend.map cWr).length, ab on]) (sz := 1) (xs := secs.map XZ) rfl rfl rfl rfl) ?_; refine Xm (Y4 121 rfl) ?_; refine Xm (Ut 102 1 121 (cs := [.d (XB secs), .own 121 (pend.map cWr).length, ab on]) (sz := 2) (xs := pend.map cWr) rfl rfl rfl rfl) ?_; refine JR ?_; refine ZL ?_; refine QTa ?_; exact Qxe
theorem Xfn (d : Disk) (f t ep tail : Int) (l : List Rcd) (hf : Ud d) (hr : ∀ r ∈ l, X0Z r) (hl : l.length ≤ 1000) : Con Tryz.prog 19 [] [XK d, ai f, ai t, ai ep, ai tail, .d (.sl 10 (l.map XG))]
  [] (.d (.sl 3 ((XT d f t ep tail l).1.map Ys))) := by
 refine Xb (xs := [.d (.sl 3 ((XT d f t ep tail l).1.map Ys))]) Tryz.func19 rfl Tryz.ntmps19 rfl rfl rfl (fun E => ?_)
 have c1 := X8Y d f t ep tail l hf hr hl
 have hok : ∀ x ∈ (XT d f t ep tail l).1, UY x := fun x hx => by
  by_cases he : (XT d f t ep tail l).2.2 = 0
  ·exact (XdU hf he x hx).2.1
  ·rw [(X4Q he).1] at hx; simp at hx
 have htl := XdW hf (f := f) (t := t) (ep := ep) (tail := tail) (l := l)
 generalize (XT d f t ep tail l).1 = T at *
 generalize (XT d f t ep tail l).2.1 = z at *
 generalize (XT d f t ep tail l).2.2 = e at *
 clear hf hr
 obtain ⟨secs, pend, on⟩ := d
 have hlm : (T.map Ys).length = T.length := by simp
 have hall : ∀ r ∈ T.map Ys, r.length = 3 := by
  intro r hr
  obtain ⟨p, _, rfl⟩ := List.mem_map.1 hr
  rfl
 refine QEa ?_; refine Qeb ?_; refine Qw ?_; refine QBa ?_; refine Z9 (hcon := c1) ?_; refine Qbc ?_; refine Z0m ?_; refine Z1 ?_; refine JD ?_; refine X5 ?_
 clear c1
 refine Xu (fun i : Nat => i ≤ T.length) (fun i => ⟨43, [(13, .own 133 (T.map Ys).length), (28, .own 133 (T.map Ys).length), (29, ai (T.map Ys).length), (30, ai i)], [(133, .row 3 (T.map Ys))]⟩) (fun i => T.length - i) 0 (Nat.zero_le _)
  (Xa rfl JM ⟨rfl, trivial⟩) ?_
 intro i hi
 by_cases hil : i < T.length
 case neg =>
  have hn : ¬ (i : Int) < (T.map Ys).length := by omega
  refine QK ?_; refine Qx ?_; refine Xm (Y4 133 rfl) ?_; refine Xm (U1 12 133 rfl rfl rfl) ?_
  (show AWP Tryz.prog E _ _ _; refine X1 ?_; exact (show Xq _ _ _ _ _ from ⟨_, St.le_refl _, ⟨rfl, trivial⟩, X3 _⟩))
 have hn : (i : Int) < (T.map Ys).length := by omega
 have hilm : i < (T.map Ys).length := by omega
 have h0 : 0 < (T.map Ys).length := by omega
 obtain ⟨x, hx⟩ := Xv (l := T) hil
 have hxc : (T.map Ys)[i]? = some (Ys x) := YF hx
 have hpart := X93 hall hxc (o := 0) (q := 3) (by omega)
 have hroom : i * 3 + 3 ≤ (T.map Ys).length * 3 := by omega
 have hys : ((T.map Ys).flatten.drop (i * 3)).take 3 = [XB x.sectors, XC x.pending, .v (.bool x.on)] := by
  rw [Nat.add_zero] at hpart
  rw [hpart]
  simp [Ys]
 have hcv := XdL x (hok x (List.mem_of_getElem? hx))
 clear hx hxc hpart hall hok
 obtain ⟨xs, xp, xo⟩ := x
 simp only at hys
 generalize T.map Ys = L at *
 refine QA ?_; refine JT ?_; refine QB ?_; refine Qx ?_; refine Qgc ?_; refine Qw ?_; refine Z0n ?_; refine Z0o (q := 3) (ys := [XB xs, XC xp, .v (.bool xo)]) ?_ (hb := by exact hroom) (hys := by exact hys); refine Z9 (hcon := hcv) ?_; refine Z0n ?_; refine Z0p (q := 3) (ys := [XB xs, XC xp, .v (.bool xo)]) ?_ (hb := by exact hroom) (hys := by exact hys); refine JD ?_; refine QI ?_; exact ⟨i + 1, hil, by omega, Xa rfl JM ⟨rfl, trivial⟩⟩
theorem X4J (d : Disk) : Con Tryz.prog 60 [] [XK d] [] (ab (Yp d)) := by
 obtain ⟨secs, pend, on⟩ := d
 refine Xb (xs := [ab (Yp ⟨secs, pend, on⟩)]) Tryz.func60 rfl Tryz.ntmps60 rfl rfl rfl (fun E => ?_)
 by_cases hok : 1 ≤ secs.length ∧ secs.length ≤ 4096 ∧ (on = true ∨ pend.length = 0)
 case neg =>
  have hv : Yp ⟨secs, pend, on⟩ = false := by simp only [Yp, decide_eq_false_iff_not]; exact fun h => hok ⟨h.1, h.2.1, h.2.2.1⟩
  rw [hv]
  by_cases h1 : secs.length < 1
  ·repeat first | refine X0 ?_ | (refine JR ?_; (repeat first | refine Z1 ?_ | refine Z0 ?_ | refine ZB ?_ | refine ZC ?_ | refine Zd ?_ | refine Z8 ?_ | refine ZA (γ := 100) ?_ | refine Zn ?_ | refine Zo ?_ | refine Zp ?_); refine JD ?_) | refine JT ?_
   exact QL
  by_cases h2 : 4096 < secs.length
  ·refine Qzb ?_; refine Qob ?_; refine QIa ?_; refine QQa ?_; refine Qba ?_; refine QPd ?_; exact Qca
  have h3 : 0 < pend.length := by
   rcases Nat.eq_zero_or_pos pend.length with h | h
   ·exact (hok ⟨by omega, by omega, .inr h⟩).elim
   ·exact h
  cases on with
  | true => exact (hok ⟨by omega, by omega, .inl rfl⟩).elim
  | false =>
   refine Qzb ?_; refine Qhe ?_; refine QIa ?_; refine QWd ?_; exact QRd
 obtain ⟨k1, k2, k3⟩ := hok
 refine X7B 0 1 rfl rfl (fun hmx => ?_)
 simp only [List.length_map] at hmx
 refine QEa ?_
 refine X7s ⟨70, [(1, .ptr 100 0)], [(100, .box [.d (XB secs), .d (XC pend), ab on])]⟩ ?_ ?_
 ·cases on with
  | true =>
   refine QGa ?_; refine Qhe ?_; refine Qwc ?_; exact Qie
  | false =>
   have k4 : pend.length = 0 := by simpa using k3
   refine QGa ?_; refine Qhe ?_; refine QIa ?_; refine QWd ?_; refine Zn ?_; exact Qie
 refine Qhb ?_
 refine Xu (fun k : Nat => k ≤ secs.length ∧ ∀ (i : Nat) s, i < k → secs[i]? = some s → s.length = 64) (fun k => ⟨70, [(1, .ptr 100 0), (3, ai k)], [(100, .box [.d (XB secs), .d (XC pend), ab on])]⟩) (fun k => secs.length - k) 0 ⟨by omega, by omega⟩
  (Xa rfl ⟨JL, JL, trivial⟩ ⟨rfl, trivial⟩) ?_
 rintro k ⟨hk, hp⟩
 by_cases hlt : k < secs.length
 ·obtain ⟨s, hs⟩ := Xv (l := secs) (k := k) (by omega)
  by_cases h3 : s.length ≠ 64
  ·have hv := Xb7 (pend := pend) (on := on) hs h3
   rw [hv]
   refine Qdf ?_; refine QD ?_; refine Zd ?_; refine Zv ?_; exact Qca
  ·have h3 : s.length = 64 := by simpa using h3
   refine Qdf ?_; refine QD ?_; refine Zd ?_; refine QDb ?_; refine Qnb ?_
   refine ⟨k + 1, ⟨by omega, fun i t hi ht => ?_⟩, by omega, Xa rfl ⟨JL, JL, trivial⟩ ⟨rfl, trivial⟩⟩
   by_cases hik : i = k
   ·subst hik; rw [hs] at ht; cases ht; omega
   ·exact hp i t (by omega) ht
 obtain rfl : k = secs.length := by omega
 have hp1 : ∀ s ∈ secs, s.length = 64 := X4u fun i x hx => hp i x (List.getElem?_eq_some_iff.1 hx).1 hx
 refine Qef ?_; refine Qhb ?_
 refine Xu (fun k : Nat => k ≤ pend.length ∧ ∀ (i : Nat) w, i < k → pend[i]? = some w → 0 ≤ w.at_ ∧ w.at_ < secs.length ∧ w.b.length = 64) (fun k => ⟨70, [(1, .ptr 100 0), (4, ai k)], [(100, .box [.d (XB secs), .d (XC pend), ab on])]⟩) (fun k => pend.length - k) 0 ⟨by omega, by omega⟩
  (Xa rfl ⟨JL, JL, trivial⟩ ⟨rfl, trivial⟩) ?_
 rintro k ⟨hk, hq⟩
 by_cases hlt : k < pend.length
 ·obtain ⟨w, hw⟩ := Xv (l := pend) (k := k) (by omega)
  by_cases hb : 0 ≤ w.at_ ∧ w.at_ < secs.length ∧ w.b.length = 64
  ·obtain ⟨b1, b2, b3⟩ := hb
   repeat first | refine X0 ?_ | (refine JR ?_; (repeat first | refine Z1 ?_ | refine Z0 ?_ | refine ZB ?_ | refine ZC ?_ | refine ZK ?_ | refine Zd ?_ | refine Z8 ?_ | refine Z2 ?_ | refine Zv ?_ | refine Zb ?_ | refine Zw (γ := 101) ?_ | refine Zy ?_ | refine Zq ?_ | refine Zj ?_); refine JD ?_) | refine JT ?_ | refine JF ?_ | refine X5 ?_ | refine X4 ?_
   refine ⟨k + 1, ⟨by omega, fun i t hi ht => ?_⟩, by omega, Xa rfl ⟨JL, JL, trivial⟩ ⟨rfl, trivial⟩⟩
   by_cases hik : i = k
   ·subst hik; rw [hw] at ht; cases ht; exact ⟨b1, b2, b3⟩
   ·exact hq i t (by omega) ht
  ·have hv := X7Z (secs := secs) (on := on) hw hb
   rw [hv]
   by_cases c3 : w.b.length ≠ 64
   ·repeat first | refine X0 ?_ | (refine JR ?_; (repeat first | refine Z1 ?_ | refine Z0 ?_ | refine ZB ?_ | refine ZC ?_ | refine ZK ?_ | refine Zd ?_ | refine Z8 ?_ | refine Zv ?_ | refine Zw (γ := 101) ?_ | refine Zy ?_ | refine Zn ?_ | refine Zj ?_ | refine Zo ?_); refine JD ?_) | refine JT ?_ | refine X5 ?_ | refine X4 ?_
    exact QL
   have c3 : w.b.length = 64 := by simpa using c3
   by_cases c1 : w.at_ < 0
   ·repeat first | refine X0 ?_ | (refine JR ?_; (repeat first | refine Z1 ?_ | refine Z0 ?_ | refine ZB ?_ | refine ZC ?_ | refine ZK ?_ | refine Zd ?_ | refine Z8 ?_ | refine Zv ?_ | refine Zw (γ := 101) ?_ | refine Zy ?_ | refine Zn ?_ | refine Zq ?_ | refine Zj ?_ | refine Zo ?_); refine JD ?_) | refine JT ?_ | refine X5 ?_ | refine X4 ?_
    exact QL
   have c2 : (secs.length : Int) ≤ w.at_ := by omega
   repeat first | refine X0 ?_ | (refine JR ?_; (repeat first | refine Z1 ?_ | refine Z0 ?_ | refine ZB ?_ | refine ZC ?_ | refine ZK ?_ | refine Zd ?_ | refine Z8 ?_ | refine Z2 ?_ | refine Zv ?_ | refine Zw (γ := 101) ?_ | refine Zy ?_ | refine Zq ?_ | refine Zj ?_); refine JD ?_) | refine JT ?_ | refine X5 ?_ | refine X4 ?_
   exact QL
 obtain rfl : k = pend.length := by omega
 have hp2 : ∀ w ∈ pend, 0 ≤ w.at_ ∧ w.at_ < secs.length ∧ w.b.length = 64 := X4u fun i x hx => hq i x (List.getElem?_eq_some_iff.1 hx).1 hx
 have hv : Yp ⟨secs, pend, on⟩ = true := by
  simp only [Yp, decide_eq_true_eq]
  exact ⟨k1, k2, k3, hp1, hp2⟩
 rw [hv]
 refine Qef ?_; exact Qga
theorem X0g (d : Disk) : Con Tryz.prog 61 [] [XK d] [] (ai (Yo d)) := by
 obtain ⟨secs, pend, on⟩ := d
 refine Xb (xs := [ai (Yo ⟨secs, pend, on⟩)]) Tryz.func61 rfl Tryz.ntmps61 rfl rfl rfl (fun E => ?_)
 cases hv : Yp ⟨secs, pend, on⟩ with
 | true =>
  cases on with
  | true =>
   rw [show Yo ⟨secs, pend, true⟩ = 0 by simp only [Yo, hv]; rfl]
   refine Qoc ?_; refine Z9 (hcon := X4J ⟨secs, pend, true⟩) ?_; refine Qgb ?_; refine Qyb ?_; refine Qgb ?_; exact Qga
  | false =>
   rw [show Yo ⟨secs, pend, false⟩ = 22 by simp only [Yo, hv]; rfl]
   refine Qoc ?_; refine Z9 (hcon := X4J ⟨secs, pend, false⟩) ?_; refine Qgb ?_; refine Qyb ?_; refine Zu ?_; exact Qca
 | false =>
  rw [show Yo ⟨secs, pend, on⟩ = 1 by simp only [Yo, hv]; rfl]
  refine Qoc ?_; refine Z9 (hcon := X4J ⟨secs, pend, on⟩) ?_; refine Zu ?_; exact Qca
end Go.Fw
