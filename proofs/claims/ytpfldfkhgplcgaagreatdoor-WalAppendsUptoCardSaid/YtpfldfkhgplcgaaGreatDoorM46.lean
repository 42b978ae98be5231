/- The reference's entries; Size. -/
import Derived.KernelRfl
import Derived.Test.YtpfldfkhgplcgaaGreatDoorM30
import Derived.Test.YtpfldfkhgplcgaaGreatDoorM45
set_option maxHeartbeats 64000000
namespace Go.Fw
open Go Go.Proofs
set_option maxRecDepth 100000
set_option linter.unusedVariables false
set_option linter.unusedSimpArgs false
theorem XhH (ep : Int) (r : Rcd) (h1 : 0 ≤ ep) (h2 : ep ≤ 1000000000000000) (hr : Ux r) : Con Tryz.prog 68 [] [ai ep, Yz r] [] (.d (Xf (Yi ep r))) := by
 refine Xa (xs := [.d (Xf (Yi ep r))]) Tryz.func68 rfl Tryz.ntmps68 rfl rfl rfl (fun E => ?_)
 have c1 := X4L ep (by omega)
 have c2 := XgK r hr.1
 have hbl := X2s h1 h2 hr.2
 have c3 := Xcz (Y4 ep r) (by omega)
 have hul := X2d h1 (by omega)
 have hrl := hr.2
 have hfl := X6C (b := Y4 ep r) (by omega)
 have hfin : Xf (Yi ep r) = .sl 1 ((XC (XD (Y4 ep r))).map X6 ++ [[.v (.int .u8 0)]]) := by unfold Yi Xf; rw [List.map_append]; rfl
 rw [hfin]
 unfold Y4 at *
 generalize U7 r = R at *
 generalize Xh ep = U at *
 have hlm1 : (U.map X6).length = U.length := by simp
 have hlm2 : (R.map X6).length = R.length := by simp
 generalize hF : XD (U ++ R) = F at *
 have hlF : (F.map X6).length = F.length := by simp
 clear hr hfin hF
 obtain ⟨kd, ts, l, ⟨k, n, name, key, src, dst⟩, off⟩ := r
 simp only [Yz] at *
 refine QGa ?_; refine Qf ?_; refine Qoc ?_; refine ZL ?_; refine Z9 (hcon := c2) ?_; refine Z0g (γ := 130) ?_; refine Qx ?_; refine Z9 (hcon := c3) ?_; refine Qc ?_; refine Qjb ?_
 clear c1 c2 c3
 refine Xi (UM 7 131 1 rfl rfl rfl) ?_
 refine Xu (fun i : Nat => i ≤ F.length) (fun i => ⟨45, [(6, .d (Xf F)), (7, .own 131 ((XC (F.take i)).map X6).length), (8, ai i)], [(131, .row 1 ((XC (F.take i)).map X6))]⟩) (fun i => F.length - i) 0 (Nat.zero_le _)
  (X9 rfl JM ⟨rfl, trivial⟩) ?_
 intro i hi
 have hel := X3H (F.take i)
 rw [List.length_take] at hel
 have hroom : ((XC (F.take i)).map X6).length ≤ 130048 := by rw [List.length_map]; omega
 by_cases hil : i < F.length
 case neg =>
  obtain rfl : i = F.length := by omega
  have hn : ¬ ((F.length : Nat) : Int) < (F.map X6).length := by omega
  rw [List.take_length] at hroom ⊢
  refine Qvb ?_; refine Qf ?_; refine Qk ?_; refine Xi (XL 131 rfl) ?_; refine Xi (Yc 4 131 rfl rfl (by simp)) ?_
  (show AWP Tryz.prog E _ _ _; refine X1 ?_; exact (show Xn _ _ _ _ _ from ⟨_, St.le_refl _, ⟨rfl, trivial⟩, X3 _⟩))
 have hn : (i : Int) < (F.map X6).length := by omega
 obtain ⟨x, hx⟩ := Xx (l := F) hil
 have hxc : (F.map X6)[i]? = some (X6 x) := YR hx
 have hst := X8y hx
 by_cases hx1 : x.toNat ≤ 1
 ·have hx1' : ¬ (1 : Int) < (x.toNat : Int) := by omega
  have hxe := X7A hx1
  have hst2 : (XC (F.take (i + 1))).map X6 = (XC (F.take i)).map X6 ++ [[.v (.int .u8 1)], X6 (x + 1)] := by rw [hst]; unfold VZ; rw [if_pos hx1, List.map_append]; rfl
  clear hx hst hel
  refine Qpb ?_; refine Qi ?_; refine QE ?_; refine Zs ?_; refine JD ?_; refine JF ?_; refine QDa ?_; refine QE ?_; refine Z4 (op := .add) (r' := n8 (x + 1).toNat) (u := n8 x.toNat) (v := n8 1) ?_ (hr' := by exact hxe) (hr := by exact Ul (by rw [YK]; omega)); refine Qk ?_; refine Qnb ?_
  refine ⟨i + 1, hil, by omega, ?_⟩
  dsimp only
  rw [hst2]
  exact Qyf
 ·have hx1' : (1 : Int) < (x.toNat : Int) := by omega
  have hst2 : (XC (F.take (i + 1))).map X6 = (XC (F.take i)).map X6 ++ [X6 x] := by rw [hst]; unfold VZ; rw [if_neg hx1, List.map_append]; rfl
  clear hx hst hel
  refine Qpb ?_; refine Qi ?_; refine QE ?_; refine Zs ?_; refine Qh ?_; refine QDa ?_; refine QE ?_; refine Qk ?_; refine Qnb ?_
  refine ⟨i + 1, hil, by omega, ?_⟩
  dsimp only
  rw [hst2]
  exact Qyf
theorem Xam (ep : Int) (l : List Rcd) (h1 : 0 ≤ ep) (h2 : ep ≤ 1000000000000000) (hr : ∀ r ∈ l, Ux r) (hl : l.length ≤ 1000) : Con Tryz.prog 45 [] [ai ep, .d (.sl 10 (l.map Xq))] [] (.tup [.d (Xf (UY ep l)), ai (Y2 l)]) := by
 refine Xa (xs := [.d (Xf (UY ep l)), ai (Y2 l)]) Tryz.func45 rfl Tryz.ntmps45 rfl rfl rfl (fun E => ?_)
 have hlm : (l.map Xq).length = l.length := by simp
 have e1 : Y2 l ≠ 0 → UY ep l = [] := fun h => if_pos h
 have e2 : Y2 l = 0 → UY ep l = Xg ep l := fun h => if_neg (by rw [h]; simp)
 generalize hR : Y2 l = R at *
 generalize UY ep l = P at *
 refine Qb ?_; refine QAa ?_; refine Qjb ?_; refine Xi (UM 6 130 1 rfl rfl rfl) ?_
 refine Xu (fun i : Nat => i ≤ l.length ∧ Y2 (l.drop i) = R) (fun i => ⟨39, [(0, ai ep), (1, .d (.sl 10 (l.map Xq))), (6, .own 130 0), (7, ai i)], [(130, .row 1 [])]⟩) (fun i => l.length - i) 0 ⟨Nat.zero_le _, by simpa using hR⟩
  (X9 rfl JM ⟨rfl, trivial⟩) ?_
 rintro i ⟨hi, hg⟩
 by_cases hil : i < l.length
 case pos =>
  have hn : (i : Int) < (l.map Xq).length := by omega
  obtain ⟨x, hx⟩ := Xx (l := l) hil
  have hxc : (l.map Xq)[i]? = some (Xq x) := YR hx
  have hw := hr x (List.mem_of_getElem? hx)
  rw [Xa6 hx] at hg
  have c1 := X8a x hw.1
  generalize Yy x = re at *
  clear hx hr hw
  obtain ⟨kd, ts, cl, ⟨k, n, name, key, src, dst⟩, off⟩ := x
  simp only [Yz, Xq] at *
  by_cases hre : re = 0
  case neg =>
   rw [if_pos hre] at hg
   subst hg
   obtain rfl := e1 hre
   clear e1 e2
   refine Qwb ?_; refine Qoc ?_; refine Qx ?_; refine Qte ?_; refine QAa ?_
   (show AWP Tryz.prog E _ _ _; refine X1 ?_; exact (show Xn _ _ _ _ _ from ⟨_, Xb 4 (AVal.le_nil 1), ⟨rfl, rfl, trivial⟩, X3 _⟩))
  rw [if_neg (by simpa using hre)] at hg
  subst hre
  clear e1 e2
  refine Qwb ?_; refine Qoc ?_; refine QOd ?_; refine Qnb ?_; exact ⟨i + 1, ⟨hil, hg⟩, by omega, X9 rfl JM ⟨rfl, trivial⟩⟩
 have hn : ¬ (i : Int) < (l.map Xq).length := by omega
 rw [List.drop_of_length_le (by omega)] at hg
 obtain rfl : 0 = R := hg
 obtain rfl := e2 rfl
 clear e1 e2
 refine Qvb ?_; refine Qib ?_
 clear hn hil hi
 refine Xu (fun i : Nat => i ≤ l.length) (fun i => ⟨39, [(0, ai ep), (1, .d (.sl 10 (l.map Xq))), (6, .own 130 ((Xg ep (l.take i)).map X6).length), (9, ai i)], [(130, .row 1 ((Xg ep (l.take i)).map X6))]⟩) (fun i => l.length - i) 0 (Nat.zero_le _)
  (X9 rfl JM ⟨rfl, trivial⟩) ?_
 intro i hi
 have hel := X37 h1 h2 (l.take i) fun x hx => (hr x (List.mem_of_mem_take hx)).2
 rw [List.length_take] at hel
 have hroom : ((Xg ep (l.take i)).map X6).length ≤ 130000000 := by rw [List.length_map]; omega
 by_cases hil : i < l.length
 case neg =>
  obtain rfl : i = l.length := by omega
  have hn : ¬ ((l.length : Nat) : Int) < (l.map Xq).length := by omega
  rw [List.take_length] at hroom ⊢
  refine Qvb ?_; refine Qf ?_; refine QAa ?_; refine QQd ?_; refine Xi (Yc 4 130 rfl rfl rfl) ?_
  (show AWP Tryz.prog E _ _ _; refine X1 ?_; exact (show Xn _ _ _ _ _ from ⟨_, St.le_refl _, ⟨rfl, rfl, trivial⟩, X3 _⟩))
 have hn : (i : Int) < (l.map Xq).length := by omega
 obtain ⟨x, hx⟩ := Xx (l := l) hil
 have hxc : (l.map Xq)[i]? = some (Xq x) := YR hx
 have hw := hr x (List.mem_of_getElem? hx)
 have c2 := XhH ep x h1 h2 hw
 have hst := XaW (ep := ep) hx
 have hyl := X7l h1 h2 hw.2
 have hst2 : (Xg ep (l.take (i + 1))).map X6 = (Xg ep (l.take i)).map X6 ++ (Yi ep x).map X6 := by rw [hst, List.map_append]
 have hym : ((Yi ep x).map X6).length ≤ 130000 := by rw [List.length_map]; exact hyl
 generalize Yi ep x = Y at *
 clear hx hr hst hw hel
 obtain ⟨kd, ts, cl, ⟨k, n, name, key, src, dst⟩, off⟩ := x
 simp only [Yz, Xq] at *
 refine Qpb ?_; refine Qgc ?_; refine Qy ?_; refine QVa ?_; refine Z9 (hcon := c2) ?_; refine Qj ?_; refine Qnb ?_
 refine ⟨i + 1, hil, by omega, ?_⟩
 dsimp only
 rw [hst2]
 exact QJe
theorem Xdz (ep : Int) (l : List Rcd) (hr : ∀ r ∈ l, Ux r) (hl : l.length ≤ 1000) : Con Tryz.prog 22 [] [ai ep, .d (.sl 10 (l.map Xq))] [] (ai (VC ep l)) := by
 refine Xa (xs := [ai (VC ep l)]) Tryz.func22 rfl Tryz.ntmps22 rfl rfl rfl (fun E => ?_)
 have e1 : ep < 0 ∨ 1000000000000000 < ep → VC ep l = 0 := fun h => if_pos h
 have e2 : ¬ (ep < 0 ∨ 1000000000000000 < ep) → VC ep l = ((UY ep l).map X6).length := fun h => by unfold VC; rw [if_neg h, List.length_map]
 by_cases a1 : ep < 0
 ·rw [e1 (.inl a1)]
  refine Qp ?_; refine QIb ?_; refine Qq ?_
  (show AWP Tryz.prog E _ _ _; refine X1 ?_; exact (show Xn _ _ _ _ _ from ⟨_, St.le_refl _, ⟨rfl, trivial⟩, X3 _⟩))
 by_cases a2 : 1000000000000000 < ep
 ·rw [e1 (.inr a2)]
  refine Qo ?_; refine QOa ?_; refine Qba ?_; refine Qq ?_
  (show AWP Tryz.prog E _ _ _; refine X1 ?_; exact (show Xn _ _ _ _ _ from ⟨_, St.le_refl _, ⟨rfl, trivial⟩, X3 _⟩))
 rw [e2 (by omega)]
 have c := Xam ep l (by omega) (by omega) hr hl
 clear e1 e2 hr
 refine Qo ?_; refine QOa ?_; refine Zs ?_; refine Qha ?_; refine Qi ?_; refine Z9 (hcon := c) ?_; refine Qbc ?_; refine QAa ?_; refine Qf ?_; refine Zd ?_; refine Qc ?_
 (show AWP Tryz.prog E _ _ _; refine X1 ?_; exact (show Xn _ _ _ _ _ from ⟨_, St.le_refl _, ⟨rfl, trivial⟩, X3 _⟩))
theorem X7w (d : Disk) (f t ep tail : Int) (l : List Rcd) (hf : YW d) (hr : ∀ r ∈ l, Ux r) (hl : l.length ≤ 1000) : Con Tryz.prog 42 [] [XK d, ai f, ai t, ai ep, ai tail, .d (.sl 10 (l.map Xq))]
  [(133, .row 3 ((Xr d f t ep tail l).1.map Xt))] (.tup [.own 133 ((Xr d f t ep tail l).1.map Xt).length, ai (Xr d f t ep tail l).2.1, ai (Xr d f t ep tail l).2.2]) := by
 refine Xa (xs := [.own 133 ((Xr d f t ep tail l).1.map Xt).length, ai (Xr d f t ep tail l).2.1, ai (Xr d f t ep tail l).2.2]) Tryz.func42 rfl Tryz.ntmps42 rfl rfl rfl (fun E => ?_)
 have c1 := XcM d f t ep tail
 by_cases he : XI d f t ep tail = 0
 case neg =>
  have e : Xr d f t ep tail l = ([], 0, XI d f t ep tail) := by unfold Xr; rw [if_pos he]
  rw [e]
  generalize XI d f t ep tail = r at *
  clear hf hr
  obtain ⟨secs, pend, on⟩ := d
  simp only [List.map_nil, List.length_nil]
  refine Qzf ?_; refine Qy ?_; refine Qoc ?_; refine Qx ?_; refine Qte ?_; refine QNb ?_
  (show AWP Tryz.prog E _ _ _; refine X1 ?_; exact (show Xn _ _ _ _ _ from ⟨_, UM 12 133 3 rfl rfl rfl, ⟨rfl, rfl, rfl, trivial⟩, Xj ⟨rfl, trivial⟩⟩))
 rw [he] at c1
 obtain ⟨hd, h1, h2, h3, h4, h5, h6, h7⟩ := X1u he
 have c2 := Xam ep l h4 h5 hr hl
 by_cases hE : Y2 l = 0
 case neg =>
  have e : Xr d f t ep tail l = ([], 0, Y2 l) := by unfold Xr; rw [if_neg (by rw [he]; simp), if_pos hE]
  rw [e]
  generalize Y2 l = r at *
  generalize UY ep l = P at *
  clear hf hr hd e he
  obtain ⟨secs, pend, on⟩ := d
  simp only [List.map_nil, List.length_nil]
  refine Qzf ?_; refine QKe ?_; refine Qte ?_; refine QNb ?_
  (show AWP Tryz.prog E _ _ _; refine X1 ?_; exact (show Xn _ _ _ _ _ from ⟨_, UM 12 133 3 rfl rfl rfl, ⟨rfl, rfl, rfl, trivial⟩, Xj ⟨rfl, trivial⟩⟩))
 have eP : UY ep l = Xg ep l := if_neg (by rw [hE]; simp)
 rw [hE, eP] at c2
 have hAl := X37 h4 h5 l fun r hrr => (hr r hrr).2
 have eS : Xr d f t ep tail l = if (t - f) * 64 < tail + (Xg ep l).length then ([], 0, 20) else (VK d f t tail (Xg ep l), tail + (Xg ep l).length, 0) := by
  unfold Xr; rw [if_neg (by rw [he]; simp), if_neg (by rw [hE]; simp)]
 rw [eS]
 generalize Xg ep l = A at *
 have hAm : (A.map X6).length = A.length := by simp
 have hN : t ≤ 2000 := by have := hf.1; omega
 clear eS eP hE he hr
 by_cases hfull : (t - f) * 64 < tail + A.length
 ·rw [if_pos hfull]
  have hfull' : (t - f) * 64 < tail + ((A.map X6).length : Nat) := by rw [hAm]; exact hfull
  clear hf hd h3
  obtain ⟨secs, pend, on⟩ := d
  simp only [List.map_nil, List.length_nil]
  refine Qzf ?_; refine QLe ?_; refine Qy ?_; refine ZR ?_; refine Z0f ?_; refine Zs ?_; refine QPb ?_; refine QNb ?_
  (show AWP Tryz.prog E _ _ _; refine X1 ?_; exact (show Xn _ _ _ _ _ from ⟨_, UM 12 133 3 rfl rfl rfl, ⟨rfl, rfl, rfl, trivial⟩, Xj ⟨rfl, trivial⟩⟩))
 rw [if_neg hfull]
 have hfull' : ¬ (t - f) * 64 < tail + ((A.map X6).length : Nat) := by rw [hAm]; exact hfull
 have c4 := XeI d f t hd hf h1 (by omega) h3
 have hSl : (Xz d f t).length = 64 * (t - f).toNat := by unfold Xz; exact VW hd _ _ (by omega)
 obtain ⟨F, rfl⟩ : ∃ F : Nat, f = F := ⟨f.toNat, by omega⟩
 obtain ⟨T, rfl⟩ : ∃ T : Nat, tail = T := ⟨tail.toNat, by omega⟩
 unfold VK YI
 have eT : UH d (F : Nat) t (T : Nat) A = Uy (((Xz d (F : Nat) t).take T).drop (T / 64 * 64) ++ A) := by unfold UH; rw [Int.toNat_natCast]
 rw [eT, Int.toNat_natCast, Int.toNat_natCast]
 generalize Xz d (F : Nat) t = B at *
 have hBm : (B.map X6).length = B.length := by simp
 obtain ⟨X, hX⟩ : ∃ X, X = (B.take T).drop (T / 64 * 64) := ⟨_, rfl⟩
 have hXl : X.length = T - T / 64 * 64 := by rw [hX, List.length_drop, List.length_take]; omega
 have hPX : B.take T ++ A = (B.take (T / 64 * 64)) ++ (X ++ A) := by
  rw [← List.append_assoc, hX]
  congr 1
  conv => lhs; rw [← List.take_append_drop (T / 64 * 64) (B.take T)]
  rw [List.take_take, Nat.min_eq_left (by omega)]
 rw [← hX]
 clear hX eT
 have hPl : (B.take (T / 64 * 64)).length = T / 64 * 64 := by rw [List.length_take]; omega
 have hpadY : Uy (B.take T ++ A) = B.take (T / 64 * 64) ++ Uy (X ++ A) := by rw [hPX]; exact X8q (by rw [hPl]; omega)
 have hXAl : (X ++ A).length = X.length + A.length := by simp
 obtain ⟨hY1, hY2, hY3⟩ := X31 (X ++ A)
 have hYc := X9C (B.take T ++ A)
 rw [hpadY, List.map_append] at hYc
 have hTAl : (B.take T ++ A).length = T + A.length := by rw [List.length_append, List.length_take]; omega
 rw [hTAl] at hYc
 generalize Uy (X ++ A) = Y at *
 generalize B.take (T / 64 * 64) = P at *
 have hTm : (B.map X6).take T = (B.take T).map X6 := by rw [List.map_take]
 have hTB : T ≤ (B.map X6).length := by omega
 have hTl : ((B.take T).map X6).length = T := by rw [List.length_map, List.length_take]; omega
 generalize (B.take T).map X6 = Q at *
 obtain ⟨n, hn⟩ : ∃ n, Y.length = 64 * n := ⟨Y.length / 64, by omega⟩
 have hn64 : Y.length / 64 = n := by omega
 rw [hn64]
 have hC : (if A = [] then [] else YB n Y) = YB (if A = [] then 0 else n) Y := by by_cases q : A = [] <;> simp [q, YB]
 rw [hC]
 have hA0 : A = [] ↔ A.length = 0 := ⟨fun q => by rw [q]; rfl, fun q => List.eq_nil_of_length_eq_zero q⟩
 generalize hm : (if A = [] then 0 else n) = m at *
 have hmn : m ≤ n := by
  rw [← hm]
  by_cases q : A = []
  ·rw [if_pos q]; omega
  ·rw [if_neg q]; omega
 have hmA : A.length = 0 → m = 0 := fun q => by rw [← hm, if_pos (hA0.2 q)]
 have hmB : A.length ≠ 0 → m = n := fun q => by rw [← hm, if_neg (fun e => q (hA0.1 e))]
 have hwr : WrOk d (F + T / 64) n Y := ⟨hd, hf, hn, by omega⟩
 have hat := fun k (hk : k ≤ n) => X6w hwr hk
 have hstp := fun k (hk : k < n) => X8I hwr hk
 obtain ⟨D, hD⟩ : ∃ D : Nat → Disk, ∀ k, XH d (F + T / 64) (YB k Y) = D k := ⟨_, fun _ => rfl⟩
 obtain ⟨R, hR⟩ : ∃ R : Nat → List Disk, ∀ k, Va d (F + T / 64) (YB k Y) = R k := ⟨_, fun _ => rfl⟩
 simp only [hD, hR] at hat hstp ⊢
 have hD0 : d = D 0 := hD 0
 have hR0 : [d] = R 0 := hR 0
 have hRl : ∀ k, (R k).length = k + 1 := fun k => by rw [← hR, X3s, X0C]
 clear hD hR hwr hC hm
 have hsync := XcL (D m) (hat m hmn).2
 generalize (Yv (D m)).1 = Z at *
 generalize (Yv (D m)).2 = Z2 at *
 obtain ⟨zs, zp, zo⟩ := Z
 have hfin : (R m ++ [(⟨zs, zp, zo⟩ : Disk)]).map Xt = (R m).map Xt ++ [[XE zs, XA zp, .v (.bool zo)]] := by simp [Xt]
 rw [hfin, List.length_append]
 clear hfin
 have hroomX : Q.length + (A.map X6).length ≤ 200000 := by omega
 generalize hp0 : (64 - (T + A.length) % 64) % 64 = p at *
 subst hD0
 clear hf hd
 refine Qzf ?_; refine QLe ?_; refine Qy ?_; refine ZR ?_; refine Z0f ?_; refine Zs ?_; refine Qs ?_; refine Qgb ?_; refine Qy ?_; refine Z9 (hcon := c4) ?_; refine Z1 ?_; refine Z0q (γ2 := 132) ?_; refine Z1 ?_; refine Qj ?_; refine Qe ?_
 clear c1 c2 c4
 simp only [hTm]
 refine Xu (fun j : Nat => j ≤ p) (fun j => ⟨116, [(1, ai (F : Nat)), (6, .ptr 100 0), (4, ai (T : Nat)), (16, .d (Xf A)), (18, ai ((T : Int) + (A.map X6).length)), (19, .own 132 ((Q ++ A.map X6) ++ List.replicate j wzC).length)], [(100, .box [.d (XE (D 0).sectors), .d (XA (D 0).pending), ab (D 0).on]), (132, .row 1 ((Q ++ A.map X6) ++ List.replicate j wzC))]⟩) (fun j => p - j) 0 (Nat.zero_le _)
  (X9 rfl ⟨JL, JL, JL, JL, JL, AVal.le_of_eq (by refine Eq.trans (b := AVal.own 132 (_ + _)) rfl ?_; simp), trivial⟩ ⟨rfl, (by simp; rfl), trivial⟩) ?_
 intro j hj
 obtain ⟨W, hW⟩ : ∃ W, W = (Q ++ A.map X6) ++ List.replicate j wzC := ⟨_, rfl⟩
 have hWl : W.length = T + A.length + j := by rw [hW]; simp; omega
 have hWs : (Q ++ A.map X6) ++ List.replicate (j + 1) wzC = W ++ [wzC] := by rw [hW]; exact X6q _ _
 rw [← hW]
 have hroom : W.length ≤ 200000 := by omega
 by_cases hp : j < p
 ·have hpc : ¬ ((W.length : Nat) : Int) % 64 = 0 := by omega
  refine QPe ?_
  refine ⟨j + 1, hp, by omega, ?_⟩
  dsimp only
  rw [hWs]
  exact X9 rfl ⟨JL, JL, JL, JL, JL, AVal.le_of_eq (by refine Eq.trans (b := AVal.own 132 (_ + _)) rfl ?_; rw [List.length_append]), trivial⟩ ⟨rfl, rfl, trivial⟩
 obtain rfl : j = p := by omega
 have hpc : ((W.length : Nat) : Int) % 64 = 0 := by omega
 have hpn : ¬ ¬ ((W.length : Nat) : Int) % 64 = 0 := fun h => h hpc
 have hWY : W = (P ++ Y).map X6 := by rw [hW, hYc]
 refine Qg ?_; refine Z0m ?_; refine ZJ ?_; refine Zv ?_; refine Qm ?_; refine X0 ?_
 subst hWY
 refine Xi (XL 132 rfl) ?_; refine Xi (Yc 19 132 rfl rfl rfl) ?_; refine JR ?_; refine ZL ?_; refine ZZ (γ := 133) (d := 70) ?_; refine Qw ?_; refine QNe ?_; refine Qc ?_; refine X5 ?_
 clear hpc hpn hWs hW hYc hTm
 have hq1 : T / 64 * 64 ≤ T := by omega
 have hq2 : T < T / 64 * 64 + 64 := by omega
 generalize T / 64 = q at *
 refine Xu (fun k : Nat => k ≤ m) (fun k => ⟨116, [(1, ai (F : Nat)), (6, .ptr 100 0), (16, .d (Xf A)), (18, ai ((T : Int) + (A.map X6).length)), (19, .d (Xf (P ++ Y))), (20, .own 133 ((R k).map Xt).length), (21, ai (q + k : Nat))], [(100, .box [.d (XE (D k).sectors), .d (XA (D k).pending), ab (D k).on]), (133, .row 3 ((R k).map Xt))]⟩) (fun k => m - k) 0 (Nat.zero_le _)
  (X9 rfl ⟨JL, JL, JL, JL, JL, (by rw [← hR0]; exact AVal.le_refl _), JL, trivial⟩ ⟨rfl, (by rw [← hR0]; rfl), trivial⟩) ?_
 intro k hk
 have hkl := hRl k
 have hroomR : ((R k).map Xt).length ≤ 5000 := by rw [List.length_map]; omega
 have hroomQ : (R k).length ≤ 5000 := by omega
 by_cases hkn : k < m
 case neg =>
  obtain rfl : k = m := by omega
  have hbd : (q + k) * 64 ≤ 1000000 := by omega
  clear hat hstp
  by_cases hlt : (((q + k) * 64 : Nat) : Int) < (T : Int) + ((A.map X6).length : Nat)
  ·have hA0' : A.length = 0 := by
    by_cases q : A.length = 0
    ·exact q
    ·have := hmB q; omega
   have hgt : ¬ (0 : Int) < ((A.map X6).length : Nat) := by omega
   clear hA0 hmA hmB hmn hn hn64 hY1 hY2 hY3 hTl hBm hSl hPl hTAl hXAl hXl hRl hkl hfull hfull' hTB hroomX hroom hWl hpadY hPX h1 h2 h3 h4 h5 h6 h7 hN hAl hA0'
   refine Qg ?_; refine QAf ?_; refine QOa ?_; refine QUa ?_; refine Zn ?_; refine Qm ?_; refine Qgb ?_; refine Z9 (hcon := hsync) ?_; refine Qbc ?_; refine Qrc ?_; refine Zy ?_; refine Qx ?_; refine ZL ?_; refine Qpd ?_; refine Z1 ?_; refine QNb ?_
   (show AWP Tryz.prog E _ _ _; refine X1 ?_; exact (show Xn _ _ _ _ _ from ⟨_, Xb 13 (AVal.le_of_eq (by refine Eq.trans (b := ai _) rfl ?_; rw [hAm])), ⟨rfl, rfl, rfl, trivial⟩, Xj ⟨rfl, trivial⟩⟩))
  ·clear hA0 hmA hmB hmn hn hn64 hY1 hY2 hY3 hTl hBm hSl hPl hTAl hXAl hXl hRl hkl hfull hfull' hTB hroomX hroom hWl hpadY hPX h1 h2 h3 h4 h5 h6 h7 hN hAl
   refine Qg ?_; refine QAf ?_; refine Z8 ?_; refine QR ?_; refine QLa ?_; refine Qm ?_; refine Qgb ?_; refine Z9 (hcon := hsync) ?_; refine Qbc ?_; refine Qrc ?_; refine Zy ?_; refine Qx ?_; refine ZL ?_; refine Qpd ?_; refine Z1 ?_; refine QNb ?_
   (show AWP Tryz.prog E _ _ _; refine X1 ?_; exact (show Xn _ _ _ _ _ from ⟨_, Xb 13 (AVal.le_of_eq (by refine Eq.trans (b := ai _) rfl ?_; rw [hAm])), ⟨rfl, rfl, rfl, trivial⟩, Xj ⟨rfl, trivial⟩⟩))
 have hAn : A.length ≠ 0 := fun q => by have := hmA q; omega
 have hmn2 := hmB hAn
 have hlt : (((q + k) * 64 : Nat) : Int) < (T : Int) + ((A.map X6).length : Nat) := by omega
 have hgt : (0 : Int) < ((A.map X6).length : Nat) := by omega
 obtain ⟨s1, s2, s3, s4⟩ := hstp k (by omega)
 have hw := Xga (D k) ((F + q + k : Nat) : Int) ((Y.drop (64 * k)).take 64) (hat k (by omega)).2 (by rw [s2]; omega)
 rw [s3] at hw
 have hsl : (((P ++ Y).map X6).take ((q + k + 1) * 64)).drop ((q + k) * 64) = ((Y.drop (64 * k)).take 64).map X6 := by
  rw [← List.map_take, ← List.map_drop, show (q + k + 1) * 64 = P.length + 64 * (k + 1) by omega, List.take_length_add_append, show (q + k) * 64 = P.length + 64 * k by omega, List.drop_length_add_append, List.drop_take, show 64 * (k + 1) - 64 * k = 64 by omega]
 have hR1 : (R (k + 1)).map Xt = (R k).map Xt ++ [[XE (D (k + 1)).sectors, XA (D (k + 1)).pending, .v (.bool (D (k + 1)).on)]] := by rw [s4, List.map_append]; rfl
 have hPYl : ((P ++ Y).map X6).length = q * 64 + 64 * n := by simp; omega
 have hs1 : (q + k) * 64 ≤ (q + k + 1) * 64 := by omega
 have hs2 : (q + k + 1) * 64 ≤ ((P ++ Y).map X6).length := by omega
 have hcl : (((Y.drop (64 * k)).take 64).map X6).length = 64 := by rw [List.length_map]; exact s2
 generalize ((Y.drop (64 * k)).take 64) = cn at *
 have hbd : (q + k + 1) * 64 ≤ 1000000 := by omega
 have hbf : F + q + k + 1 ≤ 1000000 := by omega
 clear hat hstp s1 s2 s3 s4 hsync
 clear hA0 hmA hmB hmn hn hn64 hY1 hY2 hY3 hTl hBm hSl hPl hTAl hXAl hXl hRl hkl hfull hfull' hTB hroomX hroom hWl hpadY hPX h1 h2 h3 h4 h5 h6 h7 hN hAl hmn2 hAn hPYl
 refine Qg ?_; refine QAf ?_; refine QOa ?_; refine QUa ?_; refine Zn ?_; refine Qlb ?_; refine Qgb ?_; refine Qy ?_; refine Z4 (op := .add) (r' := ni (F + q + k)) (u := ni F) (v := ni (q + k)) ?_ (hr' := by exact congrArg ni (show F + (q + k) = F + q + k by omega)) (hr := by exact Ul (by rw [XM]; omega)); refine ZZ (γ := 134) (d := 89) ?_; refine Qy ?_; refine QAf ?_; refine Z7 (op := .add) (r' := ni (q + k + 1)) (u := ni (q + k)) (v := ni 1) ?_ (hr := by exact Ul (by rw [XM]; omega)); refine Z7 (op := .mul) (r' := ni ((q + k + 1) * 64)) (u := ni (q + k + 1)) (v := ni 64) ?_ (hr := by exact U0 (by rw [XM]; omega)); refine ZV (lb := ((q + k) * 64)) (hb := ((q + k + 1) * 64)) (ys := cn.map X6) ?_ (hys := by exact hsl); refine Z0g (γ := 134) ?_; refine Z9 (hcon := hw) ?_; refine Qbc ?_; refine Qrc ?_; refine Zy ?_; refine Z0 ?_
 refine .done (fun _ => by kernel_rfl) ?_
 refine Qjd ?_; refine Xi (X9 (n := 116) (τ := [(1, ai (F : Nat)), (6, .ptr 100 0), (16, .d (Xf A)), (18, ai ((T : Int) + (A.map X6).length)), (19, .d (Xf (P ++ Y))), (20, .own 133 ((R k).map Xt).length), (21, ai (q + k : Nat))]) (L := [(100, .box [.d (XE (D (k + 1)).sectors), .d (XA (D (k + 1)).pending), ab (D (k + 1)).on]), (133, .row 3 ((R k).map Xt))]) rfl JM ⟨rfl, rfl, trivial⟩) ?_
 clear hsl hw hs1 hs2 hcl hlt hgt hp0 hj hp hq1 hq2 hR0 hbd
 refine Ql ?_; refine ZL ?_; refine Qk ?_; refine Qnb ?_
 refine ⟨k + 1, hkn, by omega, ?_⟩
 dsimp only
 rw [hR1]
 exact X9 rfl ⟨JL, JL, JL, JL, JL, AVal.le_of_eq (by refine Eq.trans (b := AVal.own 133 (_ + _)) rfl ?_; rw [List.length_append]), JL, trivial⟩ ⟨rfl, rfl, trivial⟩
theorem Xfv (d : Disk) (f t ep tail : Int) (l : List Rcd) (hf : YW d) (hr : ∀ r ∈ l, Ux r) (hl : l.length ≤ 1000) : Con Tryz.prog 17 [] [XK d, ai f, ai t, ai ep, ai tail, .d (.sl 10 (l.map Xq))]
  [] (.tup [XK (XB d f t ep tail l).1, ai (XB d f t ep tail l).2.1, ai (XB d f t ep tail l).2.2]) := by
 refine Xa (xs := [XK (XB d f t ep tail l).1, ai (XB d f t ep tail l).2.1, ai (XB d f t ep tail l).2.2]) Tryz.func17 rfl Tryz.ntmps17 rfl rfl rfl (fun E => ?_)
 have c1 := X7w d f t ep tail l hf hr hl
 by_cases he : (Xr d f t ep tail l).2.2 = 0
 case neg =>
  obtain ⟨b1, b2⟩ := X2j he
  have e : XB d f t ep tail l = (Y8, 0, (Xr d f t ep tail l).2.2) := by unfold XB; rw [if_pos he]
  rw [e]
  rw [b1, b2] at c1
  generalize (Xr d f t ep tail l).2.2 = r at *
  clear hf hr
  obtain ⟨secs, pend, on⟩ := d
  simp only [List.map_nil, List.length_nil] at c1
  refine QRe ?_; refine Zv ?_; refine QPb ?_; refine Zx ?_; refine Z1 ?_; refine Qzd ?_; exact QSe
 obtain ⟨s1, s2, s3, s4⟩ := X0A he
 obtain ⟨R, Z, hT⟩ : ∃ R Z, VK d f t tail (Xg ep l) = R ++ [Z] := ⟨_, _, rfl⟩
 have e : XB d f t ep tail l = (Z, (Xr d f t ep tail l).2.1, 0) := by
  unfold XB
  rw [if_neg (by rw [he]; simp), s4, hT]
  simp
 rw [e]
 have eT : (Xr d f t ep tail l).1 = R ++ [Z] := by rw [s4]; exact hT
 rw [he, eT] at c1
 generalize (Xr d f t ep tail l).2.1 = z at *
 have hlm : ((R ++ [Z]).map Xt).length = R.length + 1 := by simp
 have hxc : ((R ++ [Z]).map Xt)[R.length]? = some [XE Z.sectors, XA Z.pending, .v (.bool Z.on)] := by simp [Xt]
 have hRl : R.length ≤ 9223372036854775806 := by
  have := X6T hf he
  rw [eT, List.length_append, List.length_singleton] at this
  omega
 generalize (R ++ [Z]).map Xt = T at *
 clear hf hr s1 s2 s3 s4 hT eT e he
 obtain ⟨secs, pend, on⟩ := d
 refine QRe ?_; refine QEb ?_; refine X0 ?_; refine Xi (XL 133 rfl) ?_; refine Xi (Yc 15 133 rfl rfl rfl) ?_; refine Qgc ?_; refine Zd ?_; refine QTe ?_; refine QVa ?_; refine Z1 ?_; refine Qzd ?_
 (show AWP Tryz.prog E _ _ _; refine X1 ?_; exact (show Xn _ _ _ _ _ from ⟨_, St.le_refl _, ⟨⟨101, 0, _, rfl, rfl, .inr ⟨3, _, rfl, rfl, rfl, rfl⟩⟩, rfl, rfl, trivial⟩, X3 _⟩))
theorem Xem (d : Disk) (f t ep tail : Int) (l : List Rcd) (hf : YW d) (hr : ∀ r ∈ l, Ux r) (hl : l.length ≤ 1000) : Con Tryz.prog 20 [] [XK d, ai f, ai t, ai ep, ai tail, .d (.sl 10 (l.map Xq))]
  [] (.d (.sl 3 ((Xr d f t ep tail l).1.map Xt))) := by
 refine Xa (xs := [.d (.sl 3 ((Xr d f t ep tail l).1.map Xt))]) Tryz.func20 rfl Tryz.ntmps20 rfl rfl rfl (fun E => ?_)
 have c1 := X7w d f t ep tail l hf hr hl
 have hbad := fun h => (X2j (d := d) (f := f) (t := t) (ep := ep) (tail := tail) (l := l) h).1
 generalize (Xr d f t ep tail l).1 = T at *
 generalize (Xr d f t ep tail l).2.1 = z at *
 generalize (Xr d f t ep tail l).2.2 = e at *
 clear hf hr
 obtain ⟨secs, pend, on⟩ := d
 by_cases he : e = 0
 case neg =>
  obtain rfl := hbad he
  clear hbad
  simp only [List.map_nil, List.length_nil] at c1 ⊢
  refine QUe ?_; refine Zv ?_; refine Qq ?_
  (show AWP Tryz.prog E _ _ _; refine X1 ?_; exact (show Xn _ _ _ _ _ from ⟨_, Xb 12 (AVal.le_nil 3), ⟨rfl, trivial⟩, X3 _⟩))
 subst he
 clear hbad
 refine QUe ?_; refine QEb ?_; refine Qz ?_; refine Xi (XL 133 rfl) ?_; refine Xi (Yc 12 133 rfl rfl rfl) ?_
 (show AWP Tryz.prog E _ _ _; refine X1 ?_; exact (show Xn _ _ _ _ _ from ⟨_, St.le_refl _, ⟨rfl, trivial⟩, X3 _⟩))
theorem Xen (l : List Disk) (hl : l.length ≤ 9223372036854775807) : Con Tryz.prog 18 [] [.d (.sl 3 (l.map Xt)), .d (.sl 3 (l.map Xt))] [] (ab true) := by
 refine Xa (xs := [ab true]) Tryz.func18 rfl Tryz.ntmps18 rfl rfl rfl (fun E => ?_)
 have hlm : (l.map Xt).length = l.length := by simp
 refine QPa ?_; refine Z1 ?_; refine Zd ?_; refine QEb ?_; refine Qib ?_
 refine Xu (fun i : Nat => i ≤ l.length) (fun i => ⟨27, [(0, .d (.sl 3 (l.map Xt))), (1, .d (.sl 3 (l.map Xt))), (5, ai i)], []⟩) (fun i => l.length - i) 0 (Nat.zero_le _)
  (X9 rfl JM trivial) ?_
 intro i hi
 by_cases hil : i < l.length
 case neg =>
  have hn : ¬ (i : Int) < (l.map Xt).length := by omega
  refine Qvb ?_; refine Qd ?_
  (show AWP Tryz.prog E _ _ _; refine X1 ?_; exact (show Xn _ _ _ _ _ from ⟨_, St.le_refl _, ⟨rfl, trivial⟩, X3 _⟩))
 have hn : (i : Int) < (l.map Xt).length := by omega
 obtain ⟨x, hx⟩ := Xx (l := l) hil
 have hxc : (l.map Xt)[i]? = some (Xt x) := YR hx
 have hc := Xb0 x
 clear hx
 obtain ⟨xs, xp, xo⟩ := x
 simp only [Xt] at *
 refine Qwb ?_; refine Qy ?_; refine QVa ?_; refine Z9 (hcon := hc) ?_; refine Qhb ?_; refine Qnb ?_; exact ⟨i + 1, hil, by omega, X9 rfl JM trivial⟩
theorem XcA {d : Disk} {q : Ask} (h : Vg d q = true) : YW d := by
 unfold Vg at h
 simp only [Bool.and_eq_true, decide_eq_true_eq] at h
 exact ⟨by omega, by omega⟩
theorem Xfi {d : Disk} {q : Ask} (hq : X1o q) (hb : Ut q.a ∧ Ut q.b) (h : Vg d q = true) : ((∀ r ∈ q.a, Ux r) ∧ q.a.length ≤ 60) ∧ ((∀ r ∈ q.b, Ux r) ∧ q.b.length ≤ 60) ∧ q.keep.length ≤ 100 := by
 unfold Vg at h
 simp only [Bool.and_eq_true, decide_eq_true_eq] at h
 exact ⟨X51 hb.1 hq.1 h.2.1.1, X51 hb.2 hq.2.2.1 h.2.1.2, h.2.2⟩
theorem XgT (d : Disk) (q : Ask) (hq : X1o q) (hB : Ut q.a ∧ Ut q.b) : Con Tryz.prog 4 [] [XK d, U9 q] [] (ab true) := by
 refine Xa (xs := [ab true]) Tryz.func4 rfl Tryz.ntmps4 rfl rfl rfl (fun E => ?_)
 have hs := X48 d q hq
 have hl := X45
 by_cases hb : Vg d q = true
 case neg =>
  have hb : Vg d q = false := by simpa using hb
  rw [hb] at hs
  clear hq hB
  obtain ⟨secs, pend, on⟩ := d
  obtain ⟨f, t, ep, tail, other, pick, a, b, keep⟩ := q
  unfold U9 at *
  simp only at *
  refine Qnc ?_; refine Qkc ?_; refine ZL ?_; refine Z9 (hcon := hs) ?_; refine Zu ?_; refine QBf ?_
  (show AWP Tryz.prog E _ _ _; refine X1 ?_; exact (show Xn _ _ _ _ _ from ⟨_, St.le_refl _, ⟨rfl, trivial⟩, X3 _⟩))
 rw [hb] at hs
 have hf := XcA hb
 obtain ⟨⟨kw, kl⟩, _, _⟩ := Xfi hq hB hb
 have h1 := X2i d q.f q.t q.ep q.tail q.a hf kw (by omega)
 have h2 := Xfv d q.f q.t q.ep q.tail q.a hf kw (by omega)
 have h3 := Xb0 (XB d q.f q.t q.ep q.tail q.a).1
 have h4 := X5t d q.f q.t q.ep q.tail q.a hf kw (by omega)
 have h5 := Xem d q.f q.t q.ep q.tail q.a hf kw (by omega)
 have h6 := Xen (Xr d q.f q.t q.ep q.tail q.a).1 (by have := X63 (f := q.f) (t := q.t) (ep := q.ep) (tail := q.tail) (l := q.a) hf; omega)
 have h7 := X3U q.ep q.a kw (by omega)
 have h8 := Xdz q.ep q.a kw (by omega)
 generalize (XB d q.f q.t q.ep q.tail q.a).1 = X at *
 generalize (XB d q.f q.t q.ep q.tail q.a).2.1 = z at *
 generalize (XB d q.f q.t q.ep q.tail q.a).2.2 = e at *
 generalize (Xr d q.f q.t q.ep q.tail q.a).1.map Xt = T at *
 generalize VC q.ep q.a = n at *
 clear hq hB hb hf kw kl
 obtain ⟨secs, pend, on⟩ := d
 obtain ⟨xs, xp, xo⟩ := X
 obtain ⟨f, t, ep, tail, other, pick, a, b, keep⟩ := q
 unfold U9 at *
 simp only at *
 refine Qnc ?_; refine Qkc ?_; refine ZL ?_; refine Z9 (hcon := hs) ?_; refine Qhb ?_; refine Qgb ?_; refine Qed ?_; refine Qfd ?_; refine Z9 (hcon := h1) ?_; refine Qcc ?_; refine Zw (γ := 102) ?_; refine Qzd ?_; refine Qgb ?_; refine Qed ?_; refine Qfd ?_; refine Z9 (hcon := h2) ?_; refine Qcc ?_; refine Zw (γ := 103) ?_; refine Qzd ?_; refine X0 ?_; refine X0 ?_
 clear hs h1 h2
 refine JR ?_; refine ZL ?_; refine ZL ?_; refine Z9 (hcon := h3) ?_; refine Zu ?_; refine QCa ?_; refine Zv ?_; refine Zq ?_; refine QCa ?_; refine Zv ?_; refine Qha ?_; refine Qgb ?_; refine Qed ?_; refine Qfd ?_; refine Z9 (hcon := h4) ?_; refine ZL ?_; refine Qed ?_; refine Qfd ?_; refine Z9 (hcon := h5) ?_; refine Z9 (hcon := h6) ?_; refine QKa ?_; refine QHa ?_; refine Z9 (hcon := h7) ?_; refine Qed ?_; refine Z9 (hcon := h8) ?_; refine Zl ?_; refine QCf ?_; refine Zn ?_; refine Z0 ?_
 refine .done (fun _ => by kernel_rfl) ?_
 (show AWP Tryz.prog E _ _ _; refine X1 ?_; exact (show Xn _ _ _ _ _ from ⟨_, St.le_refl _, ⟨rfl, trivial⟩, X3 _⟩))
theorem Xfx : Tryz.prog.cellsOf 5 = 1 := by kernel_rfl
section
variable {H : Type} {enc : TypeId × Value → H} {W : World}
theorem X8S : Opens enc Tryz.prog W 60 (fun _ : List UInt8 => True) (fun l => [Xf l]) :=
 (X6j Tryz.underlying60 Xfx (by decide) (Xhb Tryz.underlying5)).to id fun _ _ => ⟨trivial, rfl⟩
end
theorem X8x : Tryz.prog.cellsOf 60 = 1 := by kernel_rfl
theorem Xg3 : Tryz.prog.cellsOf 22 = 1 := by kernel_rfl
theorem Xcb : Tryz.prog.cellsOf 23 = 1 := by kernel_rfl
theorem X86 : Tryz.prog.cellsOf 70 = 2 := by kernel_rfl
theorem Xg6 : Tryz.prog.cellsOf 25 = 3 := by kernel_rfl
section
variable {H : Type} {enc : TypeId × Value → H} {W : World}
theorem Xif : Opens enc Tryz.prog W 22 (fun _ : List (List UInt8) => True) (fun l => [XE l]) :=
 (X6j Tryz.underlying22 X8x (by decide) X8S).to id fun _ _ => ⟨trivial, rfl⟩
theorem Xcu : Opens enc Tryz.prog W 70 (fun _ : Wr => True) cWr :=
 (X4r Tryz.underlying70 X86 (V8 rfl UT (US Tryz.underlying3) (V8 rfl X8x X8S X4a))).to (fun r => ⟨r.1, r.2.1⟩) fun r h => ⟨trivial, rfl⟩
theorem Xc8 : Opens enc Tryz.prog W 23 (fun _ : List Wr => True) (fun l => [XA l]) :=
 (X6j Tryz.underlying23 X86 (by decide) Xcu).to id fun _ h => ⟨trivial, rfl⟩
def Xa8 (d : Disk) : List D := [XE d.sectors, XA d.pending, .v (.bool d.on)]
theorem Xdr : Opens enc Tryz.prog W 25 (fun _ : Disk => True) Xa8 :=
 (X4r Tryz.underlying25 Xg6 (V8 rfl Xg3 Xif (V8 rfl Xcb Xc8 (V8 rfl X8c (XaF Tryz.underlying4) X4a)))).to (fun r => ⟨r.1, r.2.1, r.2.2.1⟩) fun r h => ⟨trivial, rfl⟩
theorem XdL (d : Disk) : XK d = .agg ((Xa8 d).map .d) := rfl
end
end Go.Fw
