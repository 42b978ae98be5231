/- The check of a record: the program's and the reference's. -/
import Derived.Test.YtpfldfkhgplcgaaGreatDoorK30
import Derived.Test.YtpfldfkhgplcgaaGreatDoorK36
import Derived.Test.YtpfldfkhgplcgaaGreatDoorK37
set_option maxHeartbeats 16000000
namespace Go.Fw
open Go Go.Proofs
set_option maxRecDepth 100000
set_option linter.unusedVariables false
set_option linter.unusedSimpArgs false
theorem XcS (r : Rcd) (hok : V5 r) : Con Tryz.prog 67 [] [Yq r] [] (ai (YJ r)) := by
 obtain ⟨kd, ts, l, ⟨k, n, name, key, src, dst⟩, off⟩ := r
 obtain ⟨hlen, hch⟩ := hok
 simp only at hlen hch
 have hlm : (l.map XH).length = l.length := by simp
 refine Xb (xs := [ai (YJ ⟨kd, ts, l, ⟨k, n, name, key, src, dst⟩, off⟩)]) Tryz.func67 rfl Tryz.ntmps67 rfl rfl rfl (fun E => ?_)
 have hz := eqZ k n name key src dst
 have hr := Xft ⟨k, n, name, key, src, dst⟩
 unfold YJ
 simp only [Yq, Uw] at hr ⊢
 generalize X0P ⟨k, n, name, key, src, dst⟩ = z at *
 generalize VS ⟨k, n, name, key, src, dst⟩ = re at *
 by_cases h1 : ¬ (1 ≤ kd ∧ kd ≤ 3 ∧ 0 ≤ ts ∧ ts ≤ 1000000000000000)
 ·rw [if_pos h1]
  refine Qzb ?_; refine Z8 ?_; refine Z1 ?_; refine XI rfl rfl (fun hq => ?_) (fun hq => ?_); refine QUc ?_; refine QOa ?_; exact QPa; refine QFa ?_; refine Qaa ?_; refine Z1 ?_; refine XI rfl rfl (fun hq => ?_) (fun hq => ?_); refine QUc ?_; exact QPa; refine QFa ?_; refine Z8 ?_; refine Zq ?_; refine Z1 ?_; refine XI rfl rfl (fun hq => ?_) (fun hq => ?_); refine QUc ?_; exact Qca; refine QFa ?_; refine Qaa ?_; exact Qca
 rw [if_neg h1]
 by_cases h2 : (kd ≠ 1 ∧ 0 < l.length) ∨ (kd ≠ 2 ∧ (off = true ∨ z = false))
 ·rw [if_pos h2]
  refine Qzb ?_; refine Z8 ?_; refine QIa ?_; refine Qaa ?_; refine QIa ?_; refine Z8 ?_; refine QAc ?_; refine Qmb ?_; refine Qyb ?_; refine Zv ?_; refine Z1 ?_; refine XI rfl rfl (fun hq => ?_) (fun hq => ?_); refine QOd ?_; refine QFc ?_; refine XI rfl rfl (fun hq => ?_) (fun hq => ?_); refine QHc ?_; refine QSc ?_; refine QPd ?_; exact Qca; refine QVc ?_; refine Z1 ?_; refine QSd ?_; refine Z1 ?_; refine XW rfl rfl (fun hq => ?_) (fun hq => ?_); refine QFa ?_; refine QTd ?_; refine VB rfl (fun hq => ?_) (fun hq => ?_); exact Qga; refine QUd ?_; refine Zl ?_; refine Qr ?_; refine Qhb ?_; (exfalso; clear hr hz; simp_all <;> omega); refine QO ?_; refine Zn ?_; exact QRd; refine QHc ?_; refine QAc ?_; refine Zv ?_; refine Z1 ?_; refine QSd ?_; refine Z1 ?_; refine XW rfl rfl (fun hq => ?_) (fun hq => ?_); refine QFa ?_; refine QTd ?_; refine VB rfl (fun hq => ?_) (fun hq => ?_); exact Qga; refine QUd ?_; refine Zl ?_; refine Qr ?_; refine Qhb ?_; (exfalso; clear hr hz; simp_all <;> omega); refine QO ?_; refine Zn ?_; exact QRd
 rw [if_neg h2]
 by_cases h3 : kd = 2
 ·subst h3
  rw [if_pos rfl]
  have h4 : ¬ 0 < l.length := by omega
  repeat first | refine X0 ?_ | (refine JR ?_; (repeat first | refine Z1 ?_ | refine Z0 ?_ | refine ZB ?_ | refine ZC ?_ | refine ZL ?_ | refine Zd ?_ | refine Z8 ?_ | refine Zs ?_ | refine Zl ?_ | refine Zv ?_ | refine ZA (γ := 100) ?_ | refine Zn ?_ | refine Zq ?_ | refine Zo ?_ | refine Zp ?_ | refine Z9 (hcon := hr) ?_); refine JD ?_) | refine JT ?_ | refine JF ?_ | refine X4 ?_
  exact QL
 rw [if_neg h3]
 have hoz : off = false ∧ z = true := by cases off <;> cases z <;> simp_all
 obtain ⟨ho, hz1⟩ := hoz
 have hk : kd = 1 ∨ (kd = 3 ∧ ¬ 0 < l.length) := by omega
 rcases hk with hk1 | ⟨hk1, hn0⟩
 case inr =>
  obtain rfl : l = [] := List.eq_nil_of_length_eq_zero (by omega)
  clear h2 hlm hch hlen
  repeat first | refine X0 ?_ | (refine JR ?_; (repeat first | refine Z06 (us := [.int .i64 k, .int .i64 n, .string (X6 name), .string (X6 key), .string (X6 src), .string (X6 dst)]) (vs := [.int .i64 0, .int .i64 0, .string (X6 []), .string (X6 []), .string (X6 []), .string (X6 [])]) (r := z) ?_ (hk := by exact X0J) (hr := by exact hz) | refine Z1 ?_ | refine Z0 ?_ | refine ZB ?_ | refine ZC ?_ | refine ZL ?_ | refine Zd ?_ | refine Z8 ?_ | refine Zs ?_ | refine Zl ?_ | refine Zv ?_ | refine ZA (γ := 100) ?_ | refine Zx ?_ | refine Zn ?_ | refine Zq ?_); refine JD ?_) | refine JF ?_ | refine X5 ?_ | refine X4 ?_
  refine Xu (ι := Nat) (fun i => i = 0) (fun i => ⟨73, [(1, .ptr 100 0), (3, ai i)], [(100, .box [ai kd, ai ts, .d (.sl 10 []), ai k, ai n, X9 name, X9 key, X9 src, X9 dst, ab off])]⟩) (fun i => 0) 0 rfl
   (Xa rfl JM ⟨rfl, trivial⟩) ?_
  rintro i rfl
  refine Qef ?_; exact QXd
 generalize hG : Vz l = G
 repeat first | refine X0 ?_ | (refine JR ?_; (repeat first | refine Z06 (us := [.int .i64 k, .int .i64 n, .string (X6 name), .string (X6 key), .string (X6 src), .string (X6 dst)]) (vs := [.int .i64 0, .int .i64 0, .string (X6 []), .string (X6 []), .string (X6 []), .string (X6 [])]) (r := z) ?_ (hk := by exact X0J) (hr := by exact hz) | refine Z1 ?_ | refine Z0 ?_ | refine ZB ?_ | refine ZC ?_ | refine ZL ?_ | refine Z8 ?_ | refine Zs ?_ | refine Zl ?_ | refine Zv ?_ | refine ZA (γ := 100) ?_ | refine Zx ?_ | refine Zn ?_ | refine Zq ?_ | refine Zo ?_); refine JD ?_) | refine JF ?_ | refine X5 ?_ | refine X4 ?_
 refine Xu (ι := Nat) (fun i => i ≤ l.length ∧ Vz (l.drop i) = G) (fun i => ⟨73, [(1, .ptr 100 0), (3, ai i)], [(100, .box [ai kd, ai ts, .d (.sl 10 (l.map XH)), ai k, ai n, X9 name, X9 key, X9 src, X9 dst, ab off])]⟩) (fun i => l.length - i) 0 ⟨by omega, hG⟩
  (Xa rfl JM ⟨rfl, trivial⟩) ?_
 rintro i ⟨hi, hg⟩
 by_cases hil : i < l.length
 case neg =>
  obtain rfl : i = l.length := by omega
  rw [List.drop_length, Vz] at hg
  subst hg
  rw [if_neg (by simp)]
  have hn : ¬ ((l.length : Nat) : Int) < (l.map XH).length := by omega
  by_cases hb : 1000 < l.length
  ·rw [if_pos hb]
   refine Qef ?_; refine Qyb ?_; refine QWd ?_; exact Qca
  ·rw [if_neg hb]
   refine Qef ?_; exact QXd
 have hn : (i : Int) < (l.map XH).length := by omega
 obtain ⟨x, hx⟩ := Xv (l := l) hil
 have hxc : (l.map XH)[i]? = some (XH x) := YF hx
 have hxo := hch x (List.mem_of_getElem? hx)
 have hcall := XgK x hxo.2
 rw [X7q hx] at hg
 generalize Ug x = e at *
 obtain ⟨op, id, xsrc, xdst, xname, ⟨xk, xn, xd, xs, xl⟩⟩ := x
 simp only [Y3, XH] at hcall hxc
 by_cases he : e = 0
 ·subst he
  rw [if_neg (by simp)] at hg
  refine Qdf ?_; refine QSa ?_; refine Z9 (hcon := hcall) ?_; refine QYd ?_; refine Qnb ?_; exact ⟨i + 1, ⟨by omega, hg⟩, by omega, Xa rfl JM ⟨rfl, trivial⟩⟩
 ·rw [if_pos he] at hg
  subst hg
  rw [if_pos he]
  refine Qdf ?_; refine QSa ?_; refine Z9 (hcon := hcall) ?_; exact Qqc
theorem XbF (d : Disk) (a : Int) (hl : UY d) : Con Tryz.prog 74 [] [XK d, ai a] [] (X0T (.d (Xg (Y7 d a).1)) (Y7 d a).2) := by
 refine Xb (xs := [.d (Xg (Y7 d a).1), ai (Y7 d a).2]) Tryz.func74 rfl Tryz.ntmps74 rfl rfl rfl (fun E => ?_)
 by_cases hu : Yo d = 0
 ·have hp := hl.2.1
  by_cases h1 : a < 0
  ·rw [show Y7 d a = ([], 1) by simp [Y7, hu]; omega]
   repeat first | refine X0 ?_ | (refine JR ?_; (repeat first | refine Z1 ?_ | refine Z0 ?_ | refine ZL ?_ | refine Z8 ?_ | refine Zv ?_ | refine ZA (γ := 100) ?_ | refine Zn ?_ | refine Zo ?_ | refine Z9 (hcon := X0g d) ?_); refine JD ?_) | refine JT ?_ | refine JF ?_ | refine X4 ?_
   exact Qze
  by_cases h2 : (d.sectors.length : Int) ≤ a
  ·rw [show Y7 d a = ([], 1) by simp [Y7, hu]; omega]
   refine QDa ?_; refine Qya ?_; refine Qnc ?_; refine Z9 (hcon := X0g d) ?_; refine Qve ?_; refine QOb ?_; refine Qya ?_; exact Qze
  obtain ⟨k, rfl⟩ : ∃ k : Nat, a = k := ⟨a.toNat, by omega⟩
  obtain ⟨s, hs⟩ := Xv (l := d.sectors) (k := k) (by omega)
  have hsl := hl.2.2.1 s (List.mem_of_getElem? hs)
  repeat first | refine X0 ?_ | (refine JR ?_; (repeat first | refine Z1 ?_ | refine Z0 ?_ | refine ZB ?_ | refine ZC ?_ | refine ZL ?_ | refine Zk ?_ | refine Zd ?_ | refine Z8 ?_ | refine Z2 ?_ | refine Zv ?_ | refine ZA (γ := 100) ?_ | refine Zq ?_ | refine Zj ?_ | refine Z9 (hcon := X0g d) ?_); refine JD ?_) | refine JF ?_ | refine X5 ?_ | refine X4 ?_
  have hok := X2g (X3K hu).1
  have hs64 := hok.1 s (List.mem_of_getElem? hs)
  rw [show Y7 d (k : Int) = (YR d.pending k s d.pending.length, 0) by unfold Y7; rw [if_neg (by simpa using hu), if_pos (by omega), Int.toNat_natCast, hs]; rfl]
  refine Xu (fun j : Nat => j ≤ d.pending.length) (fun j => ⟨52, [(1, ai k), (2, .ptr 100 0), (7, .d (Xg (YR d.pending k s j))), (8, ai j)], [(100, .box [.d (XB d.sectors), .d (XC d.pending), ab d.on])]⟩) (fun j => d.pending.length - j) 0 (by omega)
   (Xa rfl ⟨JL, JL, JL, JL, trivial⟩ ⟨rfl, trivial⟩) ?_
  intro j hj
  by_cases hlt : j < d.pending.length
  ·obtain ⟨⟨at_, b⟩, hw⟩ := Xv (l := d.pending) (k := j) hlt
   by_cases hat : at_ = (k : Int)
   ·subst hat
    refine Qdf ?_; refine Qrb ?_; refine Z1 ?_; refine Zl ?_; refine Qh ?_; refine QWc ?_; refine Z1 ?_; refine Qrb ?_; refine Qc ?_; refine Qnb ?_
    refine ⟨j + 1, by omega, by omega, Xa rfl ⟨JL, JL, (by refine AVal.le_of_eq ?_; refine Eq.trans (b := AVal.d (Xg b)) rfl ?_; simp [YR, hw]), JL, trivial⟩ ⟨rfl, trivial⟩⟩
   ·refine Qdf ?_; refine Qrb ?_; refine Z1 ?_; refine Zl ?_; refine Qr ?_; refine Qnb ?_
    refine ⟨j + 1, by omega, by omega, Xa rfl ⟨JL, JL, (by refine AVal.le_of_eq ?_; refine Eq.trans (b := AVal.d (Xg (YR d.pending k s j))) rfl ?_; simp [YR, hw, hat]), JL, trivial⟩ ⟨rfl, trivial⟩⟩
  obtain rfl : j = d.pending.length := by omega
  have hbl := X36 (a := (k : Int)) hok hs64 d.pending.length
  refine Qef ?_; refine Qb ?_; refine ZZ (len := 0) (γ := 101) ?_; refine Z1 ?_; refine Z6 ?_; refine Qya ?_; refine Xm (Y4 101 rfl) ?_; refine Xm (U1 4 101 rfl rfl (by simp)) ?_; exact X1 ⟨_, Xc 4 (y := .d (Xg (YR d.pending k s d.pending.length))) (AVal.le_of_eq (by refine Eq.trans (b := AVal.d (.sl 1 ([] ++ _))) rfl ?_; simp)), ⟨rfl, rfl, trivial⟩, X3 _⟩
 ·rw [show Y7 d a = ([], Yo d) by simp [Y7, hu]]
  refine QDa ?_; refine Qya ?_; refine Qnc ?_; refine Z9 (hcon := X0g d) ?_; refine Qv ?_; refine QAa ?_; refine Qf ?_; refine Qya ?_; exact Qze
theorem Xhh (d : Disk) (f t : Int) (hd : DOk d) (hf : Ud d) (h1 : 0 ≤ f) (h2 : f ≤ t) (h3 : t ≤ d.sectors.length) : Con Tryz.prog 49 [] [XK d, ai f, ai t] [(130, .row 1 ((XO d f t).map X7))] (.own 130 ((XO d f t).map X7).length) := by
 refine Xb (xs := [.own 130 ((XO d f t).map X7).length]) Tryz.func49 rfl Tryz.ntmps49 rfl rfl rfl (fun E => ?_)
 obtain ⟨F, rfl⟩ : ∃ F : Nat, f = F := ⟨f.toNat, by omega⟩
 obtain ⟨N, rfl⟩ : ∃ N : Nat, t = ((F + N : Nat) : Int) := ⟨(t - F).toNat, by omega⟩
 have hS : XO d (F : Nat) ((F + N : Nat) : Int) = Y0 d F N := by
  unfold XO
  rw [Int.toNat_natCast, show (((F + N : Nat) : Int) - (F : Nat)).toNat = N by omega]
 rw [hS]
 have hr := fun a => XbF d a (X6e hd.v hf)
 have hlen := fun i (hi : i ≤ N) => VQ hd i F (by omega)
 have hmore := X5y d
 have hl1 := fun i (hi : i < N) => X3x hd (a := F + i) (by omega)
 have hsl := hf.1
 clear hS hf hd
 obtain ⟨secs, pend, on⟩ := d
 generalize hB : Y0 ⟨secs, pend, on⟩ F = B at *
 refine QEa ?_; refine Qy ?_; refine Qc ?_; refine X5 ?_; refine Xm (Vp 7 130 1 rfl rfl rfl) ?_
 refine Xu (fun i : Nat => i ≤ N) (fun i => ⟨27, [(2, ai ((F + N : Nat) : Int)), (3, .ptr 100 0), (7, .own 130 ((B i).map X7).length), (8, ai ((F + i : Nat) : Int))], [(100, .box [.d (XB secs), .d (XC pend), ab on]), (130, .row 1 ((B i).map X7))]⟩) (fun i => N - i) 0 (Nat.zero_le _)
  (Xa rfl ⟨JL, JL, (by rw [← hB]; exact AVal.le_refl _), JL, trivial⟩ ⟨rfl, (by rw [← hB]; rfl), trivial⟩) ?_
 intro i hi
 have hbl := hlen i hi
 have hroom : ((B i).map X7).length ≤ 1000000 := by rw [List.length_map]; omega
 by_cases hil : i < N
 case neg =>
  obtain rfl : i = N := by omega
  have hn : ¬ ((F + i : Nat) : Int) < ((F + i : Nat) : Int) := by omega
  refine Qld ?_; refine Ql ?_; refine Qx ?_
  (show AWP Tryz.prog E _ _ _; refine X1 ?_; exact (show Xq _ _ _ _ _ from ⟨_, St.le_refl _, ⟨rfl, trivial⟩, Xh ⟨rfl, trivial⟩⟩))
 have hn : ((F + i : Nat) : Int) < ((F + N : Nat) : Int) := by omega
 have hr1 := hr ((F + i : Nat) : Int)
 have hst : B (i + 1) = B i ++ (Y7 ⟨secs, pend, on⟩ ((F + i : Nat) : Int)).1 := by rw [← hB]; exact hmore i F
 have hrl := hl1 i hil
 generalize (Y7 ⟨secs, pend, on⟩ ((F + i : Nat) : Int)).1 = R at *
 generalize (Y7 ⟨secs, pend, on⟩ ((F + i : Nat) : Int)).2 = R2 at *
 have hrm : (R.map X7).length ≤ 64 := by rw [List.length_map]; omega
 clear hr hmore hlen hl1 hB
 refine Qld ?_; refine Qkb ?_; refine Qfb ?_; refine Z9 (hcon := hr1) ?_; refine Qac ?_; refine Qya ?_; refine Qgc ?_; refine Qkc ?_; refine Qnb ?_
 refine ⟨i + 1, hil, by omega, ?_⟩
 dsimp only
 rw [hst, List.map_append]
 exact Xa rfl ⟨JL, JL, AVal.le_of_eq (by refine Eq.trans (b := AVal.own 130 (_ + _)) rfl ?_; simp only [List.length_append, List.length_map]), JL, trivial⟩ ⟨rfl, rfl, trivial⟩
theorem Xgr (d : Disk) (f t : Int) (hd : DOk d) (hf : Ud d) (h1 : 0 ≤ f) (h2 : f ≤ t) (h3 : t ≤ d.sectors.length) : Con Tryz.prog 49 [] [XK d, ai f, ai t] [] (.d (Xg (XO d f t))) := (Xhh d f t hd hf h1 h2 h3).data rfl
open Go
def VK (r : Val × Int × Int) : Val × Int × Int := if r.2.2 ≠ 0 then (zV, 0, r.2.2) else r
def X12 (g : Nat → Int → Val × Int × Int) (b : List UInt8) (a k : Int) : Val × Int × Int :=
 let c := Xf b a
 if c.2.2 ≠ 0 then (.mk k 0 0 [] [], 0, c.2.2) else if Uh k c.1 then (.mk k 0 0 [] [], 0, 2) else
  let p := Xt g c.2.1 c.1.toNat; if p.2.2 ≠ 0 then (.mk k 0 0 [] p.1.dropLast, 0, p.2.2) else (.mk k 0 0 [] p.1, p.2.1, 0)
def YI (gl gp : Nat → Int → Val × Int × Int) (b : List UInt8) (a k : Int) : Val × Int × Int :=
 if k = 7 ∨ k = 8 then X12 (if k = 8 then gl else gp) b a k else XV gl gp b a k
theorem X9e (gl gp : Nat → Int → Val × Int × Int) (b : List UInt8) (a k : Int) :
  (YI gl gp b a k).2.2 = (XV gl gp b a k).2.2 ∧ ((XV gl gp b a k).2.2 = 0 → YI gl gp b a k = XV gl gp b a k) := by
 unfold YI
 by_cases h : k = 7 ∨ k = 8
 ·rw [if_pos h]
  have h1 : ¬(k = 1 ∨ k = 2 ∨ k = 5 ∨ k = 6) := by omega
  have h3 : ¬ k = 3 := by omega
  have h4 : ¬ k = 4 := by omega
  unfold X12 XV
  rw [if_neg h1, if_neg h3, if_neg h4, if_pos h]
  simp only
  by_cases e1 : (Xf b a).2.2 = 0
  ·have e1' : ¬ (Xf b a).2.2 ≠ 0 := fun h => h e1
   simp only [if_neg e1']
   by_cases e2 : Uh k (Xf b a).1 = true
   ·simp only [if_pos e2]
    exact ⟨trivial, fun h => absurd h (by decide)⟩
   ·simp only [if_neg e2]
    generalize Xt (if k = 8 then gl else gp) (Xf b a).2.1 (Xf b a).1.toNat = p
    by_cases e3 : p.2.2 = 0
    ·have e3' : ¬ p.2.2 ≠ 0 := fun h => h e3
     simp only [if_neg e3']
     exact ⟨e3.symm, fun _ => by rw [← e3]⟩
    ·have e3' : p.2.2 ≠ 0 := e3
     simp only [if_pos e3']
     exact ⟨trivial, fun h => absurd h e3⟩
  ·have e1' : (Xf b a).2.2 ≠ 0 := e1
   simp only [if_pos e1']
   exact ⟨trivial, fun h => absurd h e1⟩
 ·rw [if_neg h]
  exact ⟨rfl, fun _ => rfl⟩
theorem Xfe (gl gp : Nat → Int → Val × Int × Int) (m : Nat) (b : List UInt8) (a want : Int) : VK (U9 gl gp m b a want) =
  if a = b.length then (zV, 0, 3) else
  if 8 < ((((b[a.toNat]?).getD 0).toNat : Nat) : Int) ∨ (((((b[a.toNat]?).getD 0).toNat : Nat) : Int) = 8 ∧ m = 0) ∨ (want ≠ 0 ∧ ((((b[a.toNat]?).getD 0).toNat : Nat) : Int) ≠ want) then (zV, 0, 2) else
   if (YI gl gp b (a + 1) (((b[a.toNat]?).getD 0).toNat : Nat)).2.2 ≠ 0 then (zV, 0, (YI gl gp b (a + 1) (((b[a.toNat]?).getD 0).toNat : Nat)).2.2) else
   if X8 8 (YI gl gp b (a + 1) (((b[a.toNat]?).getD 0).toNat : Nat)).1 = false then (zV, 0, 2) else YI gl gp b (a + 1) (((b[a.toNat]?).getD 0).toNat : Nat) := by
 unfold U9
 by_cases h1 : a = b.length
 ·rw [if_pos h1, if_pos h1]; rfl
 rw [if_neg h1, if_neg h1]
 simp only
 generalize ((((b[a.toNat]?).getD 0).toNat : Nat) : Int) = k
 by_cases h2 : 8 < k ∨ (k = 8 ∧ m = 0) ∨ (want ≠ 0 ∧ k ≠ want)
 ·rw [if_pos h2, if_pos h2]; rfl
 rw [if_neg h2, if_neg h2]
 obtain ⟨e1, e2⟩ := X9e gl gp b (a + 1) k
 generalize XV gl gp b (a + 1) k = c at *
 by_cases e3 : c.2.2 = 0
 ·have e3' : ¬ c.2.2 ≠ 0 := fun h => h e3
  rw [e2 e3, if_neg e3']
  by_cases e4 : X8 8 c.1 = false
  ·rw [if_pos ⟨e3, e4⟩, if_pos e4]; rfl
  ·rw [if_neg (fun h => e4 h.2), if_neg e4]
   unfold VK
   rw [if_neg e3']
 ·rw [if_neg (fun h => e3 h.1), e1, if_pos e3]
  unfold VK
  rw [if_pos e3]
theorem XgF (b : List UInt8) (a : Int) : Yn b a = if a < 0 ∨ (b.length : Int) < a then (zV, 0, 1) else VK (UX b 8 a) := rfl
theorem Xh4 {b : List UInt8} {a : Int} (h : (Xp b a).2.2 ≠ 0) : (Xp b a).2.1 = 0 := by
 unfold Xp at h ⊢
 simp only at h ⊢
 split
 ·rfl
 ·rename_i h1
  rw [if_neg h1] at h
  split
  ·rfl
  ·rename_i h2
   rw [if_neg h2] at h
   exact absurd rfl h
def X1S (b : List UInt8) (a : Nat) (lists path : Int) (r : Val × Int × Int) : Prop :=
 Con Tryz.prog 179 [] [.d (Xg b), ai a, ai lists, ai path] [] (.tup [Xi r.1, ai r.2.1, ai r.2.2])
def X2G (b : List UInt8) (a : Int) (k lists : Int) (r : Val × Int × Int) : Prop :=
 Con Tryz.prog 206 [] [.d (Xg b), ai a, ai k, ai lists] [] (.tup [Xi r.1, ai r.2.1, ai r.2.2])
theorem Xck (b : List UInt8) (m : Nat) (a : Int) (gl : Nat → Int → Val × Int × Int) (R : Val × Int × Int) (hm : m ≤ 8) (hb : b.length ≤ 281474976710656)
  (hge : ∀ i q : Nat, q ≤ b.length → Uo b (gl i q).2) (hg : ∀ i q : Nat, q ≤ b.length → X1S b q (8 - m + 1) (-1) (VK (gl i q))) (hG : R = X12 gl b a 8) : X2G b a 8 (8 - m) R := by
 refine Xb (xs := [Xi R.1, ai R.2.1, ai R.2.2]) Tryz.func206 rfl Tryz.ntmps206 rfl rfl rfl (fun E => ?_)
 have hc := X2D b a hb
 have hue := X0k b a
 unfold X12 at hG
 simp only at hG
 obtain ⟨N, hN⟩ := X1Z b a
 generalize Xf b a = u at *
 obtain ⟨n, a2, e2⟩ := u
 simp only at hN
 subst hN
 simp only [Int.toNat_natCast] at hc hG hue
 by_cases he2 : e2 = 0
 case neg =>
  rw [if_pos he2] at hG
  subst hG
  repeat first | refine X0 ?_ | (refine JR ?_; (repeat first | refine Z1 ?_ | refine Z0 ?_ | refine ZL ?_ | refine Zv ?_ | refine Zw (γ := 100) ?_ | refine Zw (γ := 101) ?_ | refine Zy ?_ | refine Zx ?_ | refine ZF ?_ | refine Z9 (hcon := hc) ?_); refine JD ?_) | refine JT ?_
  exact QPf
 subst he2
 rw [if_neg (by simp)] at hG
 have h00 := hue rfl
 simp only at h00
 clear hue
 by_cases hN : 64 < N
 ·rw [if_pos (by simp [Uh]; omega)] at hG
  subst hG
  have hN' : (N : Int) > 64 := by omega
  repeat first | refine X0 ?_ | (refine JR ?_; (repeat first | refine Z1 ?_ | refine Z0 ?_ | refine ZL ?_ | refine Zs ?_ | refine Zl ?_ | refine Zv ?_ | refine Zw (γ := 100) ?_ | refine Zw (γ := 101) ?_ | refine Zy ?_ | refine Zx ?_ | refine ZF ?_ | refine Zn ?_ | refine Zo ?_ | refine Zp ?_ | refine Z9 (hcon := hc) ?_); refine JD ?_) | refine JT ?_ | refine JF ?_ | refine X4 ?_
  exact QPf
 rw [if_neg (by simp [Uh]; omega)] at hG
 have hN' : ¬ (N : Int) > 64 := by omega
 repeat first | refine X0 ?_ | (refine JR ?_; (repeat first | refine Z1 ?_ | refine Z0 ?_ | refine Zs ?_ | refine Zl ?_ | refine Zv ?_ | refine Zw (γ := 100) ?_ | refine Zw (γ := 101) ?_ | refine Zy ?_ | refine Zx ?_ | refine ZF ?_ | refine Zn ?_ | refine Zq ?_ | refine Zo ?_ | refine Zp ?_ | refine Z9 (hcon := hc) ?_); refine JD ?_) | refine JF ?_ | refine X5 ?_ | refine X4 ?_
 refine Xm (Vx 101 4 121 5 (cs := [ai 8, ai 0, ai 0, .d (.v (.string (X6 []))), ani]) rfl rfl rfl rfl rfl) ?_
 refine Xu (fun i : Nat => i ≤ N ∧ (Xt gl a2 i).2.2 = 0 ∧ (Xt gl a2 i).1.length = i) (fun i => ⟨87, [(0, .d (Xg b)), (2, ai 8), (3, ai (8 - m)), (8, .ptr 100 0), (11, .ptr 101 0), (12, ai N), (13, ai (Xt gl a2 i).2.1), (15, ai i)], [(100, .box [ai 0, ai 0, ai 0, .d (.v (.string (X6 []))), ani]), (101, .box [ai 8, ai 0, ai 0, .d (.v (.string (X6 []))), .own 121 (Xt gl a2 i).1.length]), (121, .row 5 (Xy (Xt gl a2 i).1))]⟩) (fun i => N - i) 0 ⟨by omega, rfl, rfl⟩
  (Xa rfl ⟨JL, JL, JL, JL, JL, JL, JL, JL, trivial⟩ ⟨rfl, rfl, rfl, trivial⟩) ?_
 intro i hi
 obtain ⟨hi, hpe, hil⟩ := hi
 have hlen := Va (Xt gl a2 i).1
 by_cases hiN : i < N
 case neg =>
  obtain rfl : i = N := by omega
  rw [if_neg (by simpa using hpe)] at hG
  generalize Xt gl a2 i = p at *
  obtain ⟨l, pa, pe⟩ := p
  simp only at hpe hil hG hlen
  subst hpe hG
  refine Qqd ?_; refine Qld ?_; refine Ql ?_; refine Qfb ?_; exact QQf
 obtain ⟨q, hq1, hq2⟩ := X1Q hge h00 i hpe
 have hcall := hg i q hq2
 unfold X1S at hcall
 have hsucc := X0u hpe
 have hsl := X42 hpe
 rw [hq1] at hsucc
 generalize gl i q = r at hcall hsucc
 by_cases hre : r.2.2 = 0
 case neg =>
  have hst := X0z (g := gl) (a := a2) (k := i + 1) (by rw [hsucc]; exact hre) N (by omega)
  rw [hst, if_pos (by rw [hsucc]; exact hre), hsucc] at hG
  unfold VK at hcall
  rw [if_pos hre] at hcall
  generalize Xt gl a2 i = p at *
  obtain ⟨l, pa, pe⟩ := p
  obtain ⟨x, xa, xe⟩ := r
  simp only [List.dropLast_concat] at hq1 hpe hil hG hlen hcall hre
  clear hsucc hst hsl
  subst hG hq1 hpe
  simp only [Xi, Xy] at hcall
  refine Qqd ?_
  repeat first | refine X0 ?_ | (refine JR ?_; (repeat first | refine Z1 ?_ | refine Z0 ?_ | refine ZL ?_ | refine Z8 ?_ | refine Zl ?_ | refine Zv ?_ | refine Zb ?_ | refine Zw (γ := 102) ?_ | refine Zy ?_ | refine ZF ?_ | refine Z9 (hcon := hcall) ?_); refine JD ?_) | refine JT ?_ | refine JF ?_ | refine X5 ?_ | refine X4 ?_
  exact QId
 have hpe2 : (Xt gl a2 (i + 1)).2.2 = 0 := by rw [hsucc]; exact hre
 unfold VK at hcall
 rw [if_neg (by simpa using hre)] at hcall
 generalize Xt gl a2 i = p at *
 obtain ⟨l, pa, pe⟩ := p
 obtain ⟨x, xa, xe⟩ := r
 simp only at hq1 hpe hil hsucc hlen hcall hre
 subst hq1 hpe hre
 obtain ⟨xk, xn, xd, xs, xl⟩ := x
 simp only [Xi] at hcall
 skip
 repeat first | refine X0 ?_ | (refine JR ?_; (repeat first | refine Z1 ?_ | refine Z0 ?_ | refine ZB ?_ | refine ZC ?_ | refine ZL ?_ | refine Z8 ?_ | refine Zl ?_ | refine Zv ?_ | refine Zb ?_ | refine Zw (γ := 102) ?_ | refine Zy ?_ | refine ZF ?_ | refine Z5 ?_ | refine Z6 ?_ | refine Z9 (hcon := hcall) ?_); refine JD ?_) | refine JT ?_ | refine JF ?_ | refine X5 ?_ | refine X4 ?_
 refine ⟨i + 1, ⟨by omega, hpe2, hsl⟩, by omega, ?_⟩
 dsimp only
 rw [hsucc]
 refine Xa rfl ⟨JL, JL, JL, JL, JL, JL, JL, JL, trivial⟩ ⟨rfl, ?_, ?_, trivial⟩
 ·refine Eq.trans (b := AObj.box ([ai 8, ai 0, ai 0, .d (.v (.string (X6 []))), .own 121 _])) rfl ?_
  congr 6; simp [hlen]
 ·exact Qvd
theorem XaU (b : List UInt8) (m : Nat) (a : Int) (gp : Nat → Int → Val × Int × Int) (R : Val × Int × Int) (hm : m ≤ 8) (hb : b.length ≤ 281474976710656)
  (hge : ∀ i q : Nat, q ≤ b.length → Uo b (gp i q).2) (hg : ∀ i q : Nat, q ≤ b.length → X1S b q (8 - m) i (VK (gp i q))) (hG : R = X12 gp b a 7) : X2G b a 7 (8 - m) R := by
 refine Xb (xs := [Xi R.1, ai R.2.1, ai R.2.2]) Tryz.func206 rfl Tryz.ntmps206 rfl rfl rfl (fun E => ?_)
 have hc := X2D b a hb
 have hue := X0k b a
 unfold X12 at hG
 simp only at hG
 obtain ⟨N, hN⟩ := X1Z b a
 generalize Xf b a = u at *
 obtain ⟨n, a2, e2⟩ := u
 simp only at hN
 subst hN
 simp only [Int.toNat_natCast] at hc hG hue
 by_cases he2 : e2 = 0
 case neg =>
  rw [if_pos he2] at hG
  subst hG
  repeat first | refine X0 ?_ | (refine JR ?_; (repeat first | refine Z1 ?_ | refine Z0 ?_ | refine ZL ?_ | refine Zv ?_ | refine Zw (γ := 100) ?_ | refine Zw (γ := 101) ?_ | refine Zy ?_ | refine Zx ?_ | refine ZF ?_ | refine Z9 (hcon := hc) ?_); refine JD ?_) | refine JT ?_
  exact QRf
 subst he2
 rw [if_neg (by simp)] at hG
 have h00 := hue rfl
 simp only at h00
 clear hue
 by_cases hN : 25 < N
 ·rw [if_pos (by simp [Uh]; omega)] at hG
  subst hG
  have hN' : (N : Int) > 25 := by omega
  repeat first | refine X0 ?_ | (refine JR ?_; (repeat first | refine Z1 ?_ | refine Z0 ?_ | refine ZL ?_ | refine Zs ?_ | refine Zl ?_ | refine Zv ?_ | refine Zw (γ := 100) ?_ | refine Zw (γ := 101) ?_ | refine Zy ?_ | refine Zx ?_ | refine ZF ?_ | refine Zn ?_ | refine Zq ?_ | refine Zo ?_ | refine Z9 (hcon := hc) ?_); refine JD ?_) | refine JT ?_ | refine JF ?_ | refine X4 ?_
  exact QRf
 have hN' : ¬ (N : Int) > 25 := by omega
 by_cases hN3 : N % 2 = 0
 ·rw [if_pos (by simp [Uh]; omega)] at hG
  subst hG
  have hN4 : ((N % 2 : Nat) : Int) = 0 := by omega
  refine Qia ?_; refine Qya ?_; refine Qf ?_; refine Zx ?_; refine Qyd ?_; refine Qi ?_; refine QZd ?_; refine Qbc ?_; refine QDb ?_; refine Qg ?_; refine Zl ?_; refine QP ?_; refine QY ?_; refine Zl ?_; refine Qw ?_; refine Zs ?_; refine Qw ?_; refine Z02 (op := .rem) (r' := .int .i64 ((N % 2 : Nat) : Int)) (u := .int .i64 N) (v := .int .i64 2) ?_ (hr' := by exact congrArg (Value.int .i64) (show ((N : Int) % 2) = ((N % 2 : Nat) : Int) by omega)); refine Zl ?_; refine Zq ?_; refine QQd ?_; refine Qh ?_; refine Qeb ?_; refine Zy ?_; refine Qya ?_; exact QRf
 rw [if_neg (by simp [Uh]; omega)] at hG
 have hN4 : ¬ ((N % 2 : Nat) : Int) = 0 := by omega
 repeat first | refine X0 ?_ | (refine JR ?_; (repeat first | refine Z02 (op := .rem) (r' := .int .i64 ((N % 2 : Nat) : Int)) (u := .int .i64 N) (v := .int .i64 2) ?_ (hr' := by exact congrArg (Value.int .i64) (show ((N : Int) % 2) = ((N % 2 : Nat) : Int) by omega)) | refine Z1 ?_ | refine Z0 ?_ | refine Zs ?_ | refine Zl ?_ | refine Zv ?_ | refine Zw (γ := 100) ?_ | refine Zw (γ := 101) ?_ | refine Zy ?_ | refine Zx ?_ | refine ZF ?_ | refine Zn ?_ | refine Zq ?_ | refine Zo ?_ | refine Z9 (hcon := hc) ?_); refine JD ?_) | refine JF ?_ | refine X5 ?_ | refine X4 ?_
 refine Xm (Vx 101 4 121 5 (cs := [ai 7, ai 0, ai 0, .d (.v (.string (X6 []))), ani]) rfl rfl rfl rfl rfl) ?_
 refine Xu (fun i : Nat => i ≤ N ∧ (Xt gp a2 i).2.2 = 0 ∧ (Xt gp a2 i).1.length = i) (fun i => ⟨87, [(0, .d (Xg b)), (2, ai 7), (3, ai (8 - m)), (8, .ptr 100 0), (11, .ptr 101 0), (12, ai N), (13, ai (Xt gp a2 i).2.1), (15, ai i)], [(100, .box [ai 0, ai 0, ai 0, .d (.v (.string (X6 []))), ani]), (101, .box [ai 7, ai 0, ai 0, .d (.v (.string (X6 []))), .own 121 (Xt gp a2 i).1.length]), (121, .row 5 (Xy (Xt gp a2 i).1))]⟩) (fun i => N - i) 0 ⟨by omega, rfl, rfl⟩
  (Xa rfl ⟨JL, JL, JL, JL, JL, JL, JL, JL, trivial⟩ ⟨rfl, rfl, rfl, trivial⟩) ?_
 intro i hi
 obtain ⟨hi, hpe, hil⟩ := hi
 have hlen := Va (Xt gp a2 i).1
 by_cases hiN : i < N
 case neg =>
  obtain rfl : i = N := by omega
  rw [if_neg (by simpa using hpe)] at hG
  generalize Xt gp a2 i = p at *
  obtain ⟨l, pa, pe⟩ := p
  simp only at hpe hil hG hlen
  subst hpe hG
  refine Qxd ?_; refine Qld ?_; refine Ql ?_; refine Qfb ?_; exact QQf
 obtain ⟨q, hq1, hq2⟩ := X1Q hge h00 i hpe
 have hcall := hg i q hq2
 unfold X1S at hcall
 have hsucc := X0u hpe
 have hsl := X42 hpe
 rw [hq1] at hsucc
 generalize gp i q = r at hcall hsucc
 by_cases hre : r.2.2 = 0
 case neg =>
  have hst := X0z (g := gp) (a := a2) (k := i + 1) (by rw [hsucc]; exact hre) N (by omega)
  rw [hst, if_pos (by rw [hsucc]; exact hre), hsucc] at hG
  unfold VK at hcall
  rw [if_pos hre] at hcall
  generalize Xt gp a2 i = p at *
  obtain ⟨l, pa, pe⟩ := p
  obtain ⟨x, xa, xe⟩ := r
  simp only [List.dropLast_concat] at hq1 hpe hil hG hlen hcall hre
  clear hsucc hst hsl
  subst hG hq1 hpe
  simp only [Xi, Xy] at hcall
  refine Qxd ?_
  repeat first | refine X0 ?_ | (refine JR ?_; (repeat first | refine Z1 ?_ | refine Z0 ?_ | refine ZL ?_ | refine Z8 ?_ | refine Zl ?_ | refine Zv ?_ | refine Zb ?_ | refine Zw (γ := 102) ?_ | refine Zy ?_ | refine ZF ?_ | refine Z9 (hcon := hcall) ?_); refine JD ?_) | refine JT ?_ | refine X5 ?_ | refine X4 ?_
  exact QId
 have hpe2 : (Xt gp a2 (i + 1)).2.2 = 0 := by rw [hsucc]; exact hre
 unfold VK at hcall
 rw [if_neg (by simpa using hre)] at hcall
 generalize Xt gp a2 i = p at *
 obtain ⟨l, pa, pe⟩ := p
 obtain ⟨x, xa, xe⟩ := r
 simp only at hq1 hpe hil hsucc hlen hcall hre
 subst hq1 hpe hre
 obtain ⟨xk, xn, xd, xs, xl⟩ := x
 simp only [Xi] at hcall
 skip
 repeat first | refine X0 ?_ | (refine JR ?_; (repeat first | refine Z1 ?_ | refine Z0 ?_ | refine ZB ?_ | refine ZC ?_ | refine ZL ?_ | refine Z8 ?_ | refine Zl ?_ | refine Zv ?_ | refine Zb ?_ | refine Zw (γ := 102) ?_ | refine Zy ?_ | refine ZF ?_ | refine Z5 ?_ | refine Z6 ?_ | refine Z9 (hcon := hcall) ?_); refine JD ?_) | refine JT ?_ | refine JF ?_ | refine X5 ?_ | refine X4 ?_
 refine ⟨i + 1, ⟨by omega, hpe2, hsl⟩, by omega, ?_⟩
 dsimp only
 rw [hsucc]
 refine Xa rfl ⟨JL, JL, JL, JL, JL, JL, JL, JL, trivial⟩ ⟨rfl, ?_, ?_, trivial⟩
 ·refine Eq.trans (b := AObj.box ([ai 7, ai 0, ai 0, .d (.v (.string (X6 []))), .own 121 _])) rfl ?_
  congr 6; simp [hlen]
 ·exact Qvd
def X5r (b : List UInt8) (a : Int) (k lists : Int) (r : Val × Int × Int) : Prop :=
 Con Tryz.prog 200 [] [.d (Xg b), ai a, ai k, ai lists] [] (.tup [Xi r.1, ai r.2.1, ai r.2.2])
theorem X6Q (b : List UInt8) (m k : Nat) (a : Int) (gl gp : Nat → Int → Val × Int × Int) (R : Val × Int × Int) (hm : m ≤ 8) (hb : b.length ≤ 281474976710656) (hk : k ≤ 8)
  (h8 : k = 8 → ∀ R, R = X12 gl b a 8 → X2G b a 8 (8 - m) R) (h7 : k = 7 → ∀ R, R = X12 gp b a 7 → X2G b a 7 (8 - m) R) (hG : R = YI gl gp b a k) : X5r b a k (8 - m) R := by
 refine Xb (xs := [Xi R.1, ai R.2.1, ai R.2.2]) Tryz.func200 rfl Tryz.ntmps200 rfl rfl rfl (fun E => ?_)
 by_cases hk8 : k = 8
 ·subst hk8
  have hcall := h8 rfl R (by rw [hG]; simp [YI])
  unfold X2G at hcall
  obtain ⟨⟨xk, xn, xd, xs, xl⟩, xa, xe⟩ := R
  simp only [Xi] at hcall
  rw [show (((8 : Nat) : Int)) = 8 from rfl]
  repeat first | refine X0 ?_ | (refine JR ?_; (repeat first | refine Z1 ?_ | refine Z0 ?_ | refine Zl ?_ | refine Zw (γ := 100) ?_ | refine Zw (γ := 101) ?_ | refine Zy ?_ | refine Zx ?_ | refine ZF ?_ | refine Z9 (hcon := hcall) ?_); refine JD ?_) | refine JT ?_ | refine JF ?_ | refine X5 ?_ | refine X4 ?_
  exact QId
 by_cases hk7 : k = 7
 ·subst hk7
  have hcall := h7 rfl R (by rw [hG]; simp [YI])
  unfold X2G at hcall
  obtain ⟨⟨xk, xn, xd, xs, xl⟩, xa, xe⟩ := R
  simp only [Xi] at hcall
  rw [show (((7 : Nat) : Int)) = 7 from rfl]
  repeat first | refine X0 ?_ | (refine JR ?_; (repeat first | refine Z1 ?_ | refine Z0 ?_ | refine Zl ?_ | refine Zw (γ := 100) ?_ | refine Zw (γ := 101) ?_ | refine Zy ?_ | refine Zx ?_ | refine ZF ?_ | refine Z9 (hcon := hcall) ?_); refine JD ?_) | refine JT ?_ | refine JF ?_ | refine X5 ?_
  exact QId
 by_cases hk0 : k = 0
 ·subst hk0
  obtain rfl : R = (.mk 0 0 0 [] [], (a : Int), 0) := by rw [hG]; simp [YI, XV]
  rw [show (((0 : Nat) : Int)) = 0 from rfl]
  repeat first | refine X0 ?_ | (refine JR ?_; (repeat first | refine Z1 ?_ | refine Z0 ?_ | refine ZL ?_ | refine Zl ?_ | refine Zw (γ := 100) ?_ | refine Zw (γ := 101) ?_ | refine Zy ?_ | refine Zx ?_); refine JD ?_) | refine JF ?_ | refine X5 ?_ | refine X4 ?_
  exact QGd
 by_cases hk1 : k = 1
 ·subst hk1
  have hn := X1W b a hb
  rw [show YI gl gp b a ((1 : Nat) : Int) = (.mk 1 (Xp b a).1 0 [] [], (Xp b a).2.1, (Xp b a).2.2) by simp [YI, XV]] at hG
  generalize Xp b a = u at *
  obtain ⟨n, a2, e2⟩ := u
  subst hG
  rw [show (((1 : Nat) : Int)) = 1 from rfl]
  try simp only at hn
  repeat first | refine X0 ?_ | (refine JR ?_; (repeat first | refine Z1 ?_ | refine Z0 ?_ | refine ZB ?_ | refine ZL ?_ | refine Zl ?_ | refine Zw (γ := 100) ?_ | refine Zw (γ := 101) ?_ | refine Zy ?_ | refine Zx ?_ | refine ZF ?_ | refine Z9 (hcon := hn) ?_); refine JD ?_) | refine JT ?_ | refine X5 ?_ | refine X4 ?_
  exact X1 ⟨_, Xl 100 (cs := [ai 1, ai n, ai 0, .d (.v (.string (X6 []))), ani]) (cs' := [ai 1, ai n, ai 0, .d (.v (.string (X6 []))), .d (.sl 5 [])]) rfl ⟨AVal.le_refl _, AVal.le_refl _, AVal.le_refl _, AVal.le_refl _, AVal.le_nil 5, trivial⟩ rfl, ⟨⟨100, 0, _, rfl, rfl, .inr ⟨5, _, rfl, rfl, rfl, rfl⟩⟩, rfl, rfl, trivial⟩, X3 _⟩
 by_cases hk2 : k = 2
 ·subst hk2
  have hn := X1W b a hb
  rw [show YI gl gp b a ((2 : Nat) : Int) = (.mk 2 (Xp b a).1 0 [] [], (Xp b a).2.1, (Xp b a).2.2) by simp [YI, XV]] at hG
  generalize Xp b a = u at *
  obtain ⟨n, a2, e2⟩ := u
  subst hG
  rw [show (((2 : Nat) : Int)) = 2 from rfl]
  try simp only at hn
  repeat first | refine X0 ?_ | (refine JR ?_; (repeat first | refine Z1 ?_ | refine Z0 ?_ | refine ZB ?_ | refine ZL ?_ | refine Zl ?_ | refine Zw (γ := 100) ?_ | refine Zw (γ := 101) ?_ | refine Zy ?_ | refine Zx ?_ | refine ZF ?_ | refine Z9 (hcon := hn) ?_); refine JD ?_) | refine JT ?_ | refine JF ?_ | refine X5 ?_ | refine X4 ?_
  exact X1 ⟨_, Xl 100 (cs := [ai 2, ai n, ai 0, .d (.v (.string (X6 []))), ani]) (cs' := [ai 2, ai n, ai 0, .d (.v (.string (X6 []))), .d (.sl 5 [])]) rfl ⟨AVal.le_refl _, AVal.le_refl _, AVal.le_refl _, AVal.le_refl _, AVal.le_nil 5, trivial⟩ rfl, ⟨⟨100, 0, _, rfl, rfl, .inr ⟨5, _, rfl, rfl, rfl, rfl⟩⟩, rfl, rfl, trivial⟩, X3 _⟩
 by_cases hk5 : k = 5
 ·subst hk5
  have hn := X1W b a hb
  rw [show YI gl gp b a ((5 : Nat) : Int) = (.mk 5 (Xp b a).1 0 [] [], (Xp b a).2.1, (Xp b a).2.2) by simp [YI, XV]] at hG
  generalize Xp b a = u at *
  obtain ⟨n, a2, e2⟩ := u
  subst hG
  rw [show (((5 : Nat) : Int)) = 5 from rfl]
  try simp only at hn
  repeat first | refine X0 ?_ | (refine JR ?_; (repeat first | refine Z1 ?_ | refine Z0 ?_ | refine ZB ?_ | refine ZL ?_ | refine Zl ?_ | refine Zw (γ := 100) ?_ | refine Zw (γ := 101) ?_ | refine Zy ?_ | refine Zx ?_ | refine ZF ?_ | refine Z9 (hcon := hn) ?_); refine JD ?_) | refine JT ?_ | refine JF ?_ | refine X5 ?_ | refine X4 ?_
  exact X1 ⟨_, Xl 100 (cs := [ai 5, ai n, ai 0, .d (.v (.string (X6 []))), ani]) (cs' := [ai 5, ai n, ai 0, .d (.v (.string (X6 []))), .d (.sl 5 [])]) rfl ⟨AVal.le_refl _, AVal.le_refl _, AVal.le_refl _, AVal.le_refl _, AVal.le_nil 5, trivial⟩ rfl, ⟨⟨100, 0, _, rfl, rfl, .inr ⟨5, _, rfl, rfl, rfl, rfl⟩⟩, rfl, rfl, trivial⟩, X3 _⟩
 by_cases hk6 : k = 6
 ·subst hk6
  have hn := X1W b a hb
  rw [show YI gl gp b a ((6 : Nat) : Int) = (.mk 6 (Xp b a).1 0 [] [], (Xp b a).2.1, (Xp b a).2.2) by simp [YI, XV]] at hG
  generalize Xp b a = u at *
  obtain ⟨n, a2, e2⟩ := u
  subst hG
  rw [show (((6 : Nat) : Int)) = 6 from rfl]
  try simp only at hn
  repeat first | refine X0 ?_ | (refine JR ?_; (repeat first | refine Z1 ?_ | refine Z0 ?_ | refine ZB ?_ | refine ZL ?_ | refine Zl ?_ | refine Zw (γ := 100) ?_ | refine Zw (γ := 101) ?_ | refine Zy ?_ | refine Zx ?_ | refine ZF ?_ | refine Z9 (hcon := hn) ?_); refine JD ?_) | refine JT ?_ | refine JF ?_ | refine X5 ?_
  exact X1 ⟨_, Xl 100 (cs := [ai 6, ai n, ai 0, .d (.v (.string (X6 []))), ani]) (cs' := [ai 6, ai n, ai 0, .d (.v (.string (X6 []))), .d (.sl 5 [])]) rfl ⟨AVal.le_refl _, AVal.le_refl _, AVal.le_refl _, AVal.le_refl _, AVal.le_nil 5, trivial⟩ rfl, ⟨⟨100, 0, _, rfl, rfl, .inr ⟨5, _, rfl, rfl, rfl, rfl⟩⟩, rfl, rfl, trivial⟩, X3 _⟩
 by_cases hk4 : k = 4
 ·subst hk4
  have hn := Xax b a 100 hb
  rw [show YI gl gp b a ((4 : Nat) : Int) = (.mk 4 0 0 (Yk b a 100).1 [], (Yk b a 100).2.1, (Yk b a 100).2.2) by simp [YI, XV]] at hG
  generalize Yk b a 100 = u at *
  obtain ⟨s, a2, e2⟩ := u
  subst hG
  rw [show (((4 : Nat) : Int)) = 4 from rfl]
  try simp only at hn
  repeat first | refine X0 ?_ | (refine JR ?_; (repeat first | refine Z1 ?_ | refine Z0 ?_ | refine ZB ?_ | refine ZL ?_ | refine Zl ?_ | refine Zw (γ := 100) ?_ | refine Zw (γ := 101) ?_ | refine Zy ?_ | refine Zx ?_ | refine ZF ?_ | refine Z9 (hcon := hn) ?_); refine JD ?_) | refine JT ?_ | refine JF ?_ | refine X5 ?_
  exact X1 ⟨_, Xl 100 (cs := [ai 4, ai 0, ai 0, .d (.v (.string (X6 s))), ani]) (cs' := [ai 4, ai 0, ai 0, .d (.v (.string (X6 s))), .d (.sl 5 [])]) rfl ⟨AVal.le_refl _, AVal.le_refl _, AVal.le_refl _, AVal.le_refl _, AVal.le_nil 5, trivial⟩ rfl, ⟨⟨100, 0, _, rfl, rfl, .inr ⟨5, _, rfl, rfl, rfl, rfl⟩⟩, rfl, rfl, trivial⟩, X3 _⟩
 obtain rfl : k = 3 := by omega
 have hn := X1W b a hb
 have hne := X3U b a
 rw [show YI gl gp b a ((3 : Nat) : Int) = if (Xp b a).2.2 ≠ 0 then (.mk 3 0 0 [] [], (Xp b a).2.1, (Xp b a).2.2) else (.mk 3 (Xp b a).1 (Xp b (Xp b a).2.1).1 [] [], (Xp b (Xp b a).2.1).2.1, (Xp b (Xp b a).2.1).2.2) by simp [YI, XV]] at hG
 have hz := Xh4 (b := b) (a := a)
 generalize Xp b a = u at *
 obtain ⟨n, a2, e2⟩ := u
 simp only at hn hG hne hz
 rw [show (((3 : Nat) : Int)) = 3 from rfl]
 by_cases he : e2 = 0
 ·subst he
  rw [if_neg (by simp)] at hG
  obtain ⟨q, hq1, hq2⟩ := hne rfl
  simp only at hq1
  subst hq1
  have hd := X1W b q hb
  generalize Xp b q = u2 at *
  obtain ⟨d, a3, e3⟩ := u2
  simp only at hd hG
  subst hG
  repeat first | refine X0 ?_ | (refine JR ?_; (repeat first | refine Z1 ?_ | refine Z0 ?_ | refine ZB ?_ | refine ZL ?_ | refine Zl ?_ | refine Zv ?_ | refine Zw (γ := 100) ?_ | refine Zw (γ := 101) ?_ | refine Zy ?_ | refine Zx ?_ | refine ZF ?_ | refine Z9 (hcon := hn) ?_ | refine Z9 (hcon := hd) ?_); refine JD ?_) | refine JT ?_ | refine JF ?_ | refine X5 ?_ | refine X4 ?_
  exact X1 ⟨_, Xl 100 (cs := [ai 3, ai n, ai d, .d (.v (.string (X6 []))), ani]) (cs' := [ai 3, ai n, ai d, .d (.v (.string (X6 []))), .d (.sl 5 [])]) rfl ⟨AVal.le_refl _, AVal.le_refl _, AVal.le_refl _, AVal.le_refl _, AVal.le_nil 5, trivial⟩ rfl, ⟨⟨100, 0, _, rfl, rfl, .inr ⟨5, _, rfl, rfl, rfl, rfl⟩⟩, rfl, rfl, trivial⟩, X3 _⟩
 ·rw [if_pos he] at hG
  obtain rfl := hz he
  subst hG
  repeat first | refine X0 ?_ | (refine JR ?_; (repeat first | refine Z1 ?_ | refine Z0 ?_ | refine ZL ?_ | refine Zl ?_ | refine Zv ?_ | refine Zw (γ := 100) ?_ | refine Zw (γ := 101) ?_ | refine Zy ?_ | refine Zx ?_ | refine ZF ?_ | refine Z9 (hcon := hn) ?_); refine JD ?_) | refine JT ?_ | refine JF ?_ | refine X5 ?_
  exact X1 ⟨_, Xl 100 (cs := [ai 3, ai 0, ai 0, .d (.v (.string (X6 []))), ani]) (cs' := [ai 3, ai 0, ai 0, .d (.v (.string (X6 []))), .d (.sl 5 [])]) rfl ⟨AVal.le_refl _, AVal.le_refl _, AVal.le_refl _, AVal.le_refl _, AVal.le_nil 5, trivial⟩ rfl, ⟨⟨100, 0, _, rfl, rfl, .inr ⟨5, _, rfl, rfl, rfl, rfl⟩⟩, rfl, rfl, trivial⟩, X3 _⟩
end Go.Fw
