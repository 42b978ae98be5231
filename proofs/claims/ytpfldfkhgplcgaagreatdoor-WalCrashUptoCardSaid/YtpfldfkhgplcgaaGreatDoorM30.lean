/- Records compared with themselves; the law about reading. -/
import Derived.KernelRfl
import Derived.Test.YtpfldfkhgplcgaaGreatDoorM29
set_option maxHeartbeats 32000000
namespace Go.Fw
open Go Go.Proofs
set_option maxRecDepth 100000
set_option linter.unusedVariables false
set_option linter.unusedSimpArgs false
theorem Xdx : ∀ (k : SK) (u : Value), UF u = some k → X0D u u = true := by
 intro k u h
 cases u <;> simp [UF] at h <;> simp [X0D]
theorem Xcf (us : List Value) (ks : List SK) (h : us.map UF = ks.map some) : VH us us = true := by
 induction us generalizing ks with
 | nil => rfl
 | cons u us ih =>
  cases ks with
  | nil => simp at h
  | cons k ks =>
   simp only [List.map_cons, List.cons.injEq] at h
   unfold VH
   rw [Xdx k u h.1, ih ks h.2]
   rfl
theorem XhA (c : Chg) (hok : YD c.v) : Con Tryz.prog 79 [] [Ye c, Ye c] [] (ab true) := by
 refine Xa (xs := [ab true]) Tryz.func79 rfl Tryz.ntmps79 rfl rfl rfl (fun E => ?_)
 have ho := X5r c.v hok
 unfold X2P at ho
 obtain ⟨op, id, src, dst, name, ⟨k, n, d, s, l⟩⟩ := c
 simp only [Ye, Xo] at ho ⊢
 repeat first | refine X0 ?_ | (refine JR ?_; (repeat first | refine Z1 ?_ | refine Z0 ?_ | refine ZB ?_ | refine ZC ?_ | refine ZL ?_ | refine Zl ?_ | refine Zr ?_ | refine ZA (γ := 100) ?_ | refine ZA (γ := 101) ?_ | refine Zn ?_ | refine Z9 (hcon := ho) ?_); refine JD ?_)
 exact QN
theorem XdG (r : Rcd) (hok : Vx r) : Con Tryz.prog 51 [] [Yz r, Yz r] [] (ab true) := by
 refine Xa (xs := [ab true]) Tryz.func51 rfl Tryz.ntmps51 rfl rfl rfl (fun E => ?_)
 obtain ⟨kd, ts, l, ⟨k, n, name, key, src, dst⟩, off⟩ := r
 obtain ⟨hlen, hch⟩ := hok
 simp only at hlen hch
 simp only [Yz]
 have hz := Xcf [.int .i64 k, .int .i64 n, .string (X7 name), .string (X7 key), .string (X7 src), .string (X7 dst)] [.i .i64, .i .i64, .s, .s, .s, .s] rfl
 have hlm : (l.map XT).length = l.length := by simp
 refine Qnc ?_; refine Qzb ?_; refine QTc ?_; refine QKa ?_; refine QTc ?_; refine Zq ?_; refine Z1 ?_; refine ZB ?_; refine ZL ?_; refine ZB ?_; refine ZL ?_; refine Z06 (us := [.int .i64 k, .int .i64 n, .string (X7 name), .string (X7 key), .string (X7 src), .string (X7 dst)]) (vs := [.int .i64 k, .int .i64 n, .string (X7 name), .string (X7 key), .string (X7 src), .string (X7 dst)]) (r := true) ?_ (hk := by exact X11) (hr := by exact hz); refine QAc ?_; refine QHa ?_; refine Z00 ?_; refine QAc ?_; refine Zd ?_; refine QHd ?_; refine Zv ?_; refine Qha ?_; refine Qib ?_
 refine Xu (ι := Nat) (fun i => i ≤ l.length) (fun i => ⟨60, [(2, .ptr 100 0), (3, .ptr 101 0), (5, ai i)], [(100, .box [ai kd, ai ts, .d (.sl 10 (l.map XT)), ai k, ai n, Xc name, Xc key, Xc src, Xc dst, ab off]), (101, .box [ai kd, ai ts, .d (.sl 10 (l.map XT)), ai k, ai n, Xc name, Xc key, Xc src, Xc dst, ab off])]⟩) (fun i => l.length - i) 0 (by omega)
  (X9 rfl JM ⟨rfl, rfl, trivial⟩) ?_
 intro i hi
 by_cases hil : i < l.length
 case neg =>
  obtain rfl : i = l.length := by omega
  have hn : ¬ ((l.length : Nat) : Int) < (l.map XT).length := by omega
  refine QVe ?_; exact Qia
 have hn : (i : Int) < (l.map XT).length := by omega
 obtain ⟨x, hx⟩ := Xx (l := l) hil
 have hxc : (l.map XT)[i]? = some (XT x) := YR hx
 have hcall := XhA x (hch x (List.mem_of_getElem? hx)).2
 obtain ⟨op, id, xsrc, xdst, xname, ⟨xk, xn, xd, xs, xl⟩⟩ := x
 simp only [Ye, XT] at hcall hxc
 refine QXe ?_; refine QVa ?_; refine QHa ?_; refine Z1 ?_; refine QVa ?_; refine Z9 (hcon := hcall) ?_; refine Qhb ?_; refine Qnb ?_; exact ⟨i + 1, by omega, by omega, X9 rfl JM ⟨rfl, rfl, trivial⟩⟩
theorem XfN {l : List UInt8} : ∀ {k : Nat}, (∀ x ∈ l.take k, x ≠ 0) → l[k]? = some 0 → Y3 l = l.take k ∧ Vw l = true := by
 induction l with
 | nil => intro k _ h; simp at h
 | cons y r ih =>
  intro k h1 h2
  unfold Y3 Vw
  rw [List.takeWhile_cons, List.any_cons]
  cases k with
  | zero =>
   simp only [List.getElem?_cons_zero, Option.some.injEq] at h2
   subst h2
   simp
  | succ k =>
   have hy : y ≠ 0 := h1 y (by simp)
   have h3 : (y != 0) = true := by simpa using hy
   have h4 : (y == 0) = false := by simpa using hy
   rw [h3, if_pos rfl, h4, Bool.false_or, List.take_succ_cons]
   obtain ⟨k1, k2⟩ := ih (k := k) (fun x hx => h1 x (by simp [hx])) (by simpa using h2)
   unfold Y3 at k1
   unfold Vw at k2
   exact ⟨by rw [k1], k2⟩
theorem X5K (l : List Rcd) (hl : l.length ≤ 9223372036854775807) (hok : ∀ r ∈ l, Vx r) : Con Tryz.prog 25 [] [.d (.sl 10 (l.map Xq)), .d (.sl 10 (l.map Xq))] [] (ab true) := by
 refine Xa (xs := [ab true]) Tryz.func25 rfl Tryz.ntmps25 rfl rfl rfl (fun E => ?_)
 have hlm : (l.map Xq).length = l.length := by simp
 refine QPa ?_; refine Z1 ?_; refine Zd ?_; refine QEb ?_; refine Qib ?_
 refine Xu (fun i : Nat => i ≤ l.length) (fun i => ⟨27, [(0, .d (.sl 10 (l.map Xq))), (1, .d (.sl 10 (l.map Xq))), (5, ai i)], []⟩) (fun i => l.length - i) 0 (Nat.zero_le _)
  (X9 rfl JM trivial) ?_
 intro i hi
 by_cases hil : i < l.length
 case neg =>
  have hn : ¬ (i : Int) < (l.map Xq).length := by omega
  refine Qvb ?_; refine Qd ?_
  (show AWP Tryz.prog E _ _ _; refine X1 ?_; exact (show Xn _ _ _ _ _ from ⟨_, St.le_refl _, ⟨rfl, trivial⟩, X3 _⟩))
 have hn : (i : Int) < (l.map Xq).length := by omega
 obtain ⟨x, hx⟩ := Xx (l := l) hil
 have hxc : (l.map Xq)[i]? = some (Xq x) := YR hx
 have hc := XdG x (hok x (List.mem_of_getElem? hx))
 clear hx hok
 obtain ⟨kd, ts, cl, ⟨k, n, name, key, src, dst⟩, off⟩ := x
 simp only [Yz, Xq] at *
 refine Qwb ?_; refine Qy ?_; refine QVa ?_; refine Z9 (hcon := hc) ?_; refine Qhb ?_; refine Qnb ?_; exact ⟨i + 1, hil, by omega, X9 rfl JM trivial⟩
def X0U : List Rcd → Int → Int
 | [], n => n
 | r :: l, n => X0U l (IntKind.i64.wrap (n + (r.changes.length : Nat)))
def X0I (l : List Rcd) : Bool := decide (X0U l (l.length : Nat) ≤ 60)
theorem Xg4 {l : List Rcd} {i : Nat} {x : Rcd} {n : Int} (h : l[i]? = some x) : X0U (l.drop i) n = X0U (l.drop (i + 1)) (IntKind.i64.wrap (n + (x.changes.length : Nat))) := by
 obtain ⟨hi, rfl⟩ := List.getElem?_eq_some_iff.1 h
 rw [List.drop_eq_getElem_cons hi, X0U]
theorem X8G (l : List Rcd) (hl : l.length ≤ 9223372036854775807) : Con Tryz.prog 30 [] [.d (.sl 10 (l.map Xq))] [] (ab (X0I l)) := by
 refine Xa (xs := [ab (X0I l)]) Tryz.func30 rfl Tryz.ntmps30 rfl rfl rfl (fun E => ?_)
 have hlm : (l.map Xq).length = l.length := by simp
 unfold X0I
 rw [← hlm]
 generalize hS : X0U l ((l.map Xq).length : Nat) = s
 refine Qv ?_; refine Zd ?_; refine Qc ?_; refine Qib ?_
 refine Xu (ι := Nat × Int) (fun q => q.1 ≤ l.length ∧ X0U (l.drop q.1) q.2 = s) (fun q => ⟨23, [(0, .d (.sl 10 (l.map Xq))), (3, ai q.2), (4, ai q.1)], []⟩) (fun q => l.length - q.1) (0, ((l.map Xq).length : Nat)) ⟨Nat.zero_le _, by rw [List.drop_zero]; exact hS⟩
  (X9 rfl JM trivial) ?_
 rintro ⟨i, n⟩ ⟨hi, hg⟩
 simp only at hi hg ⊢
 by_cases hil : i < l.length
 case neg =>
  have hn : ¬ (i : Int) < (l.map Xq).length := by omega
  rw [List.drop_of_length_le (by omega)] at hg
  have hg : n = s := hg
  subst hg
  refine Qvb ?_; refine Qf ?_; refine Zm ?_; refine Qc ?_
  (show AWP Tryz.prog E _ _ _; refine X1 ?_; exact (show Xn _ _ _ _ _ from ⟨_, St.le_refl _, ⟨rfl, trivial⟩, X3 _⟩))
 have hn : (i : Int) < (l.map Xq).length := by omega
 obtain ⟨x, hx⟩ := Xx (l := l) hil
 have hxc : (l.map Xq)[i]? = some (Xq x) := YR hx
 rw [Xg4 hx] at hg
 have hcm : (x.changes.map XT).length = x.changes.length := by simp
 rw [← hcm] at hg
 clear hx hcm
 obtain ⟨kd, ts, cl, ⟨k, nn, name, key, src, dst⟩, off⟩ := x
 simp only [Xq] at hxc hg
 generalize cl.map XT = cc at *
 refine Qpb ?_; refine QDa ?_; refine Zj ?_; refine ZN ?_; refine Zk ?_; refine Zd ?_; refine Z7 (op := .add) (r' := .int .i64 (IntKind.i64.wrap (n + (cc.length : Nat)))) (u := .int .i64 n) (v := .int .i64 (cc.length : Nat)) ?_ (hr := by exact X6R); refine Qc ?_; refine Qnb ?_; exact ⟨(i + 1, IntKind.i64.wrap (n + (cc.length : Nat))), ⟨hil, hg⟩, by simp only; omega, X9 rfl JM trivial⟩
open Go
def X10 (r : Rcd) : Prop := Yy r = 0 ∧ (U7 r).length ≤ 60000
theorem X3i : ∀ {l : List Rcd}, Y2 l = 0 → ∀ r ∈ l, Yy r = 0
 | [], _, r, h => by simp at h
 | x :: l, he, r, h => by
  rw [Y2] at he
  by_cases q : Yy x = 0
  ·rw [if_neg (by rw [q]; simp)] at he
   rcases List.mem_cons.1 h with rfl | h
   ·exact q
   ·exact X3i he r h
  ·rw [if_pos q] at he
   exact absurd he q
theorem Xee {ep : Int} {r : Rcd} (h1 : 0 ≤ ep) (h2 : ep ≤ 1000000000000000) (hr : X10 r) : Ud (XC (XD (Y4 ep r))) ep = (r, true) := by
 have hbl := X2s h1 h2 hr.2
 have hf := X3c (s := Y4 ep r) (by omega) [] []
 simp only [List.nil_append, List.append_nil, List.length_nil, Int.natCast_zero, Int.zero_add] at hf
 have hf : Uo (XD (Y4 ep r)) 0 = (Y4 ep r, ((XD (Y4 ep r)).length : Int), 0) := hf
 have hu := X2C (n := ep) ⟨h1, by omega⟩ [] (U7 r)
 simp only [List.nil_append, List.length_nil, Int.natCast_zero, Int.zero_add] at hu
 have hu : Xk (Y4 ep r) 0 = (ep, ((Xh ep).length : Int), 0) := hu
 have hd : (Y4 ep r).drop (Xh ep).length = Uu r := by
  unfold Y4
  rw [List.drop_left' rfl]
  unfold U7
  rw [if_pos hr.1]
 rw [X4u (X5X _), hf]
 unfold X1Y
 rw [if_neg (by simp), hu]
 unfold X40
 rw [if_neg (by simp)]
 have hrd : rdS ((Y4 ep r).drop (Xh ep).length) = (r, 0) := by rw [hd]; exact XfV hr.1
 simp only [Int.toNat_natCast, hrd]
 rfl
theorem X8A {ep : Int} {r : Rcd} (rest : List UInt8) : Y3 (Yi ep r ++ rest) = XC (XD (Y4 ep r)) ∧ Vw (Yi ep r ++ rest) = true := by
 have e : Yi ep r ++ rest = XC (XD (Y4 ep r)) ++ (0 :: rest) := by unfold Yi; simp
 rw [e]
 have ht : (XC (XD (Y4 ep r)) ++ (0 :: rest)).take (XC (XD (Y4 ep r))).length = XC (XD (Y4 ep r)) := List.take_left' rfl
 obtain ⟨k1, k2⟩ := XfN (l := XC (XD (Y4 ep r)) ++ (0 :: rest)) (k := (XC (XD (Y4 ep r))).length) (by rw [ht]; exact Xbr _) (by simp)
 exact ⟨by rw [k1, ht], k2⟩
theorem X50 {ep : Int} (h1 : 0 ≤ ep) (h2 : ep ≤ 1000000000000000) : ∀ (l : List Rcd) (Z : List UInt8) (a n m : Nat), (∀ r ∈ l, X10 r) → (Xg ep l ++ Z).length < n → Z.length < m →
  UC ep n (Xg ep l ++ Z) a = (l ++ (UC ep m Z (a + (Xg ep l).length)).1, (UC ep m Z (a + (Xg ep l).length)).2)
 | [], Z, a, n, m, _, hn, hm => by
  simp only [Xg, List.nil_append, List.length_nil, Nat.add_zero] at hn ⊢
  rw [X5y ep n m Z a hn hm]
 | r :: l, Z, a, n, m, hv, hn, hm => by
  have hrl : (Yi ep r).length = (XC (XD (Y4 ep r))).length + 1 := by unfold Yi; simp
  obtain ⟨k1, k2⟩ := X8A (ep := ep) (r := r) (Xg ep l ++ Z)
  have hre := Xee h1 h2 (hv r (by simp))
  have e : Xg ep (r :: l) ++ Z = Yi ep r ++ (Xg ep l ++ Z) := by rw [Xg, List.append_assoc]
  rw [e] at hn ⊢
  rw [List.length_append] at hn
  cases n with
  | zero => omega
  | succ n =>
   rw [X4W ep _ a n ⟨k2, by rw [k1, hre]⟩, k1, hre, ← hrl, List.drop_left' rfl]
   have ih := X50 h1 h2 l Z (a + (Yi ep r).length) n m (fun x hx => hv x (by simp [hx])) (by omega) hm
   rw [ih]
   have e2 : a + (Yi ep r).length + (Xg ep l).length = a + (Xg ep (r :: l)).length := by rw [Xg, List.length_append]; omega
   rw [e2]
   rfl
theorem Xbs (ep : Int) (z a n : Nat) : UC ep (n + 1) (List.replicate z 0) a = ([], a) := by
 refine X1V ep _ a n fun h => ?_
 cases z with
 | zero => simp [Vw] at h
 | succ z =>
  have e : Y3 (List.replicate (z + 1) (0 : UInt8)) = [] := by unfold Y3; rw [List.replicate_succ, List.takeWhile_cons]; simp
  rw [e, X9V] at h
  simp at h
theorem X61 {ep : Int} (h1 : 0 ≤ ep) (h2 : ep ≤ 1000000000000000) (l : List Rcd) (z : Nat) (hv : ∀ r ∈ l, X10 r) : X0P ep (Xg ep l ++ List.replicate z 0) = (l, (Xg ep l).length) := by
 unfold X0P
 rw [X50 h1 h2 l _ 0 _ (z + 1) hv (Nat.lt_succ_self _) (by simp), Xbs]
 simp
theorem X7t {d : Disk} {f t : Int} (hf : YW d) (h : XI d f t 0 0 = 0) : DOk (Yu d f t).1 ∧ (Yu d f t).1.pending = [] ∧ (Yu d f t).1.sectors.length = d.sectors.length ∧ (Yu d f t).2 = 0 ∧ Xz (Yu d f t).1 f t = List.replicate (64 * (t - f).toNat) 0 := by
 obtain ⟨hd, h1, h2, h3, _⟩ := X1u h
 have e : Yu d f t = ((Yv (XH d f.toNat (List.replicate (t - f).toNat Uc))).1, 0) := by unfold Yu; rw [if_neg (by rw [h]; simp)]
 have hc : ∀ c ∈ List.replicate (t - f).toNat Uc, c.length = 64 := fun c hc => by rw [List.eq_of_mem_replicate hc]; rfl
 have hl := X0N _ d f.toNat hd (by rw [List.length_replicate]; omega) hc
 obtain ⟨s1, s2, s3⟩ := X3A hl
 rw [e]
 refine ⟨s1, s3, s2.trans (by rw [(X0n _ d _).1]), rfl, ?_⟩
 unfold Xz
 rw [X5n hd (by omega) (Nat.le_refl _) (by rw [List.length_replicate]; omega) hc, Nat.sub_self, Nat.mul_zero, List.take_zero, List.nil_append, List.length_replicate, Nat.zero_add]
 rw [List.drop_of_length_le (by rw [VW hd _ _ (by omega)]; omega), List.append_nil]
 generalize (t - f).toNat = n
 induction n with
 | zero => rfl
 | succ n ih =>
  rw [List.replicate_succ, List.flatten_cons, ih, show 64 * (n + 1) = 64 + 64 * n by omega, ← List.replicate_append_replicate]
  rfl
theorem X2H {d : Disk} {f t ep tail : Int} {l : List Rcd} (hf : YW d) (h : (Xr d f t ep tail l).2.2 = 0) : (XB d f t ep tail l).2.2 = 0 ∧ (XB d f t ep tail l).2.1 = tail + (Xg ep l).length ∧
  (XB d f t ep tail l).1 = (Yv (XH d (f.toNat + tail.toNat / 64) (YI d f t tail (Xg ep l)))).1 := by
 obtain ⟨s1, s2, s3, s4⟩ := X0A h
 unfold XB
 rw [if_neg (by rw [h]; simp), s4]
 refine ⟨rfl, rfl, ?_⟩
 unfold VK
 simp
def exC : Chg := ⟨1, 1, 0, 0, [], .mk 0 0 0 [] []⟩
def exR : Rcd := ⟨1, 1, [exC], zR, false⟩
def exD : Disk := ⟨List.replicate 8 Uc, [], true⟩
theorem pu1 : Xh 1 = [1] := by unfold Xh; rw [if_neg (by omega)]; exact X3F (by decide)
theorem pu3 : Xh 3 = [3] := by unfold Xh; rw [if_neg (by omega)]; exact X3F (by decide)
theorem X6M : Yy exR = 0 := by decide
theorem X7C : U7 exR = [1, 1, 1, 1, 1] := by
 unfold U7
 rw [if_pos X6M]
 simp [Uu, exR, exC, YV, Ya, pu1, XV, XQ]
theorem X99 : X10 exR := ⟨X6M, by rw [X7C]; decide⟩
theorem X9D : Vx exR := ⟨by simp [exR], fun c hc => by
 simp only [exR, List.mem_singleton] at hc
 subst hc
 exact ⟨by simp [exC], by simp [exC, YD, X0s]⟩⟩
theorem Xhm : Ux exR := ⟨X9D, X99.2⟩
theorem Xi3 : Y4 3 exR = [3, 1, 1, 1, 1, 1] := by unfold Y4; rw [pu3, X7C]; rfl
theorem XhP : ∃ s : List UInt8, 4 ≤ s.length ∧ s.length ≤ 8 ∧ Xg 3 [exR] = [6, 3, 1, 2, 1, 2, 1, 2, 1, 2, 1, 2] ++ s ++ [0] := by
 refine ⟨XC (YS [3, 1, 1, 1, 1, 1]), ?_, ?_, ?_⟩
 ·have : ∀ l : List UInt8, l.length ≤ (XC l).length := by
   intro l
   induction l with
   | nil => simp
   | cons x r ih =>
    rw [XC, List.length_append, List.length_cons]
    have : 1 ≤ (VZ x).length := by unfold VZ; split <;> simp
    omega
  have := this (YS [3, 1, 1, 1, 1, 1])
  rw [X06] at this
  exact this
 ·have := X3H (YS [3, 1, 1, 1, 1, 1])
  rw [X06] at this
  exact this
 ·rw [Xg, Xg, List.append_nil, Yi, Xi3, XbM (by decide)]
  have e : (UInt8.ofNat ([3, 1, 1, 1, 1, 1] : List UInt8).length :: (([3, 1, 1, 1, 1, 1] : List UInt8) ++ YS [3, 1, 1, 1, 1, 1])) = [6, 3, 1, 1, 1, 1, 1] ++ YS [3, 1, 1, 1, 1, 1] := rfl
  rw [e, X5m]
  rfl
theorem XgD : X0c 8 = (exD, 0) := rfl
theorem XaG : YW exD := ⟨by decide, by decide⟩
theorem XdQ : ∃ (X Y : Disk) (z : Nat) (T : List Disk) (b s : List UInt8), Yu exD 5 7 = (X, 0) ∧ YW X ∧ Uk X 5 7 3 = ([], 0, 0) ∧ XB X 5 7 3 0 [exR] = (Y, ((z : Nat) : Int), 0) ∧ YW Y ∧ UE Y ∧ Uk Y 5 7 3 = ([exR], ((z : Nat) : Int), 0) ∧
  (XB X 5 6 3 60 [exR]) = (Y8, 0, 20) ∧ Yn Y 5 = ([6, 3, 1, 2, 1, 2, 1, 2, 1, 2, 1, 2] ++ s, 0) ∧ VC 3 [exR] = ((z : Nat) : Int) ∧ (Xr X 5 7 3 0 [exR]).1 = T ∧ T.length = 3 ∧ s.length ≤ 52 := by
 obtain ⟨s, hs1, hs2, hA⟩ := XhP
 have hz : (Xg 3 [exR]).length = 13 + s.length := by rw [hA]; simp; omega
 have hsp : XI exD 5 7 0 0 = 0 := by decide
 obtain ⟨f1, f2, f3, f4, f5⟩ := X7t XaG hsp
 have hF : Yu exD 5 7 = ((Yu exD 5 7).1, 0) := Prod.ext rfl f4
 generalize (Yu exD 5 7).1 = X at *
 have hXl : X.sectors.length = 8 := f3
 have hXf : YW X := ⟨by omega, by rw [f2]; simp⟩
 have hE : Y2 [exR] = 0 := by unfold Y2; rw [X6M]; rfl
 have hsp1 : ∀ ep tail t : Int, 0 ≤ ep → ep ≤ 1000000000000000 → 0 ≤ tail → 5 < t → t ≤ 7 → tail ≤ (t - 5) * 64 → XI X 5 t ep tail = 0 := fun ep tail t a1 a2 a3 a4 a5 a6 => by
  unfold XI
  rw [if_neg (by rw [f1.v]; simp), if_neg (by rw [f1.on]; simp), if_neg (by omega), if_neg (by omega)]
 have hst : Xr X 5 7 3 0 [exR] = (VK X 5 7 0 (Xg 3 [exR]), (0 : Int) + ((Xg 3 [exR]).length : Nat), 0) := by
  unfold Xr
  rw [if_neg (by rw [hsp1 3 0 7 (by omega) (by omega) (by omega) (by omega) (by omega) (by omega)]; simp), if_neg (by rw [hE]; simp), if_neg (by rw [hz]; omega)]
 have hst2 : (Xr X 5 7 3 0 [exR]).2.2 = 0 := by rw [hst]
 obtain ⟨g1, g2, g3⟩ := X2H hXf hst2
 have hAne : Xg 3 [exR] ≠ [] := by rw [hA]; simp
 have hX5 : Xz X 5 7 = List.replicate 128 0 := f5
 have hstr := XaO (d := X) (f := 5) (t := 7) (tail := 0) (A := Xg 3 [exR]) f1 (by omega) (by omega) (by omega) (by omega) (by rw [hz]; omega) (by unfold X3k; rw [hX5]; simp) hAne
 rw [hX5, ← g3] at hstr
 simp only [Int.toNat_zero, List.take_zero, List.nil_append, List.length_replicate, Nat.sub_zero] at hstr
 obtain ⟨k1, k2, k3⟩ := X2p (A := Xg 3 [exR]) (f := 5) (t := 7) (tail := 0) f1 (by omega) (by omega) (by omega) (by omega) (by rw [hz]; omega)
 have hlw := X0N (YI X 5 7 0 (Xg 3 [exR])) X ((5 : Int).toNat + (0 : Int).toNat / 64) f1 k1 k2
 obtain ⟨m1, m2, m3⟩ := X3A hlw
 rw [← g3] at m1 m2 m3
 have hAp : XB X 5 7 3 0 [exR] = ((XB X 5 7 3 0 [exR]).1, ((13 + s.length : Nat) : Int), 0) := Prod.ext rfl (Prod.ext (by rw [g2, hz]; simp) g1)
 generalize (XB X 5 7 3 0 [exR]).1 = Y at *
 have hYl : Y.sectors.length = 8 := by rw [m2, (X0n _ X _).1]; exact hXl
 have hspY : XI Y 5 7 3 0 = 0 := by
  unfold XI
  rw [if_neg (by rw [m1.v]; simp), if_neg (by rw [m1.on]; simp), if_neg (by omega), if_neg (by omega)]
 have hY2 : Xz Y 5 7 = (Yn Y 5).1 ++ (Yn Y 6).1 := by
  show Yd Y 5 2 = _
  rw [Yd, Yd, Yd, List.append_nil]
  rfl
 have hr5 : (Yn Y 5).1.length = 64 := X3L m1 (a := 5) (by omega)
 have hrd : (Yn Y 5).1 = [6, 3, 1, 2, 1, 2, 1, 2, 1, 2, 1, 2] ++ (s ++ [0] ++ List.replicate (51 - s.length) 0) := by
  have h1 : (Yn Y 5).1 = (Xz Y 5 7).take 64 := by rw [hY2, List.take_left' hr5]
  rw [h1, hstr, hz, show 128 - (13 + s.length) = (51 - s.length) + 64 by omega, ← List.replicate_append_replicate, ← List.append_assoc, List.take_left' (by rw [List.length_append, hz, List.length_replicate]; omega), hA]
  simp
 have hr52 : (Yn Y 5).2 = 0 := by
  unfold Yn
  rw [if_neg (by rw [m1.use]; simp), if_pos ⟨by omega, by omega⟩]
 have hchl : (YI X 5 7 0 (Xg 3 [exR])).length = 1 := by
  unfold YI
  rw [if_neg hAne, X0C]
  have ht : UH X 5 7 0 (Xg 3 [exR]) = Uy (Xg 3 [exR]) := by unfold UH; simp
  rw [ht]
  obtain ⟨y1, y2, y3⟩ := X31 (Xg 3 [exR])
  omega
 refine ⟨X, Y, 13 + s.length, (Xr X 5 7 3 0 [exR]).1, [], s ++ [0] ++ List.replicate (51 - s.length) 0, hF, hXf, ?_, hAp, ⟨by omega, by rw [m3]; simp⟩, X1t m1.v (by rw [m3]; simp), ?_, ?_, ?_, ?_, rfl, ?_, by simp; omega⟩
 ·unfold Uk
  rw [if_neg (by rw [hsp1 3 0 7 (by omega) (by omega) (by omega) (by omega) (by omega) (by omega)]; simp), hX5]
  have := X61 (ep := 3) (by omega) (by omega) [] 128 (by simp)
  simp only [Xg, List.nil_append, List.length_nil] at this
  rw [this]
  rfl
 ·unfold Uk
  rw [if_neg (by rw [hspY]; simp), hstr, X61 (by omega) (by omega) [exR] _ (by intro r hr; simp only [List.mem_singleton] at hr; subst hr; exact X99)]
  rw [hz]
 ·have : Xr X 5 6 3 60 [exR] = ([], 0, 20) := by
   unfold Xr
   rw [if_neg (by rw [hsp1 3 60 6 (by omega) (by omega) (by omega) (by omega) (by omega) (by omega)]; simp), if_neg (by rw [hE]; simp), if_pos (by rw [hz]; omega)]
  unfold XB
  rw [this]
  rfl
 ·exact Prod.ext hrd hr52
 ·unfold VC UY
  rw [if_neg (by omega), if_neg (by rw [hE]; simp), hz]
 ·rw [hst]
  simp only [VK, List.length_append, List.length_singleton, X3s, hchl]
theorem Xew : Con Tryz.prog 32 [] [ai 1, ai 1] [] (Yz exR) := by
 refine Xa (xs := [Yz exR]) Tryz.func32 rfl Tryz.ntmps32 rfl rfl rfl (fun E => ?_)
 rw [X0v]
 simp only [exR, exC, zR, XT, XF, List.map_cons, List.map_nil]
 refine Qka ?_; refine JD ?_; refine Qi ?_; refine Zx ?_; refine Z5 ?_; refine Zx ?_; refine QWa ?_
 (show AWP Tryz.prog E _ _ _; refine X1 ?_; exact (show Xn _ _ _ _ _ from ⟨_, XJ 100 (cs' := [ai 1, ai 1, .d (.sl 10 [[.v (.int .i64 1), .v (.int .i64 1), .v (.int .i64 0), .v (.int .i64 0), .v (.string (X7 [])), .v (.int .i64 0), .v (.int .i64 0), .v (.int .i64 0), .v (.string (X7 [])), .sl 5 []]]), ai 0, ai 0, Xc [], Xc [], Xc [], Xc [], ab false]) rfl
  ⟨AVal.le_refl _, AVal.le_refl _, AVal.le_d (Xff (XfG (X0H (X0Y _) (X0H (X0Y _) (X0H (X0Y _) (X0H (X0Y _) (X0H (X0Y _) (X0H (X0Y _) (X0H (X0Y _) (X0H (X0Y _) (X0H (X0Y _) (X0H (Xge 5) Xgh)))))))))) rfl (Xf5 10))), AVal.le_refl _, AVal.le_refl _, AVal.le_refl _, AVal.le_refl _, AVal.le_refl _, AVal.le_refl _, AVal.le_refl _, trivial⟩ rfl, ⟨⟨100, 0, _, rfl, rfl, .inr ⟨10, _, rfl, rfl, rfl, rfl⟩⟩, trivial⟩, X3 _⟩))
structure Ask where
 f : Int
 t : Int
 ep : Int
 tail : Int
 other : Int
 pick : Int
 a : List Rcd
 b : List Rcd
 keep : List Int
abbrev U9 (q : Ask) : AVal := .agg [ai q.f, ai q.t, ai q.ep, ai q.tail, ai q.other, ai q.pick, .d (.sl 10 (q.a.map Xq)), .d (.sl 10 (q.b.map Xq)), .d (Vb q.keep)]
def X1o (q : Ask) : Prop := (∀ r ∈ q.a, Vx r) ∧ q.a.length ≤ 9223372036854775807 ∧ (∀ r ∈ q.b, Vx r) ∧ q.b.length ≤ 9223372036854775807 ∧ q.keep.length ≤ 9223372036854775807
def Vg (d : Disk) (q : Ask) : Bool := decide (d.sectors.length ≤ 40 ∧ d.pending.length ≤ 40) && (X0I q.a && X0I q.b && decide (q.keep.length ≤ 100))
theorem X48 (d : Disk) (q : Ask) (hq : X1o q) : Con Tryz.prog 9 [] [XK d, U9 q] [] (ab (Vg d q)) := by
 refine Xa (xs := [ab (Vg d q)]) Tryz.func9 rfl Tryz.ntmps9 rfl rfl rfl (fun E => ?_)
 have c1 := X8G q.a hq.2.1
 have c2 := X8G q.b hq.2.2.2.1
 obtain ⟨secs, pend, on⟩ := d
 obtain ⟨f, t, ep, tail, other, pick, a, b, keep⟩ := q
 unfold Vg U9
 simp only at c1 c2 ⊢
 have hsm : (secs.map Yj).length = secs.length := by simp
 have hpm : (pend.map cWr).length = pend.length := by simp
 have hkm : (keep.map X2J).length = keep.length := by simp
 generalize X0I a = fa at *
 generalize X0I b = fb at *
 generalize a.map Xq = ca at *
 generalize b.map Xq = cb at *
 clear hq
 by_cases a1 : secs.length ≤ 40
 case neg =>
  have a1' : ¬ ((secs.map Yj).length : Int) ≤ 40 := by omega
  rw [decide_eq_false (fun h => a1 h.1), Bool.false_and]
  refine Qnc ?_; refine QIa ?_; refine Zd ?_; refine Zm ?_; refine Qvc ?_; refine QR ?_; refine QLa ?_; refine QR ?_; refine QLa ?_; refine Qca ?_; refine QU ?_
  (show AWP Tryz.prog E _ _ _; refine X1 ?_; exact (show Xn _ _ _ _ _ from ⟨_, St.le_refl _, ⟨rfl, trivial⟩, X3 _⟩))
 have a1' : ((secs.map Yj).length : Int) ≤ 40 := by omega
 by_cases a2 : pend.length ≤ 40
 case neg =>
  have a2' : ¬ ((pend.map cWr).length : Int) ≤ 40 := by omega
  rw [decide_eq_false (fun h => a2 h.2), Bool.false_and]
  refine Qnc ?_; refine QIa ?_; refine Zd ?_; refine Zm ?_; refine QKa ?_; refine Zd ?_; refine Zm ?_; refine Zn ?_; refine QR ?_; refine QLa ?_; refine QR ?_; refine QLa ?_; refine Qca ?_; refine QU ?_
  (show AWP Tryz.prog E _ _ _; refine X1 ?_; exact (show Xn _ _ _ _ _ from ⟨_, St.le_refl _, ⟨rfl, trivial⟩, X3 _⟩))
 have a2' : ((pend.map cWr).length : Int) ≤ 40 := by omega
 rw [decide_eq_true ⟨a1, a2⟩, Bool.true_and]
 cases fa with
 | false =>
  refine Qnc ?_; refine QIa ?_; refine Zd ?_; refine Zm ?_; refine QKa ?_; refine Zd ?_; refine QNa ?_; refine Qoc ?_; refine Zn ?_; refine QR ?_; refine QLa ?_; refine Qca ?_; refine QU ?_
  (show AWP Tryz.prog E _ _ _; refine X1 ?_; exact (show Xn _ _ _ _ _ from ⟨_, St.le_refl _, ⟨rfl, trivial⟩, X3 _⟩))
 | true =>
 cases fb with
 | false =>
  refine QYe ?_; refine Zn ?_; refine Qca ?_; refine QU ?_
  (show AWP Tryz.prog E _ _ _; refine X1 ?_; exact (show Xn _ _ _ _ _ from ⟨_, St.le_refl _, ⟨rfl, trivial⟩, X3 _⟩))
 | true =>
 rw [Bool.true_and, Bool.true_and]
 by_cases a3 : keep.length ≤ 100
 ·have a3' : ((keep.map X2J).length : Int) ≤ 100 := by omega
  rw [decide_eq_true a3]
  refine QYe ?_; refine Zn ?_; refine QKa ?_; refine Zd ?_; refine Zm ?_; refine Qsa ?_
  (show AWP Tryz.prog E _ _ _; refine X1 ?_; exact (show Xn _ _ _ _ _ from ⟨_, Xb 4 (AVal.le_of_eq (by refine Eq.trans (b := ab (decide _)) rfl ?_; rw [decide_eq_true a3'])), ⟨rfl, trivial⟩, X3 _⟩))
 ·have a3' : ¬ ((keep.map X2J).length : Int) ≤ 100 := by omega
  rw [decide_eq_false a3]
  refine QYe ?_; refine Zn ?_; refine QKa ?_; refine Zd ?_; refine Zm ?_; refine Qsa ?_
  (show AWP Tryz.prog E _ _ _; refine X1 ?_; exact (show Xn _ _ _ _ _ from ⟨_, Xb 4 (AVal.le_of_eq (by refine Eq.trans (b := ab (decide _)) rfl ?_; rw [decide_eq_false a3'])), ⟨rfl, trivial⟩, X3 _⟩))
theorem X45 : Con Tryz.prog 10 [] [] [] (ab true) := by
 refine Xa (xs := [ab true]) Tryz.func10 rfl Tryz.ntmps10 rfl rfl rfl (fun E => ?_)
 obtain ⟨X, Y, z, T, b, s, e1, e2, e3, e4, e5, e6, e7, e8, e9, e10, e11, e12, e13⟩ := XdQ
 have hall : ∀ r ∈ [exR], Ux r := fun r hr => by simp only [List.mem_singleton] at hr; subst hr; exact Xhm
 have h0 := Xab 8
 rw [XgD] at h0
 have h1 := X9y exD 5 7 XaG
 rw [e1] at h1
 have h2 := X32 X 5 7 3 e2
 rw [e3] at h2
 have h3 := X2i X 5 7 3 0 [exR] e2 hall (by simp)
 rw [e4] at h3
 have h4 := X32 Y 5 7 3 e5
 rw [e7] at h4
 have h5 := X2i X 5 6 3 60 [exR] e2 hall (by simp)
 rw [e8] at h5
 have h6 := X8X Y 5 e6
 rw [e9] at h6
 have h7 := X8P 5 6 60
 rw [show X1x 5 6 60 = 4 from rfl] at h7
 have h8 := X5K [exR] (by simp) (fun r hr => by simp only [List.mem_singleton] at hr; subst hr; exact X9D)
 have h9 := X3U 3 [exR] hall (by simp)
 rw [e10] at h9
 have h10 := X5t X 5 7 3 0 [exR] e2 hall (by simp)
 rw [e11] at h10
 have hT : ((T.map Xt).length : Int) = 3 := by rw [List.length_map, e12]; rfl
 have hn := Xew
 have hbl : ¬ (((([6, 3, 1, 2, 1, 2, 1, 2, 1, 2, 1, 2] : List UInt8) ++ s).map X6).length : Int) < 12 := by simp only [List.length_map, List.length_append, List.length_cons, List.length_nil]; omega
 have hb12 : (12 : Nat) ≤ ((([6, 3, 1, 2, 1, 2, 1, 2, 1, 2, 1, 2] : List UInt8) ++ s).map X6).length := by simp
 have hsl : ((((([6, 3, 1, 2, 1, 2, 1, 2, 1, 2, 1, 2] : List UInt8) ++ s).map X6).take 12).drop 0) = ([6, 3, 1, 2, 1, 2, 1, 2, 1, 2, 1, 2] : List UInt8).map X6 := by simp
 clear e1 e2 e3 e4 e5 e6 e7 e8 e9 e10 e11 e12 e13 hall
 generalize (([6, 3, 1, 2, 1, 2, 1, 2, 1, 2, 1, 2] : List UInt8) ++ s) = bb at *
 generalize T.map Xt = TT at *
 obtain ⟨xs, xp, xo⟩ := X
 obtain ⟨ys, yp, yo⟩ := Y
 rw [X0v] at hn
 simp only [List.map_cons, List.map_nil, Xq] at h2 h3 h4 h5 h8 h9 h10 hn
 generalize exR.changes.map XT = cc at *
 simp only [exR, zR] at h3 h4 h5 h8 h9 h10 hn
 simp only [exD, Y8] at h0 h1 h5
 generalize List.replicate 8 Uc = s8 at *
 refine Qd ?_; refine Qb ?_; refine Z9 (hcon := h0) ?_; refine Qbc ?_; refine Zw (γ := 100) ?_; refine Zy ?_; refine Qw ?_; refine QEb ?_; refine Qgb ?_; refine Z9 (hcon := h1) ?_; refine Qbc ?_; refine Qna ?_; refine X0 ?_
 clear h0 h1
 refine JR ?_; refine ZL ?_; refine Z9 (hcon := h2) ?_; refine Qcc ?_; refine QNb ?_; refine Qgb ?_; refine Z9 (hcon := hn) ?_; refine Z5 ?_; refine Z9 (hcon := h3) ?_; refine Qcc ?_; refine Qrc ?_; refine Zy ?_; refine Z0 ?_; refine Z0 ?_
 refine .done (fun _ => by kernel_rfl) ?_
 refine Qgb ?_; refine Z9 (hcon := h4) ?_; refine Qcc ?_; refine QNb ?_; refine Qgb ?_; refine Z9 (hcon := hn) ?_; refine Z5 ?_; refine Z9 (hcon := h5) ?_; refine Qcc ?_; refine Zw (γ := 102) ?_; refine Zy ?_; refine Z0 ?_; refine Z0 ?_
 refine .done (fun _ => by kernel_rfl) ?_
 refine Qgb ?_; refine Z9 (hcon := h6) ?_; refine Qbc ?_; refine QAa ?_; refine X0 ?_; refine X0 ?_
 clear h2 h3 h4 h5 h6
 refine Xi (X9 (n := 130) (τ := [(1, .ptr 100 0), (3, ai 0), (4, .d (.sl 10 [])), (5, ai 0), (6, ai 0), (8, ai (z : Nat)), (9, ai 0), (10, .d (.sl 10 [[.v (.int .i64 1), .v (.int .i64 1), .sl 10 cc, .v (.int .i64 0), .v (.int .i64 0), .v (.string (X7 [])), .v (.string (X7 [])), .v (.string (X7 [])), .v (.string (X7 [])), .v (.bool false)]])), (11, ai (z : Nat)), (12, ai 0), (15, ai 20), (16, .d (Xf bb)), (17, ai 0)]) (L := [(100, .box [.d (XE xs), .d (XA xp), ab xo])]) rfl JM ⟨rfl, trivial⟩) ?_
 have hz0 : ¬ (((([] : List (List D)).length : Nat)) : Int) ≠ 0 := by simp
 refine Ql ?_; refine Zv ?_; refine Qy ?_; refine Zd ?_; refine Zv ?_; refine QZ ?_; refine Zv ?_; refine QZ ?_; refine Zv ?_; refine QZ ?_; refine Zv ?_; refine QZ ?_; refine Zv ?_; refine QZ ?_; refine Zv ?_; refine QZ ?_; refine Zv ?_; refine QZ ?_; refine Qob ?_; refine Zq ?_; refine JD ?_; refine XaC (b := decide ((((bb.map X6).length : Nat) : Int) < 12)) rfl (decide_eq_false hbl) ?_; refine X4 ?_; refine Qb ?_; refine Z9 (hcon := h7) ?_; refine QSa ?_; refine Z9 (hcon := hn) ?_; refine Z5 ?_; refine Z9 (hcon := h8) ?_; refine Zn ?_; refine QCa ?_; refine Zl ?_; refine Zn ?_; refine QCa ?_; refine Z9 (hcon := h9) ?_; refine Zl ?_; refine Zn ?_; refine Qy ?_; refine ZV (lb := 0) (hb := 12) (ys := ([6, 3, 1, 2, 1, 2, 1, 2, 1, 2, 1, 2] : List UInt8).map X6) ?_ (hys := by exact hsl); refine ZW ?_; refine Zr ?_; refine QEc ?_; refine ZL ?_; refine Z1 ?_; refine Z9 (hcon := h10) ?_; refine QRb ?_; refine Zn ?_; refine Z0 ?_
 refine .done (fun _ => by kernel_rfl) ?_
 (show AWP Tryz.prog E _ _ _; refine X1 ?_; exact (show Xn _ _ _ _ _ from ⟨_, Xb 0 (AVal.le_of_eq (by refine Eq.trans (b := ab (decide _)) rfl ?_; rw [decide_eq_true hT])), ⟨rfl, trivial⟩, X3 _⟩))
theorem Xh8 {d : Disk} {f t tail : Int} {A : List UInt8} (hd : DOk d) (h1 : 0 ≤ f) (h2 : f < t) (h3 : t ≤ d.sectors.length) (h6 : 0 ≤ tail) (h7 : tail + A.length ≤ (t - f) * 64) (hz : X3k (Xz d f t) tail.toNat) :
  Xz (Yv (XH d (f.toNat + tail.toNat / 64) (YI d f t tail A))).1 f t = (Xz d f t).take tail.toNat ++ A ++ List.replicate ((Xz d f t).length - tail.toNat - A.length) 0 := by
 by_cases hA : A = []
 case neg => exact XaO hd h1 h2 h3 h6 h7 hz hA
 subst hA
 have hc : YI d f t tail [] = [] := if_pos rfl
 have hw := X5n (f := f.toNat) (n := (t - f).toNat) (a := f.toNat) (bs := []) hd (by omega) (Nat.le_refl _) (by simp) (by simp)
 rw [hc]
 unfold Xz at hz ⊢
 have hl : XH d (f.toNat + tail.toNat / 64) [] = XH d f.toNat [] := rfl
 rw [hl, hw]
 simp only [Nat.sub_self, Nat.mul_zero, List.take_zero, List.nil_append, List.flatten_nil, List.length_nil, Nat.add_zero, List.drop_zero, List.append_nil, Nat.sub_zero]
 conv => lhs; rw [← List.take_append_drop tail.toNat (Yd d f.toNat (t - f).toNat)]
 rw [hz]
structure Log (d : Disk) (f t ep : Int) (l : List Rcd) (tail : Int) : Prop where
 ok : DOk d
 few : YW d
 pend : d.pending = []
 len : d.sectors.length = 24
 f0 : 0 ≤ f
 ft : f < t
 t24 : t ≤ 24
 ep0 : 0 ≤ ep
 ep1 : ep ≤ 1000000000000000
 tl : tail = (Xg ep l).length
 room : tail ≤ (t - f) * 64
 str : Xz d f t = Xg ep l ++ List.replicate ((t - f).toNat * 64 - (Xg ep l).length) 0
 ents : Y2 l = 0
theorem X0m {d : Disk} {f t ep tail : Int} {l : List Rcd} : (XB d f t ep tail l).2.2 = (Xr d f t ep tail l).2.2 := by
 unfold XB
 split
 ·rfl
 ·rename_i h
  have : (Xr d f t ep tail l).2.2 = 0 := by simpa using h
  rw [this]
theorem X70 : ∀ {l m : List Rcd}, Y2 l = 0 → Y2 m = 0 → Y2 (l ++ m) = 0
 | [], _, _, h => h
 | x :: l, m, h1, h2 => by
  rw [List.cons_append, Y2]
  rw [Y2] at h1
  by_cases q : Yy x = 0
  ·rw [if_neg (by rw [q]; simp)] at h1 ⊢
   exact X70 h1 h2
  ·rw [if_pos q] at h1
   exact absurd h1 q
theorem Log.app {d : Disk} {f t ep tail : Int} {l m : List Rcd} (h : Log d f t ep l tail) (he : (XB d f t ep tail m).2.2 = 0) : Log (XB d f t ep tail m).1 f t ep (l ++ m) (XB d f t ep tail m).2.1 := by
 rw [X0m] at he
 obtain ⟨s1, s2, s3, s4⟩ := X0A he
 obtain ⟨g1, g2, g3⟩ := X2H h.few he
 have ht := h.tl
 have hl24 := h.len
 have h24 := h.t24
 have hS : (Xz d f t).length = 64 * (t - f).toNat := by unfold Xz; exact VW h.ok _ _ (by have := h.f0; have := h.ft; omega)
 have hle : (Xg ep l).length ≤ (t - f).toNat * 64 := by have := h.room; have := h.ft; omega
 have hz : X3k (Xz d f t) tail.toNat := by
  unfold X3k
  rw [hS, h.str, ht, Int.toNat_natCast, List.drop_left' rfl]
  congr 1
  omega
 have hst := Xh8 (A := Xg ep m) h.ok h.f0 h.ft (by omega) (by omega) s3 hz
 obtain ⟨k1, k2, k3⟩ := X2p (A := Xg ep m) h.ok h.f0 h.ft (by omega) (by omega) s3
 have hlw := X0N (YI d f t tail (Xg ep m)) d (f.toNat + tail.toNat / 64) h.ok k1 k2
 obtain ⟨m1, m2, m3⟩ := X3A hlw
 rw [← g3] at m1 m2 m3 hst
 have ml : (XB d f t ep tail m).1.sectors.length = 24 := by rw [m2, (X0n _ d _).1]; exact hl24
 rw [g2]
 refine ⟨m1, ⟨by omega, by rw [m3]; simp⟩, m3, ml, h.f0, h.ft, h.t24, h.ep0, h.ep1, ?_, s3, ?_, ?_⟩
 ·rw [X0Z, List.length_append, ht]; omega
 ·rw [hst, X0Z, h.str, ht, Int.toNat_natCast, List.take_left' rfl, List.length_append, List.length_append, List.length_replicate]
  congr 2
  omega
 ·exact X70 h.ents s2
def X00 : List Rcd → Nat
 | [] => 0
 | r :: l => r.changes.length + X00 l
theorem Xav : ∀ (l : List Rcd) (n : Nat), n + X00 l ≤ 4611686018427387904 → X0U l (n : Nat) = ((n + X00 l : Nat) : Int)
 | [], n, _ => rfl
 | r :: l, n, h => by
  rw [X00] at h ⊢
  rw [X0U, ← Int.natCast_add, IntWalk.i64_in _ ⟨by omega, by omega⟩, Xav l (n + r.changes.length) (by omega), Nat.add_assoc]
def Ut (l : List Rcd) : Prop := l.length + X00 l ≤ 4611686018427387904
theorem Xel {l : List Rcd} (hb : Ut l) (h : X0I l = true) : l.length + X00 l ≤ 60 := by
 unfold X0I at h
 rw [Xav l l.length hb, decide_eq_true_eq] at h
 omega
theorem XaN : ∀ {l : List Rcd} {r : Rcd}, r ∈ l → r.changes.length ≤ X00 l
 | x :: l, r, h => by
  rw [X00]
  rcases List.mem_cons.1 h with rfl | h
  ·omega
  ·have := XaN h; omega
theorem XeB {r : Rcd} (h : r.changes.length ≤ 60) : (U7 r).length ≤ 60000 := by
 unfold U7
 by_cases he : Yy r = 0
 case neg => rw [if_neg he]; simp
 rw [if_pos he]
 unfold Yy at he
 by_cases c1 : ¬ (1 ≤ r.kind ∧ r.kind ≤ 3 ∧ 0 ≤ r.ts ∧ r.ts ≤ 1000000000000000)
 ·rw [if_pos c1] at he; omega
 rw [if_neg c1] at he
 by_cases c2 : (r.kind ≠ 1 ∧ 0 < r.changes.length) ∨ (r.kind ≠ 2 ∧ (r.off = true ∨ X0G r.rule = false))
 ·rw [if_pos c2] at he; omega
 rw [if_neg c2] at he
 have h1 := X2d (n := r.ts) (by omega) (by omega)
 have h2 := X2d (n := (r.changes.length : Nat)) (by omega) (by omega)
 unfold Uu
 by_cases k2 : r.kind = 2
 ·rw [if_pos k2] at he
  have h3 := X74 he
  rw [if_neg (by omega), if_pos k2]
  simp only [List.length_cons, List.length_append, List.length_nil]
  omega
 rw [if_neg k2] at he
 by_cases c3 : UD r.changes ≠ 0
 ·rw [if_pos c3] at he; exact absurd he c3
 by_cases k1 : r.kind = 1
 ·rw [if_pos k1]
  have hall : ∀ l : List Chg, UD l = 0 → ∀ c ∈ l, YM c = 0 := by
   intro l
   induction l with
   | nil => intro _ c hc; simp at hc
   | cons x l ih =>
    intro h0 c hc
    rw [UD] at h0
    by_cases q : YM x = 0
    ·rw [if_neg (by rw [q]; simp)] at h0
     rcases List.mem_cons.1 hc with rfl | hc
     ·exact q
     ·exact ih h0 c hc
    ·rw [if_pos q] at h0; exact absurd h0 q
  have h4 := X57 (hall r.changes (by simpa using c3))
  simp only [List.length_cons, List.length_append]
  omega
 ·rw [if_neg k1, if_neg k2]
  simp only [List.length_cons, List.length_append, List.length_nil]
  omega
theorem X51 {l : List Rcd} (hb : Ut l) (hok : ∀ r ∈ l, Vx r) (h : X0I l = true) : (∀ r ∈ l, Ux r) ∧ l.length ≤ 60 := by
 have ht := Xel hb h
 exact ⟨fun r hr => ⟨hok r hr, XeB (by have := XaN hr; omega)⟩, by omega⟩
theorem Log.err {d : Disk} {f t ep tail : Int} {l m : List Rcd} (h : Log d f t ep l tail) : (XB d f t ep tail m).2.2 = if Y2 m ≠ 0 then Y2 m else if (t - f) * 64 < tail + (Xg ep m).length then 20 else 0 := by
 have hsp : XI d f t ep tail = 0 := by
  have h1 := h.f0; have h2 := h.ft; have h3 := h.t24; have h4 := h.len; have h5 := h.ep0; have h6 := h.ep1; have h7 := h.tl; have h8 := h.room
  unfold XI
  rw [if_neg (by rw [h.ok.v]; simp), if_neg (by rw [h.ok.on]; simp), if_neg (by omega), if_neg (by omega)]
 rw [X0m]
 unfold Xr
 rw [if_neg (by rw [hsp]; simp)]
 split
 ·rfl
 ·split <;> rfl
theorem Xfe {ep o : Int} {r : Rcd} (h1 : 0 ≤ ep) (h2 : ep ≤ 1000000000000000) (hr : X10 r) (ho : o ≠ ep) : (Ud (XC (XD (Y4 ep r))) o).2 = false := by
 have hbl := X2s h1 h2 hr.2
 have hf := X3c (s := Y4 ep r) (by omega) [] []
 simp only [List.nil_append, List.append_nil, List.length_nil, Int.natCast_zero, Int.zero_add] at hf
 have hf : Uo (XD (Y4 ep r)) 0 = (Y4 ep r, ((XD (Y4 ep r)).length : Int), 0) := hf
 have hu := X2C (n := ep) ⟨h1, by omega⟩ [] (U7 r)
 simp only [List.nil_append, List.length_nil, Int.natCast_zero, Int.zero_add] at hu
 have hu : Xk (Y4 ep r) 0 = (ep, ((Xh ep).length : Int), 0) := hu
 rw [X4u (X5X _), hf]
 unfold X1Y
 rw [if_neg (by simp), hu]
 unfold X40
 rw [if_pos (.inr (Ne.symm ho))]
theorem Log.other {d : Disk} {f t ep tail o : Int} {l : List Rcd} (h : Log d f t ep l tail) (hv : ∀ r ∈ l, (U7 r).length ≤ 60000) (hne : l ≠ []) (h1 : 0 ≤ o) (h2 : o ≤ 1000000000000000) (ho : o ≠ ep) : Uk d f t o = ([], 0, 0) := by
 have hsp : XI d f t o 0 = 0 := by
  have h1 := h.f0; have h2 := h.ft; have h3 := h.t24; have h4 := h.len; have h7 := h.tl; have h8 := h.room
  unfold XI
  rw [if_neg (by rw [h.ok.v]; simp), if_neg (by rw [h.ok.on]; simp), if_neg (by omega), if_neg (by omega)]
 unfold Uk X0P
 rw [if_neg (by rw [hsp]; simp), h.str]
 cases l with
 | nil => exact absurd rfl hne
 | cons r l =>
  obtain ⟨k1, k2⟩ := X8A (ep := ep) (r := r) (Xg ep l ++ List.replicate ((t - f).toNat * 64 - (Xg ep (r :: l)).length) 0)
  have e : Xg ep (r :: l) ++ List.replicate ((t - f).toNat * 64 - (Xg ep (r :: l)).length) 0 = Yi ep r ++ (Xg ep l ++ List.replicate ((t - f).toNat * 64 - (Xg ep (r :: l)).length) 0) := by
   rw [← List.append_assoc]; rfl
  rw [e, X1V _ _ _ _ (fun q => by
   rw [k1, Xfe h.ep0 h.ep1 ⟨X3i h.ents r (by simp), hv r (by simp)⟩ ho] at q
   exact absurd q.2 (by simp))]
  rfl
theorem Xdg : Tryz.prog.cellsOf 27 = 1 := by kernel_rfl
theorem XaP : Tryz.prog.cellsOf 26 = 1 := by kernel_rfl
section
variable {H : Type} {enc : TypeId × Value → H} {W : World}
theorem Xhd : Opens enc Tryz.prog W 27 (fun l : List Int => l.length ≤ 9223372036854775807) (fun l => [Vb l]) :=
 X8z fun n => (X93 Tryz.underlying27 UT (by decide) fun m _ => (US Tryz.underlying3).at m).to id fun _ h => ⟨h.2, rfl⟩
def X7V (q : Ask) : List D := [.v (.int .i64 q.f), .v (.int .i64 q.t), .v (.int .i64 q.ep), .v (.int .i64 q.tail), .v (.int .i64 q.other), .v (.int .i64 q.pick), .sl 10 (q.a.map Xq), .sl 10 (q.b.map Xq), Vb q.keep]
theorem X5e (q : Ask) : U9 q = .agg ((X7V q).map .d) := rfl
theorem Xci : Tryz.prog.cellsOf 29 = 9 := by kernel_rfl
end
section
variable {H : Type} {enc : TypeId × Value → H} {W : World}
theorem Xbn {α : Type} : ∀ l : List α, l.length ≤ X1v (fun _ => 1) l
 | [] => Nat.zero_le _
 | x :: l => by have := Xbn l; rw [X1v, List.length_cons]; omega
theorem X7X : ∀ l : List Rcd, l.length + X00 l ≤ X1v (fun r : Rcd => r.changes.length + 1) l
 | [] => Nat.zero_le _
 | x :: l => by have := X7X l; rw [X1v, X00, List.length_cons]; omega
theorem Xhf : OpensM enc Tryz.prog W 54 (fun l : List Chg => (∀ c ∈ l, X3C c) ∧ l.length ≤ 9223372036854775807) (fun l => l.length) (fun l => [.sl 10 (l.map XT)]) :=
 (X8i Tryz.underlying54 X9o (by decide) Xey.one).to id fun l h => ⟨h, by have := Xbn l; simp only [id]; omega, rfl⟩
theorem Xhw : OpensM enc Tryz.prog W 58 Vx (fun r => r.changes.length + 1) Xq :=
 (X9R Tryz.underlying58 Xbv
  (VF rfl UT (US Tryz.underlying3).one (VF rfl UT (US Tryz.underlying3).one (VF rfl Xd0 Xhf
   (VF rfl XbJ Xfo.one (VF rfl X8c (XaF Tryz.underlying4).one X8U)))))).to
  (fun r => ⟨r.1, r.2.1, r.2.2.1, r.2.2.2.1, r.2.2.2.2.1⟩) fun r h => ⟨⟨h.2.2.1.2, h.2.2.1.1⟩, by simp only; omega, rfl⟩
theorem X9b : OpensM enc Tryz.prog W 26 (fun l : List Rcd => (∀ r ∈ l, Vx r) ∧ l.length ≤ 9223372036854775807) (fun l => l.length + X00 l) (fun l => [.sl 10 (l.map Xq)]) :=
 (X8i Tryz.underlying26 Xbv (by decide) Xhw).to id fun l h => ⟨h, by have := X7X l; simp only [id]; omega, rfl⟩
theorem X41 : OpensM enc Tryz.prog W 29 X1o (fun q => q.a.length + X00 q.a + (q.b.length + X00 q.b)) X7V :=
 (X9R Tryz.underlying29 Xci
  (VF rfl UT (US Tryz.underlying3).one (VF rfl UT (US Tryz.underlying3).one (VF rfl UT (US Tryz.underlying3).one (VF rfl UT (US Tryz.underlying3).one (VF rfl UT (US Tryz.underlying3).one (VF rfl UT (US Tryz.underlying3).one
   (VF rfl XaP X9b (VF rfl XaP X9b (VF rfl Xdg Xhd.one X8U)))))))))).to
  (fun r => ⟨r.1, r.2.1, r.2.2.1, r.2.2.2.1, r.2.2.2.2.1, r.2.2.2.2.2.1, r.2.2.2.2.2.2.1, r.2.2.2.2.2.2.2.1, r.2.2.2.2.2.2.2.2.1⟩) fun r h => ⟨⟨h.2.2.2.2.2.2.1.1, h.2.2.2.2.2.2.1.2, h.2.2.2.2.2.2.2.1.1, h.2.2.2.2.2.2.2.1.2, h.2.2.2.2.2.2.2.2.1⟩, by simp only; omega, rfl⟩
end
end Go.Fw
