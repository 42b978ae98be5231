/- Records put: the program's and the reference's. -/
import Derived.Test.YtaoggblfedekeaaGreatDoorG08
import Derived.Test.YtaoggblfedekeaaGreatDoorG23
import Derived.Test.YtaoggblfedekeaaGreatDoorG19
import Derived.Test.YtaoggblfedekeaaGreatDoorG21
import Derived.Test.YtaoggblfedekeaaGreatDoorG18
set_option maxHeartbeats 16000000
namespace Go.Fw
open Go Go.Proofs
set_option maxRecDepth 100000
set_option linter.unusedVariables false
set_option linter.unusedSimpArgs false
theorem X5k : ∀ {l : List Chg}, UD l = 0 → ∀ c ∈ l, Y8 c = 0
 | [], _, c, hc => by simp at hc
 | x :: r, h, c, hc => by
  rw [UD] at h
  by_cases hx : Y8 x = 0
  ·rw [if_neg (by simpa using hx)] at h
   rcases List.mem_cons.1 hc with rfl | hc
   ·exact hx
   ·exact X5k h c hc
  ·rw [if_pos hx] at h
   exact absurd h hx
theorem X2f {r : Rcd} (h : Yj r = 0) : (r.kind = 1 ∨ r.kind = 2 ∨ r.kind = 3) ∧ (0 ≤ r.ts ∧ r.ts ≤ 1000000000000000) ∧ (r.kind ≠ 2 → (∀ c ∈ r.changes, Y8 c = 0) ∧ r.changes.length ≤ 1000) ∧ (r.kind = 2 → YS r.rule = 0) ∧ (r.kind ≠ 1 → r.changes = []) ∧ (r.kind ≠ 2 → r.off = false ∧ Vu r.rule = true) := by
 unfold Yj at h
 split at h
 ·omega
 rename_i h1
 split at h
 ·omega
 rename_i h2
 refine ⟨by omega, by omega, fun hk => ?_, fun hk => ?_, fun hk => ?_, fun hk => ?_⟩
 ·rw [if_neg hk] at h
  split at h
  ·omega
  ·rename_i h3
   split at h
   ·omega
   ·exact ⟨X5k (by simpa using h3), by omega⟩
 ·rwa [if_pos hk] at h
 ·exact List.eq_nil_of_length_eq_zero (by omega)
 ·cases ho : r.off <;> cases hz : Vu r.rule <;> simp [ho, hz, hk] at h2 ⊢
theorem X6L : Yl [] = [] := rfl
theorem X4r {l : List Chg} {i : Nat} {x : Chg} (h : l[i]? = some x) : Yl (l.take (i + 1)) = Yl (l.take i) ++ XK x := by
 unfold Yl
 rw [List.take_add_one, h]
 simp
theorem Vv {n : Int} (h : 0 ≤ n ∧ n ≤ 9223372036854775807) : (Xe n).length ≤ 10 := by
 rw [UM h.1]
 exact UJ (by omega)
theorem X2T {c : Chg} (h : Y8 c = 0) : (XK c).length ≤ 200 := by
 obtain ⟨h1, h2, h3, h4, h5⟩ := X2C h
 unfold XK
 have p1 := Vv (n := c.id) (by omega)
 have p2 : (if c.op = 6 then Xe c.src ++ Xe c.dst else []).length ≤ 20 := by
  split
  ·rename_i h6
   have q1 := Vv (n := c.src) (by have := h3 h6; omega)
   have q2 := Vv (n := c.dst) (by have := h3 h6; omega)
   rw [List.length_append]; omega
  ·simp
 have p3 : (if XC c.op = true then Xo c.name else []).length ≤ 30 := by
  split
  ·rename_i h6
   exact Ui (h4 h6)
  ·simp
 have p4 : (if Xz c.op = true then XV c.v else []).length ≤ 111 := by
  split
  ·rename_i h6
   unfold XV
   rw [if_pos (h5 h6).1]
   exact (h5 h6).2
  ·simp
 simp only [List.length_cons, List.length_append]
 omega
theorem X1H : ∀ {l : List Chg}, (∀ c ∈ l, Y8 c = 0) → (Yl l).length ≤ 200 * l.length
 | [], _ => by simp [Yl]
 | x :: r, h => by
  have h1 := X2T (h x (by simp))
  have h2 := X1H (l := r) fun y hy => h y (by simp [hy])
  unfold Yl at *
  simp only [List.map_cons, List.flatten_cons, List.length_append, List.length_cons]
  omega
theorem X3X {r : Rul} (h : YS r = 0) : (Ym r).length ≤ 200 := by
 obtain ⟨h1, ⟨l1, l2, l3, l4⟩, h3⟩ := X0y h
 have := Ui l1
 have := Ui l2
 have := Ui l3
 have := Ui l4
 have := X0L h1
 unfold Ym
 simp only [List.length_cons, List.length_append]
 omega
theorem X4B (r : Rcd) (hok : UE r) : Con Tryz.prog 16 [] [XZ r] [] (.d (Xh (X0B r))) := by
 have hc := X3W r hok
 obtain ⟨hlen, hch⟩ := hok
 unfold X0B
 by_cases h : Yj r = 0
 case neg =>
  rw [if_neg h]
  generalize Yj r = e at *
  obtain ⟨kd, ts, l, ⟨k, n, name, key, src, dst⟩, off⟩ := r
  simp only [XZ] at *
  refine X8 (xs := [.d (Xh [])]) Tryz.func16 rfl Tryz.ntmps16 rfl rfl rfl (fun E => ?_)
  refine X0 ?_; refine JR ?_; refine Zy (γ := 100) ?_; refine Z0 ?_; refine JD ?_; refine X0 ?_; refine X0 ?_; refine JR ?_; refine ZL ?_; refine Z9 (hcon := hc) ?_; refine Zs ?_; refine JD ?_; refine JT ?_
  refine X0 ?_; refine JR ?_; refine Z0 ?_; refine JD ?_
  exact X1 ⟨_, X9 2 (y := .d (Xh [])) (AVal.le_nil 1), ⟨rfl, trivial⟩, X2 _⟩
 rw [if_pos h]
 rw [h] at hc
 obtain ⟨hkd, hts, h1, h2, h3, h4⟩ := X2f h
 clear h
 obtain ⟨kd, ts, l, ⟨k, n, name, key, src, dst⟩, off⟩ := r
 simp only at hlen hch hkd hts h1 h2 h3 h4
 have hpu := VG ts (by omega)
 have hlu := Vv (n := ts) (by omega)
 have hlm : (l.map Xx).length = l.length := by simp
 by_cases k3 : kd = 3
 ·subst k3
  obtain rfl := h3 (by decide)
  have hput : YB ⟨3, ts, [], ⟨k, n, name, key, src, dst⟩, off⟩ = UInt8.ofNat 3 :: Xe ts := by unfold YB; simp
  rw [hput]
  generalize Xe ts = w0 at *
  simp only [XZ] at *
  refine X8 (xs := [.d (Xh (UInt8.ofNat 3 :: w0))]) Tryz.func16 rfl Tryz.ntmps16 rfl rfl rfl (fun E => ?_)
  repeat first | refine X0 ?_ | (refine JR ?_; (repeat first | refine Z3 (u := nj 3) (r := n8 3) ?_ (hr := by exact XQ rfl rfl) | refine ZX (γ := 130) ?_ | refine Z1 ?_ | refine Z0 ?_ | refine Zz ?_ | refine ZA ?_ | refine ZL ?_ | refine Zu ?_ | refine Zs ?_ | refine Zy (γ := 100) ?_ | refine Z6 ?_ | refine Z9 (hcon := hc) ?_ | refine Z9 (hcon := hpu) ?_); refine JD ?_) | refine JF ?_ | refine X5 ?_ | refine X3 ?_
  refine Xu (Y1 130 rfl) ?_
  refine Xu (Yo 2 130 rfl rfl (by first | rfl | (simp only [List.length_append, List.length_map, List.length_cons, List.length_nil] <;> omega) | fail)) ?_
  exact X1 ⟨_, X9 2 (y := .d (Xh (UInt8.ofNat 3 :: w0))) (AVal.le_of_eq (by refine Eq.trans (b := AVal.d (.sl 1 (_))) rfl ?_; show _ = AVal.d (.sl 1 ((UInt8.ofNat 3 :: w0).map Xa)); simp only [List.map_append, List.map_cons, List.map_nil, List.append_assoc, List.cons_append, List.nil_append, List.append_nil] <;> rfl)), ⟨rfl, trivial⟩, X2 _⟩
 by_cases k2 : kd = 2
 ·subst k2
  obtain rfl := h3 (by decide)
  have h2 := h2 rfl
  have hpr := X65 ⟨k, n, name, key, src, dst⟩ h2
  have hlr := X3X h2
  have hput : YB ⟨2, ts, [], ⟨k, n, name, key, src, dst⟩, off⟩ = UInt8.ofNat 2 :: (Xe ts ++ (Ym ⟨k, n, name, key, src, dst⟩ ++ [if off then 1 else 0])) := by unfold YB; simp
  rw [hput]
  generalize Xe ts = w0 at *
  generalize Ym ⟨k, n, name, key, src, dst⟩ = w1 at *
  simp only [XZ, XY] at *
  cases off with
  | true =>
   refine X8 (xs := [.d (Xh (UInt8.ofNat 2 :: (w0 ++ (w1 ++ [1]))))]) Tryz.func16 rfl Tryz.ntmps16 rfl rfl rfl (fun E => ?_)
   repeat first | refine X0 ?_ | (refine JR ?_; (repeat first | refine Z3 (u := nj 2) (r := n8 2) ?_ (hr := by exact XQ rfl rfl) | refine ZX (γ := 130) ?_ | refine Z1 ?_ | refine Z0 ?_ | refine Zz ?_ | refine ZA ?_ | refine ZL ?_ | refine Zu ?_ | refine Zs ?_ | refine Zy (γ := 100) ?_ | refine Z5 ?_ | refine Z6 ?_ | refine Z9 (hcon := hc) ?_ | refine Z9 (hcon := hpu) ?_ | refine Z9 (hcon := hpr) ?_); refine JD ?_) | refine JT ?_ | refine JF ?_ | refine X5 ?_ | refine X3 ?_
   refine Xu (Y1 130 rfl) ?_
   refine Xu (Yo 2 130 rfl rfl (by first | rfl | (simp only [List.length_append, List.length_map, List.length_cons, List.length_nil] <;> omega) | fail)) ?_
   exact X1 ⟨_, X9 2 (y := .d (Xh (UInt8.ofNat 2 :: (w0 ++ (w1 ++ [1]))))) (AVal.le_of_eq (by refine Eq.trans (b := AVal.d (.sl 1 (_))) rfl ?_; show _ = AVal.d (.sl 1 ((UInt8.ofNat 2 :: (w0 ++ (w1 ++ [1]))).map Xa)); simp only [List.map_append, List.map_cons, List.map_nil, List.append_assoc, List.cons_append, List.nil_append, List.append_nil] <;> rfl)), ⟨rfl, trivial⟩, X2 _⟩
  | false =>
   refine X8 (xs := [.d (Xh (UInt8.ofNat 2 :: (w0 ++ (w1 ++ [0]))))]) Tryz.func16 rfl Tryz.ntmps16 rfl rfl rfl (fun E => ?_)
   repeat first | refine X0 ?_ | (refine JR ?_; (repeat first | refine Z3 (u := nj 2) (r := n8 2) ?_ (hr := by exact XQ rfl rfl) | refine ZX (γ := 130) ?_ | refine Z1 ?_ | refine Z0 ?_ | refine Zz ?_ | refine ZA ?_ | refine ZL ?_ | refine Zu ?_ | refine Zs ?_ | refine Zy (γ := 100) ?_ | refine Z5 ?_ | refine Z6 ?_ | refine Z9 (hcon := hc) ?_ | refine Z9 (hcon := hpu) ?_ | refine Z9 (hcon := hpr) ?_); refine JD ?_) | refine JT ?_ | refine JF ?_ | refine X5 ?_ | refine X3 ?_
   refine Xu (Y1 130 rfl) ?_
   refine Xu (Yo 2 130 rfl rfl (by first | rfl | (simp only [List.length_append, List.length_map, List.length_cons, List.length_nil] <;> omega) | fail)) ?_
   exact X1 ⟨_, X9 2 (y := .d (Xh (UInt8.ofNat 2 :: (w0 ++ (w1 ++ [0]))))) (AVal.le_of_eq (by refine Eq.trans (b := AVal.d (.sl 1 (_))) rfl ?_; show _ = AVal.d (.sl 1 ((UInt8.ofNat 2 :: (w0 ++ (w1 ++ [0]))).map Xa)); simp only [List.map_append, List.map_cons, List.map_nil, List.append_assoc, List.cons_append, List.nil_append, List.append_nil] <;> rfl)), ⟨rfl, trivial⟩, X2 _⟩
 have k1 : kd = 1 := by omega
 subst k1
 obtain ⟨h1, hl⟩ := h1 (by decide)
 have hpl := VG (l.length : Nat) (by omega)
 have hll := Vv (n := (l.length : Nat)) (by omega)
 have hput : YB ⟨1, ts, l, ⟨k, n, name, key, src, dst⟩, off⟩ = UInt8.ofNat 1 :: (Xe ts ++ Xe (l.length : Nat)) ++ Yl l := by unfold YB; simp
 rw [hput]
 clear hput h2 h3 h4 hkd k2 k3
 rw [← hlm] at hpl
 rw [← hlm] at hll ⊢
 generalize Xe ts = w0 at *
 generalize Xe ((l.map Xx).length : Nat) = w1 at *
 simp only [XZ] at *
 refine X8 (xs := [.d (Xh (UInt8.ofNat 1 :: (w0 ++ w1) ++ Yl l))]) Tryz.func16 rfl Tryz.ntmps16 rfl rfl rfl (fun E => ?_)
 refine X0 ?_; refine JR ?_; refine Zy (γ := 100) ?_; refine Z0 ?_; refine JD ?_; refine X0 ?_; refine X0 ?_; refine JR ?_; refine ZL ?_; refine Z9 (hcon := hc) ?_; refine Zs ?_; refine JD ?_; refine JF ?_
 refine X3 ?_; refine X0 ?_; refine JR ?_; refine Zz ?_; refine ZA ?_; refine Z3 (u := nj 1) (r := n8 1) ?_ (hr := by exact XQ rfl rfl); refine ZX (γ := 130) ?_; refine Zz ?_; refine ZA ?_
 refine Z9 (hcon := hpu) ?_; refine Z6 ?_; refine Z0 ?_; refine JD ?_; refine X0 ?_; refine X0 ?_; refine JR ?_; refine Zz ?_; refine ZA ?_; refine JD ?_; refine X5 ?_; refine X0 ?_; refine JR ?_
 refine Zu ?_; refine Z0 ?_; refine JD ?_; refine JT ?_; refine X0 ?_; refine JR ?_; refine Z1 ?_; refine Zz ?_; refine ZA ?_; refine Zd ?_; refine Z9 (hcon := hpl) ?_; refine Z6 ?_; refine Z0 ?_; refine JD ?_
 refine X0 ?_; refine JR ?_; refine Zz ?_; refine ZA ?_; refine Zd ?_; refine Z1 ?_; refine JD ?_; refine X5 ?_
 generalize hA : UInt8.ofNat 1 :: (w0 ++ w1) = A at *
 have hAl : A.length ≤ 21 := by rw [← hA]; simp only [List.length_cons, List.length_append]; omega
 refine XR (ι := Nat) (fun i => i ≤ l.length) (fun i => ⟨55, [(1, .ptr 100 0), (3, .own 130 ((A ++ Yl (l.take i)).map Xa).length), (28, .d (.sl 10 (l.map Xx))), (29, ai (l.map Xx).length), (30, ai i)], [(100, .box [ai 1, ai ts, .d (.sl 10 (l.map Xx)), ai k, ai n, X7 name, X7 key, X7 src, X7 dst, ab off]), (130, .row 1 ((A ++ Yl (l.take i)).map Xa))]⟩) (fun i => l.length - i) 0 (by omega)
  (by
   rw [List.take_zero, X6L]
   subst hA
   exact Xc rfl ⟨JL, (by refine AVal.le_of_eq ?_; refine Eq.trans (b := AVal.own 130 (_ + _)) rfl ?_; congr 1; simp only [List.length_append, List.length_map, List.length_cons, List.length_nil, List.append_assoc, List.cons_append, List.nil_append, List.append_nil] <;> omega), JL, JL, JL, trivial⟩ ⟨rfl, (by refine Eq.trans (b := AObj.row 1 (_ ++ _)) rfl ?_; simp only [List.map_append, List.map_cons, List.map_nil, List.append_assoc, List.cons_append, List.nil_append, List.append_nil] <;> rfl), trivial⟩) ?_
 intro i hi
 have hrow : ((A ++ Yl (l.take i)).map Xa).length ≤ 300000 := by
  have h6 := X1H (l := l.take i) fun c hc => h1 c (List.mem_of_mem_take hc)
  have h7 : (l.take i).length ≤ 1000 := by simp; omega
  simp only [List.length_map, List.length_append]
  omega
 by_cases hil : i < l.length
 case neg =>
  obtain rfl : i = l.length := by omega
  rw [List.take_length] at hrow ⊢
  have hn : ¬ ((l.length : Nat) : Int) < (l.map Xx).length := by omega
  generalize A ++ Yl l = B at *
  refine X0 ?_; refine JR ?_; refine Z8 ?_; refine JD ?_; refine X0 ?_; refine JF ?_; refine Xv ?_; refine X0 ?_; refine JR ?_; refine Z1 ?_; refine Z0 ?_; refine JD ?_
  refine Xu (Y1 130 rfl) ?_
  refine Xu (Yo 2 130 rfl rfl rfl) ?_
  exact X1 ⟨_, St.le_refl _, ⟨rfl, trivial⟩, X2 _⟩
 have hn : (i : Int) < (l.map Xx).length := by omega
 obtain ⟨x, hx⟩ := XT (l := l) hil
 have hxc : (l.map Xx)[i]? = some (Xx x) := YR hx
 have hxe := h1 x (List.mem_of_getElem? hx)
 have hcall := X6F x hxe
 have hxl := X2T hxe
 have htk := X4r hx
 generalize XK x = w at *
 obtain ⟨op, id, xsrc, xdst, xname, ⟨xk, xn, xd, xs, xl⟩⟩ := x
 simp only [Xy, Xx] at hcall hxc
 generalize hB : A ++ Yl (l.take i) = B at *
 refine X0 ?_; refine JR ?_; refine Z8 ?_; refine JD ?_; refine X0 ?_; refine JT ?_; refine X3 ?_; refine X0 ?_; refine X5 ?_; refine X0 ?_; refine JR ?_; refine ZI ?_; refine ZJ ?_
 refine Zt (γ := 101) ?_; refine Zw ?_; refine JD ?_; refine JR ?_; refine Z1 ?_; refine ZL ?_; refine Z9 (hcon := hcall) ?_; refine Z6 ?_; refine Z0 ?_; refine JD ?_; refine JR ?_; refine Zb ?_; refine Z1 ?_
 refine JD ?_
 refine ⟨i + 1, by omega, by omega, ?_⟩
 dsimp only
 rw [htk, ← List.append_assoc, hB]
 exact Xc rfl ⟨JL, (by refine AVal.le_of_eq ?_; refine Eq.trans (b := AVal.own 130 (_ + _)) rfl ?_; congr 1; simp only [List.length_append, List.length_map, List.length_cons, List.length_nil, List.append_assoc, List.cons_append, List.nil_append, List.append_nil] <;> omega), JL, JL, JL, trivial⟩ ⟨rfl, (by refine Eq.trans (b := AObj.row 1 (_ ++ _)) rfl ?_; simp only [List.map_append, List.map_cons, List.map_nil, List.append_assoc, List.cons_append, List.nil_append, List.append_nil] <;> rfl), trivial⟩
theorem XaL (r : Rcd) (hok : UE r) : Con Tryz.prog 17 [] [XZ r] [] (.d (Xh (X0B r))) := by
 have hc := X1C r hok
 obtain ⟨hlen, hch⟩ := hok
 unfold X0B
 by_cases h : Yj r = 0
 case neg =>
  rw [if_neg h]
  generalize Yj r = e at *
  obtain ⟨kd, ts, l, ⟨k, n, name, key, src, dst⟩, off⟩ := r
  simp only [XZ] at *
  refine X8 (xs := [.d (Xh [])]) Tryz.func17 rfl Tryz.ntmps17 rfl rfl rfl (fun E => ?_)
  refine X0 ?_; refine JR ?_; refine Zy (γ := 100) ?_; refine Z0 ?_; refine JD ?_; refine X0 ?_; refine X0 ?_; refine JR ?_; refine ZL ?_; refine Z9 (hcon := hc) ?_; refine Zs ?_; refine JD ?_; refine JT ?_
  refine X0 ?_; refine JR ?_; refine Z0 ?_; refine JD ?_
  exact X1 ⟨_, X9 2 (y := .d (Xh [])) (AVal.le_nil 1), ⟨rfl, trivial⟩, X2 _⟩
 rw [if_pos h]
 rw [h] at hc
 obtain ⟨hkd, hts, h1, h2, h3, h4⟩ := X2f h
 clear h
 obtain ⟨kd, ts, l, ⟨k, n, name, key, src, dst⟩, off⟩ := r
 simp only at hlen hch hkd hts h1 h2 h3 h4
 have hpu := X0k ts (by omega)
 have hlu := Vv (n := ts) (by omega)
 have hlm : (l.map Xx).length = l.length := by simp
 by_cases k3 : kd = 3
 ·subst k3
  obtain rfl := h3 (by decide)
  have hput : YB ⟨3, ts, [], ⟨k, n, name, key, src, dst⟩, off⟩ = UInt8.ofNat 3 :: Xe ts := by unfold YB; simp
  rw [hput]
  generalize Xe ts = w0 at *
  simp only [XZ] at *
  refine X8 (xs := [.d (Xh (UInt8.ofNat 3 :: w0))]) Tryz.func17 rfl Tryz.ntmps17 rfl rfl rfl (fun E => ?_)
  repeat first | refine X0 ?_ | (refine JR ?_; (repeat first | refine Z3 (u := nj 3) (r := n8 3) ?_ (hr := by exact XQ rfl rfl) | refine ZX (γ := 130) ?_ | refine Z1 ?_ | refine Z0 ?_ | refine Zz ?_ | refine ZA ?_ | refine ZL ?_ | refine Zu ?_ | refine Zs ?_ | refine Zy (γ := 100) ?_ | refine Z6 ?_ | refine Z9 (hcon := hc) ?_ | refine Z9 (hcon := hpu) ?_); refine JD ?_) | refine JF ?_ | refine X3 ?_
  refine Xu (Y1 130 rfl) ?_
  refine Xu (Yo 2 130 rfl rfl (by first | rfl | (simp only [List.length_append, List.length_map, List.length_cons, List.length_nil] <;> omega) | fail)) ?_
  exact X1 ⟨_, X9 2 (y := .d (Xh (UInt8.ofNat 3 :: w0))) (AVal.le_of_eq (by refine Eq.trans (b := AVal.d (.sl 1 (_))) rfl ?_; show _ = AVal.d (.sl 1 ((UInt8.ofNat 3 :: w0).map Xa)); simp only [List.map_append, List.map_cons, List.map_nil, List.append_assoc, List.cons_append, List.nil_append, List.append_nil] <;> rfl)), ⟨rfl, trivial⟩, X2 _⟩
 by_cases k2 : kd = 2
 ·subst k2
  obtain rfl := h3 (by decide)
  have h2 := h2 rfl
  have hpr := (by have := X6E ⟨k, n, name, key, src, dst⟩; unfold Vy at this; rwa [if_pos h2] at this : Con Tryz.prog 12 [] [XY ⟨k, n, name, key, src, dst⟩] [] (.d (Xh (Ym ⟨k, n, name, key, src, dst⟩))))
  have hlr := X3X h2
  have hput : YB ⟨2, ts, [], ⟨k, n, name, key, src, dst⟩, off⟩ = UInt8.ofNat 2 :: (Xe ts ++ (Ym ⟨k, n, name, key, src, dst⟩ ++ [if off then 1 else 0])) := by unfold YB; simp
  rw [hput]
  generalize Xe ts = w0 at *
  generalize Ym ⟨k, n, name, key, src, dst⟩ = w1 at *
  simp only [XZ, XY] at *
  cases off with
  | true =>
   refine X8 (xs := [.d (Xh (UInt8.ofNat 2 :: (w0 ++ (w1 ++ [1]))))]) Tryz.func17 rfl Tryz.ntmps17 rfl rfl rfl (fun E => ?_)
   repeat first | refine X0 ?_ | (refine JR ?_; (repeat first | refine Z3 (u := nj 2) (r := n8 2) ?_ (hr := by exact XQ rfl rfl) | refine ZX (γ := 130) ?_ | refine Z1 ?_ | refine Z0 ?_ | refine Zz ?_ | refine ZA ?_ | refine ZL ?_ | refine Zu ?_ | refine Zs ?_ | refine Zy (γ := 100) ?_ | refine Z5 ?_ | refine Z6 ?_ | refine Z9 (hcon := hc) ?_ | refine Z9 (hcon := hpu) ?_ | refine Z9 (hcon := hpr) ?_); refine JD ?_) | refine JT ?_ | refine JF ?_ | refine X3 ?_
   refine Xu (Y1 130 rfl) ?_
   refine Xu (Yo 2 130 rfl rfl (by first | rfl | (simp only [List.length_append, List.length_map, List.length_cons, List.length_nil] <;> omega) | fail)) ?_
   exact X1 ⟨_, X9 2 (y := .d (Xh (UInt8.ofNat 2 :: (w0 ++ (w1 ++ [1]))))) (AVal.le_of_eq (by refine Eq.trans (b := AVal.d (.sl 1 (_))) rfl ?_; show _ = AVal.d (.sl 1 ((UInt8.ofNat 2 :: (w0 ++ (w1 ++ [1]))).map Xa)); simp only [List.map_append, List.map_cons, List.map_nil, List.append_assoc, List.cons_append, List.nil_append, List.append_nil] <;> rfl)), ⟨rfl, trivial⟩, X2 _⟩
  | false =>
   refine X8 (xs := [.d (Xh (UInt8.ofNat 2 :: (w0 ++ (w1 ++ [0]))))]) Tryz.func17 rfl Tryz.ntmps17 rfl rfl rfl (fun E => ?_)
   repeat first | refine X0 ?_ | (refine JR ?_; (repeat first | refine Z3 (u := nj 2) (r := n8 2) ?_ (hr := by exact XQ rfl rfl) | refine ZX (γ := 130) ?_ | refine Z1 ?_ | refine Z0 ?_ | refine Zz ?_ | refine ZA ?_ | refine ZL ?_ | refine Zu ?_ | refine Zs ?_ | refine Zy (γ := 100) ?_ | refine Z5 ?_ | refine Z6 ?_ | refine Z9 (hcon := hc) ?_ | refine Z9 (hcon := hpu) ?_ | refine Z9 (hcon := hpr) ?_); refine JD ?_) | refine JT ?_ | refine JF ?_ | refine X3 ?_
   refine Xu (Y1 130 rfl) ?_
   refine Xu (Yo 2 130 rfl rfl (by first | rfl | (simp only [List.length_append, List.length_map, List.length_cons, List.length_nil] <;> omega) | fail)) ?_
   exact X1 ⟨_, X9 2 (y := .d (Xh (UInt8.ofNat 2 :: (w0 ++ (w1 ++ [0]))))) (AVal.le_of_eq (by refine Eq.trans (b := AVal.d (.sl 1 (_))) rfl ?_; show _ = AVal.d (.sl 1 ((UInt8.ofNat 2 :: (w0 ++ (w1 ++ [0]))).map Xa)); simp only [List.map_append, List.map_cons, List.map_nil, List.append_assoc, List.cons_append, List.nil_append, List.append_nil] <;> rfl)), ⟨rfl, trivial⟩, X2 _⟩
 have k1 : kd = 1 := by omega
 subst k1
 obtain ⟨h1, hl⟩ := h1 (by decide)
 have hpl := X0k (l.length : Nat) (by omega)
 have hll := Vv (n := (l.length : Nat)) (by omega)
 have hput : YB ⟨1, ts, l, ⟨k, n, name, key, src, dst⟩, off⟩ = UInt8.ofNat 1 :: (Xe ts ++ Xe (l.length : Nat)) ++ Yl l := by unfold YB; simp
 rw [hput]
 clear hput h2 h3 h4 hkd k2 k3
 rw [← hlm] at hpl
 rw [← hlm] at hll ⊢
 generalize Xe ts = w0 at *
 generalize Xe ((l.map Xx).length : Nat) = w1 at *
 simp only [XZ] at *
 refine X8 (xs := [.d (Xh (UInt8.ofNat 1 :: (w0 ++ w1) ++ Yl l))]) Tryz.func17 rfl Tryz.ntmps17 rfl rfl rfl (fun E => ?_)
 refine X0 ?_; refine JR ?_; refine Zy (γ := 100) ?_; refine Z0 ?_; refine JD ?_; refine X0 ?_; refine X0 ?_; refine JR ?_; refine ZL ?_; refine Z9 (hcon := hc) ?_; refine Zs ?_; refine JD ?_; refine JF ?_
 refine X3 ?_; refine X0 ?_; refine JR ?_; refine Zz ?_; refine ZA ?_; refine Z3 (u := nj 1) (r := n8 1) ?_ (hr := by exact XQ rfl rfl); refine ZX (γ := 130) ?_; refine Z0 ?_; refine JD ?_
 refine X0 ?_; refine JR ?_; refine Z1 ?_; refine Zz ?_; refine ZA ?_; refine Z9 (hcon := hpu) ?_; refine Z6 ?_; refine Z0 ?_; refine JD ?_; refine X0 ?_; refine X0 ?_; refine JR ?_; refine Zz ?_
 refine ZA ?_; refine Zu ?_; refine JD ?_; refine JT ?_; refine X0 ?_; refine JR ?_; refine Z1 ?_; refine Zz ?_; refine ZA ?_; refine Zd ?_; refine Z9 (hcon := hpl) ?_; refine Z6 ?_; refine Z0 ?_; refine JD ?_
 refine X0 ?_; refine JR ?_; refine Z0 ?_; refine JD ?_; refine X5 ?_
 generalize hA : UInt8.ofNat 1 :: (w0 ++ w1) = A at *
 have hAl : A.length ≤ 21 := by rw [← hA]; simp only [List.length_cons, List.length_append]; omega
 refine XR (ι := Nat) (fun i => i ≤ l.length) (fun i => ⟨57, [(1, .ptr 100 0), (3, .own 130 ((A ++ Yl (l.take i)).map Xa).length), (4, ai i)], [(100, .box [ai 1, ai ts, .d (.sl 10 (l.map Xx)), ai k, ai n, X7 name, X7 key, X7 src, X7 dst, ab off]), (130, .row 1 ((A ++ Yl (l.take i)).map Xa))]⟩) (fun i => l.length - i) 0 (by omega)
  (by
   rw [List.take_zero, X6L]
   subst hA
   exact Xc rfl ⟨JL, (by refine AVal.le_of_eq ?_; refine Eq.trans (b := AVal.own 130 (_ + _)) rfl ?_; congr 1; simp only [List.length_append, List.length_map, List.length_cons, List.length_nil, List.append_assoc, List.cons_append, List.nil_append, List.append_nil] <;> omega), JL, trivial⟩ ⟨rfl, (by refine Eq.trans (b := AObj.row 1 (_ ++ _)) rfl ?_; simp only [List.map_append, List.map_cons, List.map_nil, List.append_assoc, List.cons_append, List.nil_append, List.append_nil] <;> rfl), trivial⟩) ?_
 intro i hi
 have hrow : ((A ++ Yl (l.take i)).map Xa).length ≤ 300000 := by
  have h6 := X1H (l := l.take i) fun c hc => h1 c (List.mem_of_mem_take hc)
  have h7 : (l.take i).length ≤ 1000 := by simp; omega
  simp only [List.length_map, List.length_append]
  omega
 by_cases hil : i < l.length
 case neg =>
  obtain rfl : i = l.length := by omega
  rw [List.take_length] at hrow ⊢
  have hn : ¬ ((l.length : Nat) : Int) < (l.map Xx).length := by omega
  generalize A ++ Yl l = B at *
  refine X0 ?_; refine X0 ?_; refine JR ?_; refine Z1 ?_; refine Zz ?_; refine ZA ?_; refine Zd ?_; refine Z8 ?_; refine JD ?_; refine JF ?_; refine Xv ?_; refine X0 ?_; refine X0 ?_; refine JR ?_
  refine Zz ?_; refine ZA ?_; refine Zu ?_; refine JD ?_; refine JF ?_; refine X3 ?_; refine X0 ?_; refine JR ?_; refine Z1 ?_; refine Z0 ?_; refine JD ?_
  refine Xu (Y1 130 rfl) ?_
  refine Xu (Yo 2 130 rfl rfl rfl) ?_
  exact X1 ⟨_, St.le_refl _, ⟨rfl, trivial⟩, X2 _⟩
 have hn : (i : Int) < (l.map Xx).length := by omega
 obtain ⟨x, hx⟩ := XT (l := l) hil
 have hxc : (l.map Xx)[i]? = some (Xx x) := YR hx
 have hxe := h1 x (List.mem_of_getElem? hx)
 have hcall := X5a x (hch x (List.mem_of_getElem? hx)).2
 have hxl := X2T hxe
 have htk := X4r hx
 unfold VB at hcall
 rw [if_pos hxe] at hcall
 generalize XK x = w at *
 obtain ⟨op, id, xsrc, xdst, xname, ⟨xk, xn, xd, xs, xl⟩⟩ := x
 simp only [Xy, Xx] at hcall hxc
 generalize hB : A ++ Yl (l.take i) = B at *
 refine X0 ?_; refine X0 ?_; refine JR ?_; refine Z1 ?_; refine Zz ?_; refine ZA ?_; refine Zd ?_; refine Z8 ?_; refine JD ?_; refine JT ?_; refine X3 ?_; refine X0 ?_; refine X5 ?_
 refine JR ?_; refine Z1 ?_; refine Zz ?_; refine ZA ?_; refine Z1 ?_; refine ZI ?_; refine ZJ ?_; refine Z9 (hcon := hcall) ?_; refine Z6 ?_; refine Z0 ?_; refine JD ?_; refine JR ?_; refine Z1 ?_; refine Zb ?_
 refine Z0 ?_; refine JD ?_
 refine ⟨i + 1, by omega, by omega, ?_⟩
 dsimp only
 rw [htk, ← List.append_assoc, hB]
 exact Xc rfl ⟨JL, (by refine AVal.le_of_eq ?_; refine Eq.trans (b := AVal.own 130 (_ + _)) rfl ?_; congr 1; simp only [List.length_append, List.length_map, List.length_cons, List.length_nil, List.append_assoc, List.cons_append, List.nil_append, List.append_nil] <;> omega), JL, trivial⟩ ⟨rfl, (by refine Eq.trans (b := AObj.row 1 (_ ++ _)) rfl ?_; simp only [List.map_append, List.map_cons, List.map_nil, List.append_assoc, List.cons_append, List.nil_append, List.append_nil] <;> rfl), trivial⟩
end Go.Fw
namespace Go.Fw
open Go
set_option linter.unusedVariables false
def VT (b : List UInt8) (g : Int → Val × Int × Int) (x : Val) : Prop :=
 ∀ front back : List UInt8, front ++ Xn x ++ back = b → g front.length = (x, (front.length : Int) + (Xn x).length, 0)
theorem X2s : ∀ (l r : List Val), XG (l ++ r) = XG l ++ XG r
 | [], r => rfl
 | v :: l, r => by simp only [List.cons_append, XG, X2s l r, List.append_assoc]
theorem X6D {g : Nat → Int → Val × Int × Int} {b front back : List UInt8} {l : List Val} (hb : front ++ XG l ++ back = b) (hg : ∀ (j : Nat) (x : Val), l[j]? = some x → VT b (g j) x) :
  ∀ j, j ≤ l.length → Xq g front.length j = (l.take j, (front.length : Int) + (XG (l.take j)).length, 0)
 | 0, _ => by simp [Xq, XG]
 | j + 1, hj => by
  have ih := X6D hb hg j (by omega)
  obtain ⟨x, hx⟩ := XT (l := l) (k := j) (by omega)
  have hsp : l = l.take j ++ x :: l.drop (j + 1) := by
   rw [← (List.getElem?_eq_some_iff.1 hx).2, ← List.drop_eq_getElem_cons, List.take_append_drop]
  have hbk := hg j x hx (front ++ XG (l.take j)) (XG (l.drop (j + 1)) ++ back) (by
   rw [← hb]
   conv => rhs; rw [hsp, X2s, XG]
   simp only [List.append_assoc])
  rw [Vg (by rw [ih]), ih]
  simp only
  rw [List.length_append, Int.natCast_add] at hbk
  rw [hbk]
  have ht : l.take (j + 1) = l.take j ++ [x] := by rw [List.take_add_one, hx]; rfl
  rw [ht, X2s]
  simp only [XG, List.append_nil, List.length_append, Int.natCast_add]
  rw [Int.add_assoc]
theorem Xao {k : Int} (h : 0 ≤ k ∧ k ≤ 8) : (((UInt8.ofNat k.toNat).toNat : Nat) : Int) = k := by
 rw [V4 (by omega)]; omega
theorem X4w {m : Nat} {k n d : Int} {s : List UInt8} {l : List Val} (h : X6 m (.mk k n d s l) = true) : 0 ≤ k ∧ k ≤ 8 := by
 rw [X6] at h
 by_cases h0 : k = 0
 ·omega
 by_cases h1 : k = 1
 ·omega
 by_cases h2 : k = 2
 ·omega
 by_cases h3 : k = 3
 ·omega
 by_cases h4 : k = 4
 ·omega
 by_cases h5 : k = 5 ∨ k = 6
 ·omega
 by_cases h7 : k = 7
 ·omega
 by_cases h8 : k = 8
 ·omega
 simp [h0, h1, h2, h3, h4, h5, h7, h8] at h
theorem XaI {m : Nat} {k n d : Int} {s : List UInt8} {l : List Val} (hv : X6 m (.mk k n d s l) = true) {b front back : List UInt8} {gl gp : Nat → Int → Val × Int × Int}
  (hb : front ++ Xn (.mk k n d s l) ++ back = b) (hgl : k = 8 → ∀ (j : Nat) (x : Val), l[j]? = some x → VT b (gl j) x) (hgp : k = 7 → ∀ (j : Nat) (x : Val), l[j]? = some x → VT b (gp j) x) :
  XS gl gp b ((front.length : Int) + 1) k = (.mk k n d s l, (front.length : Int) + (Xn (.mk k n d s l)).length, 0) := by
 have hk := X4w hv
 rw [Xn] at hb ⊢
 have hfl : ((front.length : Int) + 1) = ((front ++ [UInt8.ofNat k.toNat]).length : Nat) := by simp
 rw [hfl]
 have hb' : ∀ w, front ++ UInt8.ofNat k.toNat :: w ++ back = (front ++ [UInt8.ofNat k.toNat]) ++ w ++ back := fun w => by simp
 rw [hb'] at hb
 have hlen : ∀ w : List UInt8, ((front.length : Int) + ((UInt8.ofNat k.toNat :: w).length : Nat)) = (((front ++ [UInt8.ofNat k.toNat]).length : Nat) : Int) + w.length := fun w => by simp; omega
 rw [hlen]
 generalize front ++ [UInt8.ofNat k.toNat] = F at *
 clear hfl hb' hlen
 rw [X6] at hv
 unfold XS
 by_cases h1 : k = 1 ∨ k = 2 ∨ k = 5 ∨ k = 6
 ·rw [if_pos h1] at hb ⊢
  have hz : d = 0 ∧ s = [] ∧ l = [] ∧ -9223372036854775808 ≤ n ∧ n ≤ 9223372036854775807 := by
   rcases h1 with rfl | rfl | rfl | rfl <;> simp at hv <;> refine ⟨hv.1.1.1, hv.1.1.2, hv.1.2, ?_⟩ <;> omega
  obtain ⟨rfl, rfl, rfl, hn⟩ := hz
  have := X1G hn F back
  rw [hb] at this
  rw [if_pos h1, this]
 rw [if_neg h1] at hb ⊢
 rw [if_neg h1]
 by_cases h3 : k = 3
 ·subst h3
  rw [if_pos rfl] at hb ⊢
  rw [if_pos rfl]
  have hz : (s = [] ∧ l = []) ∧ (-9223372036854775808 ≤ n ∧ n ≤ 9223372036854775807) ∧ -9223372036854775808 ≤ d ∧ d ≤ 9223372036854775807 := by simp [Ub] at hv; exact ⟨⟨hv.1.1, hv.1.2⟩, by omega, by omega⟩
  obtain ⟨⟨rfl, rfl⟩, hn, hd⟩ := hz
  have e1 := X1G hn F (XD d ++ back)
  have e2 := X1G hd (F ++ XD n) back
  rw [show F ++ XD n ++ (XD d ++ back) = b by rw [← hb]; simp] at e1
  rw [show F ++ XD n ++ XD d ++ back = b by rw [← hb]; simp, List.length_append, Int.natCast_add] at e2
  rw [e1]
  simp only
  rw [if_neg (by simp), e2]
  simp only [List.length_append, Int.natCast_add, Int.add_assoc]
 rw [if_neg h3] at hb ⊢
 rw [if_neg h3]
 by_cases h4 : k = 4
 ·subst h4
  rw [if_pos rfl] at hb ⊢
  rw [if_pos rfl]
  have hz : n = 0 ∧ d = 0 ∧ l = [] ∧ s.length ≤ 100 := by simp at hv; exact ⟨hv.2.1.1, hv.1.1, hv.1.2, hv.2.1.2⟩
  obtain ⟨rfl, rfl, rfl, hs⟩ := hz
  have := X7i (s := s) (most := 100) (by omega) (by omega) F back
  rw [hb] at this
  rw [this]
 rw [if_neg h4] at hb ⊢
 rw [if_neg h4]
 by_cases h7 : k = 7 ∨ k = 8
 ·rw [if_pos h7] at hb ⊢
  rw [if_pos h7]
  have hz : n = 0 ∧ d = 0 ∧ s = [] ∧ YC k l.length = false ∧ l.length ≤ 64 := by
   rcases h7 with rfl | rfl
   ·simp at hv
    exact ⟨hv.2.1.1, hv.1.1, hv.1.2, by simp [YC]; omega, by omega⟩
   ·simp at hv
    exact ⟨hv.2.1.1, hv.1.1, hv.1.2, by simp [YC]; omega, by omega⟩
  obtain ⟨rfl, rfl, rfl, hcb, hl⟩ := hz
  have e1 := X2K (n := l.length) ⟨by omega, by omega⟩ F (XG l ++ back)
  rw [show F ++ Xe l.length ++ (XG l ++ back) = b by rw [← hb]; simp] at e1
  rw [e1]
  simp only
  rw [if_neg (by simp), hcb, if_neg (by simp), Int.toNat_natCast]
  have hall : ∀ (j : Nat) (x : Val), l[j]? = some x → VT b ((if k = 8 then gl else gp) j) x := by
   intro j x hx
   by_cases h8 : k = 8
   ·rw [if_pos h8]; exact hgl h8 j x hx
   ·rw [if_neg h8]; exact hgp (by omega) j x hx
  have e2 := X6D (g := if k = 8 then gl else gp) (b := b) (front := F ++ Xe l.length) (back := back) (l := l) (by rw [← hb]; simp) hall l.length (Nat.le_refl _)
  rw [List.take_length, List.length_append, Int.natCast_add] at e2
  rw [e2]
  simp only [List.length_append, Int.natCast_add, Int.add_assoc]
 rw [if_neg h7] at hb ⊢
 rw [if_neg h7]
 have h0 : k = 0 := by omega
 subst h0
 simp at hv
 obtain ⟨⟨⟨rfl, rfl⟩, rfl⟩, rfl⟩ := hv
 simp
theorem X68 {m : Nat} {k n d : Int} {s : List UInt8} {l : List Val} (hv : X6 m (.mk k n d s l) = true) (hm : m ≤ 8) {want : Int} (hw : want = 0 ∨ want = k) {b front back : List UInt8} {gl gp : Nat → Int → Val × Int × Int}
  (hb : front ++ Xn (.mk k n d s l) ++ back = b) (hgl : k = 8 → ∀ (j : Nat) (x : Val), l[j]? = some x → VT b (gl j) x) (hgp : k = 7 → ∀ (j : Nat) (x : Val), l[j]? = some x → VT b (gp j) x) :
  Yw gl gp m b front.length want = (.mk k n d s l, (front.length : Int) + (Xn (.mk k n d s l)).length, 0) := by
 have hk := X4w hv
 have hc := XaI hv hb hgl hgp
 have hv8 := X33 _ m 8 hm hv
 have hget : b[front.length]? = some (UInt8.ofNat k.toNat) := by rw [← hb, Xn]; simp
 have hlt : front.length < b.length := (List.getElem?_eq_some_iff.1 hget).1
 have hm8 : k = 8 → m ≠ 0 := by
  rintro rfl rfl
  have := (X7p hv).2.1
  omega
 unfold Yw
 rw [if_neg (by omega), Int.toNat_natCast, hget, Option.getD_some]
 simp only
 rw [Xao hk, if_neg (by omega), hc]
 simp only
 rw [if_neg (fun h => by rw [hv8] at h; exact absurd h.2 (by decide))]
theorem X9c {b : List UInt8} {i : Nat} {x : Val} (hv : X6 0 x = true) (hk : x.kind = 5 + (i % 2 : Nat)) : VT b (YM b i) x := by
 obtain ⟨k, n, d, s, l⟩ := x
 simp only [Val.kind] at hk
 intro front back hb
 unfold YM X0Z
 exact X68 hv (by omega) (.inr hk.symm) hb (fun h => by omega) (fun h => by omega)
theorem X4C : ∀ {l : List Val} {i j : Nat} {x : Val}, Yx i l = true → l[j]? = some x → x.kind = 5 + ((i + j) % 2 : Nat) ∧ X6 0 x = true
 | [], _, _, _, _, h => by simp at h
 | v :: r, i, 0, x, hp, h => by
  rw [Yx, Bool.and_eq_true, Bool.and_eq_true] at hp
  simp at h
  subst h
  exact ⟨of_decide_eq_true hp.1.1, hp.1.2⟩
 | v :: r, i, j + 1, x, hp, h => by
  rw [Yx, Bool.and_eq_true, Bool.and_eq_true] at hp
  have := X4C hp.2 (j := j) (x := x) (by simpa using h)
  rwa [show i + 1 + j = i + (j + 1) by omega] at this
theorem X8Q {m : Nat} {n d : Int} {s : List UInt8} {l : List Val} (h : X6 m (.mk 7 n d s l) = true) : Yx 0 l = true := by
 rw [X6] at h
 simp at h
 exact h.2.2
theorem X7h {b : List UInt8} : ∀ (v : Val) (m : Nat), X6 m v = true → m ≤ 8 → VT b (U9 b m) v
 | .mk k n d s l, m, hv, hm => by
  intro front back hb
  rw [Va]
  refine X68 hv hm (.inl rfl) hb (fun h8 j x hx => ?_) (fun h7 j x hx => ?_)
  ·subst h8
   obtain ⟨_, hm1, hl⟩ := X7p hv
   cases m with
   | zero => omega
   | succ m' => exact X7h x m' (X3n hl (List.mem_of_getElem? hx)) (by omega)
  ·subst h7
   have hp := X4C (X8Q hv) hx
   rw [Nat.zero_add] at hp
   exact X9c hp.2 hp.1
termination_by v => SizeOf.sizeOf v
decreasing_by
 have h1 := List.sizeOf_lt_of_mem (List.mem_of_getElem? hx)
 simp only [Val.mk.sizeOf_spec]
 omega
theorem X9j {v : Val} (hv : X6 8 v = true) (front back : List UInt8) : Y5 (front ++ XV v ++ back) front.length = (v, (front.length : Int) + (XV v).length, 0) := by
 rw [show XV v = Xn v by unfold XV; rw [hv]; rfl]
 have h := X7h (b := front ++ Xn v ++ back) v 8 hv (by omega) front back rfl
 unfold Y5
 rw [if_neg (by simp; omega), h]
 rfl
end Go.Fw
namespace Go.Fw
open Go
set_option linter.unusedVariables false
theorem X1a {b : List UInt8} {a : Int} (h : 0 ≤ a) (h2 : a ≤ b.length) : only b a a [] := ⟨h, by omega, h2, by simp⟩
theorem Uv {b : List UInt8} {a m e : Int} {w1 w2 : List UInt8} (h1 : only b a m w1) (h2 : only b m e w2) : only b a e (w1 ++ w2) := by
 obtain ⟨k1, k2, k3, k4⟩ := h1
 obtain ⟨j1, j2, j3, j4⟩ := h2
 refine ⟨k1, by omega, j3, ?_⟩
 rw [show (e - a).toNat = (m - a).toNat + (e - m).toNat by omega, List.take_add, k4, List.drop_drop, show a.toNat + (m - a).toNat = m.toNat by omega, j4]
theorem X6u {b : List UInt8} {a : Int} {c : UInt8} (h0 : 0 ≤ a) (h : b[a.toNat]? = some c) : only b a (a + 1) [c] := by
 obtain ⟨hl, he⟩ := List.getElem?_eq_some_iff.1 h
 refine ⟨h0, by omega, by omega, ?_⟩
 rw [show (a + 1 - a).toNat = 1 by omega, List.drop_eq_getElem_cons hl, he]
 rfl
def VR (b : List UInt8) (g : Nat → Int → Val × Int × Int) : Prop := ∀ (i : Nat) (q : Int) (x : Val) (e : Int), 0 ≤ q → q ≤ b.length → g i q = (x, e, 0) → only b q e (Xn x)
theorem X6K {g : Nat → Int → Val × Int × Int} {b : List UInt8} {a : Int} (hg : VR b g) (h0 : 0 ≤ a) (h1 : a ≤ b.length) : ∀ (j : Nat) (l : List Val) (e : Int), Xq g a j = (l, e, 0) → only b a e (XG l) ∧ l.length = j
 | 0, l, e, h => by
  simp only [Xq, Prod.mk.injEq] at h
  obtain ⟨rfl, rfl, _⟩ := h
  exact ⟨X1a h0 h1, rfl⟩
 | j + 1, l, e, h => by
  by_cases hz : (Xq g a j).2.2 = 0
  ·rw [Vg hz] at h
   have ih := X6K hg h0 h1 j (Xq g a j).1 (Xq g a j).2.1 (by rw [← hz])
   generalize (Xq g a j).1 = l0 at *
   generalize (Xq g a j).2.1 = q at *
   obtain ⟨⟨i1, i2⟩, i3⟩ := ih
   simp only [Prod.mk.injEq] at h
   obtain ⟨rfl, rfl, h3⟩ := h
   have hx := hg j q (g j q).1 (g j q).2.1 (by omega) (by omega) (by rw [← h3])
   refine ⟨?_, by simp [i3]⟩
   rw [X2s]
   have := Uv ⟨i1, i2⟩ hx
   simpa [XG] using this
  ·rw [Vz hz (j + 1) (by omega)] at h
   exact absurd (congrArg (fun r => r.2.2) h) hz
theorem X6n (c : UInt8) : UInt8.ofNat (((c.toNat : Nat) : Int)).toNat = c := by simp
theorem XaU {gl gp : Nat → Int → Val × Int × Int} {b : List UInt8} {a k : Int} {v : Val} {e : Int} (hgl : VR b gl) (hgp : VR b gp) (h0 : 0 ≤ a) (h1 : a ≤ b.length) (h : XS gl gp b a k = (v, e, 0)) :
  ∃ w, only b a e w ∧ Xn v = UInt8.ofNat k.toNat :: w := by
 unfold XS at h
 split at h
 ·rename_i hk
  simp only [Prod.mk.injEq] at h
  obtain ⟨rfl, rfl, h3⟩ := h
  have := X2g (b := b) (a := a) (n := (Xl b a).1) (e := (Xl b a).2.1) (by rw [← h3])
  exact ⟨_, this.1, by rw [Xn, if_pos hk]⟩
 rename_i hk1
 split at h
 ·rename_i hk
  subst hk
  simp only at h
  split at h
  ·rename_i h3
   simp only [Prod.mk.injEq] at h
   exact absurd h.2.2 h3
  rename_i h3
  have h3 : (Xl b a).2.2 = 0 := by simpa using h3
  simp only [Prod.mk.injEq] at h
  obtain ⟨rfl, rfl, h4⟩ := h
  have e1 := X2g (b := b) (a := a) (n := (Xl b a).1) (e := (Xl b a).2.1) (by rw [← h3])
  have e2 := X2g (b := b) (a := (Xl b a).2.1) (n := (Xl b (Xl b a).2.1).1) (e := (Xl b (Xl b a).2.1).2.1) (by rw [← h4])
  exact ⟨_, Uv e1.1 e2.1, by rw [Xn]; simp⟩
 rename_i hk3
 split at h
 ·rename_i hk
  subst hk
  simp only [Prod.mk.injEq] at h
  obtain ⟨rfl, rfl, h3⟩ := h
  have := X0S (b := b) (a := a) (s := (Y3 b a 100).1) (e := (Y3 b a 100).2.1) (most := 100) (by rw [← h3])
  exact ⟨_, this.1, by rw [Xn]; simp⟩
 rename_i hk4
 split at h
 ·rename_i hk
  simp only at h
  split at h
  ·rename_i h3
   simp only [Prod.mk.injEq] at h
   exact absurd h.2.2 h3
  rename_i h3
  split at h
  ·simp at h
  have h3 : (Xg b a).2.2 = 0 := by simpa using h3
  have e1 := X08 (b := b) (a := a) (n := (Xg b a).1) (e := (Xg b a).2.1) (by rw [← h3])
  simp only [Prod.mk.injEq] at h
  obtain ⟨rfl, rfl, h4⟩ := h
  have hall : VR b (if k = 8 then gl else gp) := by
   split
   ·exact hgl
   ·exact hgp
  obtain ⟨⟨k1, k2, k3, k4⟩, k5, k6, k7⟩ := e1
  have e2 := X6K (g := if k = 8 then gl else gp) (b := b) (a := (Xg b a).2.1) hall (by omega) (by omega) (Xg b a).1.toNat _ _ (by rw [← h4])
  refine ⟨_, Uv ⟨k1, k2, k3, k4⟩ e2.1, ?_⟩
  rw [Xn, if_neg hk1, if_neg hk3, if_neg hk4, if_pos hk, e2.2]
  rw [show (((Xg b a).1.toNat : Nat) : Int) = (Xg b a).1 by omega]
 rename_i hk7
 simp only [Prod.mk.injEq] at h
 obtain ⟨rfl, rfl, _⟩ := h
 exact ⟨[], X1a h0 h1, by rw [Xn, if_neg hk1, if_neg hk3, if_neg hk4, if_neg hk7]⟩
theorem X2O {gl gp : Nat → Int → Val × Int × Int} {m : Nat} {b : List UInt8} {a want : Int} {v : Val} {e : Int} (hgl : VR b gl) (hgp : VR b gp) (h0 : 0 ≤ a) (h1 : a ≤ b.length) (h : Yw gl gp m b a want = (v, e, 0)) : only b a e (Xn v) := by
 unfold Yw at h
 split at h
 ·simp at h
 rename_i h2
 obtain ⟨c, hc⟩ := XT (l := b) (k := a.toNat) (by omega)
 rw [hc, Option.getD_some] at h
 simp only at h
 split at h
 ·simp at h
 split at h
 ·simp at h
 obtain ⟨w, hw, hp⟩ := XaU hgl hgp (by omega) (by omega) h
 rw [hp, X6n]
 exact Uv (X6u h0 hc) hw
theorem X4o {b : List UInt8} : VR b noG := fun i q x e _ _ h => by simp [noG] at h
theorem X75 {b : List UInt8} : VR b (YM b) := fun i q x e h0 h1 h => by
 unfold YM X0Z at h
 exact X2O X4o X4o h0 h1 h
theorem X5O {b : List UInt8} : ∀ (m : Nat) (a : Int) (v : Val) (e : Int), 0 ≤ a → a ≤ b.length → U9 b m a = (v, e, 0) → only b a e (Xn v)
 | 0, a, v, e, h0, h1, h => by
  rw [Va] at h
  exact X2O X4o X75 h0 h1 h
 | m + 1, a, v, e, h0, h1, h => by
  rw [Va] at h
  exact X2O (gl := UW b (m + 1)) (fun i q x e h0 h1 h => X5O m q x e h0 h1 h) X75 h0 h1 h
theorem X7L {b : List UInt8} {a e : Int} {v : Val} (h : Y5 b a = (v, e, 0)) : only b a e (XV v) ∧ X6 8 v = true ∧ (Xn v).length ≤ b.length := by
 unfold Y5 at h
 split at h
 ·simp at h
 simp only at h
 split at h
 ·rename_i h2
  simp only [Prod.mk.injEq] at h
  exact absurd h.2.2 h2
 rename_i h1 h2
 have ho := X5O 8 a v e (by omega) (by omega) h
 have hv : X6 8 v = true := by
  have := X37 (gl := UW b 8) (gp := YM b) (m := 8) (b := b) (a := a) (want := 0) (by rw [← Va, h])
  rw [← Va, h] at this
  exact this
 have hl : (Xn v).length ≤ b.length := by
  rw [← ho.2.2.2]
  simp
  omega
 refine ⟨?_, hv, hl⟩
 unfold XV
 rw [if_pos hv]
 exact ho
end Go.Fw
namespace Go.Fw
open Go
set_option linter.unusedVariables false
theorem X39 {b : List UInt8} {a limit k a1 : Int} (h0 : 0 ≤ a) (h : rkI b a 0 limit = (k, a1, 0)) : only b a a1 [UInt8.ofNat k.toNat] ∧ a1 = a + 1 ∧ 1 ≤ k ∧ k ≤ limit := by
 unfold rkI rkS at h
 rw [if_neg (by simp), if_neg (by simp)] at h
 split at h
 ·simp at h
 ·rename_i h1
  split at h
  ·simp at h
  ·rename_i h2
   obtain ⟨c, hc⟩ : ∃ c, b[a.toNat]? = some c := ⟨_, List.getElem?_eq_getElem (by omega)⟩
   rw [hc] at h h2
   simp only [Option.getD_some, Prod.mk.injEq] at h h2
   obtain ⟨rfl, rfl, _⟩ := h
   refine ⟨?_, by omega, by omega, by omega⟩
   rw [X6n, show ((a.toNat : Nat) : Int) + 1 = a + 1 by omega]
   exact X6u h0 hc
theorem X15 {b : List UInt8} {a : Int} : rnS b a 0 = Xg b a := if_neg (by simp)
theorem X3d {b : List UInt8} {a : Int} : rsS b a 0 = Y3 b a 20 := if_neg (by simp)
theorem X27 {b : List UInt8} {a e n m : Int} (h : rnS b a e = (n, m, 0)) : e = 0 := by
 by_cases he : e = 0
 ·exact he
 ·rw [X3Y he] at h
  simp at h
  exact absurd h.2.2 he
theorem Vr {b : List UInt8} {a e m : Int} {s : List UInt8} (h : rsS b a e = (s, m, 0)) : e = 0 := by
 by_cases he : e = 0
 ·exact he
 ·rw [X6b he] at h
  simp at h
  exact absurd h.2.2 he
theorem X57 {b : List UInt8} {a e n m : Int} (h : riS b a e = (n, m, 0)) : e = 0 := by
 by_cases he : e = 0
 ·exact he
 ·rw [X3F he] at h
  simp at h
  exact absurd h.2.2 he
theorem Xbw {b : List UInt8} {a e m : Int} {v : Val} (h : rvS b a e = (v, m, 0)) : e = 0 := by
 by_cases he : e = 0
 ·exact he
 ·rw [X6R he] at h
  simp at h
  exact absurd h.2.2 he
theorem XaQ {b : List UInt8} {a e limit k m : Int} (h : rkI b a e limit = (k, m, 0)) : e = 0 := by
 by_cases he : e = 0
 ·exact he
 ·unfold rkI at h
  rw [if_pos he] at h
  simp at h
  exact absurd h.2.2 he
theorem X59 (c : UInt8) (w : List UInt8) : c :: w = [c] ++ w := rfl
theorem X0V : XH zV := by rw [XH]; exact ⟨by simp, by simp, by rw [Uh]; trivial⟩
theorem Xaf {b : List UInt8} {a at_ : Int} {c : Chg} (h0 : 0 ≤ a) (h : XO b a 0 = (c, at_, 0)) : only b a at_ (XK c) ∧ a < at_ ∧ 1 ≤ c.op ∧ c.op ≤ 8 := by
 unfold XO at h
 simp only at h
 generalize hk : rkI b a 0 8 = k at h
 obtain ⟨op, a1, e1⟩ := k
 simp only at h
 generalize hi : rnS b a1 e1 = i at h
 obtain ⟨id, a2, e2⟩ := i
 simp only at h
 generalize hf : (if op = 6 then rnS b a2 e2 else (0, a2, e2)) = f at h
 obtain ⟨src, a3, e3⟩ := f
 simp only at h
 generalize ht : (if op = 6 then rnS b a3 e3 else (0, a3, e3)) = t at h
 obtain ⟨dst, a4, e4⟩ := t
 simp only at h
 generalize hs : (if XC op = true then rsS b a4 e4 else ([], a4, e4)) = s at h
 obtain ⟨name, a5, e5⟩ := s
 simp only at h
 generalize hv : (if Xz op = true then rvS b a5 e5 else (zV, a5, e5)) = v at h
 obtain ⟨v, a6, e6⟩ := v
 simp only [Prod.mk.injEq] at h
 obtain ⟨rfl, rfl, rfl⟩ := h
 have z5 : e5 = 0 := by
  split at hv
  ·exact Xbw hv
  ·simp at hv; exact hv.2.2
 subst z5
 have z4 : e4 = 0 := by
  split at hs
  ·exact Vr hs
  ·simp at hs; exact hs.2.2
 subst z4
 have z3 : e3 = 0 := by
  split at ht
  ·exact X27 ht
  ·simp at ht; exact ht.2.2
 subst z3
 have z2 : e2 = 0 := by
  split at hf
  ·exact X27 hf
  ·simp at hf; exact hf.2.2
 subst z2
 have z1 := X27 hi
 subst z1
 obtain ⟨p1, p2, p3, p4⟩ := X39 h0 hk
 rw [X15] at hi
 obtain ⟨q1, q2, q3, q4⟩ := X08 hi
 have r1 : only b a2 a4 (if op = 6 then Xe src ++ Xe dst else []) ∧ a2 ≤ a4 := by
  by_cases h6 : op = 6
  ·rw [if_pos h6] at hf ht ⊢
   rw [X15] at hf ht
   have x1 := X08 hf
   have x2 := X08 ht
   exact ⟨Uv x1.1 x2.1, by omega⟩
  ·rw [if_neg h6] at hf ht ⊢
   simp at hf ht
   obtain ⟨_, rfl⟩ := hf
   obtain ⟨_, rfl⟩ := ht
   have := q1.2.1
   exact ⟨X1a (by have := p1.1; omega) q1.2.2.1, by omega⟩
 have r2 : only b a4 a5 (if XC op = true then Xo name else []) ∧ a4 ≤ a5 := by
  by_cases h6 : XC op = true
  ·rw [if_pos h6] at hs ⊢
   rw [X3d] at hs
   have x1 := X0S hs
   exact ⟨x1.1, by omega⟩
  ·rw [if_neg h6] at hs ⊢
   simp at hs
   obtain ⟨_, rfl⟩ := hs
   exact ⟨X1a (by have := r1.1.1; have := r1.1.2.1; omega) r1.1.2.2.1, by omega⟩
 have r3 : only b a5 a6 (if Xz op = true then XV v else []) ∧ a5 ≤ a6 := by
  by_cases h6 : Xz op = true
  ·rw [if_pos h6] at hv ⊢
   rw [X3P] at hv
   have x1 := X7L hv
   exact ⟨x1.1, x1.1.2.1⟩
  ·rw [if_neg h6] at hv ⊢
   simp at hv
   obtain ⟨_, rfl⟩ := hv
   exact ⟨X1a (by have := r2.1.1; have := r2.1.2.1; omega) r2.1.2.2.1, by omega⟩
 refine ⟨?_, by omega, p3, p4⟩
 unfold XK
 simp only
 rw [X59]
 exact Uv p1 (Uv (Uv (Uv q1 r1.1) r2.1) r3.1)
theorem X9U (b : List UInt8) (a e : Int) : (rsS b a e).1.length ≤ 20 := by
 unfold rsS
 split
 ·simp
 ·have := X5U b a 20 (by omega)
  omega
theorem Xal (b : List UInt8) (a e : Int) : XH (rvS b a e).1 := by
 unfold rvS
 split
 ·exact X0V
 ·by_cases hz : (Y5 b a).2.2 = 0
  ·have := X7L (b := b) (a := a) (v := (Y5 b a).1) (e := (Y5 b a).2.1) (by rw [← hz])
   exact X3O _ _ this.2.1
  ·unfold Y5 at hz ⊢
   split
   ·exact X0V
   ·rename_i h1
    rw [if_neg h1] at hz
    simp only at hz ⊢
    split
    ·exact X0V
    ·rename_i h2
     rw [if_neg h2] at hz
     exact absurd (by simpa using h2) hz
theorem X4m (b : List UInt8) (a e : Int) : X05 (XO b a e).1 := by
 unfold XO
 constructor
 ·simp only
  by_cases h : XC (rkI b a e 8).1 = true
  ·simp only [if_pos h]
   exact Nat.le_trans (X9U _ _ _) (by omega)
  ·simp only [if_neg h]
   simp
 ·simp only
  by_cases h : Xz (rkI b a e 8).1 = true
  ·simp only [if_pos h]
   exact Xal _ _ _
  ·simp only [if_neg h]
   exact X0V
theorem Xa5 {b : List UInt8} {a at_ : Int} {r : Rul} (h0 : 0 ≤ a) (h : Y6 b a 0 = (r, at_, 0)) : only b a at_ (Ym r) ∧ a < at_ := by
 unfold Y6 at h
 simp only at h
 generalize hk : rkI b a 0 7 = k at h
 obtain ⟨kd, a1, e1⟩ := k
 simp only at h
 generalize h1 : rsS b a1 e1 = s at h
 obtain ⟨s1, a2, e2⟩ := s
 simp only at h
 generalize h2 : rsS b a2 e2 = s at h
 obtain ⟨s2, a3, e3⟩ := s
 simp only at h
 generalize h3 : rsS b a3 e3 = s at h
 obtain ⟨s3, a4, e4⟩ := s
 simp only at h
 generalize h4 : rsS b a4 e4 = s at h
 obtain ⟨s4, a5, e5⟩ := s
 simp only at h
 generalize h5 : riS b a5 e5 = s at h
 obtain ⟨n, a6, e6⟩ := s
 simp only [Prod.mk.injEq] at h
 obtain ⟨rfl, rfl, rfl⟩ := h
 obtain rfl := X57 h5
 obtain rfl := Vr h4
 obtain rfl := Vr h3
 obtain rfl := Vr h2
 obtain rfl := Vr h1
 rw [X3d] at h1 h2 h3 h4
 rw [X2p] at h5
 obtain ⟨p1, p2, p3, p4⟩ := X39 h0 hk
 have x1 := X0S h1
 have x2 := X0S h2
 have x3 := X0S h3
 have x4 := X0S h4
 have x5 := X2g h5
 refine ⟨?_, by omega⟩
 unfold Ym
 simp only
 rw [X59]
 exact Uv p1 (Uv (Uv (Uv (Uv x1.1 x2.1) x3.1) x4.1) x5.1)
end Go.Fw
