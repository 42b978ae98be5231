/- The check of a record: the program's and the reference's. -/
import Derived.Test.YtpfldfkhgplcgaaGreatDoorM23
set_option maxHeartbeats 16000000
namespace Go.Fw
open Go Go.Proofs
set_option maxRecDepth 100000
set_option linter.unusedVariables false
set_option linter.unusedSimpArgs false
theorem X11 : X2q Tryz.prog 56 = some [.i .i64, .i .i64, .s, .s, .s, .s] := by kernel_rfl
def Yz : Rcd → AVal
 | ⟨kd, ts, l, ⟨k, n, name, key, src, dst⟩, off⟩ => .agg [ai kd, ai ts, .d (.sl 10 (l.map XT)), ai k, ai n, Xc name, Xc key, Xc src, Xc dst, ab off]
def Vx (r : Rcd) : Prop := r.changes.length ≤ 9223372036854775807 ∧ ∀ c ∈ r.changes, X3C c
theorem Xcn (s : List UInt8) : (X7 s).data.toList = s := by simp [X7]
theorem eqZ (k n : Int) (name key src dst : List UInt8) : VH [.int .i64 k, .int .i64 n, .string (X7 name), .string (X7 key), .string (X7 src), .string (X7 dst)] [.int .i64 0, .int .i64 0, .string (X7 []), .string (X7 []), .string (X7 []), .string (X7 [])] = X0G ⟨k, n, name, key, src, dst⟩ := by
 unfold X0G
 simp only [VH, X0D, Xcn, Bool.and_true]
 by_cases h1 : k = 0 <;> by_cases h2 : n = 0 <;> by_cases h3 : name = [] <;> by_cases h4 : key = [] <;> by_cases h5 : src = [] <;> by_cases h6 : dst = [] <;> simp [*]
theorem X7O {l : List Chg} {i : Nat} {x : Chg} (h : l[i]? = some x) : UD (l.drop i) = if YM x ≠ 0 then YM x else UD (l.drop (i + 1)) := by
 rw [List.drop_eq_getElem_cons (List.getElem?_eq_some_iff.1 h).1, (List.getElem?_eq_some_iff.1 h).2, UD]
theorem X76 (r : Rcd) (hok : Vx r) : Con Tryz.prog 65 [] [Yz r] [] (ai (Yy r)) := by
 obtain ⟨kd, ts, l, ⟨k, n, name, key, src, dst⟩, off⟩ := r
 obtain ⟨hlen, hch⟩ := hok
 simp only at hlen hch
 have hlm : (l.map XT).length = l.length := by simp
 refine Xa (xs := [ai (Yy ⟨kd, ts, l, ⟨k, n, name, key, src, dst⟩, off⟩)]) Tryz.func65 rfl Tryz.ntmps65 rfl rfl rfl (fun E => ?_)
 have hz := eqZ k n name key src dst
 have hr := XdS ⟨k, n, name, key, src, dst⟩
 unfold Yy
 simp only [Yz, Uv] at hr ⊢
 generalize X0G ⟨k, n, name, key, src, dst⟩ = z at *
 generalize V2 ⟨k, n, name, key, src, dst⟩ = re at *
 by_cases h1 : ¬ (1 ≤ kd ∧ kd ≤ 3 ∧ 0 ≤ ts ∧ ts ≤ 1000000000000000)
 ·rw [if_pos h1]
  refine QAb ?_; refine Z8 ?_; refine Z1 ?_; refine XR rfl rfl (fun hq => ?_) (fun hq => ?_); refine QSc ?_; refine QQa ?_; exact QRa; refine QHa ?_; refine Qba ?_; refine Z1 ?_; refine XR rfl rfl (fun hq => ?_) (fun hq => ?_); refine QSc ?_; exact QRa; refine QHa ?_; refine Z8 ?_; refine Zq ?_; refine Z1 ?_; refine XR rfl rfl (fun hq => ?_) (fun hq => ?_); refine QSc ?_; exact Qea; refine QHa ?_; exact QTa
 rw [if_neg h1]
 by_cases h2 : (kd ≠ 1 ∧ 0 < l.length) ∨ (kd ≠ 2 ∧ (off = true ∨ z = false))
 ·rw [if_pos h2]
  refine QAb ?_; refine Z8 ?_; refine QKa ?_; refine Qba ?_; refine QKa ?_; refine Z8 ?_; refine QAc ?_; refine Zs ?_; refine QGd ?_; refine Zv ?_; refine Z1 ?_; refine XR rfl rfl (fun hq => ?_) (fun hq => ?_); refine QHd ?_; refine Zs ?_; refine QEc ?_; refine XR rfl rfl (fun hq => ?_) (fun hq => ?_); refine QGc ?_; refine QQc ?_; refine QRc ?_; exact Qea; refine QTc ?_; refine QKa ?_; refine Z1 ?_; refine X1I rfl rfl (fun hq => ?_) (fun hq => ?_); refine QGc ?_; refine Zn ?_; exact QId; refine QJd ?_; refine QKd ?_; refine XU rfl (fun hq => ?_) (fun hq => ?_); exact Qia; refine QLd ?_; refine Qqb ?_; refine QMd ?_; (exfalso; clear hr hz; simp_all <;> omega); refine QGc ?_; refine QAc ?_; refine Zv ?_; refine QKa ?_; refine Z1 ?_; refine X1I rfl rfl (fun hq => ?_) (fun hq => ?_); refine QGc ?_; refine Zn ?_; exact QId; refine QJd ?_; refine QKd ?_; refine XU rfl (fun hq => ?_) (fun hq => ?_); exact Qia; refine QLd ?_; refine Qqb ?_; refine QMd ?_; (exfalso; clear hr hz; simp_all <;> omega)
 rw [if_neg h2]
 by_cases h3 : kd = 2
 ·subst h3
  rw [if_pos rfl]
  have h4 : ¬ 0 < l.length := by omega
  repeat first | refine X0 ?_ | (refine JR ?_; (repeat first | refine Z1 ?_ | refine Z0 ?_ | refine ZB ?_ | refine ZC ?_ | refine ZL ?_ | refine Zd ?_ | refine Z8 ?_ | refine Zs ?_ | refine Zl ?_ | refine Zv ?_ | refine ZA (γ := 100) ?_ | refine Zn ?_ | refine Zq ?_ | refine Zo ?_ | refine Zp ?_ | refine Z9 (hcon := hr) ?_); refine JD ?_) | refine JT ?_ | refine JF ?_ | refine X4 ?_
  exact QN
 rw [if_neg h3]
 have hoz : off = false ∧ z = true := by cases off <;> cases z <;> simp_all
 obtain ⟨ho, hz1⟩ := hoz
 have hk : kd = 1 ∨ (kd = 3 ∧ ¬ 0 < l.length) := by omega
 rcases hk with hk1 | ⟨hk1, hn0⟩
 case inr =>
  obtain rfl : l = [] := List.eq_nil_of_length_eq_zero (by omega)
  clear h2 hlm hch hlen
  repeat first | refine X0 ?_ | (refine JR ?_; (repeat first | refine Z06 (us := [.int .i64 k, .int .i64 n, .string (X7 name), .string (X7 key), .string (X7 src), .string (X7 dst)]) (vs := [.int .i64 0, .int .i64 0, .string (X7 []), .string (X7 []), .string (X7 []), .string (X7 [])]) (r := z) ?_ (hk := by exact X11) (hr := by exact hz) | refine Z1 ?_ | refine Z0 ?_ | refine ZB ?_ | refine ZC ?_ | refine ZL ?_ | refine Zd ?_ | refine Z8 ?_ | refine Zs ?_ | refine Zl ?_ | refine Zv ?_ | refine ZA (γ := 100) ?_ | refine Zx ?_ | refine Zn ?_ | refine Zq ?_); refine JD ?_) | refine JF ?_ | refine X5 ?_ | refine X4 ?_
  refine Xu (ι := Nat) (fun i => i = 0) (fun i => ⟨71, [(1, .ptr 100 0), (55, .d (.sl 10 [])), (56, ai 0), (57, ai i)], [(100, .box [ai kd, ai ts, .d (.sl 10 []), ai k, ai n, Xc name, Xc key, Xc src, Xc dst, ab off])]⟩) (fun i => 0) 0 rfl
   (X9 rfl JM ⟨rfl, trivial⟩) ?_
  rintro i rfl
  refine QM ?_; exact QNd
 generalize hG : UD l = G
 repeat first | refine X0 ?_ | (refine JR ?_; (repeat first | refine Z06 (us := [.int .i64 k, .int .i64 n, .string (X7 name), .string (X7 key), .string (X7 src), .string (X7 dst)]) (vs := [.int .i64 0, .int .i64 0, .string (X7 []), .string (X7 []), .string (X7 []), .string (X7 [])]) (r := z) ?_ (hk := by exact X11) (hr := by exact hz) | refine Z1 ?_ | refine Z0 ?_ | refine ZB ?_ | refine ZC ?_ | refine ZL ?_ | refine Zd ?_ | refine Z8 ?_ | refine Zs ?_ | refine Zl ?_ | refine Zv ?_ | refine ZA (γ := 100) ?_ | refine Zx ?_ | refine Zn ?_ | refine Zq ?_ | refine Zo ?_); refine JD ?_) | refine JF ?_ | refine X5 ?_ | refine X4 ?_
 refine Xu (ι := Nat) (fun i => i ≤ l.length ∧ UD (l.drop i) = G) (fun i => ⟨71, [(1, .ptr 100 0), (55, .d (.sl 10 (l.map XT))), (56, ai (l.map XT).length), (57, ai i)], [(100, .box [ai kd, ai ts, .d (.sl 10 (l.map XT)), ai k, ai n, Xc name, Xc key, Xc src, Xc dst, ab off])]⟩) (fun i => l.length - i) 0 ⟨by omega, hG⟩
  (X9 rfl JM ⟨rfl, trivial⟩) ?_
 rintro i ⟨hi, hg⟩
 by_cases hil : i < l.length
 case neg =>
  obtain rfl : i = l.length := by omega
  rw [List.drop_length, UD] at hg
  subst hg
  rw [if_neg (by simp)]
  have hn : ¬ ((l.length : Nat) : Int) < (l.map XT).length := by omega
  by_cases hb : 1000 < l.length
  ·rw [if_pos hb]
   refine QM ?_; refine Qzb ?_; refine QUa ?_; exact Qea
  ·rw [if_neg hb]
   refine QM ?_; exact QNd
 have hn : (i : Int) < (l.map XT).length := by omega
 obtain ⟨x, hx⟩ := Xx (l := l) hil
 have hxc : (l.map XT)[i]? = some (XT x) := YR hx
 have hxo := hch x (List.mem_of_getElem? hx)
 have hcall := XgL x
 rw [X7O hx] at hg
 generalize YM x = e at *
 obtain ⟨op, id, xsrc, xdst, xname, ⟨xk, xn, xd, xs, xl⟩⟩ := x
 simp only [Ye, XT] at hcall hxc
 by_cases he : e = 0
 ·subst he
  rw [if_neg (by simp)] at hg
  refine QD ?_; refine QVa ?_; refine Qrd ?_; refine Qgb ?_; refine Z9 (hcon := hcall) ?_; refine QOd ?_; refine QK ?_; exact ⟨i + 1, ⟨by omega, hg⟩, by omega, X9 rfl JM ⟨rfl, trivial⟩⟩
 ·rw [if_pos he] at hg
  subst hg
  rw [if_pos he]
  refine QD ?_; refine QVa ?_; refine Qrd ?_; refine Qgb ?_; refine Z9 (hcon := hcall) ?_; exact Qpc
theorem Xau : ∀ {l : List Chg}, UD l = 0 → ∀ c ∈ l, YM c = 0
 | [], _, c, hc => by simp at hc
 | x :: r, h, c, hc => by
  rw [UD] at h
  by_cases hx : YM x = 0
  ·rw [if_neg (by simpa using hx)] at h
   rcases List.mem_cons.1 hc with rfl | hc
   ·exact hx
   ·exact Xau h c hc
  ·rw [if_pos hx] at h
   exact absurd h hx
theorem X7o {r : Rcd} (h : Yy r = 0) : (r.kind = 1 ∨ r.kind = 2 ∨ r.kind = 3) ∧ (0 ≤ r.ts ∧ r.ts ≤ 1000000000000000) ∧ (r.kind ≠ 2 → (∀ c ∈ r.changes, YM c = 0) ∧ r.changes.length ≤ 1000) ∧ (r.kind = 2 → V2 r.rule = 0) ∧ (r.kind ≠ 1 → r.changes = []) ∧ (r.kind ≠ 2 → r.off = false ∧ X0G r.rule = true) := by
 unfold Yy at h
 split at h
 ·omega
 rename_i h1
 split at h
 ·omega
 rename_i h2
 refine ⟨by omega, by omega, fun hk => ?_, fun hk => ?_, fun hk => ?_, fun hk => ?_⟩
 ·rw [if_neg hk] at h
  split at h
  ·omega
  ·rename_i h3
   split at h
   ·omega
   ·exact ⟨Xau (by simpa using h3), by omega⟩
 ·rwa [if_pos hk] at h
 ·exact List.eq_nil_of_length_eq_zero (by omega)
 ·cases ho : r.off <;> cases hz : X0G r.rule <;> simp [ho, hz, hk] at h2 ⊢
theorem X9F : YV [] = [] := rfl
theorem XaX {l : List Chg} {i : Nat} {x : Chg} (h : l[i]? = some x) : YV (l.take (i + 1)) = YV (l.take i) ++ Ya x := by
 unfold YV
 rw [List.take_add_one, h]
 simp
theorem X28 {n : Int} (h : 0 ≤ n ∧ n ≤ 9223372036854775807) : (Xh n).length ≤ 10 := by
 rw [Vl h.1]
 exact Vo (by omega)
theorem X6s {c : Chg} (h : YM c = 0) : (Ya c).length ≤ 200 := by
 obtain ⟨h1, h2, h3, h4, h5⟩ := X4H h
 unfold Ya
 have p1 := X28 (n := c.id) (by omega)
 have p2 : (if c.op = 6 then Xh c.src ++ Xh c.dst else []).length ≤ 20 := by
  split
  ·rename_i h6
   have q1 := X28 (n := c.src) (by have := h3 h6; omega)
   have q2 := X28 (n := c.dst) (by have := h3 h6; omega)
   rw [List.length_append]; omega
  ·simp
 have p3 : (if XV c.op = true then Xw c.name else []).length ≤ 30 := by
  split
  ·rename_i h6
   exact Vk (h4 h6)
  ·simp
 have p4 : (if XQ c.op = true then Ym c.v else []).length ≤ 111 := by
  split
  ·rename_i h6
   unfold Ym
   rw [if_pos (h5 h6).1]
   exact (h5 h6).2
  ·simp
 simp only [List.length_cons, List.length_append]
 omega
theorem X57 : ∀ {l : List Chg}, (∀ c ∈ l, YM c = 0) → (YV l).length ≤ 200 * l.length
 | [], _ => by simp [YV]
 | x :: r, h => by
  have h1 := X6s (h x (by simp))
  have h2 := X57 (l := r) fun y hy => h y (by simp [hy])
  unfold YV at *
  simp only [List.map_cons, List.flatten_cons, List.length_append, List.length_cons]
  omega
theorem X74 {r : Rul} (h : V2 r = 0) : (Ua r).length ≤ 200 := by
 obtain ⟨h1, ⟨l1, l2, l3, l4⟩, h3⟩ := X2o h
 have := Vk l1
 have := Vk l2
 have := Vk l3
 have := Vk l4
 have := X2r h1
 unfold Ua
 simp only [List.length_cons, List.length_append]
 omega
theorem Xha (r : Rcd) (hok : Vx r) : Con Tryz.prog 86 [] [Yz r] [] (.d (Xf (U7 r))) := by
 have hc := X76 r hok
 obtain ⟨hlen, hch⟩ := hok
 unfold U7
 by_cases h : Yy r = 0
 case neg =>
  rw [if_neg h]
  generalize Yy r = e at *
  obtain ⟨kd, ts, l, ⟨k, n, name, key, src, dst⟩, off⟩ := r
  simp only [Yz] at *
  refine Xa (xs := [.d (Xf [])]) Tryz.func86 rfl Tryz.ntmps86 rfl rfl rfl (fun E => ?_)
  exact QPd
 rw [if_pos h]
 rw [h] at hc
 obtain ⟨hkd, hts, h1, h2, h3, h4⟩ := X7o h
 clear h
 obtain ⟨kd, ts, l, ⟨k, n, name, key, src, dst⟩, off⟩ := r
 simp only at hlen hch hkd hts h1 h2 h3 h4
 have hpu := X18 ts (by omega)
 have hlu := X28 (n := ts) (by omega)
 have hlm : (l.map XT).length = l.length := by simp
 by_cases k3 : kd = 3
 ·subst k3
  obtain rfl := h3 (by decide)
  have hput : Uu ⟨3, ts, [], ⟨k, n, name, key, src, dst⟩, off⟩ = UInt8.ofNat 3 :: Xh ts := by unfold Uu; simp
  rw [hput]
  generalize Xh ts = w0 at *
  simp only [Yz] at *
  refine Xa (xs := [.d (Xf (UInt8.ofNat 3 :: w0))]) Tryz.func86 rfl Tryz.ntmps86 rfl rfl rfl (fun E => ?_)
  repeat first | refine X0 ?_ | (refine JR ?_; (repeat first | refine Z3 (u := nj 3) (r := n8 3) ?_ (hr := by exact Y6 rfl rfl) | refine ZZ (γ := 130) ?_ | refine Z1 ?_ | refine Z0 ?_ | refine ZB ?_ | refine ZC ?_ | refine ZL ?_ | refine Zl ?_ | refine Zv ?_ | refine ZA (γ := 100) ?_ | refine Z6 ?_ | refine Z9 (hcon := hc) ?_ | refine Z9 (hcon := hpu) ?_); refine JD ?_) | refine JF ?_ | refine X5 ?_ | refine X4 ?_
  refine QRd ?_; exact QSd
 by_cases k2 : kd = 2
 ·subst k2
  obtain rfl := h3 (by decide)
  have h2 := h2 rfl
  have hpr := Xf0 ⟨k, n, name, key, src, dst⟩ h2
  have hlr := X74 h2
  have hput : Uu ⟨2, ts, [], ⟨k, n, name, key, src, dst⟩, off⟩ = UInt8.ofNat 2 :: (Xh ts ++ (Ua ⟨k, n, name, key, src, dst⟩ ++ [if off then 1 else 0])) := by unfold Uu; simp
  rw [hput]
  generalize Xh ts = w0 at *
  generalize Ua ⟨k, n, name, key, src, dst⟩ = w1 at *
  simp only [Yz, Uv] at *
  cases off with
  | true =>
   refine Xa (xs := [.d (Xf (UInt8.ofNat 2 :: (w0 ++ (w1 ++ [1]))))]) Tryz.func86 rfl Tryz.ntmps86 rfl rfl rfl (fun E => ?_)
   repeat first | refine X0 ?_ | (refine JR ?_; (repeat first | refine Z3 (u := nj 2) (r := n8 2) ?_ (hr := by exact Y6 rfl rfl) | refine ZZ (γ := 130) ?_ | refine Z1 ?_ | refine Z0 ?_ | refine ZB ?_ | refine ZC ?_ | refine ZL ?_ | refine Zl ?_ | refine Zv ?_ | refine ZA (γ := 100) ?_ | refine Z5 ?_ | refine Z6 ?_ | refine Z9 (hcon := hc) ?_ | refine Z9 (hcon := hpu) ?_ | refine Z9 (hcon := hpr) ?_); refine JD ?_) | refine JT ?_ | refine JF ?_ | refine X5 ?_ | refine X4 ?_
   refine QRd ?_; exact QTd
  | false =>
   refine Xa (xs := [.d (Xf (UInt8.ofNat 2 :: (w0 ++ (w1 ++ [0]))))]) Tryz.func86 rfl Tryz.ntmps86 rfl rfl rfl (fun E => ?_)
   repeat first | refine X0 ?_ | (refine JR ?_; (repeat first | refine Z3 (u := nj 2) (r := n8 2) ?_ (hr := by exact Y6 rfl rfl) | refine ZZ (γ := 130) ?_ | refine Z1 ?_ | refine Z0 ?_ | refine ZB ?_ | refine ZC ?_ | refine ZL ?_ | refine Zl ?_ | refine Zv ?_ | refine ZA (γ := 100) ?_ | refine Z5 ?_ | refine Z6 ?_ | refine Z9 (hcon := hc) ?_ | refine Z9 (hcon := hpu) ?_ | refine Z9 (hcon := hpr) ?_); refine JD ?_) | refine JT ?_ | refine JF ?_ | refine X5 ?_ | refine X4 ?_
   refine QRd ?_; exact QUd
 have k1 : kd = 1 := by omega
 subst k1
 obtain ⟨h1, hl⟩ := h1 (by decide)
 have hpl := X18 (l.length : Nat) (by omega)
 have hll := X28 (n := (l.length : Nat)) (by omega)
 have hput : Uu ⟨1, ts, l, ⟨k, n, name, key, src, dst⟩, off⟩ = UInt8.ofNat 1 :: (Xh ts ++ Xh (l.length : Nat)) ++ YV l := by unfold Uu; simp
 rw [hput]
 clear hput h2 h3 h4 hkd k2 k3
 rw [← hlm] at hpl
 rw [← hlm] at hll ⊢
 generalize Xh ts = w0 at *
 generalize Xh ((l.map XT).length : Nat) = w1 at *
 simp only [Yz] at *
 refine Xa (xs := [.d (Xf (UInt8.ofNat 1 :: (w0 ++ w1) ++ YV l))]) Tryz.func86 rfl Tryz.ntmps86 rfl rfl rfl (fun E => ?_)
 refine Qlc ?_; refine Z9 (hcon := hc) ?_; refine QEb ?_; refine QIa ?_; refine QVd ?_; refine QHa ?_; refine Z9 (hcon := hpu) ?_; refine Qj ?_; refine Qzb ?_; refine QG ?_; refine Qla ?_; refine Qf ?_; refine QHd ?_; refine Z9 (hcon := hpl) ?_; refine Qj ?_; refine QIa ?_; refine QA ?_
 generalize hA : UInt8.ofNat 1 :: (w0 ++ w1) = A at *
 have hAl : A.length ≤ 21 := by rw [← hA]; simp only [List.length_cons, List.length_append]; omega
 refine Xu (ι := Nat) (fun i => i ≤ l.length) (fun i => ⟨55, [(1, .ptr 100 0), (3, .own 130 ((A ++ YV (l.take i)).map X6).length), (28, .d (.sl 10 (l.map XT))), (29, ai (l.map XT).length), (30, ai i)], [(100, .box [ai 1, ai ts, .d (.sl 10 (l.map XT)), ai k, ai n, Xc name, Xc key, Xc src, Xc dst, ab off]), (130, .row 1 ((A ++ YV (l.take i)).map X6))]⟩) (fun i => l.length - i) 0 (by omega)
  (by
   rw [List.take_zero, X9F]
   subst hA
   exact X9 rfl ⟨JL, (by refine AVal.le_of_eq ?_; refine Eq.trans (b := AVal.own 130 (_ + _)) rfl ?_; congr 1; simp only [List.length_append, List.length_map, List.length_cons, List.length_nil, List.append_assoc, List.cons_append, List.nil_append, List.append_nil] <;> omega), JL, JL, JL, trivial⟩ ⟨rfl, (by refine Eq.trans (b := AObj.row 1 (_ ++ _)) rfl ?_; simp only [List.map_append, List.map_cons, List.map_nil, List.append_assoc, List.cons_append, List.nil_append, List.append_nil] <;> rfl), trivial⟩) ?_
 intro i hi
 have hrow : ((A ++ YV (l.take i)).map X6).length ≤ 300000 := by
  have h6 := X57 (l := l.take i) fun c hc => h1 c (List.mem_of_mem_take hc)
  have h7 : (l.take i).length ≤ 1000 := by simp; omega
  simp only [List.length_map, List.length_append]
  omega
 by_cases hil : i < l.length
 case neg =>
  obtain rfl : i = l.length := by omega
  rw [List.take_length] at hrow ⊢
  have hn : ¬ ((l.length : Nat) : Int) < (l.map XT).length := by omega
  generalize A ++ YV l = B at *
  refine QM ?_; refine Qz ?_; refine QQd ?_; refine Xi (Yc 2 130 rfl rfl rfl) ?_; exact QN
 have hn : (i : Int) < (l.map XT).length := by omega
 obtain ⟨x, hx⟩ := Xx (l := l) hil
 have hxc : (l.map XT)[i]? = some (XT x) := YR hx
 have hxe := h1 x (List.mem_of_getElem? hx)
 have hcall := XeX x hxe
 have hxl := X6s hxe
 have htk := XaX hx
 generalize Ya x = w at *
 obtain ⟨op, id, xsrc, xdst, xname, ⟨xk, xn, xd, xs, xl⟩⟩ := x
 simp only [Ye, XT] at hcall hxc
 generalize hB : A ++ YV (l.take i) = B at *
 refine QD ?_; refine QVa ?_; refine Qrd ?_; refine Ql ?_; refine ZL ?_; refine Z9 (hcon := hcall) ?_; refine Qj ?_; refine QK ?_
 refine ⟨i + 1, by omega, by omega, ?_⟩
 dsimp only
 rw [htk, ← List.append_assoc, hB]
 exact X9 rfl ⟨JL, (by refine AVal.le_of_eq ?_; refine Eq.trans (b := AVal.own 130 (_ + _)) rfl ?_; congr 1; simp only [List.length_append, List.length_map, List.length_cons, List.length_nil, List.append_assoc, List.cons_append, List.nil_append, List.append_nil] <;> omega), JL, JL, JL, trivial⟩ ⟨rfl, (by refine Eq.trans (b := AObj.row 1 (_ ++ _)) rfl ?_; simp only [List.map_append, List.map_cons, List.map_nil, List.append_assoc, List.cons_append, List.nil_append, List.append_nil] <;> rfl), trivial⟩
open Go
def X1r (b : List UInt8) (g : Int → Val × Int × Int) (x : Val) : Prop :=
 ∀ front back : List UInt8, front ++ Xs x ++ back = b → g front.length = (x, (front.length : Int) + (Xs x).length, 0)
theorem X4S : ∀ (l r : List Val), XX (l ++ r) = XX l ++ XX r
 | [], r => rfl
 | v :: l, r => by simp only [List.cons_append, XX, X4S l r, List.append_assoc]
theorem X8g {g : Nat → Int → Val × Int × Int} {b front back : List UInt8} {l : List Val} (hb : front ++ XX l ++ back = b) (hg : ∀ (j : Nat) (x : Val), l[j]? = some x → X1r b (g j) x) :
  ∀ j, j ≤ l.length → Y1 g front.length j = (l.take j, (front.length : Int) + (XX (l.take j)).length, 0)
 | 0, _ => by simp [Y1, XX]
 | j + 1, hj => by
  have ih := X8g hb hg j (by omega)
  obtain ⟨x, hx⟩ := Xx (l := l) (k := j) (by omega)
  have hsp : l = l.take j ++ x :: l.drop (j + 1) := by
   rw [← (List.getElem?_eq_some_iff.1 hx).2, ← List.drop_eq_getElem_cons, List.take_append_drop]
  have hbk := hg j x hx (front ++ XX (l.take j)) (XX (l.drop (j + 1)) ++ back) (by
   rw [← hb]
   conv => rhs; rw [hsp, X4S, XX]
   simp only [List.append_assoc])
  rw [X1S (by rw [ih]), ih]
  simp only
  rw [List.length_append, Int.natCast_add] at hbk
  rw [hbk]
  have ht : l.take (j + 1) = l.take j ++ [x] := by rw [List.take_add_one, hx]; rfl
  rw [ht, X4S]
  simp only [XX, List.append_nil, List.length_append, Int.natCast_add]
  rw [Int.add_assoc]
theorem XdA {k : Int} (h : 0 ≤ k ∧ k ≤ 8) : (((UInt8.ofNat k.toNat).toNat : Nat) : Int) = k := by
 rw [UZ (by omega)]; omega
theorem X9N {m : Nat} {k n d : Int} {s : List UInt8} {l : List Val} (h : X8 m (.mk k n d s l) = true) : 0 ≤ k ∧ k ≤ 8 := by
 rw [X8] at h
 by_cases h0 : k = 0
 ·omega
 by_cases h1 : k = 1
 ·omega
 by_cases h2 : k = 2
 ·omega
 by_cases h3 : k = 3
 ·omega
 by_cases h4 : k = 4
 ·omega
 by_cases h5 : k = 5 ∨ k = 6
 ·omega
 by_cases h7 : k = 7
 ·omega
 by_cases h8 : k = 8
 ·omega
 simp [h0, h1, h2, h3, h4, h5, h7, h8] at h
theorem XbS {m : Nat} {k n d : Int} {s : List UInt8} {l : List Val} (hv : X8 m (.mk k n d s l) = true) {b front back : List UInt8} {gl gp : Nat → Int → Val × Int × Int}
  (hb : front ++ Xs (.mk k n d s l) ++ back = b) (hgl : k = 8 → ∀ (j : Nat) (x : Val), l[j]? = some x → X1r b (gl j) x) (hgp : k = 7 → ∀ (j : Nat) (x : Val), l[j]? = some x → X1r b (gp j) x) :
  YJ gl gp b ((front.length : Int) + 1) k = (.mk k n d s l, (front.length : Int) + (Xs (.mk k n d s l)).length, 0) := by
 have hk := X9N hv
 rw [Xs] at hb ⊢
 have hfl : ((front.length : Int) + 1) = ((front ++ [UInt8.ofNat k.toNat]).length : Nat) := by simp
 rw [hfl]
 have hb' : ∀ w, front ++ UInt8.ofNat k.toNat :: w ++ back = (front ++ [UInt8.ofNat k.toNat]) ++ w ++ back := fun w => by simp
 rw [hb'] at hb
 have hlen : ∀ w : List UInt8, ((front.length : Int) + ((UInt8.ofNat k.toNat :: w).length : Nat)) = (((front ++ [UInt8.ofNat k.toNat]).length : Nat) : Int) + w.length := fun w => by simp; omega
 rw [hlen]
 generalize front ++ [UInt8.ofNat k.toNat] = F at *
 clear hfl hb' hlen
 rw [X8] at hv
 unfold YJ
 by_cases h1 : k = 1 ∨ k = 2 ∨ k = 5 ∨ k = 6
 ·rw [if_pos h1] at hb ⊢
  have hz : d = 0 ∧ s = [] ∧ l = [] ∧ -9223372036854775808 ≤ n ∧ n ≤ 9223372036854775807 := by
   rcases h1 with rfl | rfl | rfl | rfl <;> simp at hv <;> refine ⟨hv.1.1.1, hv.1.1.2, hv.1.2, ?_⟩ <;> omega
  obtain ⟨rfl, rfl, rfl, hn⟩ := hz
  have := X4A hn F back
  rw [hb] at this
  rw [if_pos h1, this]
 rw [if_neg h1] at hb ⊢
 rw [if_neg h1]
 by_cases h3 : k = 3
 ·subst h3
  rw [if_pos rfl] at hb ⊢
  rw [if_pos rfl]
  have hz : (s = [] ∧ l = []) ∧ (-9223372036854775808 ≤ n ∧ n ≤ 9223372036854775807) ∧ -9223372036854775808 ≤ d ∧ d ≤ 9223372036854775807 := by simp [Vc] at hv; exact ⟨⟨hv.1.1, hv.1.2⟩, by omega, by omega⟩
  obtain ⟨⟨rfl, rfl⟩, hn, hd⟩ := hz
  have e1 := X4A hn F (XS d ++ back)
  have e2 := X4A hd (F ++ XS n) back
  rw [show F ++ XS n ++ (XS d ++ back) = b by rw [← hb]; simp] at e1
  rw [show F ++ XS n ++ XS d ++ back = b by rw [← hb]; simp, List.length_append, Int.natCast_add] at e2
  rw [e1]
  simp only
  rw [if_neg (by simp), e2]
  simp only [List.length_append, Int.natCast_add, Int.add_assoc]
 rw [if_neg h3] at hb ⊢
 rw [if_neg h3]
 by_cases h4 : k = 4
 ·subst h4
  rw [if_pos rfl] at hb ⊢
  rw [if_pos rfl]
  have hz : n = 0 ∧ d = 0 ∧ l = [] ∧ s.length ≤ 100 := by simp at hv; exact ⟨hv.2.1.1, hv.1.1, hv.1.2, hv.2.1.2⟩
  obtain ⟨rfl, rfl, rfl, hs⟩ := hz
  have := X7S (s := s) (most := 100) (by omega) (by omega) F back
  rw [hb] at this
  rw [this]
 rw [if_neg h4] at hb ⊢
 rw [if_neg h4]
 by_cases h7 : k = 7 ∨ k = 8
 ·rw [if_pos h7] at hb ⊢
  rw [if_pos h7]
  have hz : n = 0 ∧ d = 0 ∧ s = [] ∧ VM k l.length = false ∧ l.length ≤ 64 := by
   rcases h7 with rfl | rfl
   ·simp at hv
    exact ⟨hv.2.1.1, hv.1.1, hv.1.2, by simp [VM]; omega, by omega⟩
   ·simp at hv
    exact ⟨hv.2.1.1, hv.1.1, hv.1.2, by simp [VM]; omega, by omega⟩
  obtain ⟨rfl, rfl, rfl, hcb, hl⟩ := hz
  have e1 := X2C (n := l.length) ⟨by omega, by omega⟩ F (XX l ++ back)
  rw [show F ++ Xh l.length ++ (XX l ++ back) = b by rw [← hb]; simp] at e1
  rw [e1]
  simp only
  rw [if_neg (by simp), hcb, if_neg (by simp), Int.toNat_natCast]
  have hall : ∀ (j : Nat) (x : Val), l[j]? = some x → X1r b ((if k = 8 then gl else gp) j) x := by
   intro j x hx
   by_cases h8 : k = 8
   ·rw [if_pos h8]; exact hgl h8 j x hx
   ·rw [if_neg h8]; exact hgp (by omega) j x hx
  have e2 := X8g (g := if k = 8 then gl else gp) (b := b) (front := F ++ Xh l.length) (back := back) (l := l) (by rw [← hb]; simp) hall l.length (Nat.le_refl _)
  rw [List.take_length, List.length_append, Int.natCast_add] at e2
  rw [e2]
  simp only [List.length_append, Int.natCast_add, Int.add_assoc]
 rw [if_neg h7] at hb ⊢
 rw [if_neg h7]
 have h0 : k = 0 := by omega
 subst h0
 simp at hv
 obtain ⟨⟨⟨rfl, rfl⟩, rfl⟩, rfl⟩ := hv
 simp
theorem X9Y {m : Nat} {k n d : Int} {s : List UInt8} {l : List Val} (hv : X8 m (.mk k n d s l) = true) (hm : m ≤ 8) {want : Int} (hw : want = 0 ∨ want = k) {b front back : List UInt8} {gl gp : Nat → Int → Val × Int × Int}
  (hb : front ++ Xs (.mk k n d s l) ++ back = b) (hgl : k = 8 → ∀ (j : Nat) (x : Val), l[j]? = some x → X1r b (gl j) x) (hgp : k = 7 → ∀ (j : Nat) (x : Val), l[j]? = some x → X1r b (gp j) x) :
  Uw gl gp m b front.length want = (.mk k n d s l, (front.length : Int) + (Xs (.mk k n d s l)).length, 0) := by
 have hk := X9N hv
 have hc := XbS hv hb hgl hgp
 have hv8 := X7c _ m 8 hm hv
 have hget : b[front.length]? = some (UInt8.ofNat k.toNat) := by rw [← hb, Xs]; simp
 have hlt : front.length < b.length := (List.getElem?_eq_some_iff.1 hget).1
 have hm8 : k = 8 → m ≠ 0 := by
  rintro rfl rfl
  have := (Xb4 hv).2.1
  omega
 unfold Uw
 rw [if_neg (by omega), Int.toNat_natCast, hget, Option.getD_some]
 simp only
 rw [XdA hk, if_neg (by omega), hc]
 simp only
 rw [if_neg (fun h => by rw [hv8] at h; exact absurd h.2 (by decide))]
theorem Xh6 {b : List UInt8} {i : Nat} {x : Val} (hv : X8 0 x = true) (hk : x.kind = 5 + (i % 2 : Nat)) : X1r b (X0x b i) x := by
 obtain ⟨k, n, d, s, l⟩ := x
 simp only [Val.kind] at hk
 intro front back hb
 unfold X0x X2z
 exact X9Y hv (by omega) (.inr hk.symm) hb (fun h => by omega) (fun h => by omega)
theorem X9n : ∀ {l : List Val} {i j : Nat} {x : Val}, Ue i l = true → l[j]? = some x → x.kind = 5 + ((i + j) % 2 : Nat) ∧ X8 0 x = true
 | [], _, _, _, _, h => by simp at h
 | v :: r, i, 0, x, hp, h => by
  rw [Ue, Bool.and_eq_true, Bool.and_eq_true] at hp
  simp at h
  subst h
  exact ⟨of_decide_eq_true hp.1.1, hp.1.2⟩
 | v :: r, i, j + 1, x, hp, h => by
  rw [Ue, Bool.and_eq_true, Bool.and_eq_true] at hp
  have := X9n hp.2 (j := j) (x := x) (by simpa using h)
  rwa [show i + 1 + j = i + (j + 1) by omega] at this
theorem Xi2 {m : Nat} {n d : Int} {s : List UInt8} {l : List Val} (h : X8 m (.mk 7 n d s l) = true) : Ue 0 l = true := by
 rw [X8] at h
 simp at h
 exact h.2.2
theorem X8K {b : List UInt8} : ∀ (v : Val) (m : Nat), X8 m v = true → m ≤ 8 → X1r b (X01 b m) v
 | .mk k n d s l, m, hv, hm => by
  intro front back hb
  rw [X2a]
  refine X9Y hv hm (.inl rfl) hb (fun h8 j x hx => ?_) (fun h7 j x hx => ?_)
  ·subst h8
   obtain ⟨_, hm1, hl⟩ := Xb4 hv
   cases m with
   | zero => omega
   | succ m' => exact X8K x m' (X6K hl (List.mem_of_getElem? hx)) (by omega)
  ·subst h7
   have hp := X9n (Xi2 hv) hx
   rw [Nat.zero_add] at hp
   exact Xh6 hp.2 hp.1
termination_by v => SizeOf.sizeOf v
decreasing_by
 have h1 := List.sizeOf_lt_of_mem (List.mem_of_getElem? hx)
 simp only [Val.mk.sizeOf_spec]
 omega
theorem Xil {v : Val} (hv : X8 8 v = true) (front back : List UInt8) : Uj (front ++ Ym v ++ back) front.length = (v, (front.length : Int) + (Ym v).length, 0) := by
 rw [show Ym v = Xs v by unfold Ym; rw [hv]; rfl]
 have h := X8K (b := front ++ Xs v ++ back) v 8 hv (by omega) front back rfl
 unfold Uj
 rw [if_neg (by simp; omega), h]
 rfl
theorem X35 {b : List UInt8} {a : Int} (h : 0 ≤ a) (h2 : a ≤ b.length) : only b a a [] := ⟨h, by omega, h2, by simp⟩
theorem VI {b : List UInt8} {a m e : Int} {w1 w2 : List UInt8} (h1 : only b a m w1) (h2 : only b m e w2) : only b a e (w1 ++ w2) := by
 obtain ⟨k1, k2, k3, k4⟩ := h1
 obtain ⟨j1, j2, j3, j4⟩ := h2
 refine ⟨k1, by omega, j3, ?_⟩
 rw [show (e - a).toNat = (m - a).toNat + (e - m).toNat by omega, List.take_add, k4, List.drop_drop, show a.toNat + (m - a).toNat = m.toNat by omega, j4]
theorem Xat {b : List UInt8} {a : Int} {c : UInt8} (h0 : 0 ≤ a) (h : b[a.toNat]? = some c) : only b a (a + 1) [c] := by
 obtain ⟨hl, he⟩ := List.getElem?_eq_some_iff.1 h
 refine ⟨h0, by omega, by omega, ?_⟩
 rw [show (a + 1 - a).toNat = 1 by omega, List.drop_eq_getElem_cons hl, he]
 rfl
def X1l (b : List UInt8) (g : Nat → Int → Val × Int × Int) : Prop := ∀ (i : Nat) (q : Int) (x : Val) (e : Int), 0 ≤ q → q ≤ b.length → g i q = (x, e, 0) → only b q e (Xs x)
theorem X8f {g : Nat → Int → Val × Int × Int} {b : List UInt8} {a : Int} (hg : X1l b g) (h0 : 0 ≤ a) (h1 : a ≤ b.length) : ∀ (j : Nat) (l : List Val) (e : Int), Y1 g a j = (l, e, 0) → only b a e (XX l) ∧ l.length = j
 | 0, l, e, h => by
  simp only [Y1, Prod.mk.injEq] at h
  obtain ⟨rfl, rfl, _⟩ := h
  exact ⟨X35 h0 h1, rfl⟩
 | j + 1, l, e, h => by
  by_cases hz : (Y1 g a j).2.2 = 0
  ·rw [X1S hz] at h
   have ih := X8f hg h0 h1 j (Y1 g a j).1 (Y1 g a j).2.1 (by rw [← hz])
   generalize (Y1 g a j).1 = l0 at *
   generalize (Y1 g a j).2.1 = q at *
   obtain ⟨⟨i1, i2⟩, i3⟩ := ih
   simp only [Prod.mk.injEq] at h
   obtain ⟨rfl, rfl, h3⟩ := h
   have hx := hg j q (g j q).1 (g j q).2.1 (by omega) (by omega) (by rw [← h3])
   refine ⟨?_, by simp [i3]⟩
   rw [X4S]
   have := VI ⟨i1, i2⟩ hx
   simpa [XX] using this
  ·rw [X2m hz (j + 1) (by omega)] at h
   exact absurd (congrArg (fun r => r.2.2) h) hz
theorem X9Z (c : UInt8) : UInt8.ofNat (((c.toNat : Nat) : Int)).toNat = c := by simp
theorem XgA {gl gp : Nat → Int → Val × Int × Int} {b : List UInt8} {a k : Int} {v : Val} {e : Int} (hgl : X1l b gl) (hgp : X1l b gp) (h0 : 0 ≤ a) (h1 : a ≤ b.length) (h : YJ gl gp b a k = (v, e, 0)) :
  ∃ w, only b a e w ∧ Xs v = UInt8.ofNat k.toNat :: w := by
 unfold YJ at h
 split at h
 ·rename_i hk
  simp only [Prod.mk.injEq] at h
  obtain ⟨rfl, rfl, h3⟩ := h
  have := X4g (b := b) (a := a) (n := (XO b a).1) (e := (XO b a).2.1) (by rw [← h3])
  exact ⟨_, this.1, by rw [Xs, if_pos hk]⟩
 rename_i hk1
 split at h
 ·rename_i hk
  subst hk
  simp only at h
  split at h
  ·rename_i h3
   simp only [Prod.mk.injEq] at h
   exact absurd h.2.2 h3
  rename_i h3
  have h3 : (XO b a).2.2 = 0 := by simpa using h3
  simp only [Prod.mk.injEq] at h
  obtain ⟨rfl, rfl, h4⟩ := h
  have e1 := X4g (b := b) (a := a) (n := (XO b a).1) (e := (XO b a).2.1) (by rw [← h3])
  have e2 := X4g (b := b) (a := (XO b a).2.1) (n := (XO b (XO b a).2.1).1) (e := (XO b (XO b a).2.1).2.1) (by rw [← h4])
  exact ⟨_, VI e1.1 e2.1, by rw [Xs]; simp⟩
 rename_i hk3
 split at h
 ·rename_i hk
  subst hk
  simp only [Prod.mk.injEq] at h
  obtain ⟨rfl, rfl, h3⟩ := h
  have := X2n (b := b) (a := a) (s := (U8 b a 100).1) (e := (U8 b a 100).2.1) (most := 100) (by rw [← h3])
  exact ⟨_, this.1, by rw [Xs]; simp⟩
 rename_i hk4
 split at h
 ·rename_i hk
  simp only at h
  split at h
  ·rename_i h3
   simp only [Prod.mk.injEq] at h
   exact absurd h.2.2 h3
  rename_i h3
  split at h
  ·simp at h
  have h3 : (Xk b a).2.2 = 0 := by simpa using h3
  have e1 := X1C (b := b) (a := a) (n := (Xk b a).1) (e := (Xk b a).2.1) (by rw [← h3])
  simp only [Prod.mk.injEq] at h
  obtain ⟨rfl, rfl, h4⟩ := h
  have hall : X1l b (if k = 8 then gl else gp) := by
   split
   ·exact hgl
   ·exact hgp
  obtain ⟨⟨k1, k2, k3, k4⟩, k5, k6, k7⟩ := e1
  have e2 := X8f (g := if k = 8 then gl else gp) (b := b) (a := (Xk b a).2.1) hall (by omega) (by omega) (Xk b a).1.toNat _ _ (by rw [← h4])
  refine ⟨_, VI ⟨k1, k2, k3, k4⟩ e2.1, ?_⟩
  rw [Xs, if_neg hk1, if_neg hk3, if_neg hk4, if_pos hk, e2.2]
  rw [show (((Xk b a).1.toNat : Nat) : Int) = (Xk b a).1 by omega]
 rename_i hk7
 simp only [Prod.mk.injEq] at h
 obtain ⟨rfl, rfl, _⟩ := h
 exact ⟨[], X35 h0 h1, by rw [Xs, if_neg hk1, if_neg hk3, if_neg hk4, if_neg hk7]⟩
theorem X6G {gl gp : Nat → Int → Val × Int × Int} {m : Nat} {b : List UInt8} {a want : Int} {v : Val} {e : Int} (hgl : X1l b gl) (hgp : X1l b gp) (h0 : 0 ≤ a) (h1 : a ≤ b.length) (h : Uw gl gp m b a want = (v, e, 0)) : only b a e (Xs v) := by
 unfold Uw at h
 split at h
 ·simp at h
 rename_i h2
 obtain ⟨c, hc⟩ := Xx (l := b) (k := a.toNat) (by omega)
 rw [hc, Option.getD_some] at h
 simp only at h
 split at h
 ·simp at h
 split at h
 ·simp at h
 obtain ⟨w, hw, hp⟩ := XgA hgl hgp (by omega) (by omega) h
 rw [hp, X9Z]
 exact VI (Xat h0 hc) hw
theorem X6J {b : List UInt8} : X1l b noG := fun i q x e _ _ h => by simp [noG] at h
theorem Xa3 {b : List UInt8} : X1l b (X0x b) := fun i q x e h0 h1 h => by
 unfold X0x X2z at h
 exact X6G X6J X6J h0 h1 h
theorem Xa7 {b : List UInt8} : ∀ (m : Nat) (a : Int) (v : Val) (e : Int), 0 ≤ a → a ≤ b.length → X01 b m a = (v, e, 0) → only b a e (Xs v)
 | 0, a, v, e, h0, h1, h => by
  rw [X2a] at h
  exact X6G X6J Xa3 h0 h1 h
 | m + 1, a, v, e, h0, h1, h => by
  rw [X2a] at h
  exact X6G (gl := X3l b (m + 1)) (fun i q x e h0 h1 h => Xa7 m q x e h0 h1 h) Xa3 h0 h1 h
theorem XaU {b : List UInt8} {a e : Int} {v : Val} (h : Uj b a = (v, e, 0)) : only b a e (Ym v) ∧ X8 8 v = true ∧ (Xs v).length ≤ b.length := by
 unfold Uj at h
 split at h
 ·simp at h
 simp only at h
 split at h
 ·rename_i h2
  simp only [Prod.mk.injEq] at h
  exact absurd h.2.2 h2
 rename_i h1 h2
 have ho := Xa7 8 a v e (by omega) (by omega) h
 have hv : X8 8 v = true := by
  have := XeR (gl := X3l b 8) (gp := X0x b) (m := 8) (b := b) (a := a) (want := 0) (by rw [← X2a, h])
  rw [← X2a, h] at this
  exact this
 have hl : (Xs v).length ≤ b.length := by
  rw [← ho.2.2.2]
  simp
  omega
 refine ⟨?_, hv, hl⟩
 unfold Ym
 rw [if_pos hv]
 exact ho
theorem X6V {b : List UInt8} {a limit k a1 : Int} (h0 : 0 ≤ a) (h : rkI b a 0 limit = (k, a1, 0)) : only b a a1 [UInt8.ofNat k.toNat] ∧ a1 = a + 1 ∧ 1 ≤ k ∧ k ≤ limit := by
 unfold rkI rkS at h
 rw [if_neg (by simp), if_neg (by simp)] at h
 split at h
 ·simp at h
 ·rename_i h1
  split at h
  ·simp at h
  ·rename_i h2
   obtain ⟨c, hc⟩ : ∃ c, b[a.toNat]? = some c := ⟨_, List.getElem?_eq_getElem (by omega)⟩
   rw [hc] at h h2
   simp only [Option.getD_some, Prod.mk.injEq] at h h2
   obtain ⟨rfl, rfl, _⟩ := h
   refine ⟨?_, by omega, by omega, by omega⟩
   rw [X9Z, show ((a.toNat : Nat) : Int) + 1 = a + 1 by omega]
   exact Xat h0 hc
theorem X3j {b : List UInt8} {a : Int} : rnS b a 0 = Xk b a := if_neg (by simp)
theorem X6m {b : List UInt8} {a : Int} : rsS b a 0 = U8 b a 20 := if_neg (by simp)
theorem X4J {b : List UInt8} {a e n m : Int} (h : rnS b a e = (n, m, 0)) : e = 0 := by
 by_cases he : e = 0
 ·exact he
 ·rw [X7n he] at h
  simp at h
  exact absurd h.2.2 he
theorem X0W {b : List UInt8} {a e m : Int} {s : List UInt8} (h : rsS b a e = (s, m, 0)) : e = 0 := by
 by_cases he : e = 0
 ·exact he
 ·rw [X98 he] at h
  simp at h
  exact absurd h.2.2 he
theorem XaT {b : List UInt8} {a e n m : Int} (h : riS b a e = (n, m, 0)) : e = 0 := by
 by_cases he : e = 0
 ·exact he
 ·rw [XaD he] at h
  simp at h
  exact absurd h.2.2 he
theorem Xdl {b : List UInt8} {a e m : Int} {v : Val} (h : rvS b a e = (v, m, 0)) : e = 0 := by
 by_cases he : e = 0
 ·exact he
 ·rw [X8u he] at h
  simp at h
  exact absurd h.2.2 he
theorem XbO {b : List UInt8} {a e limit k m : Int} (h : rkI b a e limit = (k, m, 0)) : e = 0 := by
 by_cases he : e = 0
 ·exact he
 ·unfold rkI at h
  rw [if_pos he] at h
  simp at h
  exact absurd h.2.2 he
theorem XbB (c : UInt8) (w : List UInt8) : c :: w = [c] ++ w := rfl
theorem X4C : YD zV := by rw [YD]; exact ⟨by simp, by simp, by rw [X0s]; trivial⟩
theorem Xf7 {b : List UInt8} {a at_ : Int} {c : Chg} (h0 : 0 ≤ a) (h : YT b a 0 = (c, at_, 0)) : only b a at_ (Ya c) ∧ a < at_ ∧ 1 ≤ c.op ∧ c.op ≤ 8 := by
 unfold YT at h
 simp only at h
 generalize hk : rkI b a 0 8 = k at h
 obtain ⟨op, a1, e1⟩ := k
 simp only at h
 generalize hi : rnS b a1 e1 = i at h
 obtain ⟨id, a2, e2⟩ := i
 simp only at h
 generalize hf : (if op = 6 then rnS b a2 e2 else (0, a2, e2)) = f at h
 obtain ⟨src, a3, e3⟩ := f
 simp only at h
 generalize ht : (if op = 6 then rnS b a3 e3 else (0, a3, e3)) = t at h
 obtain ⟨dst, a4, e4⟩ := t
 simp only at h
 generalize hs : (if XV op = true then rsS b a4 e4 else ([], a4, e4)) = s at h
 obtain ⟨name, a5, e5⟩ := s
 simp only at h
 generalize hv : (if XQ op = true then rvS b a5 e5 else (zV, a5, e5)) = v at h
 obtain ⟨v, a6, e6⟩ := v
 simp only [Prod.mk.injEq] at h
 obtain ⟨rfl, rfl, rfl⟩ := h
 have z5 : e5 = 0 := by
  split at hv
  ·exact Xdl hv
  ·simp at hv; exact hv.2.2
 subst z5
 have z4 : e4 = 0 := by
  split at hs
  ·exact X0W hs
  ·simp at hs; exact hs.2.2
 subst z4
 have z3 : e3 = 0 := by
  split at ht
  ·exact X4J ht
  ·simp at ht; exact ht.2.2
 subst z3
 have z2 : e2 = 0 := by
  split at hf
  ·exact X4J hf
  ·simp at hf; exact hf.2.2
 subst z2
 have z1 := X4J hi
 subst z1
 obtain ⟨p1, p2, p3, p4⟩ := X6V h0 hk
 rw [X3j] at hi
 obtain ⟨q1, q2, q3, q4⟩ := X1C hi
 have r1 : only b a2 a4 (if op = 6 then Xh src ++ Xh dst else []) ∧ a2 ≤ a4 := by
  by_cases h6 : op = 6
  ·rw [if_pos h6] at hf ht ⊢
   rw [X3j] at hf ht
   have x1 := X1C hf
   have x2 := X1C ht
   exact ⟨VI x1.1 x2.1, by omega⟩
  ·rw [if_neg h6] at hf ht ⊢
   simp at hf ht
   obtain ⟨_, rfl⟩ := hf
   obtain ⟨_, rfl⟩ := ht
   have := q1.2.1
   exact ⟨X35 (by have := p1.1; omega) q1.2.2.1, by omega⟩
 have r2 : only b a4 a5 (if XV op = true then Xw name else []) ∧ a4 ≤ a5 := by
  by_cases h6 : XV op = true
  ·rw [if_pos h6] at hs ⊢
   rw [X6m] at hs
   have x1 := X2n hs
   exact ⟨x1.1, by omega⟩
  ·rw [if_neg h6] at hs ⊢
   simp at hs
   obtain ⟨_, rfl⟩ := hs
   exact ⟨X35 (by have := r1.1.1; have := r1.1.2.1; omega) r1.1.2.2.1, by omega⟩
 have r3 : only b a5 a6 (if XQ op = true then Ym v else []) ∧ a5 ≤ a6 := by
  by_cases h6 : XQ op = true
  ·rw [if_pos h6] at hv ⊢
   rw [X6r] at hv
   have x1 := XaU hv
   exact ⟨x1.1, x1.1.2.1⟩
  ·rw [if_neg h6] at hv ⊢
   simp at hv
   obtain ⟨_, rfl⟩ := hv
   exact ⟨X35 (by have := r2.1.1; have := r2.1.2.1; omega) r2.1.2.2.1, by omega⟩
 refine ⟨?_, by omega, p3, p4⟩
 unfold Ya
 simp only
 rw [XbB]
 exact VI p1 (VI (VI (VI q1 r1.1) r2.1) r3.1)
theorem XfC (b : List UInt8) (a e : Int) : (rsS b a e).1.length ≤ 20 := by
 unfold rsS
 split
 ·simp
 ·have := XfW b a 20 (by omega)
  omega
theorem XbL (b : List UInt8) (a e : Int) : YD (rvS b a e).1 := by
 unfold rvS
 split
 ·exact X4C
 ·by_cases hz : (Uj b a).2.2 = 0
  ·have := XaU (b := b) (a := a) (v := (Uj b a).1) (e := (Uj b a).2.1) (by rw [← hz])
   exact X91 _ _ this.2.1
  ·unfold Uj at hz ⊢
   split
   ·exact X4C
   ·rename_i h1
    rw [if_neg h1] at hz
    simp only at hz ⊢
    split
    ·exact X4C
    ·rename_i h2
     rw [if_neg h2] at hz
     exact absurd (by simpa using h2) hz
theorem Xfy (b : List UInt8) (a e : Int) : X3C (YT b a e).1 := by
 unfold YT
 constructor
 ·simp only
  by_cases h : XV (rkI b a e 8).1 = true
  ·simp only [if_pos h]
   exact Nat.le_trans (XfC _ _ _) (by omega)
  ·simp only [if_neg h]
   simp
 ·simp only
  by_cases h : XQ (rkI b a e 8).1 = true
  ·simp only [if_pos h]
   exact XbL _ _ _
  ·simp only [if_neg h]
   exact X4C
theorem Xcd {b : List UInt8} {a at_ : Int} {r : Rul} (h0 : 0 ≤ a) (h : UJ b a 0 = (r, at_, 0)) : only b a at_ (Ua r) ∧ a < at_ := by
 unfold UJ at h
 simp only at h
 generalize hk : rkI b a 0 7 = k at h
 obtain ⟨kd, a1, e1⟩ := k
 simp only at h
 generalize h1 : rsS b a1 e1 = s at h
 obtain ⟨s1, a2, e2⟩ := s
 simp only at h
 generalize h2 : rsS b a2 e2 = s at h
 obtain ⟨s2, a3, e3⟩ := s
 simp only at h
 generalize h3 : rsS b a3 e3 = s at h
 obtain ⟨s3, a4, e4⟩ := s
 simp only at h
 generalize h4 : rsS b a4 e4 = s at h
 obtain ⟨s4, a5, e5⟩ := s
 simp only at h
 generalize h5 : riS b a5 e5 = s at h
 obtain ⟨n, a6, e6⟩ := s
 simp only [Prod.mk.injEq] at h
 obtain ⟨rfl, rfl, rfl⟩ := h
 obtain rfl := XaT h5
 obtain rfl := X0W h4
 obtain rfl := X0W h3
 obtain rfl := X0W h2
 obtain rfl := X0W h1
 rw [X6m] at h1 h2 h3 h4
 rw [X5T] at h5
 obtain ⟨p1, p2, p3, p4⟩ := X6V h0 hk
 have x1 := X2n h1
 have x2 := X2n h2
 have x3 := X2n h3
 have x4 := X2n h4
 have x5 := X4g h5
 refine ⟨?_, by omega⟩
 unfold Ua
 simp only
 rw [XbB]
 exact VI p1 (VI (VI (VI (VI x1.1 x2.1) x3.1) x4.1) x5.1)
abbrev X0V : Rcd := ⟨0, 0, [], zR, false⟩
theorem XeJ (c : Chg) (ρ : Nat → Nat) : (Ye c).ren ρ = Ye c := by
 obtain ⟨op, id, src, dst, name, ⟨k, n, d, s, l⟩⟩ := c
 rfl
theorem XcG (r : Rul) (ρ : Nat → Nat) : (Uv r).ren ρ = Uv r := rfl
theorem Xh4 (b : List UInt8) (a e limit : Int) (hb : b.length ≤ 281474976710656) (ha : e = 0 → 0 ≤ a ∧ a ≤ b.length) : Con Tryz.prog 94 [(101, oRd b a e)] [.ptr 101 0, ai limit] [(101, oRd b (rkI b a e limit).2.1 (rkI b a e limit).2.2)] (ai (rkI b a e limit).1) := UX 0 101 (X6I b a e limit hb ha)
theorem Xbl (b : List UInt8) (a e : Int) (hb : b.length ≤ 281474976710656) : Con Tryz.prog 95 [(101, oRd b a e)] [.ptr 101 0] [(101, oRd b (rnS b a e).2.1 (rnS b a e).2.2)] (ai (rnS b a e).1) := UX 0 101 (X3u b a e hb)
theorem XbX (b : List UInt8) (a e : Int) (hb : b.length ≤ 281474976710656) (ha : e = 0 → 0 ≤ a ∧ a ≤ b.length) : Con Tryz.prog 98 [(101, oRd b a e)] [.ptr 101 0] [(101, oRd b (roS b a e).2.1 (roS b a e).2.2)] (ab (roS b a e).1) := UX 0 101 (XcZ b a e hb ha)
theorem Xgn (b : List UInt8) (a e : Int) (hb : b.length ≤ 281474976710656) (ha : e = 0 → 0 ≤ a ∧ a ≤ b.length) : Con Tryz.prog 96 [(101, oRd b a e)] [.ptr 101 0] [(101, oRd b (YT b a e).2.1 (YT b a e).2.2)] (Ye (YT b a e).1) := by
 have h := UX 0 101 (Xe3 b a e hb ha)
 rw [XeJ] at h
 exact h
theorem Xc6 (b : List UInt8) (a e : Int) (hb : b.length ≤ 281474976710656) (ha : e = 0 → 0 ≤ a ∧ a ≤ b.length) : Con Tryz.prog 97 [(101, oRd b a e)] [.ptr 101 0] [(101, oRd b (UJ b a e).2.1 (UJ b a e).2.2)] (Uv (UJ b a e).1) := by
 have h := UX 0 101 (XfB b a e hb ha)
 rw [XcG] at h
 exact h
end Go.Fw
