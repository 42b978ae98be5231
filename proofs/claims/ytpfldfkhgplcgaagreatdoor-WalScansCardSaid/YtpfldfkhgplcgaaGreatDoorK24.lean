/- The check of a record: the program's and the reference's. -/
import Derived.Test.YtpfldfkhgplcgaaGreatDoorK23
set_option maxHeartbeats 16000000
namespace Go.Fw
open Go Go.Proofs
set_option maxRecDepth 100000
set_option linter.unusedVariables false
set_option linter.unusedSimpArgs false
theorem X0J : X2h Tryz.prog 56 = some [.i .i64, .i .i64, .s, .s, .s, .s] := by kernel_rfl
def Yq : Rcd → AVal
 | ⟨kd, ts, l, ⟨k, n, name, key, src, dst⟩, off⟩ => .agg [ai kd, ai ts, .d (.sl 10 (l.map XH)), ai k, ai n, X9 name, X9 key, X9 src, X9 dst, ab off]
def V5 (r : Rcd) : Prop := r.changes.length ≤ 9223372036854775807 ∧ ∀ c ∈ r.changes, X3v c
theorem XhG (s : List UInt8) : (X6 s).data.toList = s := by simp [X6]
theorem eqZ (k n : Int) (name key src dst : List UInt8) : Vr [.int .i64 k, .int .i64 n, .string (X6 name), .string (X6 key), .string (X6 src), .string (X6 dst)] [.int .i64 0, .int .i64 0, .string (X6 []), .string (X6 []), .string (X6 []), .string (X6 [])] = X0P ⟨k, n, name, key, src, dst⟩ := by
 unfold X0P
 simp only [Vr, X0y, XhG, Bool.and_true]
 by_cases h1 : k = 0 <;> by_cases h2 : n = 0 <;> by_cases h3 : name = [] <;> by_cases h4 : key = [] <;> by_cases h5 : src = [] <;> by_cases h6 : dst = [] <;> simp [*]
theorem X7q {l : List Chg} {i : Nat} {x : Chg} (h : l[i]? = some x) : Vz (l.drop i) = if Ug x ≠ 0 then Ug x else Vz (l.drop (i + 1)) := by
 rw [List.drop_eq_getElem_cons (List.getElem?_eq_some_iff.1 h).1, (List.getElem?_eq_some_iff.1 h).2, Vz]
theorem X5Z (r : Rcd) (hok : V5 r) : Con Tryz.prog 65 [] [Yq r] [] (ai (YJ r)) := by
 obtain ⟨kd, ts, l, ⟨k, n, name, key, src, dst⟩, off⟩ := r
 obtain ⟨hlen, hch⟩ := hok
 simp only at hlen hch
 have hlm : (l.map XH).length = l.length := by simp
 refine Xb (xs := [ai (YJ ⟨kd, ts, l, ⟨k, n, name, key, src, dst⟩, off⟩)]) Tryz.func65 rfl Tryz.ntmps65 rfl rfl rfl (fun E => ?_)
 have hz := eqZ k n name key src dst
 have hr := XbY ⟨k, n, name, key, src, dst⟩
 unfold YJ
 simp only [Yq, Uw] at hr ⊢
 generalize X0P ⟨k, n, name, key, src, dst⟩ = z at *
 generalize VS ⟨k, n, name, key, src, dst⟩ = re at *
 by_cases h1 : ¬ (1 ≤ kd ∧ kd ≤ 3 ∧ 0 ≤ ts ∧ ts ≤ 1000000000000000)
 ·rw [if_pos h1]
  refine Qzb ?_; refine Z8 ?_; refine Z1 ?_; refine XI rfl rfl (fun hq => ?_) (fun hq => ?_); refine QUc ?_; refine QOa ?_; exact QPa; refine QFa ?_; refine Qaa ?_; refine Z1 ?_; refine XI rfl rfl (fun hq => ?_) (fun hq => ?_); refine QUc ?_; exact QPa; refine QFa ?_; refine Z8 ?_; refine Zq ?_; refine Z1 ?_; refine XI rfl rfl (fun hq => ?_) (fun hq => ?_); refine QUc ?_; exact Qca; refine QFa ?_; refine Qaa ?_; exact Qca
 rw [if_neg h1]
 by_cases h2 : (kd ≠ 1 ∧ 0 < l.length) ∨ (kd ≠ 2 ∧ (off = true ∨ z = false))
 ·rw [if_pos h2]
  refine Qzb ?_; refine Z8 ?_; refine QIa ?_; refine Qaa ?_; refine QIa ?_; refine Z8 ?_; refine QAc ?_; refine Qmb ?_; refine Qyb ?_; refine Zv ?_; refine Z1 ?_; refine XI rfl rfl (fun hq => ?_) (fun hq => ?_); refine QOd ?_; refine QFc ?_; refine XI rfl rfl (fun hq => ?_) (fun hq => ?_); refine QHc ?_; refine QSc ?_; refine QPd ?_; exact Qca; refine QVc ?_; refine QIa ?_; refine Z1 ?_; refine X1t rfl rfl (fun hq => ?_) (fun hq => ?_); refine QHc ?_; refine Zn ?_; exact QRd; refine QSd ?_; refine QTd ?_; refine XL rfl (fun hq => ?_) (fun hq => ?_); exact Qga; refine QUd ?_; refine Zl ?_; refine Qr ?_; refine QVd ?_; (exfalso; clear hr hz; simp_all <;> omega); refine QHc ?_; refine QAc ?_; refine Zv ?_; refine QIa ?_; refine Z1 ?_; refine X1t rfl rfl (fun hq => ?_) (fun hq => ?_); refine QHc ?_; refine Zn ?_; exact QRd; refine QSd ?_; refine QTd ?_; refine XL rfl (fun hq => ?_) (fun hq => ?_); exact Qga; refine QUd ?_; refine Zl ?_; refine Qr ?_; refine QVd ?_; (exfalso; clear hr hz; simp_all <;> omega)
 rw [if_neg h2]
 by_cases h3 : kd = 2
 ·subst h3
  rw [if_pos rfl]
  have h4 : ¬ 0 < l.length := by omega
  repeat first | refine X0 ?_ | (refine JR ?_; (repeat first | refine Z1 ?_ | refine Z0 ?_ | refine ZB ?_ | refine ZC ?_ | refine ZL ?_ | refine Zd ?_ | refine Z8 ?_ | refine Zs ?_ | refine Zl ?_ | refine Zv ?_ | refine ZA (γ := 100) ?_ | refine Zn ?_ | refine Zq ?_ | refine Zo ?_ | refine Zp ?_ | refine Z9 (hcon := hr) ?_); refine JD ?_) | refine JT ?_ | refine JF ?_ | refine X4 ?_
  exact QL
 rw [if_neg h3]
 have hoz : off = false ∧ z = true := by cases off <;> cases z <;> simp_all
 obtain ⟨ho, hz1⟩ := hoz
 have hk : kd = 1 ∨ (kd = 3 ∧ ¬ 0 < l.length) := by omega
 rcases hk with hk1 | ⟨hk1, hn0⟩
 case inr =>
  obtain rfl : l = [] := List.eq_nil_of_length_eq_zero (by omega)
  clear h2 hlm hch hlen
  repeat first | refine X0 ?_ | (refine JR ?_; (repeat first | refine Z06 (us := [.int .i64 k, .int .i64 n, .string (X6 name), .string (X6 key), .string (X6 src), .string (X6 dst)]) (vs := [.int .i64 0, .int .i64 0, .string (X6 []), .string (X6 []), .string (X6 []), .string (X6 [])]) (r := z) ?_ (hk := by exact X0J) (hr := by exact hz) | refine Z1 ?_ | refine Z0 ?_ | refine ZB ?_ | refine ZC ?_ | refine ZL ?_ | refine Zd ?_ | refine Z8 ?_ | refine Zs ?_ | refine Zl ?_ | refine Zv ?_ | refine ZA (γ := 100) ?_ | refine Zx ?_ | refine Zn ?_ | refine Zq ?_); refine JD ?_) | refine JF ?_ | refine X5 ?_ | refine X4 ?_
  refine Xu (ι := Nat) (fun i => i = 0) (fun i => ⟨71, [(1, .ptr 100 0), (55, .d (.sl 10 [])), (56, ai 0), (57, ai i)], [(100, .box [ai kd, ai ts, .d (.sl 10 []), ai k, ai n, X9 name, X9 key, X9 src, X9 dst, ab off])]⟩) (fun i => 0) 0 rfl
   (Xa rfl JM ⟨rfl, trivial⟩) ?_
  rintro i rfl
  refine QK ?_; exact QXd
 generalize hG : Vz l = G
 repeat first | refine X0 ?_ | (refine JR ?_; (repeat first | refine Z06 (us := [.int .i64 k, .int .i64 n, .string (X6 name), .string (X6 key), .string (X6 src), .string (X6 dst)]) (vs := [.int .i64 0, .int .i64 0, .string (X6 []), .string (X6 []), .string (X6 []), .string (X6 [])]) (r := z) ?_ (hk := by exact X0J) (hr := by exact hz) | refine Z1 ?_ | refine Z0 ?_ | refine ZB ?_ | refine ZC ?_ | refine ZL ?_ | refine Zd ?_ | refine Z8 ?_ | refine Zs ?_ | refine Zl ?_ | refine Zv ?_ | refine ZA (γ := 100) ?_ | refine Zx ?_ | refine Zn ?_ | refine Zq ?_ | refine Zo ?_); refine JD ?_) | refine JF ?_ | refine X5 ?_ | refine X4 ?_
 refine Xu (ι := Nat) (fun i => i ≤ l.length ∧ Vz (l.drop i) = G) (fun i => ⟨71, [(1, .ptr 100 0), (55, .d (.sl 10 (l.map XH))), (56, ai (l.map XH).length), (57, ai i)], [(100, .box [ai kd, ai ts, .d (.sl 10 (l.map XH)), ai k, ai n, X9 name, X9 key, X9 src, X9 dst, ab off])]⟩) (fun i => l.length - i) 0 ⟨by omega, hG⟩
  (Xa rfl JM ⟨rfl, trivial⟩) ?_
 rintro i ⟨hi, hg⟩
 by_cases hil : i < l.length
 case neg =>
  obtain rfl : i = l.length := by omega
  rw [List.drop_length, Vz] at hg
  subst hg
  rw [if_neg (by simp)]
  have hn : ¬ ((l.length : Nat) : Int) < (l.map XH).length := by omega
  by_cases hb : 1000 < l.length
  ·rw [if_pos hb]
   refine QK ?_; refine Qyb ?_; refine QWd ?_; exact Qca
  ·rw [if_neg hb]
   refine QK ?_; exact QXd
 have hn : (i : Int) < (l.map XH).length := by omega
 obtain ⟨x, hx⟩ := Xv (l := l) hil
 have hxc : (l.map XH)[i]? = some (XH x) := YF hx
 have hxo := hch x (List.mem_of_getElem? hx)
 have hcall := XbH x
 rw [X7q hx] at hg
 generalize Ug x = e at *
 obtain ⟨op, id, xsrc, xdst, xname, ⟨xk, xn, xd, xs, xl⟩⟩ := x
 simp only [Y3, XH] at hcall hxc
 by_cases he : e = 0
 ·subst he
  rw [if_neg (by simp)] at hg
  refine QC ?_; refine QSa ?_; refine Qyd ?_; refine Qeb ?_; refine Z9 (hcon := hcall) ?_; refine QYd ?_; refine QI ?_; exact ⟨i + 1, ⟨by omega, hg⟩, by omega, Xa rfl JM ⟨rfl, trivial⟩⟩
 ·rw [if_pos he] at hg
  subst hg
  rw [if_pos he]
  refine QC ?_; refine QSa ?_; refine Qyd ?_; refine Qeb ?_; refine Z9 (hcon := hcall) ?_; exact Qqc
theorem X8p : ∀ {l : List Chg}, Vz l = 0 → ∀ c ∈ l, Ug c = 0
 | [], _, c, hc => by simp at hc
 | x :: r, h, c, hc => by
  rw [Vz] at h
  by_cases hx : Ug x = 0
  ·rw [if_neg (by simpa using hx)] at h
   rcases List.mem_cons.1 hc with rfl | hc
   ·exact hx
   ·exact X8p h c hc
  ·rw [if_pos hx] at h
   exact absurd h hx
theorem X7y {r : Rcd} (h : YJ r = 0) : (r.kind = 1 ∨ r.kind = 2 ∨ r.kind = 3) ∧ (0 ≤ r.ts ∧ r.ts ≤ 1000000000000000) ∧ (r.kind ≠ 2 → (∀ c ∈ r.changes, Ug c = 0) ∧ r.changes.length ≤ 1000) ∧ (r.kind = 2 → VS r.rule = 0) ∧ (r.kind ≠ 1 → r.changes = []) ∧ (r.kind ≠ 2 → r.off = false ∧ X0P r.rule = true) := by
 unfold YJ at h
 split at h
 ·omega
 rename_i h1
 split at h
 ·omega
 rename_i h2
 refine ⟨by omega, by omega, fun hk => ?_, fun hk => ?_, fun hk => ?_, fun hk => ?_⟩
 ·rw [if_neg hk] at h
  split at h
  ·omega
  ·rename_i h3
   split at h
   ·omega
   ·exact ⟨X8p (by simpa using h3), by omega⟩
 ·rwa [if_pos hk] at h
 ·exact List.eq_nil_of_length_eq_zero (by omega)
 ·cases ho : r.off <;> cases hz : X0P r.rule <;> simp [ho, hz, hk] at h2 ⊢
theorem XgE : Uv [] = [] := rfl
theorem XgL {l : List Chg} {i : Nat} {x : Chg} (h : l[i]? = some x) : Uv (l.take (i + 1)) = Uv (l.take i) ++ Yt x := by
 unfold Uv
 rw [List.take_add_one, h]
 simp
theorem X35 {n : Int} (h : 0 ≤ n ∧ n ≤ 9223372036854775807) : (Xo n).length ≤ 10 := by
 rw [X0e h.1]
 exact X0q (by omega)
theorem X9a {c : Chg} (h : Ug c = 0) : (Yt c).length ≤ 200 := by
 obtain ⟨h1, h2, h3, h4, h5⟩ := X6d h
 unfold Yt
 have p1 := X35 (n := c.id) (by omega)
 have p2 : (if c.op = 6 then Xo c.src ++ Xo c.dst else []).length ≤ 20 := by
  split
  ·rename_i h6
   have q1 := X35 (n := c.src) (by have := h3 h6; omega)
   have q2 := X35 (n := c.dst) (by have := h3 h6; omega)
   rw [List.length_append]; omega
  ·simp
 have p3 : (if XX c.op = true then XM c.name else []).length ≤ 30 := by
  split
  ·rename_i h6
   exact X1U (h4 h6)
  ·simp
 have p4 : (if XS c.op = true then YW c.v else []).length ≤ 111 := by
  split
  ·rename_i h6
   unfold YW
   rw [if_pos (h5 h6).1]
   exact (h5 h6).2
  ·simp
 simp only [List.length_cons, List.length_append]
 omega
theorem X8z : ∀ {l : List Chg}, (∀ c ∈ l, Ug c = 0) → (Uv l).length ≤ 200 * l.length
 | [], _ => by simp [Uv]
 | x :: r, h => by
  have h1 := X9a (h x (by simp))
  have h2 := X8z (l := r) fun y hy => h y (by simp [hy])
  unfold Uv at *
  simp only [List.map_cons, List.flatten_cons, List.length_append, List.length_cons]
  omega
theorem XgJ {r : Rul} (h : VS r = 0) : (UD r).length ≤ 200 := by
 obtain ⟨h1, ⟨l1, l2, l3, l4⟩, h3⟩ := X3c h
 have := X1U l1
 have := X1U l2
 have := X1U l3
 have := X1U l4
 have := X3o h1
 unfold UD
 simp only [List.length_cons, List.length_append]
 omega
theorem XcU (r : Rcd) (hok : V5 r) : Con Tryz.prog 86 [] [Yq r] [] (.d (Xg (VD r))) := by
 have hc := X5Z r hok
 obtain ⟨hlen, hch⟩ := hok
 unfold VD
 by_cases h : YJ r = 0
 case neg =>
  rw [if_neg h]
  generalize YJ r = e at *
  obtain ⟨kd, ts, l, ⟨k, n, name, key, src, dst⟩, off⟩ := r
  simp only [Yq] at *
  refine Xb (xs := [.d (Xg [])]) Tryz.func86 rfl Tryz.ntmps86 rfl rfl rfl (fun E => ?_)
  refine Qoc ?_; refine QZd ?_; refine Zv ?_; refine Qp ?_; exact X1 ⟨_, Xc 2 (y := .d (Xg [])) (AVal.le_nil 1), ⟨rfl, trivial⟩, X3 _⟩
 rw [if_pos h]
 rw [h] at hc
 obtain ⟨hkd, hts, h1, h2, h3, h4⟩ := X7y h
 clear h
 obtain ⟨kd, ts, l, ⟨k, n, name, key, src, dst⟩, off⟩ := r
 simp only at hlen hch hkd hts h1 h2 h3 h4
 have hpu := X0S ts (by omega)
 have hlu := X35 (n := ts) (by omega)
 have hlm : (l.map XH).length = l.length := by simp
 by_cases k3 : kd = 3
 ·subst k3
  obtain rfl := h3 (by decide)
  have hput : Vo ⟨3, ts, [], ⟨k, n, name, key, src, dst⟩, off⟩ = UInt8.ofNat 3 :: Xo ts := by unfold Vo; simp
  rw [hput]
  generalize Xo ts = w0 at *
  simp only [Yq] at *
  refine Xb (xs := [.d (Xg (UInt8.ofNat 3 :: w0))]) Tryz.func86 rfl Tryz.ntmps86 rfl rfl rfl (fun E => ?_)
  repeat first | refine X0 ?_ | (refine JR ?_; (repeat first | refine Z3 (u := nj 3) (r := n8 3) ?_ (hr := by exact U4 rfl rfl) | refine ZZ (γ := 130) ?_ | refine Z1 ?_ | refine Z0 ?_ | refine ZB ?_ | refine ZC ?_ | refine ZL ?_ | refine Zl ?_ | refine Zv ?_ | refine ZA (γ := 100) ?_ | refine Z6 ?_ | refine Z9 (hcon := hc) ?_ | refine Z9 (hcon := hpu) ?_); refine JD ?_) | refine JF ?_ | refine X5 ?_ | refine X4 ?_
  refine Qae ?_; exact X1 ⟨_, Xc 2 (y := .d (Xg (UInt8.ofNat 3 :: w0))) (AVal.le_of_eq (by refine Eq.trans (b := AVal.d (.sl 1 (_))) rfl ?_; show _ = AVal.d (.sl 1 ((UInt8.ofNat 3 :: w0).map X7)); simp only [List.map_append, List.map_cons, List.map_nil, List.append_assoc, List.cons_append, List.nil_append, List.append_nil] <;> rfl)), ⟨rfl, trivial⟩, X3 _⟩
 by_cases k2 : kd = 2
 ·subst k2
  obtain rfl := h3 (by decide)
  have h2 := h2 rfl
  have hpr := Xen ⟨k, n, name, key, src, dst⟩ h2
  have hlr := XgJ h2
  have hput : Vo ⟨2, ts, [], ⟨k, n, name, key, src, dst⟩, off⟩ = UInt8.ofNat 2 :: (Xo ts ++ (UD ⟨k, n, name, key, src, dst⟩ ++ [if off then 1 else 0])) := by unfold Vo; simp
  rw [hput]
  generalize Xo ts = w0 at *
  generalize UD ⟨k, n, name, key, src, dst⟩ = w1 at *
  simp only [Yq, Uw] at *
  cases off with
  | true =>
   refine Xb (xs := [.d (Xg (UInt8.ofNat 2 :: (w0 ++ (w1 ++ [1]))))]) Tryz.func86 rfl Tryz.ntmps86 rfl rfl rfl (fun E => ?_)
   repeat first | refine X0 ?_ | (refine JR ?_; (repeat first | refine Z3 (u := nj 2) (r := n8 2) ?_ (hr := by exact U4 rfl rfl) | refine ZZ (γ := 130) ?_ | refine Z1 ?_ | refine Z0 ?_ | refine ZB ?_ | refine ZC ?_ | refine ZL ?_ | refine Zl ?_ | refine Zv ?_ | refine ZA (γ := 100) ?_ | refine Z5 ?_ | refine Z6 ?_ | refine Z9 (hcon := hc) ?_ | refine Z9 (hcon := hpu) ?_ | refine Z9 (hcon := hpr) ?_); refine JD ?_) | refine JT ?_ | refine JF ?_ | refine X5 ?_ | refine X4 ?_
   refine Qae ?_; exact X1 ⟨_, Xc 2 (y := .d (Xg (UInt8.ofNat 2 :: (w0 ++ (w1 ++ [1]))))) (AVal.le_of_eq (by refine Eq.trans (b := AVal.d (.sl 1 (_))) rfl ?_; show _ = AVal.d (.sl 1 ((UInt8.ofNat 2 :: (w0 ++ (w1 ++ [1]))).map X7)); simp only [List.map_append, List.map_cons, List.map_nil, List.append_assoc, List.cons_append, List.nil_append, List.append_nil] <;> rfl)), ⟨rfl, trivial⟩, X3 _⟩
  | false =>
   refine Xb (xs := [.d (Xg (UInt8.ofNat 2 :: (w0 ++ (w1 ++ [0]))))]) Tryz.func86 rfl Tryz.ntmps86 rfl rfl rfl (fun E => ?_)
   repeat first | refine X0 ?_ | (refine JR ?_; (repeat first | refine Z3 (u := nj 2) (r := n8 2) ?_ (hr := by exact U4 rfl rfl) | refine ZZ (γ := 130) ?_ | refine Z1 ?_ | refine Z0 ?_ | refine ZB ?_ | refine ZC ?_ | refine ZL ?_ | refine Zl ?_ | refine Zv ?_ | refine ZA (γ := 100) ?_ | refine Z5 ?_ | refine Z6 ?_ | refine Z9 (hcon := hc) ?_ | refine Z9 (hcon := hpu) ?_ | refine Z9 (hcon := hpr) ?_); refine JD ?_) | refine JT ?_ | refine JF ?_ | refine X5 ?_ | refine X4 ?_
   refine Qae ?_; exact X1 ⟨_, Xc 2 (y := .d (Xg (UInt8.ofNat 2 :: (w0 ++ (w1 ++ [0]))))) (AVal.le_of_eq (by refine Eq.trans (b := AVal.d (.sl 1 (_))) rfl ?_; show _ = AVal.d (.sl 1 ((UInt8.ofNat 2 :: (w0 ++ (w1 ++ [0]))).map X7)); simp only [List.map_append, List.map_cons, List.map_nil, List.append_assoc, List.cons_append, List.nil_append, List.append_nil] <;> rfl)), ⟨rfl, trivial⟩, X3 _⟩
 have k1 : kd = 1 := by omega
 subst k1
 obtain ⟨h1, hl⟩ := h1 (by decide)
 have hpl := X0S (l.length : Nat) (by omega)
 have hll := X35 (n := (l.length : Nat)) (by omega)
 have hput : Vo ⟨1, ts, l, ⟨k, n, name, key, src, dst⟩, off⟩ = UInt8.ofNat 1 :: (Xo ts ++ Xo (l.length : Nat)) ++ Uv l := by unfold Vo; simp
 rw [hput]
 clear hput h2 h3 h4 hkd k2 k3
 rw [← hlm] at hpl
 rw [← hlm] at hll ⊢
 generalize Xo ts = w0 at *
 generalize Xo ((l.map XH).length : Nat) = w1 at *
 simp only [Yq] at *
 refine Xb (xs := [.d (Xg (UInt8.ofNat 1 :: (w0 ++ w1) ++ Uv l))]) Tryz.func86 rfl Tryz.ntmps86 rfl rfl rfl (fun E => ?_)
 refine Qoc ?_; refine QZd ?_; refine QDb ?_; refine QGa ?_; refine Z3 (u := nj 1) (r := n8 1) ?_ (hr := by exact U4 rfl rfl); refine ZZ (γ := 130) ?_; refine QFa ?_; refine Z9 (hcon := hpu) ?_; refine Qkc ?_; refine Qyb ?_; refine QE ?_; refine Qla ?_; refine Qf ?_; refine QFa ?_; refine Zd ?_; refine Z9 (hcon := hpl) ?_; refine Qkc ?_; refine QGa ?_; refine Qz ?_
 generalize hA : UInt8.ofNat 1 :: (w0 ++ w1) = A at *
 have hAl : A.length ≤ 21 := by rw [← hA]; simp only [List.length_cons, List.length_append]; omega
 refine Xu (ι := Nat) (fun i => i ≤ l.length) (fun i => ⟨55, [(1, .ptr 100 0), (3, .own 130 ((A ++ Uv (l.take i)).map X7).length), (28, .d (.sl 10 (l.map XH))), (29, ai (l.map XH).length), (30, ai i)], [(100, .box [ai 1, ai ts, .d (.sl 10 (l.map XH)), ai k, ai n, X9 name, X9 key, X9 src, X9 dst, ab off]), (130, .row 1 ((A ++ Uv (l.take i)).map X7))]⟩) (fun i => l.length - i) 0 (by omega)
  (by
   rw [List.take_zero, XgE]
   subst hA
   exact Xa rfl ⟨JL, (by refine AVal.le_of_eq ?_; refine Eq.trans (b := AVal.own 130 (_ + _)) rfl ?_; congr 1; simp only [List.length_append, List.length_map, List.length_cons, List.length_nil, List.append_assoc, List.cons_append, List.nil_append, List.append_nil] <;> omega), JL, JL, JL, trivial⟩ ⟨rfl, (by refine Eq.trans (b := AObj.row 1 (_ ++ _)) rfl ?_; simp only [List.map_append, List.map_cons, List.map_nil, List.append_assoc, List.cons_append, List.nil_append, List.append_nil] <;> rfl), trivial⟩) ?_
 intro i hi
 have hrow : ((A ++ Uv (l.take i)).map X7).length ≤ 300000 := by
  have h6 := X8z (l := l.take i) fun c hc => h1 c (List.mem_of_mem_take hc)
  have h7 : (l.take i).length ≤ 1000 := by simp; omega
  simp only [List.length_map, List.length_append]
  omega
 by_cases hil : i < l.length
 case neg =>
  obtain rfl : i = l.length := by omega
  rw [List.take_length] at hrow ⊢
  have hn : ¬ ((l.length : Nat) : Int) < (l.map XH).length := by omega
  generalize A ++ Uv l = B at *
  refine QK ?_; refine Qx ?_; refine Xm (Y4 130 rfl) ?_; refine Xm (U1 2 130 rfl rfl rfl) ?_; exact QL
 have hn : (i : Int) < (l.map XH).length := by omega
 obtain ⟨x, hx⟩ := Xv (l := l) hil
 have hxc : (l.map XH)[i]? = some (XH x) := YF hx
 have hxe := h1 x (List.mem_of_getElem? hx)
 have hcall := XeX x hxe
 have hxl := X9a hxe
 have htk := XgL hx
 generalize Yt x = w at *
 obtain ⟨op, id, xsrc, xdst, xname, ⟨xk, xn, xd, xs, xl⟩⟩ := x
 simp only [Y3, XH] at hcall hxc
 generalize hB : A ++ Uv (l.take i) = B at *
 refine QC ?_; refine QSa ?_; refine Qyd ?_; refine Qk ?_; refine ZL ?_; refine Z9 (hcon := hcall) ?_; refine Qkc ?_; refine QI ?_
 refine ⟨i + 1, by omega, by omega, ?_⟩
 dsimp only
 rw [htk, ← List.append_assoc, hB]
 exact Xa rfl ⟨JL, (by refine AVal.le_of_eq ?_; refine Eq.trans (b := AVal.own 130 (_ + _)) rfl ?_; congr 1; simp only [List.length_append, List.length_map, List.length_cons, List.length_nil, List.append_assoc, List.cons_append, List.nil_append, List.append_nil] <;> omega), JL, JL, JL, trivial⟩ ⟨rfl, (by refine Eq.trans (b := AObj.row 1 (_ ++ _)) rfl ?_; simp only [List.map_append, List.map_cons, List.map_nil, List.append_assoc, List.cons_append, List.nil_append, List.append_nil] <;> rfl), trivial⟩
open Go
def X19 (b : List UInt8) (g : Int → Val × Int × Int) (x : Val) : Prop :=
 ∀ front back : List UInt8, front ++ XP x ++ back = b → g front.length = (x, (front.length : Int) + (XP x).length, 0)
theorem X4k : ∀ (l r : List Val), Ye (l ++ r) = Ye l ++ Ye r
 | [], r => rfl
 | v :: l, r => by simp only [List.cons_append, Ye, X4k l r, List.append_assoc]
theorem XaK {g : Nat → Int → Val × Int × Int} {b front back : List UInt8} {l : List Val} (hb : front ++ Ye l ++ back = b) (hg : ∀ (j : Nat) (x : Val), l[j]? = some x → X19 b (g j) x) :
  ∀ j, j ≤ l.length → Xt g front.length j = (l.take j, (front.length : Int) + (Ye (l.take j)).length, 0)
 | 0, _ => by simp [Xt, Ye]
 | j + 1, hj => by
  have ih := XaK hb hg j (by omega)
  obtain ⟨x, hx⟩ := Xv (l := l) (k := j) (by omega)
  have hsp : l = l.take j ++ x :: l.drop (j + 1) := by
   rw [← (List.getElem?_eq_some_iff.1 hx).2, ← List.drop_eq_getElem_cons, List.take_append_drop]
  have hbk := hg j x hx (front ++ Ye (l.take j)) (Ye (l.drop (j + 1)) ++ back) (by
   rw [← hb]
   conv => rhs; rw [hsp, X4k, Ye]
   simp only [List.append_assoc])
  rw [X0u (by rw [ih]), ih]
  simp only
  rw [List.length_append, Int.natCast_add] at hbk
  rw [hbk]
  have ht : l.take (j + 1) = l.take j ++ [x] := by rw [List.take_add_one, hx]; rfl
  rw [ht, X4k]
  simp only [Ye, List.append_nil, List.length_append, Int.natCast_add]
  rw [Int.add_assoc]
theorem XdM {k : Int} (h : 0 ≤ k ∧ k ≤ 8) : (((UInt8.ofNat k.toNat).toNat : Nat) : Int) = k := by
 rw [X02 (by omega)]; omega
theorem X9E {m : Nat} {k n d : Int} {s : List UInt8} {l : List Val} (h : X8 m (.mk k n d s l) = true) : 0 ≤ k ∧ k ≤ 8 := by
 rw [X8] at h
 by_cases h0 : k = 0
 ·omega
 by_cases h1 : k = 1
 ·omega
 by_cases h2 : k = 2
 ·omega
 by_cases h3 : k = 3
 ·omega
 by_cases h4 : k = 4
 ·omega
 by_cases h5 : k = 5 ∨ k = 6
 ·omega
 by_cases h7 : k = 7
 ·omega
 by_cases h8 : k = 8
 ·omega
 simp [h0, h1, h2, h3, h4, h5, h7, h8] at h
theorem XcR {m : Nat} {k n d : Int} {s : List UInt8} {l : List Val} (hv : X8 m (.mk k n d s l) = true) {b front back : List UInt8} {gl gp : Nat → Int → Val × Int × Int}
  (hb : front ++ XP (.mk k n d s l) ++ back = b) (hgl : k = 8 → ∀ (j : Nat) (x : Val), l[j]? = some x → X19 b (gl j) x) (hgp : k = 7 → ∀ (j : Nat) (x : Val), l[j]? = some x → X19 b (gp j) x) :
  XV gl gp b ((front.length : Int) + 1) k = (.mk k n d s l, (front.length : Int) + (XP (.mk k n d s l)).length, 0) := by
 have hk := X9E hv
 rw [XP] at hb ⊢
 have hfl : ((front.length : Int) + 1) = ((front ++ [UInt8.ofNat k.toNat]).length : Nat) := by simp
 rw [hfl]
 have hb' : ∀ w, front ++ UInt8.ofNat k.toNat :: w ++ back = (front ++ [UInt8.ofNat k.toNat]) ++ w ++ back := fun w => by simp
 rw [hb'] at hb
 have hlen : ∀ w : List UInt8, ((front.length : Int) + ((UInt8.ofNat k.toNat :: w).length : Nat)) = (((front ++ [UInt8.ofNat k.toNat]).length : Nat) : Int) + w.length := fun w => by simp; omega
 rw [hlen]
 generalize front ++ [UInt8.ofNat k.toNat] = F at *
 clear hfl hb' hlen
 rw [X8] at hv
 unfold XV
 by_cases h1 : k = 1 ∨ k = 2 ∨ k = 5 ∨ k = 6
 ·rw [if_pos h1] at hb ⊢
  have hz : d = 0 ∧ s = [] ∧ l = [] ∧ -9223372036854775808 ≤ n ∧ n ≤ 9223372036854775807 := by
   rcases h1 with rfl | rfl | rfl | rfl <;> simp at hv <;> refine ⟨hv.1.1.1, hv.1.1.2, hv.1.2, ?_⟩ <;> omega
  obtain ⟨rfl, rfl, rfl, hn⟩ := hz
  have := X3z hn F back
  rw [hb] at this
  rw [if_pos h1, this]
 rw [if_neg h1] at hb ⊢
 rw [if_neg h1]
 by_cases h3 : k = 3
 ·subst h3
  rw [if_pos rfl] at hb ⊢
  rw [if_pos rfl]
  have hz : (s = [] ∧ l = []) ∧ (-9223372036854775808 ≤ n ∧ n ≤ 9223372036854775807) ∧ -9223372036854775808 ≤ d ∧ d ≤ 9223372036854775807 := by simp [Ve] at hv; exact ⟨⟨hv.1.1, hv.1.2⟩, by omega, by omega⟩
  obtain ⟨⟨rfl, rfl⟩, hn, hd⟩ := hz
  have e1 := X3z hn F (Yi d ++ back)
  have e2 := X3z hd (F ++ Yi n) back
  rw [show F ++ Yi n ++ (Yi d ++ back) = b by rw [← hb]; simp] at e1
  rw [show F ++ Yi n ++ Yi d ++ back = b by rw [← hb]; simp, List.length_append, Int.natCast_add] at e2
  rw [e1]
  simp only
  rw [if_neg (by simp), e2]
  simp only [List.length_append, Int.natCast_add, Int.add_assoc]
 rw [if_neg h3] at hb ⊢
 rw [if_neg h3]
 by_cases h4 : k = 4
 ·subst h4
  rw [if_pos rfl] at hb ⊢
  rw [if_pos rfl]
  have hz : n = 0 ∧ d = 0 ∧ l = [] ∧ s.length ≤ 100 := by simp at hv; exact ⟨hv.2.1.1, hv.1.1, hv.1.2, hv.2.1.2⟩
  obtain ⟨rfl, rfl, rfl, hs⟩ := hz
  have := X9l (s := s) (most := 100) (by omega) (by omega) F back
  rw [hb] at this
  rw [this]
 rw [if_neg h4] at hb ⊢
 rw [if_neg h4]
 by_cases h7 : k = 7 ∨ k = 8
 ·rw [if_pos h7] at hb ⊢
  rw [if_pos h7]
  have hz : n = 0 ∧ d = 0 ∧ s = [] ∧ Uh k l.length = false ∧ l.length ≤ 64 := by
   rcases h7 with rfl | rfl
   ·simp at hv
    exact ⟨hv.2.1.1, hv.1.1, hv.1.2, by simp [Uh]; omega, by omega⟩
   ·simp at hv
    exact ⟨hv.2.1.1, hv.1.1, hv.1.2, by simp [Uh]; omega, by omega⟩
  obtain ⟨rfl, rfl, rfl, hcb, hl⟩ := hz
  have e1 := X39 (n := l.length) ⟨by omega, by omega⟩ F (Ye l ++ back)
  rw [show F ++ Xo l.length ++ (Ye l ++ back) = b by rw [← hb]; simp] at e1
  rw [e1]
  simp only
  rw [if_neg (by simp), hcb, if_neg (by simp), Int.toNat_natCast]
  have hall : ∀ (j : Nat) (x : Val), l[j]? = some x → X19 b ((if k = 8 then gl else gp) j) x := by
   intro j x hx
   by_cases h8 : k = 8
   ·rw [if_pos h8]; exact hgl h8 j x hx
   ·rw [if_neg h8]; exact hgp (by omega) j x hx
  have e2 := XaK (g := if k = 8 then gl else gp) (b := b) (front := F ++ Xo l.length) (back := back) (l := l) (by rw [← hb]; simp) hall l.length (Nat.le_refl _)
  rw [List.take_length, List.length_append, Int.natCast_add] at e2
  rw [e2]
  simp only [List.length_append, Int.natCast_add, Int.add_assoc]
 rw [if_neg h7] at hb ⊢
 rw [if_neg h7]
 have h0 : k = 0 := by omega
 subst h0
 simp at hv
 obtain ⟨⟨⟨rfl, rfl⟩, rfl⟩, rfl⟩ := hv
 simp
theorem X8o {m : Nat} {k n d : Int} {s : List UInt8} {l : List Val} (hv : X8 m (.mk k n d s l) = true) (hm : m ≤ 8) {want : Int} (hw : want = 0 ∨ want = k) {b front back : List UInt8} {gl gp : Nat → Int → Val × Int × Int}
  (hb : front ++ XP (.mk k n d s l) ++ back = b) (hgl : k = 8 → ∀ (j : Nat) (x : Val), l[j]? = some x → X19 b (gl j) x) (hgp : k = 7 → ∀ (j : Nat) (x : Val), l[j]? = some x → X19 b (gp j) x) :
  U9 gl gp m b front.length want = (.mk k n d s l, (front.length : Int) + (XP (.mk k n d s l)).length, 0) := by
 have hk := X9E hv
 have hc := XcR hv hb hgl hgp
 have hv8 := X6U _ m 8 hm hv
 have hget : b[front.length]? = some (UInt8.ofNat k.toNat) := by rw [← hb, XP]; simp
 have hlt : front.length < b.length := (List.getElem?_eq_some_iff.1 hget).1
 have hm8 : k = 8 → m ≠ 0 := by
  rintro rfl rfl
  have := (XaD hv).2.1
  omega
 unfold U9
 rw [if_neg (by omega), Int.toNat_natCast, hget, Option.getD_some]
 simp only
 rw [XdM hk, if_neg (by omega), hc]
 simp only
 rw [if_neg (fun h => by rw [hv8] at h; exact absurd h.2 (by decide))]
theorem Xga {b : List UInt8} {i : Nat} {x : Val} (hv : X8 0 x = true) (hk : x.kind = 5 + (i % 2 : Nat)) : X19 b (Uu b i) x := by
 obtain ⟨k, n, d, s, l⟩ := x
 simp only [Val.kind] at hk
 intro front back hb
 unfold Uu X2u
 exact X8o hv (by omega) (.inr hk.symm) hb (fun h => by omega) (fun h => by omega)
theorem Xb5 : ∀ {l : List Val} {i j : Nat} {x : Val}, U7 i l = true → l[j]? = some x → x.kind = 5 + ((i + j) % 2 : Nat) ∧ X8 0 x = true
 | [], _, _, _, _, h => by simp at h
 | v :: r, i, 0, x, hp, h => by
  rw [U7, Bool.and_eq_true, Bool.and_eq_true] at hp
  simp at h
  subst h
  exact ⟨of_decide_eq_true hp.1.1, hp.1.2⟩
 | v :: r, i, j + 1, x, hp, h => by
  rw [U7, Bool.and_eq_true, Bool.and_eq_true] at hp
  have := Xb5 hp.2 (j := j) (x := x) (by simpa using h)
  rwa [show i + 1 + j = i + (j + 1) by omega] at this
theorem XgR {m : Nat} {n d : Int} {s : List UInt8} {l : List Val} (h : X8 m (.mk 7 n d s l) = true) : U7 0 l = true := by
 rw [X8] at h
 simp at h
 exact h.2.2
theorem X7F {b : List UInt8} : ∀ (v : Val) (m : Nat), X8 m v = true → m ≤ 8 → X19 b (UX b m) v
 | .mk k n d s l, m, hv, hm => by
  intro front back hb
  rw [X0o]
  refine X8o hv hm (.inl rfl) hb (fun h8 j x hx => ?_) (fun h7 j x hx => ?_)
  ·subst h8
   obtain ⟨_, hm1, hl⟩ := XaD hv
   cases m with
   | zero => omega
   | succ m' => exact X7F x m' (X6E hl (List.mem_of_getElem? hx)) (by omega)
  ·subst h7
   have hp := Xb5 (XgR hv) hx
   rw [Nat.zero_add] at hp
   exact Xga hp.2 hp.1
termination_by v => SizeOf.sizeOf v
decreasing_by
 have h1 := List.sizeOf_lt_of_mem (List.mem_of_getElem? hx)
 simp only [Val.mk.sizeOf_spec]
 omega
theorem Xf4 {v : Val} (hv : X8 8 v = true) (front back : List UInt8) : Yn (front ++ YW v ++ back) front.length = (v, (front.length : Int) + (YW v).length, 0) := by
 rw [show YW v = XP v by unfold YW; rw [hv]; rfl]
 have h := X7F (b := front ++ XP v ++ back) v 8 hv (by omega) front back rfl
 unfold Yn
 rw [if_neg (by simp; omega), h]
 rfl
theorem X2Z {b : List UInt8} {a : Int} (h : 0 ≤ a) (h2 : a ≤ b.length) : only b a a [] := ⟨h, by omega, h2, by simp⟩
theorem Vw {b : List UInt8} {a m e : Int} {w1 w2 : List UInt8} (h1 : only b a m w1) (h2 : only b m e w2) : only b a e (w1 ++ w2) := by
 obtain ⟨k1, k2, k3, k4⟩ := h1
 obtain ⟨j1, j2, j3, j4⟩ := h2
 refine ⟨k1, by omega, j3, ?_⟩
 rw [show (e - a).toNat = (m - a).toNat + (e - m).toNat by omega, List.take_add, k4, List.drop_drop, show a.toNat + (m - a).toNat = m.toNat by omega, j4]
theorem Xa2 {b : List UInt8} {a : Int} {c : UInt8} (h0 : 0 ≤ a) (h : b[a.toNat]? = some c) : only b a (a + 1) [c] := by
 obtain ⟨hl, he⟩ := List.getElem?_eq_some_iff.1 h
 refine ⟨h0, by omega, by omega, ?_⟩
 rw [show (a + 1 - a).toNat = 1 by omega, List.drop_eq_getElem_cons hl, he]
 rfl
def X1f (b : List UInt8) (g : Nat → Int → Val × Int × Int) : Prop := ∀ (i : Nat) (q : Int) (x : Val) (e : Int), 0 ≤ q → q ≤ b.length → g i q = (x, e, 0) → only b q e (XP x)
theorem X8y {g : Nat → Int → Val × Int × Int} {b : List UInt8} {a : Int} (hg : X1f b g) (h0 : 0 ≤ a) (h1 : a ≤ b.length) : ∀ (j : Nat) (l : List Val) (e : Int), Xt g a j = (l, e, 0) → only b a e (Ye l) ∧ l.length = j
 | 0, l, e, h => by
  simp only [Xt, Prod.mk.injEq] at h
  obtain ⟨rfl, rfl, _⟩ := h
  exact ⟨X2Z h0 h1, rfl⟩
 | j + 1, l, e, h => by
  by_cases hz : (Xt g a j).2.2 = 0
  ·rw [X0u hz] at h
   have ih := X8y hg h0 h1 j (Xt g a j).1 (Xt g a j).2.1 (by rw [← hz])
   generalize (Xt g a j).1 = l0 at *
   generalize (Xt g a j).2.1 = q at *
   obtain ⟨⟨i1, i2⟩, i3⟩ := ih
   simp only [Prod.mk.injEq] at h
   obtain ⟨rfl, rfl, h3⟩ := h
   have hx := hg j q (g j q).1 (g j q).2.1 (by omega) (by omega) (by rw [← h3])
   refine ⟨?_, by simp [i3]⟩
   rw [X4k]
   have := Vw ⟨i1, i2⟩ hx
   simpa [Ye] using this
  ·rw [X0z hz (j + 1) (by omega)] at h
   exact absurd (congrArg (fun r => r.2.2) h) hz
theorem X8V (c : UInt8) : UInt8.ofNat (((c.toNat : Nat) : Int)).toNat = c := by simp
theorem Xd4 {gl gp : Nat → Int → Val × Int × Int} {b : List UInt8} {a k : Int} {v : Val} {e : Int} (hgl : X1f b gl) (hgp : X1f b gp) (h0 : 0 ≤ a) (h1 : a ≤ b.length) (h : XV gl gp b a k = (v, e, 0)) :
  ∃ w, only b a e w ∧ XP v = UInt8.ofNat k.toNat :: w := by
 unfold XV at h
 split at h
 ·rename_i hk
  simp only [Prod.mk.injEq] at h
  obtain ⟨rfl, rfl, h3⟩ := h
  have := X3J (b := b) (a := a) (n := (Xp b a).1) (e := (Xp b a).2.1) (by rw [← h3])
  exact ⟨_, this.1, by rw [XP, if_pos hk]⟩
 rename_i hk1
 split at h
 ·rename_i hk
  subst hk
  simp only at h
  split at h
  ·rename_i h3
   simp only [Prod.mk.injEq] at h
   exact absurd h.2.2 h3
  rename_i h3
  have h3 : (Xp b a).2.2 = 0 := by simpa using h3
  simp only [Prod.mk.injEq] at h
  obtain ⟨rfl, rfl, h4⟩ := h
  have e1 := X3J (b := b) (a := a) (n := (Xp b a).1) (e := (Xp b a).2.1) (by rw [← h3])
  have e2 := X3J (b := b) (a := (Xp b a).2.1) (n := (Xp b (Xp b a).2.1).1) (e := (Xp b (Xp b a).2.1).2.1) (by rw [← h4])
  exact ⟨_, Vw e1.1 e2.1, by rw [XP]; simp⟩
 rename_i hk3
 split at h
 ·rename_i hk
  subst hk
  simp only [Prod.mk.injEq] at h
  obtain ⟨rfl, rfl, h3⟩ := h
  have := X2E (b := b) (a := a) (s := (Yk b a 100).1) (e := (Yk b a 100).2.1) (most := 100) (by rw [← h3])
  exact ⟨_, this.1, by rw [XP]; simp⟩
 rename_i hk4
 split at h
 ·rename_i hk
  simp only at h
  split at h
  ·rename_i h3
   simp only [Prod.mk.injEq] at h
   exact absurd h.2.2 h3
  rename_i h3
  split at h
  ·simp at h
  have h3 : (Xf b a).2.2 = 0 := by simpa using h3
  have e1 := X1M (b := b) (a := a) (n := (Xf b a).1) (e := (Xf b a).2.1) (by rw [← h3])
  simp only [Prod.mk.injEq] at h
  obtain ⟨rfl, rfl, h4⟩ := h
  have hall : X1f b (if k = 8 then gl else gp) := by
   split
   ·exact hgl
   ·exact hgp
  obtain ⟨⟨k1, k2, k3, k4⟩, k5, k6, k7⟩ := e1
  have e2 := X8y (g := if k = 8 then gl else gp) (b := b) (a := (Xf b a).2.1) hall (by omega) (by omega) (Xf b a).1.toNat _ _ (by rw [← h4])
  refine ⟨_, Vw ⟨k1, k2, k3, k4⟩ e2.1, ?_⟩
  rw [XP, if_neg hk1, if_neg hk3, if_neg hk4, if_pos hk, e2.2]
  rw [show (((Xf b a).1.toNat : Nat) : Int) = (Xf b a).1 by omega]
 rename_i hk7
 simp only [Prod.mk.injEq] at h
 obtain ⟨rfl, rfl, _⟩ := h
 exact ⟨[], X2Z h0 h1, by rw [XP, if_neg hk1, if_neg hk3, if_neg hk4, if_neg hk7]⟩
theorem X5a {gl gp : Nat → Int → Val × Int × Int} {m : Nat} {b : List UInt8} {a want : Int} {v : Val} {e : Int} (hgl : X1f b gl) (hgp : X1f b gp) (h0 : 0 ≤ a) (h1 : a ≤ b.length) (h : U9 gl gp m b a want = (v, e, 0)) : only b a e (XP v) := by
 unfold U9 at h
 split at h
 ·simp at h
 rename_i h2
 obtain ⟨c, hc⟩ := Xv (l := b) (k := a.toNat) (by omega)
 rw [hc, Option.getD_some] at h
 simp only at h
 split at h
 ·simp at h
 split at h
 ·simp at h
 obtain ⟨w, hw, hp⟩ := Xd4 hgl hgp (by omega) (by omega) h
 rw [hp, X8V]
 exact Vw (Xa2 h0 hc) hw
theorem X6X {b : List UInt8} : X1f b noG := fun i q x e _ _ h => by simp [noG] at h
theorem X7l {b : List UInt8} : X1f b (Uu b) := fun i q x e h0 h1 h => by
 unfold Uu X2u at h
 exact X5a X6X X6X h0 h1 h
theorem X88 {b : List UInt8} : ∀ (m : Nat) (a : Int) (v : Val) (e : Int), 0 ≤ a → a ≤ b.length → UX b m a = (v, e, 0) → only b a e (XP v)
 | 0, a, v, e, h0, h1, h => by
  rw [X0o] at h
  exact X5a X6X X7l h0 h1 h
 | m + 1, a, v, e, h0, h1, h => by
  rw [X0o] at h
  exact X5a (gl := VM b (m + 1)) (fun i q x e h0 h1 h => X88 m q x e h0 h1 h) X7l h0 h1 h
theorem X7W {b : List UInt8} {a e : Int} {v : Val} (h : Yn b a = (v, e, 0)) : only b a e (YW v) ∧ X8 8 v = true ∧ (XP v).length ≤ b.length := by
 unfold Yn at h
 split at h
 ·simp at h
 simp only at h
 split at h
 ·rename_i h2
  simp only [Prod.mk.injEq] at h
  exact absurd h.2.2 h2
 rename_i h1 h2
 have ho := X88 8 a v e (by omega) (by omega) h
 have hv : X8 8 v = true := by
  have := X5A (gl := VM b 8) (gp := Uu b) (m := 8) (b := b) (a := a) (want := 0) (by rw [← X0o, h])
  rw [← X0o, h] at this
  exact this
 have hl : (XP v).length ≤ b.length := by
  rw [← ho.2.2.2]
  simp
  omega
 refine ⟨?_, hv, hl⟩
 unfold YW
 rw [if_pos hv]
 exact ho
theorem X4P {b : List UInt8} {a limit k a1 : Int} (h0 : 0 ≤ a) (h : rkI b a 0 limit = (k, a1, 0)) : only b a a1 [UInt8.ofNat k.toNat] ∧ a1 = a + 1 ∧ 1 ≤ k ∧ k ≤ limit := by
 unfold rkI rkS at h
 rw [if_neg (by simp), if_neg (by simp)] at h
 split at h
 ·simp at h
 ·rename_i h1
  split at h
  ·simp at h
  ·rename_i h2
   obtain ⟨c, hc⟩ : ∃ c, b[a.toNat]? = some c := ⟨_, List.getElem?_eq_getElem (by omega)⟩
   rw [hc] at h h2
   simp only [Option.getD_some, Prod.mk.injEq] at h h2
   obtain ⟨rfl, rfl, _⟩ := h
   refine ⟨?_, by omega, by omega, by omega⟩
   rw [X8V, show ((a.toNat : Nat) : Int) + 1 = a + 1 by omega]
   exact Xa2 h0 hc
theorem X3l {b : List UInt8} {a : Int} : rnS b a 0 = Xf b a := if_neg (by simp)
theorem X6w {b : List UInt8} {a : Int} : rsS b a 0 = Yk b a 20 := if_neg (by simp)
theorem X4w {b : List UInt8} {a e n m : Int} (h : rnS b a e = (n, m, 0)) : e = 0 := by
 by_cases he : e = 0
 ·exact he
 ·rw [X5U he] at h
  simp at h
  exact absurd h.2.2 he
theorem X0R {b : List UInt8} {a e m : Int} {s : List UInt8} (h : rsS b a e = (s, m, 0)) : e = 0 := by
 by_cases he : e = 0
 ·exact he
 ·rw [X7f he] at h
  simp at h
  exact absurd h.2.2 he
theorem X7Y {b : List UInt8} {a e n m : Int} (h : riS b a e = (n, m, 0)) : e = 0 := by
 by_cases he : e = 0
 ·exact he
 ·rw [X6T he] at h
  simp at h
  exact absurd h.2.2 he
theorem Xfj {b : List UInt8} {a e m : Int} {v : Val} (h : rvS b a e = (v, m, 0)) : e = 0 := by
 by_cases he : e = 0
 ·exact he
 ·rw [X9v he] at h
  simp at h
  exact absurd h.2.2 he
theorem XfG {b : List UInt8} {a e limit k m : Int} (h : rkI b a e limit = (k, m, 0)) : e = 0 := by
 by_cases he : e = 0
 ·exact he
 ·unfold rkI at h
  rw [if_pos he] at h
  simp at h
  exact absurd h.2.2 he
theorem X9g (c : UInt8) (w : List UInt8) : c :: w = [c] ++ w := rfl
theorem X3S : Yd zV := by rw [Yd]; exact ⟨by simp, by simp, by rw [V1]; trivial⟩
theorem XfH {b : List UInt8} {a at_ : Int} {c : Chg} (h0 : 0 ≤ a) (h : Yc b a 0 = (c, at_, 0)) : only b a at_ (Yt c) ∧ a < at_ ∧ 1 ≤ c.op ∧ c.op ≤ 8 := by
 unfold Yc at h
 simp only at h
 generalize hk : rkI b a 0 8 = k at h
 obtain ⟨op, a1, e1⟩ := k
 simp only at h
 generalize hi : rnS b a1 e1 = i at h
 obtain ⟨id, a2, e2⟩ := i
 simp only at h
 generalize hf : (if op = 6 then rnS b a2 e2 else (0, a2, e2)) = f at h
 obtain ⟨src, a3, e3⟩ := f
 simp only at h
 generalize ht : (if op = 6 then rnS b a3 e3 else (0, a3, e3)) = t at h
 obtain ⟨dst, a4, e4⟩ := t
 simp only at h
 generalize hs : (if XX op = true then rsS b a4 e4 else ([], a4, e4)) = s at h
 obtain ⟨name, a5, e5⟩ := s
 simp only at h
 generalize hv : (if XS op = true then rvS b a5 e5 else (zV, a5, e5)) = v at h
 obtain ⟨v, a6, e6⟩ := v
 simp only [Prod.mk.injEq] at h
 obtain ⟨rfl, rfl, rfl⟩ := h
 have z5 : e5 = 0 := by
  split at hv
  ·exact Xfj hv
  ·simp at hv; exact hv.2.2
 subst z5
 have z4 : e4 = 0 := by
  split at hs
  ·exact X0R hs
  ·simp at hs; exact hs.2.2
 subst z4
 have z3 : e3 = 0 := by
  split at ht
  ·exact X4w ht
  ·simp at ht; exact ht.2.2
 subst z3
 have z2 : e2 = 0 := by
  split at hf
  ·exact X4w hf
  ·simp at hf; exact hf.2.2
 subst z2
 have z1 := X4w hi
 subst z1
 obtain ⟨p1, p2, p3, p4⟩ := X4P h0 hk
 rw [X3l] at hi
 obtain ⟨q1, q2, q3, q4⟩ := X1M hi
 have r1 : only b a2 a4 (if op = 6 then Xo src ++ Xo dst else []) ∧ a2 ≤ a4 := by
  by_cases h6 : op = 6
  ·rw [if_pos h6] at hf ht ⊢
   rw [X3l] at hf ht
   have x1 := X1M hf
   have x2 := X1M ht
   exact ⟨Vw x1.1 x2.1, by omega⟩
  ·rw [if_neg h6] at hf ht ⊢
   simp at hf ht
   obtain ⟨_, rfl⟩ := hf
   obtain ⟨_, rfl⟩ := ht
   have := q1.2.1
   exact ⟨X2Z (by have := p1.1; omega) q1.2.2.1, by omega⟩
 have r2 : only b a4 a5 (if XX op = true then XM name else []) ∧ a4 ≤ a5 := by
  by_cases h6 : XX op = true
  ·rw [if_pos h6] at hs ⊢
   rw [X6w] at hs
   have x1 := X2E hs
   exact ⟨x1.1, by omega⟩
  ·rw [if_neg h6] at hs ⊢
   simp at hs
   obtain ⟨_, rfl⟩ := hs
   exact ⟨X2Z (by have := r1.1.1; have := r1.1.2.1; omega) r1.1.2.2.1, by omega⟩
 have r3 : only b a5 a6 (if XS op = true then YW v else []) ∧ a5 ≤ a6 := by
  by_cases h6 : XS op = true
  ·rw [if_pos h6] at hv ⊢
   rw [X57] at hv
   have x1 := X7W hv
   exact ⟨x1.1, x1.1.2.1⟩
  ·rw [if_neg h6] at hv ⊢
   simp at hv
   obtain ⟨_, rfl⟩ := hv
   exact ⟨X2Z (by have := r2.1.1; have := r2.1.2.1; omega) r2.1.2.2.1, by omega⟩
 refine ⟨?_, by omega, p3, p4⟩
 unfold Yt
 simp only
 rw [X9g]
 exact Vw p1 (Vw (Vw (Vw q1 r1.1) r2.1) r3.1)
theorem XgH (b : List UInt8) (a e : Int) : (rsS b a e).1.length ≤ 20 := by
 unfold rsS
 split
 ·simp
 ·have := XaC b a 20 (by omega)
  omega
theorem Xfm (b : List UInt8) (a e : Int) : Yd (rvS b a e).1 := by
 unfold rvS
 split
 ·exact X3S
 ·by_cases hz : (Yn b a).2.2 = 0
  ·have := X7W (b := b) (a := a) (v := (Yn b a).1) (e := (Yn b a).2.1) (by rw [← hz])
   exact X6M _ _ this.2.1
  ·unfold Yn at hz ⊢
   split
   ·exact X3S
   ·rename_i h1
    rw [if_neg h1] at hz
    simp only at hz ⊢
    split
    ·exact X3S
    ·rename_i h2
     rw [if_neg h2] at hz
     exact absurd (by simpa using h2) hz
theorem XfC (b : List UInt8) (a e : Int) : X3v (Yc b a e).1 := by
 unfold Yc
 constructor
 ·simp only
  by_cases h : XX (rkI b a e 8).1 = true
  ·simp only [if_pos h]
   exact Nat.le_trans (XgH _ _ _) (by omega)
  ·simp only [if_neg h]
   simp
 ·simp only
  by_cases h : XS (rkI b a e 8).1 = true
  ·simp only [if_pos h]
   exact Xfm _ _ _
  ·simp only [if_neg h]
   exact X3S
theorem Xgd {b : List UInt8} {a at_ : Int} {r : Rul} (h0 : 0 ≤ a) (h : YN b a 0 = (r, at_, 0)) : only b a at_ (UD r) ∧ a < at_ := by
 unfold YN at h
 simp only at h
 generalize hk : rkI b a 0 7 = k at h
 obtain ⟨kd, a1, e1⟩ := k
 simp only at h
 generalize h1 : rsS b a1 e1 = s at h
 obtain ⟨s1, a2, e2⟩ := s
 simp only at h
 generalize h2 : rsS b a2 e2 = s at h
 obtain ⟨s2, a3, e3⟩ := s
 simp only at h
 generalize h3 : rsS b a3 e3 = s at h
 obtain ⟨s3, a4, e4⟩ := s
 simp only at h
 generalize h4 : rsS b a4 e4 = s at h
 obtain ⟨s4, a5, e5⟩ := s
 simp only at h
 generalize h5 : riS b a5 e5 = s at h
 obtain ⟨n, a6, e6⟩ := s
 simp only [Prod.mk.injEq] at h
 obtain ⟨rfl, rfl, rfl⟩ := h
 obtain rfl := X7Y h5
 obtain rfl := X0R h4
 obtain rfl := X0R h3
 obtain rfl := X0R h2
 obtain rfl := X0R h1
 rw [X6w] at h1 h2 h3 h4
 rw [X3E] at h5
 obtain ⟨p1, p2, p3, p4⟩ := X4P h0 hk
 have x1 := X2E h1
 have x2 := X2E h2
 have x3 := X2E h3
 have x4 := X2E h4
 have x5 := X3J h5
 refine ⟨?_, by omega⟩
 unfold UD
 simp only
 rw [X9g]
 exact Vw p1 (Vw (Vw (Vw (Vw x1.1 x2.1) x3.1) x4.1) x5.1)
abbrev X0F : Rcd := ⟨0, 0, [], zR, false⟩
theorem XfO (c : Chg) (ρ : Nat → Nat) : (Y3 c).ren ρ = Y3 c := by
 obtain ⟨op, id, src, dst, name, ⟨k, n, d, s, l⟩⟩ := c
 rfl
theorem XcJ (r : Rul) (ρ : Nat → Nat) : (Uw r).ren ρ = Uw r := rfl
theorem XdV (b : List UInt8) (a e limit : Int) (hb : b.length ≤ 281474976710656) (ha : e = 0 → 0 ≤ a ∧ a ≤ b.length) : Con Tryz.prog 94 [(101, oRd b a e)] [.ptr 101 0, ai limit] [(101, oRd b (rkI b a e limit).2.1 (rkI b a e limit).2.2)] (ai (rkI b a e limit).1) := Vv 0 101 (X5T b a e limit hb ha)
theorem X86 (b : List UInt8) (a e : Int) (hb : b.length ≤ 281474976710656) : Con Tryz.prog 95 [(101, oRd b a e)] [.ptr 101 0] [(101, oRd b (rnS b a e).2.1 (rnS b a e).2.2)] (ai (rnS b a e).1) := Vv 0 101 (X3d b a e hb)
theorem XdQ (b : List UInt8) (a e : Int) (hb : b.length ≤ 281474976710656) (ha : e = 0 → 0 ≤ a ∧ a ≤ b.length) : Con Tryz.prog 98 [(101, oRd b a e)] [.ptr 101 0] [(101, oRd b (roS b a e).2.1 (roS b a e).2.2)] (ab (roS b a e).1) := Vv 0 101 (Xcw b a e hb ha)
theorem Xdb (b : List UInt8) (a e : Int) (hb : b.length ≤ 281474976710656) (ha : e = 0 → 0 ≤ a ∧ a ≤ b.length) : Con Tryz.prog 96 [(101, oRd b a e)] [.ptr 101 0] [(101, oRd b (Yc b a e).2.1 (Yc b a e).2.2)] (Y3 (Yc b a e).1) := by
 have h := Vv 0 101 (Xhd b a e hb ha)
 rw [XfO] at h
 exact h
theorem XeA (b : List UInt8) (a e : Int) (hb : b.length ≤ 281474976710656) (ha : e = 0 → 0 ≤ a ∧ a ≤ b.length) : Con Tryz.prog 97 [(101, oRd b a e)] [.ptr 101 0] [(101, oRd b (YN b a e).2.1 (YN b a e).2.2)] (Uw (YN b a e).1) := by
 have h := Vv 0 101 (XcK b a e hb ha)
 rw [XcJ] at h
 exact h
end Go.Fw
