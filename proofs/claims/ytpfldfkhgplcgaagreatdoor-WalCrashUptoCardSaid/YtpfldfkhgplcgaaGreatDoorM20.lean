/- Where reading ends, in plain Lean. -/
import Derived.Test.YtpfldfkhgplcgaaGreatDoorM19
set_option maxHeartbeats 16000000
namespace Go.Fw
open Go
set_option linter.unusedVariables false
set_option linter.unusedSimpArgs false
def UN (b : List UInt8) (e : Int × Int) : Prop := e.2 = 0 → ∃ q : Nat, e.1 = (q : Int) ∧ q ≤ b.length
theorem X8M (b : List UInt8) (a : Int) : UN b (Yr b a).2 := by
 intro h
 obtain ⟨k, rfl, hk, h1, h2, he⟩ := XaK h
 refine ⟨_, he, ?_⟩
 simp only [List.length_drop] at h1
 omega
theorem X1W (b : List UInt8) (a : Int) : UN b (Xk b a).2 := by
 intro h
 unfold Xk at h ⊢
 simp only at h ⊢
 split
 ·rename_i h1; rw [if_pos h1] at h; exact absurd h h1
 rename_i h1; rw [if_neg h1] at h
 split
 ·rename_i h2; rw [if_pos h2] at h; simp at h
 rename_i h2; rw [if_neg h2] at h
 split
 ·rename_i h3; rw [if_pos h3] at h; simp at h
 exact X8M b a (Classical.not_not.1 h1)
theorem X3R (b : List UInt8) (a : Int) : ∃ n : Nat, (Xk b a).1 = n := by
 unfold Xk
 simp only
 split
 ·exact ⟨0, rfl⟩
 split
 ·exact ⟨0, rfl⟩
 split
 ·exact ⟨0, rfl⟩
 exact ⟨_, rfl⟩
theorem XcJ {b : List UInt8} {a : Int} (h : (Xk b a).2.2 ≠ 0) : (Xk b a).1 = 0 := by
 unfold Xk at h ⊢
 simp only at h ⊢
 split
 ·rfl
 rename_i h1; rw [if_neg h1] at h
 split
 ·rfl
 rename_i h2; rw [if_neg h2] at h
 split
 ·rfl
 rename_i h3; rw [if_neg h3] at h
 simp at h
theorem X6z (b : List UInt8) (a : Int) : UN b (XO b a).2 := by
 intro h
 unfold XO at h ⊢
 simp only at h ⊢
 split
 ·rename_i h1; rw [if_pos h1] at h; exact absurd h h1
 rename_i h1; rw [if_neg h1] at h
 split
 ·rename_i h3; rw [if_pos h3] at h; simp at h
 exact X8M b a (Classical.not_not.1 h1)
theorem XfH {b : List UInt8} {a : Int} (h : (XO b a).2.2 ≠ 0) : (XO b a).1 = 0 := by
 unfold XO at h ⊢
 simp only at h ⊢
 split
 ·rfl
 rename_i h1; rw [if_neg h1] at h
 split
 ·rfl
 rename_i h3; rw [if_neg h3] at h
 simp at h
theorem XeV (b : List UInt8) (a most : Int) : UN b (U8 b a most).2 := by
 intro h
 have hu := X1W b a
 obtain ⟨n, hn⟩ := X3R b a
 unfold U8 at h ⊢
 simp only at h ⊢
 split
 ·rename_i h1; rw [if_pos h1] at h; exact absurd h h1
 rename_i h1; rw [if_neg h1] at h
 split
 ·rename_i h2; rw [if_pos h2] at h; simp at h
 rename_i h2; rw [if_neg h2] at h
 split
 ·rename_i h3; rw [if_pos h3] at h; simp at h
 rename_i h3
 obtain ⟨q, hq, hql⟩ := hu (Classical.not_not.1 h1)
 rw [hn] at h3 ⊢
 rw [hq] at h3 ⊢
 exact ⟨q + n, by simp, by omega⟩
section
variable {g : Nat → Int → Val × Int × Int} {a : Int}
theorem X1S {k : Nat} (h : (Y1 g a k).2.2 = 0) : Y1 g a (k + 1) = ((Y1 g a k).1 ++ [(g k (Y1 g a k).2.1).1], (g k (Y1 g a k).2.1).2.1, (g k (Y1 g a k).2.1).2.2) := by
 rw [Y1]; simp [h]
theorem X2m {k : Nat} (h : (Y1 g a k).2.2 ≠ 0) : ∀ j, k ≤ j → Y1 g a j = Y1 g a k
 | 0, hj => by obtain rfl : k = 0 := by omega
               rfl
 | j + 1, hj => by
  by_cases e : k = j + 1
  ·rw [e]
  ·have := X2m h j (by omega)
   rw [Y1, this]; simp [h]
theorem Xek {k : Nat} (h : (Y1 g a k).2.2 = 0) : (Y1 g a k).1.length = k := by
 induction k with
 | zero => rfl
 | succ k ih =>
  by_cases e : (Y1 g a k).2.2 = 0
  ·rw [X1S e]; simp [ih e]
  ·rw [X2m e (k + 1) (by omega)] at h; exact absurd h e
theorem X3w {b : List UInt8} (hg : ∀ i q : Nat, q ≤ b.length → UN b (g i q).2) (h0 : ∃ q : Nat, a = (q : Int) ∧ q ≤ b.length) : ∀ k, UN b (Y1 g a k).2
 | 0 => fun _ => h0
 | k + 1 => by
  by_cases e : (Y1 g a k).2.2 = 0
  ·rw [X1S e]
   obtain ⟨q, h1, h2⟩ := X3w hg h0 k e
   intro h
   rw [h1] at h ⊢
   exact hg k q h2 h
  ·intro h; rw [X2m e (k + 1) (by omega)] at h; exact absurd h e
theorem X8l {k : Nat} (h : (Y1 g a k).2.2 = 0) : (Y1 g a (k + 1)).1.length = k + 1 := by
 rw [X1S h]; simp [Xek h]
end
theorem Xe7 {gl gp : Nat → Int → Val × Int × Int} {b : List UInt8} (hgl : ∀ i q : Nat, q ≤ b.length → UN b (gl i q).2) (hgp : ∀ i q : Nat, q ≤ b.length → UN b (gp i q).2) (a : Nat) (ha : a ≤ b.length) (k : Int) : UN b (YJ gl gp b a k).2 := by
 unfold YJ
 split
 ·exact X6z b a
 split
 ·simp only
  split
  ·exact X6z b a
  ·exact X6z b _
 split
 ·exact XeV b a 100
 split
 ·simp only
  split
  ·exact X1W b a
  rename_i h1
  split
  ·intro h; simp at h
  ·have h0 := X1W b a (Classical.not_not.1 h1)
   split
   ·exact X3w hgl h0 _
   ·exact X3w hgp h0 _
 ·exact fun _ => ⟨a, rfl, ha⟩
theorem X6g {gl gp : Nat → Int → Val × Int × Int} {b : List UInt8} (hgl : ∀ i q : Nat, q ≤ b.length → UN b (gl i q).2) (hgp : ∀ i q : Nat, q ≤ b.length → UN b (gp i q).2) (m a : Nat) (ha : a ≤ b.length) (want : Int) : UN b (Uw gl gp m b a want).2 := by
 unfold Uw
 split
 ·intro h; simp at h
 simp only
 split
 ·intro h; simp at h
 ·rename_i h1 h2
  have := Xe7 hgl hgp (a + 1) (by omega) ((((b[(a : Int).toNat]?).getD 0).toNat : Nat) : Int)
  rw [Int.natCast_add] at this
  split
  ·intro h; simp at h
  ·exact this
theorem X2Y {b : List UInt8} (i q : Nat) : UN b (noG i q).2 := fun h => by simp [noG] at h
theorem X4b {b : List UInt8} (i q : Nat) (h : q ≤ b.length) : UN b (X0x b i q).2 :=
 X6g (fun i q _ => X2Y i q) (fun i q _ => X2Y i q) 0 q h _
theorem X9p {b : List UInt8} : ∀ (m q : Nat), q ≤ b.length → UN b (X01 b m q).2
 | 0, q, h => X6g (fun i q _ => X2Y i q) (fun i q h => X4b i q h) 0 q h _
 | m + 1, q, h => X6g (fun i q h => X9p m q h) (fun i q h => X4b i q h) (m + 1) q h _
theorem X7r : ∀ {l : List Val}, (∀ x ∈ l, YD x) → X0s l
 | [], _ => by rw [X0s]; trivial
 | v :: r, h => by
  rw [X0s]
  exact ⟨h v (List.mem_cons_self ..), X7r fun x hx => h x (List.mem_cons_of_mem _ hx)⟩
theorem XhC {m : Nat} {k n d : Int} {s : List UInt8} {l : List Val} (h : X8 m (.mk k n d s l) = true) : s.length ≤ 100 ∧ l.length ≤ 64 := by
 rw [X8] at h
 by_cases h4 : k = 4
 ·subst h4; simp at h; exact ⟨by omega, by rw [h.1.2]; simp⟩
 by_cases h7 : k = 7
 ·subst h7; simp at h; exact ⟨by rw [h.1.2]; simp, by omega⟩
 by_cases h8 : k = 8
 ·subst h8; simp at h; exact ⟨by rw [h.1.2]; simp, by omega⟩
 simp [h4, h7, h8] at h
 exact ⟨by rw [h.1.1.2]; simp, by rw [h.1.2]; simp⟩
theorem X91 : ∀ (v : Val) (m : Nat), X8 m v = true → YD v
 | .mk k n d s l, m, h => by
  have h1 := XhC h
  rw [YD]
  exact ⟨by omega, by omega, X7r fun x hx => X91 x m (X5D h x hx)⟩
termination_by v => SizeOf.sizeOf v
decreasing_by
 have h1 := List.sizeOf_lt_of_mem (show x ∈ l from hx)
 simp only [Val.mk.sizeOf_spec]
 omega
theorem XeR {gl gp : Nat → Int → Val × Int × Int} {m : Nat} {b : List UInt8} {a want : Int} (h : (Uw gl gp m b a want).2.2 = 0) : X8 8 (Uw gl gp m b a want).1 = true := by
 unfold Uw at h ⊢
 split
 ·rename_i h1; rw [if_pos h1] at h; simp at h
 rename_i h1
 rw [if_neg h1] at h
 simp only at h ⊢
 split
 ·rename_i h2; rw [if_pos h2] at h; simp at h
 rename_i h2
 rw [if_neg h2] at h
 split
 ·rename_i h3; rw [if_pos h3] at h; simp at h
 rename_i h3
 rw [if_neg h3] at h
 cases hv : X8 8 (YJ gl gp b (a + 1) ((((b[a.toNat]?).getD 0).toNat : Nat) : Int)).1 with
 | true => rfl
 | false => exact absurd ⟨h, hv⟩ h3
theorem XfW (b : List UInt8) (a most : Int) (hm : 0 ≤ most) : ((U8 b a most).1.length : Int) ≤ most := by
 obtain ⟨n, hn⟩ := X3R b a
 unfold U8
 simp only
 split
 ·simpa using hm
 split
 ·simpa using hm
 split
 ·simpa using hm
 ·rename_i h1 h2 h3
  rw [hn] at h2 ⊢
  simp
  omega
theorem X1O {n : Nat} (h : n ≤ 300) : (Xh n).length ≤ 10 := by
 rw [Vl (by omega)]
 exact Vo (by omega)
theorem X2r {n : Int} (h : -9223372036854775808 ≤ n ∧ n ≤ 9223372036854775807) : (XS n).length ≤ 10 := Vo (X8o h)
theorem XeM {m : Nat} {k n d : Int} {s : List UInt8} {l : List Val} (h : X8 m (.mk k n d s l) = true) (h7 : k ≠ 7) (h8 : k ≠ 8) : (Xs (.mk k n d s l)).length ≤ 111 := by
 rw [X8] at h
 rw [Xs]
 simp only [List.length_cons]
 by_cases h1 : k = 1 ∨ k = 2 ∨ k = 5 ∨ k = 6
 ·rw [if_pos h1]
  have hn : -9223372036854775808 ≤ n ∧ n ≤ 9223372036854775807 := by
   rcases h1 with rfl | rfl | rfl | rfl <;> simp at h <;> omega
  have := X2r hn
  omega
 rw [if_neg h1]
 by_cases h3 : k = 3
 ·subst h3
  rw [if_pos rfl]
  have hnd : (-9223372036854775808 ≤ n ∧ n ≤ 9223372036854775807) ∧ -9223372036854775808 ≤ d ∧ d ≤ 9223372036854775807 := by simp [Vc] at h; omega
  have h5 := X2r hnd.1
  have h6 := X2r hnd.2
  rw [List.length_append]
  omega
 rw [if_neg h3]
 by_cases h4 : k = 4
 ·subst h4
  rw [if_pos rfl]
  have hs : s.length ≤ 100 := by simp at h; omega
  have := X1O (n := s.length) (by omega)
  unfold Xw
  rw [List.length_append]
  omega
 rw [if_neg h4, if_neg (by omega)]
 simp
theorem Xb4 {m : Nat} {n d : Int} {s : List UInt8} {l : List Val} (h : X8 m (.mk 8 n d s l) = true) : l.length ≤ 64 ∧ 1 ≤ m ∧ Un (m - 1) l = true := by
 rw [X8] at h
 simp at h
 exact ⟨h.2.1.2.1, by omega, h.2.2⟩
open Go Go.Proofs
set_option maxRecDepth 100000
theorem X4H {c : Chg} (h : YM c = 0) : (1 ≤ c.op ∧ c.op ≤ 8) ∧ (1 ≤ c.id ∧ c.id ≤ 1000000) ∧ (c.op = 6 → (1 ≤ c.src ∧ c.src ≤ 1000000) ∧ 1 ≤ c.dst ∧ c.dst ≤ 1000000) ∧ (XV c.op = true → c.name.length ≤ 20) ∧
  (XQ c.op = true → X8 8 c.v = true ∧ (Xs c.v).length ≤ 111) := by
 unfold YM at h
 split at h
 ·omega
 rename_i h1
 split at h
 ·omega
 rename_i h2
 split at h
 ·omega
 rename_i h3
 split at h
 ·omega
 rename_i h4
 split at h
 ·omega
 rename_i h5
 have i1 : decide (1 ≤ c.op ∧ c.op ≤ 8) = true := by
  cases hd : decide (1 ≤ c.op ∧ c.op ≤ 8) with
  | true => rfl
  | false => exact absurd (.inl hd) h1
 have i2 : idV c.id = true := by
  cases hd : idV c.id with
  | true => rfl
  | false => exact absurd (.inr hd) h1
 refine ⟨of_decide_eq_true i1, of_decide_eq_true i2, fun h6 => ?_, fun hn => ?_, fun hv => ?_⟩
 ·have j1 : idV c.src = true := by
   cases hd : idV c.src with
   | true => rfl
   | false => exact absurd (.inl ⟨h6, .inl hd⟩) h2
  have j2 : idV c.dst = true := by
   cases hd : idV c.dst with
   | true => rfl
   | false => exact absurd (.inl ⟨h6, .inr hd⟩) h2
  exact ⟨of_decide_eq_true j1, of_decide_eq_true j2⟩
 ·have j1 : Yl c.name = true := by
   cases hd : Yl c.name with
   | true => rfl
   | false => exact absurd ⟨hn, hd⟩ h4
  unfold Yl at j1
  simp at j1
  omega
 ·have j1 : X8 8 c.v = true ∧ (c.v.kind = 0 ∨ c.v.kind = 1 ∨ c.v.kind = 2 ∨ c.v.kind = 4) := by
   cases hz : V6 c.v with
   | true =>
    unfold V6 at hz
    simp at hz
    exact ⟨hz.1, .inl hz.2⟩
   | false =>
    cases hp : X07 c.v with
    | true =>
     unfold X07 X43 at hp
     simp at hp
     exact ⟨hp.2, .inr hp.1⟩
    | false => exact absurd ⟨hv, hz, hp⟩ h5
  obtain ⟨op, id, src, dst, name, ⟨k, n, d, s, l⟩⟩ := c
  simp only [Val.kind] at j1 ⊢
  exact ⟨j1.1, XeM j1.1 (by omega) (by omega)⟩
def X1h (op : Int) : Bool × Bool × Bool := (decide (op = 6), decide (op ≠ 1 ∧ op ≠ 2 ∧ op ≠ 7), decide (op ≠ 1 ∧ op ≠ 2 ∧ op ≠ 7 ∧ op ≠ 3 ∧ op ≠ 4 ∧ op ≠ 6))
theorem X7Q (op : Int) : Con Tryz.prog 130 [] [ai op] [] (.tup [ab (X1h op).1, ab (X1h op).2.1, ab (X1h op).2.2]) := by
 refine Xa (xs := [ab (X1h op).1, ab (X1h op).2.1, ab (X1h op).2.2]) Tryz.func130 rfl Tryz.ntmps130 rfl rfl rfl (fun E => ?_)
 by_cases k1 : op = 1
 ·subst k1
  repeat first | refine X0 ?_ | (refine JR ?_; (repeat first | refine Z1 ?_ | refine Z0 ?_ | refine Zl ?_); refine JD ?_) | refine JT ?_ | refine X5 ?_ | refine X4 ?_
  exact QMb
 by_cases k2 : op = 2
 ·subst k2
  repeat first | refine X0 ?_ | (refine JR ?_; (repeat first | refine Z1 ?_ | refine Z0 ?_ | refine Zl ?_); refine JD ?_) | refine JT ?_ | refine JF ?_ | refine X5 ?_ | refine X4 ?_
  exact QMb
 by_cases k7 : op = 7
 ·subst k7
  repeat first | refine X0 ?_ | (refine JR ?_; (repeat first | refine Z1 ?_ | refine Z0 ?_ | refine Zl ?_); refine JD ?_) | refine JT ?_ | refine JF ?_ | refine X5 ?_
  exact QMb
 by_cases k3 : op = 3
 ·subst k3
  repeat first | refine X0 ?_ | (refine JR ?_; (repeat first | refine Z1 ?_ | refine Z0 ?_ | refine Zl ?_); refine JD ?_) | refine JT ?_ | refine JF ?_ | refine X5 ?_ | refine X4 ?_
  exact QMb
 by_cases k4 : op = 4
 ·subst k4
  repeat first | refine X0 ?_ | (refine JR ?_; (repeat first | refine Z1 ?_ | refine Z0 ?_ | refine Zl ?_); refine JD ?_) | refine JT ?_ | refine JF ?_ | refine X5 ?_
  exact QMb
 by_cases k6 : op = 6
 ·subst k6
  repeat first | refine X0 ?_ | (refine JR ?_; (repeat first | refine Z1 ?_ | refine Z0 ?_ | refine Zl ?_); refine JD ?_) | refine JT ?_ | refine JF ?_ | refine X5 ?_
  exact QMb
 rw [show X1h op = (false, true, true) by unfold X1h; rw [decide_eq_false (by omega), decide_eq_true (by omega), decide_eq_true (by omega)]]
 repeat first | refine X0 ?_ | (refine JR ?_; (repeat first | refine Z1 ?_ | refine Z0 ?_ | refine Zl ?_); refine JD ?_) | refine JF ?_ | refine X5 ?_ | refine X4 ?_
 exact QMb
theorem Xf4 (c : Chg) (h : YM c = 0) : Con Tryz.prog 116 [] [Ye c] [(130, .row 1 ((Ya c).map X6))] (.own 130 ((Ya c).map X6).length) := by
 obtain ⟨⟨hop1, hop2⟩, hid, hsd, hnm, hvl⟩ := X4H h
 obtain ⟨op, id, src, dst, name, v⟩ := c
 simp only at hop1 hop2 hid hsd hnm hvl
 have hpi := X18 id (by omega)
 have hli : (Xh id).length ≤ 10 := by rw [Vl (by omega)]; exact Vo (by omega)
 have hf := X7Q op
 clear h
 by_cases k1 : op = 1
 ·subst k1
  clear hop1 hop2
  have hput : Ya ⟨1, id, src, dst, name, v⟩ = UInt8.ofNat 1 :: (Xh id) := by unfold Ya; simp [XV, XQ]
  rw [hput]
  clear hput
  generalize Xh id = w0 at *
  obtain ⟨vk, vn, vd, vs, vl⟩ := v
  simp only [Ye, Xo] at *
  refine Xa (xs := [.own 130 ((UInt8.ofNat 1 :: (w0)).map X6).length]) Tryz.func116 rfl Tryz.ntmps116 rfl rfl rfl (fun E => ?_)
  repeat first | refine X0 ?_ | (refine JR ?_; (repeat first | refine Z3 (u := nj 1) (r := n8 1) ?_ (hr := by exact Y6 rfl rfl) | refine ZZ (γ := 130) ?_ | refine Z1 ?_ | refine Z0 ?_ | refine ZB ?_ | refine ZC ?_ | refine ZA (γ := 100) ?_ | refine ZF ?_ | refine Z6 ?_ | refine Z9 (hcon := hf) ?_ | refine Z9 (hcon := hpi) ?_); refine JD ?_) | refine JF ?_ | refine X4 ?_
  refine X1 ⟨_, Xb 2 (y := .own 130 ((UInt8.ofNat 1 :: (w0)).map X6).length) (AVal.le_of_eq ?_), ⟨rfl, trivial⟩, Xj ⟨?_, trivial⟩⟩
  ·refine Qn ?_
   congr 1
   simp only [List.length_append, List.length_map, List.length_cons, List.length_nil] <;> omega
  ·refine Qic ?_
   simp only [List.map_append, List.map_cons, List.map_nil, List.append_assoc, List.cons_append, List.nil_append] <;> rfl
 by_cases k2 : op = 2
 ·subst k2
  clear hop1 hop2
  have hput : Ya ⟨2, id, src, dst, name, v⟩ = UInt8.ofNat 2 :: (Xh id) := by unfold Ya; simp [XV, XQ]
  rw [hput]
  clear hput
  generalize Xh id = w0 at *
  obtain ⟨vk, vn, vd, vs, vl⟩ := v
  simp only [Ye, Xo] at *
  refine Xa (xs := [.own 130 ((UInt8.ofNat 2 :: (w0)).map X6).length]) Tryz.func116 rfl Tryz.ntmps116 rfl rfl rfl (fun E => ?_)
  repeat first | refine X0 ?_ | (refine JR ?_; (repeat first | refine Z3 (u := nj 2) (r := n8 2) ?_ (hr := by exact Y6 rfl rfl) | refine ZZ (γ := 130) ?_ | refine Z1 ?_ | refine Z0 ?_ | refine ZB ?_ | refine ZC ?_ | refine ZA (γ := 100) ?_ | refine ZF ?_ | refine Z6 ?_ | refine Z9 (hcon := hf) ?_ | refine Z9 (hcon := hpi) ?_); refine JD ?_) | refine JF ?_ | refine X4 ?_
  refine X1 ⟨_, Xb 2 (y := .own 130 ((UInt8.ofNat 2 :: (w0)).map X6).length) (AVal.le_of_eq ?_), ⟨rfl, trivial⟩, Xj ⟨?_, trivial⟩⟩
  ·refine Qn ?_
   congr 1
   simp only [List.length_append, List.length_map, List.length_cons, List.length_nil] <;> omega
  ·refine Qic ?_
   simp only [List.map_append, List.map_cons, List.map_nil, List.append_assoc, List.cons_append, List.nil_append] <;> rfl
 by_cases k3 : op = 3
 ·subst k3
  clear hop1 hop2
  have hnm := hnm rfl
  have hpn := X20 name (by omega)
  have hln : (Xw name).length ≤ 30 := by
   have := X1O (n := name.length) (by omega)
   unfold Xw
   rw [List.length_append]
   omega
  have hput : Ya ⟨3, id, src, dst, name, v⟩ = UInt8.ofNat 3 :: (Xh id ++ Xw name) := by unfold Ya; simp [XV, XQ]
  rw [hput]
  clear hput
  generalize Xh id = w0 at *
  generalize Xw name = w1 at *
  obtain ⟨vk, vn, vd, vs, vl⟩ := v
  simp only [Ye, Xo] at *
  refine Xa (xs := [.own 130 ((UInt8.ofNat 3 :: (w0 ++ w1)).map X6).length]) Tryz.func116 rfl Tryz.ntmps116 rfl rfl rfl (fun E => ?_)
  repeat first | refine X0 ?_ | (refine JR ?_; (repeat first | refine Z3 (u := nj 3) (r := n8 3) ?_ (hr := by exact Y6 rfl rfl) | refine ZZ (γ := 130) ?_ | refine Z1 ?_ | refine Z0 ?_ | refine ZB ?_ | refine ZC ?_ | refine ZA (γ := 100) ?_ | refine ZF ?_ | refine Z6 ?_ | refine Z9 (hcon := hf) ?_ | refine Z9 (hcon := hpi) ?_ | refine Z9 (hcon := hpn) ?_); refine JD ?_) | refine JT ?_ | refine JF ?_ | refine X4 ?_
  refine X1 ⟨_, Xb 2 (y := .own 130 ((UInt8.ofNat 3 :: (w0 ++ w1)).map X6).length) (AVal.le_of_eq ?_), ⟨rfl, trivial⟩, Xj ⟨?_, trivial⟩⟩
  ·refine Qn ?_
   congr 1
   simp only [List.length_append, List.length_map, List.length_cons, List.length_nil] <;> omega
  ·refine Qic ?_
   simp only [List.map_append, List.map_cons, List.map_nil, List.append_assoc, List.cons_append, List.nil_append] <;> rfl
 by_cases k4 : op = 4
 ·subst k4
  clear hop1 hop2
  have hnm := hnm rfl
  have hpn := X20 name (by omega)
  have hln : (Xw name).length ≤ 30 := by
   have := X1O (n := name.length) (by omega)
   unfold Xw
   rw [List.length_append]
   omega
  have hput : Ya ⟨4, id, src, dst, name, v⟩ = UInt8.ofNat 4 :: (Xh id ++ Xw name) := by unfold Ya; simp [XV, XQ]
  rw [hput]
  clear hput
  generalize Xh id = w0 at *
  generalize Xw name = w1 at *
  obtain ⟨vk, vn, vd, vs, vl⟩ := v
  simp only [Ye, Xo] at *
  refine Xa (xs := [.own 130 ((UInt8.ofNat 4 :: (w0 ++ w1)).map X6).length]) Tryz.func116 rfl Tryz.ntmps116 rfl rfl rfl (fun E => ?_)
  repeat first | refine X0 ?_ | (refine JR ?_; (repeat first | refine Z3 (u := nj 4) (r := n8 4) ?_ (hr := by exact Y6 rfl rfl) | refine ZZ (γ := 130) ?_ | refine Z1 ?_ | refine Z0 ?_ | refine ZB ?_ | refine ZC ?_ | refine ZA (γ := 100) ?_ | refine ZF ?_ | refine Z6 ?_ | refine Z9 (hcon := hf) ?_ | refine Z9 (hcon := hpi) ?_ | refine Z9 (hcon := hpn) ?_); refine JD ?_) | refine JT ?_ | refine JF ?_ | refine X4 ?_
  refine X1 ⟨_, Xb 2 (y := .own 130 ((UInt8.ofNat 4 :: (w0 ++ w1)).map X6).length) (AVal.le_of_eq ?_), ⟨rfl, trivial⟩, Xj ⟨?_, trivial⟩⟩
  ·refine Qn ?_
   congr 1
   simp only [List.length_append, List.length_map, List.length_cons, List.length_nil] <;> omega
  ·refine Qic ?_
   simp only [List.map_append, List.map_cons, List.map_nil, List.append_assoc, List.cons_append, List.nil_append] <;> rfl
 by_cases k5 : op = 5
 ·subst k5
  clear hop1 hop2
  have hnm := hnm rfl
  have hpn := X20 name (by omega)
  have hln : (Xw name).length ≤ 30 := by
   have := X1O (n := name.length) (by omega)
   unfold Xw
   rw [List.length_append]
   omega
  have hvl := hvl rfl
  have hpv := X8v v (by omega)
  have hlv : (Ym v).length ≤ 111 := by
   unfold Ym
   rw [if_pos hvl.1]
   exact hvl.2
  have hput : Ya ⟨5, id, src, dst, name, v⟩ = UInt8.ofNat 5 :: (Xh id ++ Xw name ++ Ym v) := by unfold Ya; simp [XV, XQ]
  rw [hput]
  clear hput
  generalize Xh id = w0 at *
  generalize Xw name = w1 at *
  generalize Ym v = w2 at *
  obtain ⟨vk, vn, vd, vs, vl⟩ := v
  simp only [Ye, Xo] at *
  refine Xa (xs := [.own 130 ((UInt8.ofNat 5 :: (w0 ++ w1 ++ w2)).map X6).length]) Tryz.func116 rfl Tryz.ntmps116 rfl rfl rfl (fun E => ?_)
  repeat first | refine X0 ?_ | (refine JR ?_; (repeat first | refine Z3 (u := nj 5) (r := n8 5) ?_ (hr := by exact Y6 rfl rfl) | refine ZZ (γ := 130) ?_ | refine Z1 ?_ | refine Z0 ?_ | refine ZB ?_ | refine ZC ?_ | refine ZL ?_ | refine ZA (γ := 100) ?_ | refine ZF ?_ | refine Z6 ?_ | refine Z9 (hcon := hf) ?_ | refine Z9 (hcon := hpi) ?_ | refine Z9 (hcon := hpn) ?_ | refine Z9 (hcon := hpv) ?_); refine JD ?_) | refine JT ?_ | refine JF ?_ | refine X4 ?_
  refine X1 ⟨_, Xb 2 (y := .own 130 ((UInt8.ofNat 5 :: (w0 ++ w1 ++ w2)).map X6).length) (AVal.le_of_eq ?_), ⟨rfl, trivial⟩, Xj ⟨?_, trivial⟩⟩
  ·refine Qn ?_
   congr 1
   simp only [List.length_append, List.length_map, List.length_cons, List.length_nil] <;> omega
  ·refine Qic ?_
   simp only [List.map_append, List.map_cons, List.map_nil, List.append_assoc, List.cons_append, List.nil_append] <;> rfl
 by_cases k6 : op = 6
 ·subst k6
  clear hop1 hop2
  have hsd := hsd rfl
  have hps := X18 src (by omega)
  have hpd := X18 dst (by omega)
  have hls : (Xh src).length ≤ 10 := by rw [Vl (by omega)]; exact Vo (by omega)
  have hld : (Xh dst).length ≤ 10 := by rw [Vl (by omega)]; exact Vo (by omega)
  have hnm := hnm rfl
  have hpn := X20 name (by omega)
  have hln : (Xw name).length ≤ 30 := by
   have := X1O (n := name.length) (by omega)
   unfold Xw
   rw [List.length_append]
   omega
  have hput : Ya ⟨6, id, src, dst, name, v⟩ = UInt8.ofNat 6 :: (Xh id ++ Xh src ++ Xh dst ++ Xw name) := by unfold Ya; simp [XV, XQ]
  rw [hput]
  clear hput
  generalize Xh id = w0 at *
  generalize Xh src = w1 at *
  generalize Xh dst = w2 at *
  generalize Xw name = w3 at *
  obtain ⟨vk, vn, vd, vs, vl⟩ := v
  simp only [Ye, Xo] at *
  refine Xa (xs := [.own 130 ((UInt8.ofNat 6 :: (w0 ++ w1 ++ w2 ++ w3)).map X6).length]) Tryz.func116 rfl Tryz.ntmps116 rfl rfl rfl (fun E => ?_)
  repeat first | refine X0 ?_ | (refine JR ?_; (repeat first | refine Z3 (u := nj 6) (r := n8 6) ?_ (hr := by exact Y6 rfl rfl) | refine ZZ (γ := 130) ?_ | refine Z1 ?_ | refine Z0 ?_ | refine ZB ?_ | refine ZC ?_ | refine ZA (γ := 100) ?_ | refine ZF ?_ | refine Z6 ?_ | refine Z9 (hcon := hf) ?_ | refine Z9 (hcon := hpi) ?_ | refine Z9 (hcon := hps) ?_ | refine Z9 (hcon := hpd) ?_ | refine Z9 (hcon := hpn) ?_); refine JD ?_) | refine JT ?_ | refine JF ?_ | refine X4 ?_
  refine X1 ⟨_, Xb 2 (y := .own 130 ((UInt8.ofNat 6 :: (w0 ++ w1 ++ w2 ++ w3)).map X6).length) (AVal.le_of_eq ?_), ⟨rfl, trivial⟩, Xj ⟨?_, trivial⟩⟩
  ·refine Qn ?_
   congr 1
   simp only [List.length_append, List.length_map, List.length_cons, List.length_nil] <;> omega
  ·refine Qic ?_
   simp only [List.map_append, List.map_cons, List.map_nil, List.append_assoc, List.cons_append, List.nil_append] <;> rfl
 by_cases k7 : op = 7
 ·subst k7
  clear hop1 hop2
  have hput : Ya ⟨7, id, src, dst, name, v⟩ = UInt8.ofNat 7 :: (Xh id) := by unfold Ya; simp [XV, XQ]
  rw [hput]
  clear hput
  generalize Xh id = w0 at *
  obtain ⟨vk, vn, vd, vs, vl⟩ := v
  simp only [Ye, Xo] at *
  refine Xa (xs := [.own 130 ((UInt8.ofNat 7 :: (w0)).map X6).length]) Tryz.func116 rfl Tryz.ntmps116 rfl rfl rfl (fun E => ?_)
  repeat first | refine X0 ?_ | (refine JR ?_; (repeat first | refine Z3 (u := nj 7) (r := n8 7) ?_ (hr := by exact Y6 rfl rfl) | refine ZZ (γ := 130) ?_ | refine Z1 ?_ | refine Z0 ?_ | refine ZB ?_ | refine ZC ?_ | refine ZA (γ := 100) ?_ | refine ZF ?_ | refine Z6 ?_ | refine Z9 (hcon := hf) ?_ | refine Z9 (hcon := hpi) ?_); refine JD ?_) | refine JF ?_ | refine X4 ?_
  refine X1 ⟨_, Xb 2 (y := .own 130 ((UInt8.ofNat 7 :: (w0)).map X6).length) (AVal.le_of_eq ?_), ⟨rfl, trivial⟩, Xj ⟨?_, trivial⟩⟩
  ·refine Qn ?_
   congr 1
   simp only [List.length_append, List.length_map, List.length_cons, List.length_nil] <;> omega
  ·refine Qic ?_
   simp only [List.map_append, List.map_cons, List.map_nil, List.append_assoc, List.cons_append, List.nil_append] <;> rfl
 by_cases k8 : op = 8
 ·subst k8
  clear hop1 hop2
  have hnm := hnm rfl
  have hpn := X20 name (by omega)
  have hln : (Xw name).length ≤ 30 := by
   have := X1O (n := name.length) (by omega)
   unfold Xw
   rw [List.length_append]
   omega
  have hvl := hvl rfl
  have hpv := X8v v (by omega)
  have hlv : (Ym v).length ≤ 111 := by
   unfold Ym
   rw [if_pos hvl.1]
   exact hvl.2
  have hput : Ya ⟨8, id, src, dst, name, v⟩ = UInt8.ofNat 8 :: (Xh id ++ Xw name ++ Ym v) := by unfold Ya; simp [XV, XQ]
  rw [hput]
  clear hput
  generalize Xh id = w0 at *
  generalize Xw name = w1 at *
  generalize Ym v = w2 at *
  obtain ⟨vk, vn, vd, vs, vl⟩ := v
  simp only [Ye, Xo] at *
  refine Xa (xs := [.own 130 ((UInt8.ofNat 8 :: (w0 ++ w1 ++ w2)).map X6).length]) Tryz.func116 rfl Tryz.ntmps116 rfl rfl rfl (fun E => ?_)
  repeat first | refine X0 ?_ | (refine JR ?_; (repeat first | refine Z3 (u := nj 8) (r := n8 8) ?_ (hr := by exact Y6 rfl rfl) | refine ZZ (γ := 130) ?_ | refine Z1 ?_ | refine Z0 ?_ | refine ZB ?_ | refine ZC ?_ | refine ZL ?_ | refine ZA (γ := 100) ?_ | refine ZF ?_ | refine Z6 ?_ | refine Z9 (hcon := hf) ?_ | refine Z9 (hcon := hpi) ?_ | refine Z9 (hcon := hpn) ?_ | refine Z9 (hcon := hpv) ?_); refine JD ?_) | refine JT ?_ | refine JF ?_ | refine X4 ?_
  refine X1 ⟨_, Xb 2 (y := .own 130 ((UInt8.ofNat 8 :: (w0 ++ w1 ++ w2)).map X6).length) (AVal.le_of_eq ?_), ⟨rfl, trivial⟩, Xj ⟨?_, trivial⟩⟩
  ·refine Qn ?_
   congr 1
   simp only [List.length_append, List.length_map, List.length_cons, List.length_nil] <;> omega
  ·refine Qic ?_
   simp only [List.map_append, List.map_cons, List.map_nil, List.append_assoc, List.cons_append, List.nil_append] <;> rfl
 omega
theorem XeX (c : Chg) (h : YM c = 0) : Con Tryz.prog 116 [] [Ye c] [] (.d (Xf (Ya c))) := (Xf4 c h).data (by simp)
end Go.Fw
