/- Where reading ends, in plain Lean. -/
import Derived.Test.YtpfldfkhgplcgaaGreatDoorK19
set_option maxHeartbeats 16000000
namespace Go.Fw
open Go
set_option linter.unusedVariables false
set_option linter.unusedSimpArgs false
def Uo (b : List UInt8) (e : Int × Int) : Prop := e.2 = 0 → ∃ q : Nat, e.1 = (q : Int) ∧ q ≤ b.length
theorem X9p (b : List UInt8) (a : Int) : Uo b (Xz b a).2 := by
 intro h
 obtain ⟨k, rfl, hk, h1, h2, he⟩ := X6a h
 refine ⟨_, he, ?_⟩
 simp only [List.length_drop] at h1
 omega
theorem X0k (b : List UInt8) (a : Int) : Uo b (Xf b a).2 := by
 intro h
 unfold Xf at h ⊢
 simp only at h ⊢
 split
 ·rename_i h1; rw [if_pos h1] at h; exact absurd h h1
 rename_i h1; rw [if_neg h1] at h
 split
 ·rename_i h2; rw [if_pos h2] at h; simp at h
 rename_i h2; rw [if_neg h2] at h
 split
 ·rename_i h3; rw [if_pos h3] at h; simp at h
 exact X9p b a (Classical.not_not.1 h1)
theorem X1Z (b : List UInt8) (a : Int) : ∃ n : Nat, (Xf b a).1 = n := by
 unfold Xf
 simp only
 split
 ·exact ⟨0, rfl⟩
 split
 ·exact ⟨0, rfl⟩
 split
 ·exact ⟨0, rfl⟩
 exact ⟨_, rfl⟩
theorem XfB {b : List UInt8} {a : Int} (h : (Xf b a).2.2 ≠ 0) : (Xf b a).1 = 0 := by
 unfold Xf at h ⊢
 simp only at h ⊢
 split
 ·rfl
 rename_i h1; rw [if_neg h1] at h
 split
 ·rfl
 rename_i h2; rw [if_neg h2] at h
 split
 ·rfl
 rename_i h3; rw [if_neg h3] at h
 simp at h
theorem X3U (b : List UInt8) (a : Int) : Uo b (Xp b a).2 := by
 intro h
 unfold Xp at h ⊢
 simp only at h ⊢
 split
 ·rename_i h1; rw [if_pos h1] at h; exact absurd h h1
 rename_i h1; rw [if_neg h1] at h
 split
 ·rename_i h3; rw [if_pos h3] at h; simp at h
 exact X9p b a (Classical.not_not.1 h1)
theorem XcY {b : List UInt8} {a : Int} (h : (Xp b a).2.2 ≠ 0) : (Xp b a).1 = 0 := by
 unfold Xp at h ⊢
 simp only at h ⊢
 split
 ·rfl
 rename_i h1; rw [if_neg h1] at h
 split
 ·rfl
 rename_i h3; rw [if_neg h3] at h
 simp at h
theorem Xde (b : List UInt8) (a most : Int) : Uo b (Yk b a most).2 := by
 intro h
 have hu := X0k b a
 obtain ⟨n, hn⟩ := X1Z b a
 unfold Yk at h ⊢
 simp only at h ⊢
 split
 ·rename_i h1; rw [if_pos h1] at h; exact absurd h h1
 rename_i h1; rw [if_neg h1] at h
 split
 ·rename_i h2; rw [if_pos h2] at h; simp at h
 rename_i h2; rw [if_neg h2] at h
 split
 ·rename_i h3; rw [if_pos h3] at h; simp at h
 rename_i h3
 obtain ⟨q, hq, hql⟩ := hu (Classical.not_not.1 h1)
 rw [hn] at h3 ⊢
 rw [hq] at h3 ⊢
 exact ⟨q + n, by simp, by omega⟩
section
variable {g : Nat → Int → Val × Int × Int} {a : Int}
theorem X0u {k : Nat} (h : (Xt g a k).2.2 = 0) : Xt g a (k + 1) = ((Xt g a k).1 ++ [(g k (Xt g a k).2.1).1], (g k (Xt g a k).2.1).2.1, (g k (Xt g a k).2.1).2.2) := by
 rw [Xt]; simp [h]
theorem X0z {k : Nat} (h : (Xt g a k).2.2 ≠ 0) : ∀ j, k ≤ j → Xt g a j = Xt g a k
 | 0, hj => by obtain rfl : k = 0 := by omega
               rfl
 | j + 1, hj => by
  by_cases e : k = j + 1
  ·rw [e]
  ·have := X0z h j (by omega)
   rw [Xt, this]; simp [h]
theorem Xb9 {k : Nat} (h : (Xt g a k).2.2 = 0) : (Xt g a k).1.length = k := by
 induction k with
 | zero => rfl
 | succ k ih =>
  by_cases e : (Xt g a k).2.2 = 0
  ·rw [X0u e]; simp [ih e]
  ·rw [X0z e (k + 1) (by omega)] at h; exact absurd h e
theorem X1Q {b : List UInt8} (hg : ∀ i q : Nat, q ≤ b.length → Uo b (g i q).2) (h0 : ∃ q : Nat, a = (q : Int) ∧ q ≤ b.length) : ∀ k, Uo b (Xt g a k).2
 | 0 => fun _ => h0
 | k + 1 => by
  by_cases e : (Xt g a k).2.2 = 0
  ·rw [X0u e]
   obtain ⟨q, h1, h2⟩ := X1Q hg h0 k e
   intro h
   rw [h1] at h ⊢
   exact hg k q h2 h
  ·intro h; rw [X0z e (k + 1) (by omega)] at h; exact absurd h e
theorem X42 {k : Nat} (h : (Xt g a k).2.2 = 0) : (Xt g a (k + 1)).1.length = k + 1 := by
 rw [X0u h]; simp [Xb9 h]
end
theorem Xhx {gl gp : Nat → Int → Val × Int × Int} {b : List UInt8} (hgl : ∀ i q : Nat, q ≤ b.length → Uo b (gl i q).2) (hgp : ∀ i q : Nat, q ≤ b.length → Uo b (gp i q).2) (a : Nat) (ha : a ≤ b.length) (k : Int) : Uo b (XV gl gp b a k).2 := by
 unfold XV
 split
 ·exact X3U b a
 split
 ·simp only
  split
  ·exact X3U b a
  ·exact X3U b _
 split
 ·exact Xde b a 100
 split
 ·simp only
  split
  ·exact X0k b a
  rename_i h1
  split
  ·intro h; simp at h
  ·have h0 := X0k b a (Classical.not_not.1 h1)
   split
   ·exact X1Q hgl h0 _
   ·exact X1Q hgp h0 _
 ·exact fun _ => ⟨a, rfl, ha⟩
theorem X5F {gl gp : Nat → Int → Val × Int × Int} {b : List UInt8} (hgl : ∀ i q : Nat, q ≤ b.length → Uo b (gl i q).2) (hgp : ∀ i q : Nat, q ≤ b.length → Uo b (gp i q).2) (m a : Nat) (ha : a ≤ b.length) (want : Int) : Uo b (U9 gl gp m b a want).2 := by
 unfold U9
 split
 ·intro h; simp at h
 simp only
 split
 ·intro h; simp at h
 ·rename_i h1 h2
  have := Xhx hgl hgp (a + 1) (by omega) ((((b[(a : Int).toNat]?).getD 0).toNat : Nat) : Int)
  rw [Int.natCast_add] at this
  split
  ·intro h; simp at h
  ·exact this
theorem X2l {b : List UInt8} (i q : Nat) : Uo b (noG i q).2 := fun h => by simp [noG] at h
theorem X23 {b : List UInt8} (i q : Nat) (h : q ≤ b.length) : Uo b (Uu b i q).2 :=
 X5F (fun i q _ => X2l i q) (fun i q _ => X2l i q) 0 q h _
theorem X5b {b : List UInt8} : ∀ (m q : Nat), q ≤ b.length → Uo b (UX b m q).2
 | 0, q, h => X5F (fun i q _ => X2l i q) (fun i q h => X23 i q h) 0 q h _
 | m + 1, q, h => X5F (fun i q h => X5b m q h) (fun i q h => X23 i q h) (m + 1) q h _
theorem X3L : ∀ {l : List Val}, (∀ x ∈ l, Yd x) → V1 l
 | [], _ => by rw [V1]; trivial
 | v :: r, h => by
  rw [V1]
  exact ⟨h v (List.mem_cons_self ..), X3L fun x hx => h x (List.mem_cons_of_mem _ hx)⟩
theorem Xcb {m : Nat} {k n d : Int} {s : List UInt8} {l : List Val} (h : X8 m (.mk k n d s l) = true) : s.length ≤ 100 ∧ l.length ≤ 64 := by
 rw [X8] at h
 by_cases h4 : k = 4
 ·subst h4; simp at h; exact ⟨by omega, by rw [h.1.2]; simp⟩
 by_cases h7 : k = 7
 ·subst h7; simp at h; exact ⟨by rw [h.1.2]; simp, by omega⟩
 by_cases h8 : k = 8
 ·subst h8; simp at h; exact ⟨by rw [h.1.2]; simp, by omega⟩
 simp [h4, h7, h8] at h
 exact ⟨by rw [h.1.1.2]; simp, by rw [h.1.2]; simp⟩
theorem X6M : ∀ (v : Val) (m : Nat), X8 m v = true → Yd v
 | .mk k n d s l, m, h => by
  have h1 := Xcb h
  rw [Yd]
  exact ⟨by omega, by omega, X3L fun x hx => X6M x m (X8H h x hx)⟩
termination_by v => SizeOf.sizeOf v
decreasing_by
 have h1 := List.sizeOf_lt_of_mem (show x ∈ l from hx)
 simp only [Val.mk.sizeOf_spec]
 omega
theorem X5A {gl gp : Nat → Int → Val × Int × Int} {m : Nat} {b : List UInt8} {a want : Int} (h : (U9 gl gp m b a want).2.2 = 0) : X8 8 (U9 gl gp m b a want).1 = true := by
 unfold U9 at h ⊢
 split
 ·rename_i h1; rw [if_pos h1] at h; simp at h
 rename_i h1
 rw [if_neg h1] at h
 simp only at h ⊢
 split
 ·rename_i h2; rw [if_pos h2] at h; simp at h
 rename_i h2
 rw [if_neg h2] at h
 split
 ·rename_i h3; rw [if_pos h3] at h; simp at h
 rename_i h3
 rw [if_neg h3] at h
 cases hv : X8 8 (XV gl gp b (a + 1) ((((b[a.toNat]?).getD 0).toNat : Nat) : Int)).1 with
 | true => rfl
 | false => exact absurd ⟨h, hv⟩ h3
theorem XaC (b : List UInt8) (a most : Int) (hm : 0 ≤ most) : ((Yk b a most).1.length : Int) ≤ most := by
 obtain ⟨n, hn⟩ := X1Z b a
 unfold Yk
 simp only
 split
 ·simpa using hm
 split
 ·simpa using hm
 split
 ·simpa using hm
 ·rename_i h1 h2 h3
  rw [hn] at h2 ⊢
  simp
  omega
theorem X1D {n : Nat} (h : n ≤ 300) : (Xo n).length ≤ 10 := by
 rw [X0e (by omega)]
 exact X0q (by omega)
theorem X3o {n : Int} (h : -9223372036854775808 ≤ n ∧ n ≤ 9223372036854775807) : (Yi n).length ≤ 10 := X0q (X9J h)
theorem XdD {m : Nat} {k n d : Int} {s : List UInt8} {l : List Val} (h : X8 m (.mk k n d s l) = true) (h7 : k ≠ 7) (h8 : k ≠ 8) : (XP (.mk k n d s l)).length ≤ 111 := by
 rw [X8] at h
 rw [XP]
 simp only [List.length_cons]
 by_cases h1 : k = 1 ∨ k = 2 ∨ k = 5 ∨ k = 6
 ·rw [if_pos h1]
  have hn : -9223372036854775808 ≤ n ∧ n ≤ 9223372036854775807 := by
   rcases h1 with rfl | rfl | rfl | rfl <;> simp at h <;> omega
  have := X3o hn
  omega
 rw [if_neg h1]
 by_cases h3 : k = 3
 ·subst h3
  rw [if_pos rfl]
  have hnd : (-9223372036854775808 ≤ n ∧ n ≤ 9223372036854775807) ∧ -9223372036854775808 ≤ d ∧ d ≤ 9223372036854775807 := by simp [Ve] at h; omega
  have h5 := X3o hnd.1
  have h6 := X3o hnd.2
  rw [List.length_append]
  omega
 rw [if_neg h3]
 by_cases h4 : k = 4
 ·subst h4
  rw [if_pos rfl]
  have hs : s.length ≤ 100 := by simp at h; omega
  have := X1D (n := s.length) (by omega)
  unfold XM
  rw [List.length_append]
  omega
 rw [if_neg h4, if_neg (by omega)]
 simp
theorem XaD {m : Nat} {n d : Int} {s : List UInt8} {l : List Val} (h : X8 m (.mk 8 n d s l) = true) : l.length ≤ 64 ∧ 1 ≤ m ∧ Uf (m - 1) l = true := by
 rw [X8] at h
 simp at h
 exact ⟨h.2.1.2.1, by omega, h.2.2⟩
open Go Go.Proofs
set_option maxRecDepth 100000
theorem X6d {c : Chg} (h : Ug c = 0) : (1 ≤ c.op ∧ c.op ≤ 8) ∧ (1 ≤ c.id ∧ c.id ≤ 1000000) ∧ (c.op = 6 → (1 ≤ c.src ∧ c.src ≤ 1000000) ∧ 1 ≤ c.dst ∧ c.dst ≤ 1000000) ∧ (XX c.op = true → c.name.length ≤ 20) ∧
  (XS c.op = true → X8 8 c.v = true ∧ (XP c.v).length ≤ 111) := by
 unfold Ug at h
 split at h
 ·omega
 rename_i h1
 split at h
 ·omega
 rename_i h2
 split at h
 ·omega
 rename_i h3
 split at h
 ·omega
 rename_i h4
 split at h
 ·omega
 rename_i h5
 have i1 : decide (1 ≤ c.op ∧ c.op ≤ 8) = true := by
  cases hd : decide (1 ≤ c.op ∧ c.op ≤ 8) with
  | true => rfl
  | false => exact absurd (.inl hd) h1
 have i2 : idV c.id = true := by
  cases hd : idV c.id with
  | true => rfl
  | false => exact absurd (.inr hd) h1
 refine ⟨of_decide_eq_true i1, of_decide_eq_true i2, fun h6 => ?_, fun hn => ?_, fun hv => ?_⟩
 ·have j1 : idV c.src = true := by
   cases hd : idV c.src with
   | true => rfl
   | false => exact absurd (.inl ⟨h6, .inl hd⟩) h2
  have j2 : idV c.dst = true := by
   cases hd : idV c.dst with
   | true => rfl
   | false => exact absurd (.inl ⟨h6, .inr hd⟩) h2
  exact ⟨of_decide_eq_true j1, of_decide_eq_true j2⟩
 ·have j1 : Y2 c.name = true := by
   cases hd : Y2 c.name with
   | true => rfl
   | false => exact absurd ⟨hn, hd⟩ h4
  unfold Y2 at j1
  simp at j1
  omega
 ·have j1 : X8 8 c.v = true ∧ (c.v.kind = 0 ∨ c.v.kind = 1 ∨ c.v.kind = 2 ∨ c.v.kind = 4) := by
   cases hz : UQ c.v with
   | true =>
    unfold UQ at hz
    simp at hz
    exact ⟨hz.1, .inl hz.2⟩
   | false =>
    cases hp : VW c.v with
    | true =>
     unfold VW X4b at hp
     simp at hp
     exact ⟨hp.2, .inr hp.1⟩
    | false => exact absurd ⟨hv, hz, hp⟩ h5
  obtain ⟨op, id, src, dst, name, ⟨k, n, d, s, l⟩⟩ := c
  simp only [Val.kind] at j1 ⊢
  exact ⟨j1.1, XdD j1.1 (by omega) (by omega)⟩
def X11 (op : Int) : Bool × Bool × Bool := (decide (op = 6), decide (op ≠ 1 ∧ op ≠ 2 ∧ op ≠ 7), decide (op ≠ 1 ∧ op ≠ 2 ∧ op ≠ 7 ∧ op ≠ 3 ∧ op ≠ 4 ∧ op ≠ 6))
theorem Xba (op : Int) : Con Tryz.prog 130 [] [ai op] [] (.tup [ab (X11 op).1, ab (X11 op).2.1, ab (X11 op).2.2]) := by
 refine Xb (xs := [ab (X11 op).1, ab (X11 op).2.1, ab (X11 op).2.2]) Tryz.func130 rfl Tryz.ntmps130 rfl rfl rfl (fun E => ?_)
 by_cases k1 : op = 1
 ·subst k1
  repeat first | refine X0 ?_ | (refine JR ?_; (repeat first | refine Z1 ?_ | refine Z0 ?_ | refine Zl ?_); refine JD ?_) | refine JT ?_ | refine X5 ?_ | refine X4 ?_
  exact QLb
 by_cases k2 : op = 2
 ·subst k2
  repeat first | refine X0 ?_ | (refine JR ?_; (repeat first | refine Z1 ?_ | refine Z0 ?_ | refine Zl ?_); refine JD ?_) | refine JT ?_ | refine JF ?_ | refine X5 ?_ | refine X4 ?_
  exact QLb
 by_cases k7 : op = 7
 ·subst k7
  repeat first | refine X0 ?_ | (refine JR ?_; (repeat first | refine Z1 ?_ | refine Z0 ?_ | refine Zl ?_); refine JD ?_) | refine JT ?_ | refine JF ?_ | refine X5 ?_
  exact QLb
 by_cases k3 : op = 3
 ·subst k3
  repeat first | refine X0 ?_ | (refine JR ?_; (repeat first | refine Z1 ?_ | refine Z0 ?_ | refine Zl ?_); refine JD ?_) | refine JT ?_ | refine JF ?_ | refine X5 ?_ | refine X4 ?_
  exact QLb
 by_cases k4 : op = 4
 ·subst k4
  repeat first | refine X0 ?_ | (refine JR ?_; (repeat first | refine Z1 ?_ | refine Z0 ?_ | refine Zl ?_); refine JD ?_) | refine JT ?_ | refine JF ?_ | refine X5 ?_
  exact QLb
 by_cases k6 : op = 6
 ·subst k6
  repeat first | refine X0 ?_ | (refine JR ?_; (repeat first | refine Z1 ?_ | refine Z0 ?_ | refine Zl ?_); refine JD ?_) | refine JT ?_ | refine JF ?_ | refine X5 ?_
  exact QLb
 rw [show X11 op = (false, true, true) by unfold X11; rw [decide_eq_false (by omega), decide_eq_true (by omega), decide_eq_true (by omega)]]
 repeat first | refine X0 ?_ | (refine JR ?_; (repeat first | refine Z1 ?_ | refine Z0 ?_ | refine Zl ?_); refine JD ?_) | refine JF ?_ | refine X5 ?_ | refine X4 ?_
 exact QLb
theorem Xcd (c : Chg) (h : Ug c = 0) : Con Tryz.prog 116 [] [Y3 c] [(130, .row 1 ((Yt c).map X7))] (.own 130 ((Yt c).map X7).length) := by
 obtain ⟨⟨hop1, hop2⟩, hid, hsd, hnm, hvl⟩ := X6d h
 obtain ⟨op, id, src, dst, name, v⟩ := c
 simp only at hop1 hop2 hid hsd hnm hvl
 have hpi := X0S id (by omega)
 have hli : (Xo id).length ≤ 10 := by rw [X0e (by omega)]; exact X0q (by omega)
 have hf := Xba op
 clear h
 by_cases k1 : op = 1
 ·subst k1
  clear hop1 hop2
  have hput : Yt ⟨1, id, src, dst, name, v⟩ = UInt8.ofNat 1 :: (Xo id) := by unfold Yt; simp [XX, XS]
  rw [hput]
  clear hput
  generalize Xo id = w0 at *
  obtain ⟨vk, vn, vd, vs, vl⟩ := v
  simp only [Y3, Xi] at *
  refine Xb (xs := [.own 130 ((UInt8.ofNat 1 :: (w0)).map X7).length]) Tryz.func116 rfl Tryz.ntmps116 rfl rfl rfl (fun E => ?_)
  repeat first | refine X0 ?_ | (refine JR ?_; (repeat first | refine Z3 (u := nj 1) (r := n8 1) ?_ (hr := by exact U4 rfl rfl) | refine ZZ (γ := 130) ?_ | refine Z1 ?_ | refine Z0 ?_ | refine ZB ?_ | refine ZC ?_ | refine ZA (γ := 100) ?_ | refine ZF ?_ | refine Z6 ?_ | refine Z9 (hcon := hf) ?_ | refine Z9 (hcon := hpi) ?_); refine JD ?_) | refine JF ?_ | refine X4 ?_
  refine X1 ⟨_, Xc 2 (y := .own 130 ((UInt8.ofNat 1 :: (w0)).map X7).length) (AVal.le_of_eq ?_), ⟨rfl, trivial⟩, Xh ⟨?_, trivial⟩⟩
  ·refine Qm ?_
   congr 1
   simp only [List.length_append, List.length_map, List.length_cons, List.length_nil] <;> omega
  ·refine Qjc ?_
   simp only [List.map_append, List.map_cons, List.map_nil, List.append_assoc, List.cons_append, List.nil_append] <;> rfl
 by_cases k2 : op = 2
 ·subst k2
  clear hop1 hop2
  have hput : Yt ⟨2, id, src, dst, name, v⟩ = UInt8.ofNat 2 :: (Xo id) := by unfold Yt; simp [XX, XS]
  rw [hput]
  clear hput
  generalize Xo id = w0 at *
  obtain ⟨vk, vn, vd, vs, vl⟩ := v
  simp only [Y3, Xi] at *
  refine Xb (xs := [.own 130 ((UInt8.ofNat 2 :: (w0)).map X7).length]) Tryz.func116 rfl Tryz.ntmps116 rfl rfl rfl (fun E => ?_)
  repeat first | refine X0 ?_ | (refine JR ?_; (repeat first | refine Z3 (u := nj 2) (r := n8 2) ?_ (hr := by exact U4 rfl rfl) | refine ZZ (γ := 130) ?_ | refine Z1 ?_ | refine Z0 ?_ | refine ZB ?_ | refine ZC ?_ | refine ZA (γ := 100) ?_ | refine ZF ?_ | refine Z6 ?_ | refine Z9 (hcon := hf) ?_ | refine Z9 (hcon := hpi) ?_); refine JD ?_) | refine JF ?_ | refine X4 ?_
  refine X1 ⟨_, Xc 2 (y := .own 130 ((UInt8.ofNat 2 :: (w0)).map X7).length) (AVal.le_of_eq ?_), ⟨rfl, trivial⟩, Xh ⟨?_, trivial⟩⟩
  ·refine Qm ?_
   congr 1
   simp only [List.length_append, List.length_map, List.length_cons, List.length_nil] <;> omega
  ·refine Qjc ?_
   simp only [List.map_append, List.map_cons, List.map_nil, List.append_assoc, List.cons_append, List.nil_append] <;> rfl
 by_cases k3 : op = 3
 ·subst k3
  clear hop1 hop2
  have hnm := hnm rfl
  have hpn := X1J name (by omega)
  have hln : (XM name).length ≤ 30 := by
   have := X1D (n := name.length) (by omega)
   unfold XM
   rw [List.length_append]
   omega
  have hput : Yt ⟨3, id, src, dst, name, v⟩ = UInt8.ofNat 3 :: (Xo id ++ XM name) := by unfold Yt; simp [XX, XS]
  rw [hput]
  clear hput
  generalize Xo id = w0 at *
  generalize XM name = w1 at *
  obtain ⟨vk, vn, vd, vs, vl⟩ := v
  simp only [Y3, Xi] at *
  refine Xb (xs := [.own 130 ((UInt8.ofNat 3 :: (w0 ++ w1)).map X7).length]) Tryz.func116 rfl Tryz.ntmps116 rfl rfl rfl (fun E => ?_)
  repeat first | refine X0 ?_ | (refine JR ?_; (repeat first | refine Z3 (u := nj 3) (r := n8 3) ?_ (hr := by exact U4 rfl rfl) | refine ZZ (γ := 130) ?_ | refine Z1 ?_ | refine Z0 ?_ | refine ZB ?_ | refine ZC ?_ | refine ZA (γ := 100) ?_ | refine ZF ?_ | refine Z6 ?_ | refine Z9 (hcon := hf) ?_ | refine Z9 (hcon := hpi) ?_ | refine Z9 (hcon := hpn) ?_); refine JD ?_) | refine JT ?_ | refine JF ?_ | refine X4 ?_
  refine X1 ⟨_, Xc 2 (y := .own 130 ((UInt8.ofNat 3 :: (w0 ++ w1)).map X7).length) (AVal.le_of_eq ?_), ⟨rfl, trivial⟩, Xh ⟨?_, trivial⟩⟩
  ·refine Qm ?_
   congr 1
   simp only [List.length_append, List.length_map, List.length_cons, List.length_nil] <;> omega
  ·refine Qjc ?_
   simp only [List.map_append, List.map_cons, List.map_nil, List.append_assoc, List.cons_append, List.nil_append] <;> rfl
 by_cases k4 : op = 4
 ·subst k4
  clear hop1 hop2
  have hnm := hnm rfl
  have hpn := X1J name (by omega)
  have hln : (XM name).length ≤ 30 := by
   have := X1D (n := name.length) (by omega)
   unfold XM
   rw [List.length_append]
   omega
  have hput : Yt ⟨4, id, src, dst, name, v⟩ = UInt8.ofNat 4 :: (Xo id ++ XM name) := by unfold Yt; simp [XX, XS]
  rw [hput]
  clear hput
  generalize Xo id = w0 at *
  generalize XM name = w1 at *
  obtain ⟨vk, vn, vd, vs, vl⟩ := v
  simp only [Y3, Xi] at *
  refine Xb (xs := [.own 130 ((UInt8.ofNat 4 :: (w0 ++ w1)).map X7).length]) Tryz.func116 rfl Tryz.ntmps116 rfl rfl rfl (fun E => ?_)
  repeat first | refine X0 ?_ | (refine JR ?_; (repeat first | refine Z3 (u := nj 4) (r := n8 4) ?_ (hr := by exact U4 rfl rfl) | refine ZZ (γ := 130) ?_ | refine Z1 ?_ | refine Z0 ?_ | refine ZB ?_ | refine ZC ?_ | refine ZA (γ := 100) ?_ | refine ZF ?_ | refine Z6 ?_ | refine Z9 (hcon := hf) ?_ | refine Z9 (hcon := hpi) ?_ | refine Z9 (hcon := hpn) ?_); refine JD ?_) | refine JT ?_ | refine JF ?_ | refine X4 ?_
  refine X1 ⟨_, Xc 2 (y := .own 130 ((UInt8.ofNat 4 :: (w0 ++ w1)).map X7).length) (AVal.le_of_eq ?_), ⟨rfl, trivial⟩, Xh ⟨?_, trivial⟩⟩
  ·refine Qm ?_
   congr 1
   simp only [List.length_append, List.length_map, List.length_cons, List.length_nil] <;> omega
  ·refine Qjc ?_
   simp only [List.map_append, List.map_cons, List.map_nil, List.append_assoc, List.cons_append, List.nil_append] <;> rfl
 by_cases k5 : op = 5
 ·subst k5
  clear hop1 hop2
  have hnm := hnm rfl
  have hpn := X1J name (by omega)
  have hln : (XM name).length ≤ 30 := by
   have := X1D (n := name.length) (by omega)
   unfold XM
   rw [List.length_append]
   omega
  have hvl := hvl rfl
  have hpv := X7C v (by omega)
  have hlv : (YW v).length ≤ 111 := by
   unfold YW
   rw [if_pos hvl.1]
   exact hvl.2
  have hput : Yt ⟨5, id, src, dst, name, v⟩ = UInt8.ofNat 5 :: (Xo id ++ XM name ++ YW v) := by unfold Yt; simp [XX, XS]
  rw [hput]
  clear hput
  generalize Xo id = w0 at *
  generalize XM name = w1 at *
  generalize YW v = w2 at *
  obtain ⟨vk, vn, vd, vs, vl⟩ := v
  simp only [Y3, Xi] at *
  refine Xb (xs := [.own 130 ((UInt8.ofNat 5 :: (w0 ++ w1 ++ w2)).map X7).length]) Tryz.func116 rfl Tryz.ntmps116 rfl rfl rfl (fun E => ?_)
  repeat first | refine X0 ?_ | (refine JR ?_; (repeat first | refine Z3 (u := nj 5) (r := n8 5) ?_ (hr := by exact U4 rfl rfl) | refine ZZ (γ := 130) ?_ | refine Z1 ?_ | refine Z0 ?_ | refine ZB ?_ | refine ZC ?_ | refine ZL ?_ | refine ZA (γ := 100) ?_ | refine ZF ?_ | refine Z6 ?_ | refine Z9 (hcon := hf) ?_ | refine Z9 (hcon := hpi) ?_ | refine Z9 (hcon := hpn) ?_ | refine Z9 (hcon := hpv) ?_); refine JD ?_) | refine JT ?_ | refine JF ?_ | refine X4 ?_
  refine X1 ⟨_, Xc 2 (y := .own 130 ((UInt8.ofNat 5 :: (w0 ++ w1 ++ w2)).map X7).length) (AVal.le_of_eq ?_), ⟨rfl, trivial⟩, Xh ⟨?_, trivial⟩⟩
  ·refine Qm ?_
   congr 1
   simp only [List.length_append, List.length_map, List.length_cons, List.length_nil] <;> omega
  ·refine Qjc ?_
   simp only [List.map_append, List.map_cons, List.map_nil, List.append_assoc, List.cons_append, List.nil_append] <;> rfl
 by_cases k6 : op = 6
 ·subst k6
  clear hop1 hop2
  have hsd := hsd rfl
  have hps := X0S src (by omega)
  have hpd := X0S dst (by omega)
  have hls : (Xo src).length ≤ 10 := by rw [X0e (by omega)]; exact X0q (by omega)
  have hld : (Xo dst).length ≤ 10 := by rw [X0e (by omega)]; exact X0q (by omega)
  have hnm := hnm rfl
  have hpn := X1J name (by omega)
  have hln : (XM name).length ≤ 30 := by
   have := X1D (n := name.length) (by omega)
   unfold XM
   rw [List.length_append]
   omega
  have hput : Yt ⟨6, id, src, dst, name, v⟩ = UInt8.ofNat 6 :: (Xo id ++ Xo src ++ Xo dst ++ XM name) := by unfold Yt; simp [XX, XS]
  rw [hput]
  clear hput
  generalize Xo id = w0 at *
  generalize Xo src = w1 at *
  generalize Xo dst = w2 at *
  generalize XM name = w3 at *
  obtain ⟨vk, vn, vd, vs, vl⟩ := v
  simp only [Y3, Xi] at *
  refine Xb (xs := [.own 130 ((UInt8.ofNat 6 :: (w0 ++ w1 ++ w2 ++ w3)).map X7).length]) Tryz.func116 rfl Tryz.ntmps116 rfl rfl rfl (fun E => ?_)
  repeat first | refine X0 ?_ | (refine JR ?_; (repeat first | refine Z3 (u := nj 6) (r := n8 6) ?_ (hr := by exact U4 rfl rfl) | refine ZZ (γ := 130) ?_ | refine Z1 ?_ | refine Z0 ?_ | refine ZB ?_ | refine ZC ?_ | refine ZA (γ := 100) ?_ | refine ZF ?_ | refine Z6 ?_ | refine Z9 (hcon := hf) ?_ | refine Z9 (hcon := hpi) ?_ | refine Z9 (hcon := hps) ?_ | refine Z9 (hcon := hpd) ?_ | refine Z9 (hcon := hpn) ?_); refine JD ?_) | refine JT ?_ | refine JF ?_ | refine X4 ?_
  refine X1 ⟨_, Xc 2 (y := .own 130 ((UInt8.ofNat 6 :: (w0 ++ w1 ++ w2 ++ w3)).map X7).length) (AVal.le_of_eq ?_), ⟨rfl, trivial⟩, Xh ⟨?_, trivial⟩⟩
  ·refine Qm ?_
   congr 1
   simp only [List.length_append, List.length_map, List.length_cons, List.length_nil] <;> omega
  ·refine Qjc ?_
   simp only [List.map_append, List.map_cons, List.map_nil, List.append_assoc, List.cons_append, List.nil_append] <;> rfl
 by_cases k7 : op = 7
 ·subst k7
  clear hop1 hop2
  have hput : Yt ⟨7, id, src, dst, name, v⟩ = UInt8.ofNat 7 :: (Xo id) := by unfold Yt; simp [XX, XS]
  rw [hput]
  clear hput
  generalize Xo id = w0 at *
  obtain ⟨vk, vn, vd, vs, vl⟩ := v
  simp only [Y3, Xi] at *
  refine Xb (xs := [.own 130 ((UInt8.ofNat 7 :: (w0)).map X7).length]) Tryz.func116 rfl Tryz.ntmps116 rfl rfl rfl (fun E => ?_)
  repeat first | refine X0 ?_ | (refine JR ?_; (repeat first | refine Z3 (u := nj 7) (r := n8 7) ?_ (hr := by exact U4 rfl rfl) | refine ZZ (γ := 130) ?_ | refine Z1 ?_ | refine Z0 ?_ | refine ZB ?_ | refine ZC ?_ | refine ZA (γ := 100) ?_ | refine ZF ?_ | refine Z6 ?_ | refine Z9 (hcon := hf) ?_ | refine Z9 (hcon := hpi) ?_); refine JD ?_) | refine JF ?_ | refine X4 ?_
  refine X1 ⟨_, Xc 2 (y := .own 130 ((UInt8.ofNat 7 :: (w0)).map X7).length) (AVal.le_of_eq ?_), ⟨rfl, trivial⟩, Xh ⟨?_, trivial⟩⟩
  ·refine Qm ?_
   congr 1
   simp only [List.length_append, List.length_map, List.length_cons, List.length_nil] <;> omega
  ·refine Qjc ?_
   simp only [List.map_append, List.map_cons, List.map_nil, List.append_assoc, List.cons_append, List.nil_append] <;> rfl
 by_cases k8 : op = 8
 ·subst k8
  clear hop1 hop2
  have hnm := hnm rfl
  have hpn := X1J name (by omega)
  have hln : (XM name).length ≤ 30 := by
   have := X1D (n := name.length) (by omega)
   unfold XM
   rw [List.length_append]
   omega
  have hvl := hvl rfl
  have hpv := X7C v (by omega)
  have hlv : (YW v).length ≤ 111 := by
   unfold YW
   rw [if_pos hvl.1]
   exact hvl.2
  have hput : Yt ⟨8, id, src, dst, name, v⟩ = UInt8.ofNat 8 :: (Xo id ++ XM name ++ YW v) := by unfold Yt; simp [XX, XS]
  rw [hput]
  clear hput
  generalize Xo id = w0 at *
  generalize XM name = w1 at *
  generalize YW v = w2 at *
  obtain ⟨vk, vn, vd, vs, vl⟩ := v
  simp only [Y3, Xi] at *
  refine Xb (xs := [.own 130 ((UInt8.ofNat 8 :: (w0 ++ w1 ++ w2)).map X7).length]) Tryz.func116 rfl Tryz.ntmps116 rfl rfl rfl (fun E => ?_)
  repeat first | refine X0 ?_ | (refine JR ?_; (repeat first | refine Z3 (u := nj 8) (r := n8 8) ?_ (hr := by exact U4 rfl rfl) | refine ZZ (γ := 130) ?_ | refine Z1 ?_ | refine Z0 ?_ | refine ZB ?_ | refine ZC ?_ | refine ZL ?_ | refine ZA (γ := 100) ?_ | refine ZF ?_ | refine Z6 ?_ | refine Z9 (hcon := hf) ?_ | refine Z9 (hcon := hpi) ?_ | refine Z9 (hcon := hpn) ?_ | refine Z9 (hcon := hpv) ?_); refine JD ?_) | refine JT ?_ | refine JF ?_ | refine X4 ?_
  refine X1 ⟨_, Xc 2 (y := .own 130 ((UInt8.ofNat 8 :: (w0 ++ w1 ++ w2)).map X7).length) (AVal.le_of_eq ?_), ⟨rfl, trivial⟩, Xh ⟨?_, trivial⟩⟩
  ·refine Qm ?_
   congr 1
   simp only [List.length_append, List.length_map, List.length_cons, List.length_nil] <;> omega
  ·refine Qjc ?_
   simp only [List.map_append, List.map_cons, List.map_nil, List.append_assoc, List.cons_append, List.nil_append] <;> rfl
 omega
theorem XeX (c : Chg) (h : Ug c = 0) : Con Tryz.prog 116 [] [Y3 c] [] (.d (Xg (Yt c))) := (Xcd c h).data (by simp)
end Go.Fw
