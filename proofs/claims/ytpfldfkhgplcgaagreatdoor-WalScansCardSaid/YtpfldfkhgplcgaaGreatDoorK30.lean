/- The reference's log: checks, room, bytes, Format. -/
import Derived.Test.YtpfldfkhgplcgaaGreatDoorK29
set_option maxHeartbeats 16000000
namespace Go.Fw
open Go Go.Proofs
set_option maxRecDepth 100000
set_option linter.unusedVariables false
set_option linter.unusedSimpArgs false
theorem Xav (d : Disk) (f t ep tail : Int) : Con Tryz.prog 37 [] [XK d, ai f, ai t, ai ep, ai tail] [] (ai (XJ d f t ep tail)) := by
 refine Xb (xs := [ai (XJ d f t ep tail)]) Tryz.func37 rfl Tryz.ntmps37 rfl rfl rfl (fun E => ?_)
 have hv := X4J d
 by_cases q1 : Yp d = false
 ·have e : XJ d f t ep tail = 1 := by unfold XJ; rw [if_pos q1]
  rw [e]
  rw [q1] at hv
  obtain ⟨secs, pend, on⟩ := d
  refine Qoc ?_; refine Z9 (hcon := hv) ?_; refine Zu ?_; refine Qp ?_
  (show AWP Tryz.prog E _ _ _; refine X1 ?_; exact (show Xq _ _ _ _ _ from ⟨_, St.le_refl _, ⟨rfl, trivial⟩, X3 _⟩))
 have q1' : Yp d = true := by simpa using q1
 rw [q1'] at hv
 have hsl := (X2f q1').2.1
 by_cases q2 : d.on = false
 ·have e : XJ d f t ep tail = 22 := by unfold XJ; rw [if_neg q1, if_pos q2]
  rw [e]
  obtain ⟨secs, pend, on⟩ := d
  simp only at q2
  subst q2
  refine Qoc ?_; refine Z9 (hcon := hv) ?_; refine Qgb ?_; refine Qyb ?_; refine Zu ?_; refine Qp ?_
  (show AWP Tryz.prog E _ _ _; refine X1 ?_; exact (show Xq _ _ _ _ _ from ⟨_, St.le_refl _, ⟨rfl, trivial⟩, X3 _⟩))
 have hm : (d.sectors.map XZ).length = d.sectors.length := by simp
 have e3 : f < 0 ∨ t ≤ f ∨ (d.sectors.length : Int) < t → XJ d f t ep tail = 1 := fun h => by unfold XJ; rw [if_neg q1, if_neg q2, if_pos h]
 have e4 : ¬ (f < 0 ∨ t ≤ f ∨ (d.sectors.length : Int) < t) → ep < 0 ∨ 1000000000000000 < ep ∨ tail < 0 ∨ (t - f) * 64 < tail → XJ d f t ep tail = 1 := fun h h' => by unfold XJ; rw [if_neg q1, if_neg q2, if_neg h, if_pos h']
 have e5 : ¬ (f < 0 ∨ t ≤ f ∨ (d.sectors.length : Int) < t) → ¬ (ep < 0 ∨ 1000000000000000 < ep ∨ tail < 0 ∨ (t - f) * 64 < tail) → XJ d f t ep tail = 0 := fun h h' => by unfold XJ; rw [if_neg q1, if_neg q2, if_neg h, if_neg h']
 generalize XJ d f t ep tail = r at *
 obtain ⟨secs, pend, on⟩ := d
 obtain rfl : on = true := by simpa using q2
 simp only at hm hsl e3 e4 e5
 clear q1 q2 q1'
 by_cases a1 : f < 0
 ·obtain rfl := e3 (.inl a1)
  clear e3 e4 e5
  refine Qff ?_; refine Qn ?_; refine QOa ?_; refine Qba ?_; refine QNa ?_; refine QBe ?_; refine QHb ?_; refine Qgf ?_
  (show AWP Tryz.prog E _ _ _; refine X1 ?_; exact (show Xq _ _ _ _ _ from ⟨_, St.le_refl _, ⟨rfl, trivial⟩, X3 _⟩))
 by_cases a2 : t ≤ f
 ·obtain rfl := e3 (.inr (.inl a2))
  clear e3 e4 e5
  refine Qff ?_; refine QNb ?_; refine Z2 ?_; refine Zq ?_; refine Qba ?_; refine QNa ?_; refine QBe ?_; refine QHb ?_; refine Qgf ?_
  (show AWP Tryz.prog E _ _ _; refine X1 ?_; exact (show Xq _ _ _ _ _ from ⟨_, St.le_refl _, ⟨rfl, trivial⟩, X3 _⟩))
 by_cases a3 : (secs.length : Int) < t
 ·obtain rfl := e3 (.inr (.inr a3))
  have a3' : ((secs.map XZ).length : Int) < t := by omega
  clear e3 e4 e5
  refine Qhf ?_; refine Qaa ?_; refine QBe ?_; refine QHb ?_; refine Qgf ?_
  (show AWP Tryz.prog E _ _ _; refine X1 ?_; exact (show Xq _ _ _ _ _ from ⟨_, St.le_refl _, ⟨rfl, trivial⟩, X3 _⟩))
 have a3' : ¬ ((secs.map XZ).length : Int) < t := by omega
 have e4 := e4 (by omega)
 have e5 := e5 (by omega)
 clear e3
 by_cases b1 : ep < 0
 ·obtain rfl := e4 (.inl b1)
  clear e4 e5
  refine Qhf ?_; refine QDe ?_; refine QBe ?_; refine Qgf ?_
  (show AWP Tryz.prog E _ _ _; refine X1 ?_; exact (show Xq _ _ _ _ _ from ⟨_, St.le_refl _, ⟨rfl, trivial⟩, X3 _⟩))
 by_cases b2 : 1000000000000000 < ep
 ·obtain rfl := e4 (.inr (.inl b2))
  clear e4 e5
  refine Qif ?_; refine Qaa ?_; refine QHb ?_; refine Qgf ?_
  (show AWP Tryz.prog E _ _ _; refine X1 ?_; exact (show Xq _ _ _ _ _ from ⟨_, St.le_refl _, ⟨rfl, trivial⟩, X3 _⟩))
 by_cases b3 : tail < 0
 ·obtain rfl := e4 (.inr (.inr (.inl b3)))
  clear e4 e5
  refine Qif ?_; refine QDe ?_; refine Qgf ?_
  (show AWP Tryz.prog E _ _ _; refine X1 ?_; exact (show Xq _ _ _ _ _ from ⟨_, St.le_refl _, ⟨rfl, trivial⟩, X3 _⟩))
 by_cases b4 : (t - f) * 64 < tail
 ·obtain rfl := e4 (.inr (.inr (.inr b4)))
  clear e4 e5
  refine Qif ?_; refine Qjf ?_; refine Qaa ?_; refine Qp ?_
  (show AWP Tryz.prog E _ _ _; refine X1 ?_; exact (show Xq _ _ _ _ _ from ⟨_, St.le_refl _, ⟨rfl, trivial⟩, X3 _⟩))
 obtain rfl := e5 (by omega)
 clear e4 e5
 refine Qif ?_; refine Qjf ?_; refine Qmb ?_; refine Qd ?_
 (show AWP Tryz.prog E _ _ _; refine X1 ?_; exact (show Xq _ _ _ _ _ from ⟨_, St.le_refl _, ⟨rfl, trivial⟩, X3 _⟩))
theorem Xew {P L : List UInt8} (h : P.length % 64 = 0) : V3 (P ++ L) = P ++ V3 L := by
 unfold V3
 rw [List.append_assoc, List.length_append]
 congr 3
 omega
open Go
def UR (d : Disk) (k : Nat) : List UInt8 := YR d.pending (k : Nat) ((d.sectors[k]?).getD []) d.pending.length
theorem X6j {d : Disk} (h : DOk d) {k : Nat} (hk : k < d.sectors.length) : (Y7 d (k : Nat)).1 = UR d k := by
 unfold Y7 UR
 rw [if_neg (by rw [h.use]; simp), if_pos ⟨by omega, by omega⟩, Int.toNat_natCast]
theorem Xad {pend : List Wr} {w : Wr} {a : Int} {s : List UInt8} : ∀ n, n ≤ pend.length → YR (pend ++ [w]) a s n = YR pend a s n
 | 0, _ => rfl
 | n + 1, h => by
  have e := Xad (pend := pend) (w := w) (a := a) (s := s) n (by omega)
  simp only [YR, e, List.getElem?_append_left (show n < pend.length by omega)]
theorem XeB {pend : List Wr} {w : Wr} {a : Int} {s : List UInt8} : YR (pend ++ [w]) a s (pend ++ [w]).length = if w.at_ = a then w.b else YR pend a s pend.length := by
 rw [List.length_append, List.length_singleton]
 simp only [YR, Xad pend.length (Nat.le_refl _)]
 simp
theorem X8E (d : Disk) (a : Nat) (b : List UInt8) (k : Nat) : UR (Ui d a b) k = if a = k then b else UR d k := by
 unfold UR Ui
 simp only [XeB]
 by_cases h : a = k
 ·rw [if_pos h, if_pos (by omega)]
 ·rw [if_neg h, if_neg (by omega)]
theorem X6O (bs : List (List UInt8)) : ∀ (d : Disk) (a k : Nat), (k < a ∨ a + bs.length ≤ k → UR (Yb d a bs) k = UR d k) ∧ ∀ i b, bs[i]? = some b → UR (Yb d a bs) (a + i) = b := by
 induction bs with
 | nil => intro d a k; exact ⟨fun _ => rfl, fun i b h => by simp at h⟩
 | cons x bs ih =>
  intro d a k
  refine ⟨fun h => ?_, fun i b h => ?_⟩
  ·rw [List.length_cons] at h
   rw [Yb, (ih (Ui d a x) (a + 1) k).1 (by omega), X8E, if_neg (by omega)]
  ·cases i with
   | zero =>
    simp only [List.getElem?_cons_zero, Option.some.injEq] at h
    subst h
    show UR (Yb (Ui d a x) (a + 1) bs) a = x
    rw [(ih (Ui d a x) (a + 1) a).1 (by omega), X8E, if_pos rfl]
   | succ i =>
    rw [Yb, show a + (i + 1) = a + 1 + i by omega]
    exact (ih (Ui d a x) (a + 1) k).2 i b (by simpa using h)
theorem X7U {rows : List (List UInt8)} {pend : List Wr} (hok : okW rows pend) {k : Nat} {s : List UInt8} (hs : rows[k]? = some s) : ∀ n, (U5 rows pend (fun _ => 64) n)[k]? = some (YR pend (k : Nat) s n)
 | 0 => hs
 | n + 1 => by
  have ih := X7U hok hs n
  rw [U5, YR]
  cases hw : pend[n]? with
  | none => exact ih
  | some w =>
   obtain ⟨w1, w2, w3⟩ := hok.2 w (List.mem_of_getElem? hw)
   have hc : X07 64 = 64 := rfl
   have hkl : k < (U5 rows pend (fun _ => 64) n).length := (List.getElem?_eq_some_iff.1 ih).1
   simp only [X2w, hc]
   by_cases ha : w.at_ = (k : Nat)
   ·rw [if_pos ha, show w.at_.toNat = k by omega, List.getElem?_set_self hkl, ih, Option.getD_some]
    have hbl : (YR pend (k : Nat) s n).length = 64 := by
     have := X2J (fun _ => 64) hok n _ (List.mem_of_getElem? ih)
     exact this
    rw [List.take_of_length_le (by omega), List.drop_of_length_le (by omega), List.append_nil]
   ·rw [if_neg ha, List.getElem?_set_ne (by omega)]
    exact ih
theorem XdH {d : Disk} (h : DOk d) {k : Nat} (hk : k < d.sectors.length) : UR (Yh d).1 k = UR d k := by
 have hp := X7U (X2g h.v) (List.getElem?_eq_getElem hk) d.pending.length
 rw [X5O h]
 unfold UR Vi
 simp only [List.length_nil, YR]
 rw [hp, List.getElem?_eq_getElem hk]
 rfl
theorem X2S (d : Disk) : ∀ (m n f : Nat), Y0 d f (m + n) = Y0 d f m ++ Y0 d (f + m) n
 | 0, n, f => by simp [Y0]
 | m + 1, n, f => by
  rw [show m + 1 + n = (m + n) + 1 by omega, Y0, Y0, X2S d m n (f + 1), List.append_assoc, show f + 1 + m = f + (m + 1) by omega]
theorem X5P {d e : Disk} (hd : DOk d) (he : DOk e) (hl : e.sectors.length = d.sectors.length) : ∀ (n f : Nat), f + n ≤ d.sectors.length → (∀ k, f ≤ k → k < f + n → UR d k = UR e k) → Y0 d f n = Y0 e f n
 | 0, _, _, _ => rfl
 | n + 1, f, hf, h => by
  rw [Y0, Y0, X6j hd (by omega), X6j he (by omega), h f (Nat.le_refl _) (by omega), X5P hd he hl n (f + 1) (by omega) fun k h1 h2 => h k (by omega) (by omega)]
theorem Xac {e : Disk} (he : DOk e) : ∀ (bs : List (List UInt8)) (a : Nat), a + bs.length ≤ e.sectors.length → (∀ i b, bs[i]? = some b → UR e (a + i) = b) → Y0 e a bs.length = bs.flatten
 | [], _, _, _ => rfl
 | b :: bs, a, hl, h => by
  rw [List.length_cons] at hl ⊢
  rw [Y0, X6j he (by omega), show UR e a = b from h 0 b rfl, List.flatten_cons, Xac he bs (a + 1) (by omega) fun i c hc => by
   rw [show a + 1 + i = a + (i + 1) by omega]
   exact h (i + 1) c (by simpa using hc)]
theorem X8d : ∀ (n : Nat) (Y : List UInt8), Y.length = 64 * n → (YB n Y).flatten = Y
 | 0, Y, h => by
  have : Y = [] := List.eq_nil_of_length_eq_zero (by omega)
  subst this; rfl
 | n + 1, Y, h => by
  rw [YB, List.flatten_cons, X8d n (Y.drop 64) (by rw [List.length_drop]; omega), List.take_append_drop]
theorem X9c {d : Disk} (hd : DOk d) {f n a : Nat} {bs : List (List UInt8)} (hn : f + n ≤ d.sectors.length) (ha : f ≤ a) (hb : a + bs.length ≤ f + n) (hc : ∀ c ∈ bs, c.length = 64) :
  Y0 (Yh (Yb d a bs)).1 f n = (Y0 d f n).take (64 * (a - f)) ++ bs.flatten ++ (Y0 d f n).drop (64 * (a - f + bs.length)) := by
 have hl := X1K bs d a hd (by omega) hc
 obtain ⟨s1, s2, s3⟩ := X4x hl
 have hsl := (X17 bs d a).1
 rw [hsl] at s2
 generalize hE : (Yh (Yb d a bs)).1 = e at *
 have hv : ∀ k, k < d.sectors.length → UR e k = UR (Yb d a bs) k := fun k hk => by rw [← hE]; exact XdH hl (by rw [hsl]; exact hk)
 have e1 : n = (a - f) + (bs.length + (f + n - a - bs.length)) := by omega
 have p1 : Y0 e f (a - f) = Y0 d f (a - f) := X5P s1 hd s2.symm _ _ (by omega) fun k h1 h2 => by rw [hv k (by omega), (X6O bs d a k).1 (by omega)]
 have p2 : Y0 e (f + (a - f)) bs.length = bs.flatten := by
  rw [show f + (a - f) = a by omega]
  exact Xac s1 bs a (by omega) fun i b hi => by
   have hil := (List.getElem?_eq_some_iff.1 hi).1
   rw [hv _ (by omega)]
   exact (X6O bs d a a).2 i b hi
 have p3 : Y0 e (f + (a - f) + bs.length) (f + n - a - bs.length) = Y0 d (f + (a - f) + bs.length) (f + n - a - bs.length) := X5P s1 hd s2.symm _ _ (by omega) fun k h1 h2 => by rw [hv k (by omega), (X6O bs d a k).1 (by omega)]
 have q1 := VQ hd (a - f) f (by omega)
 have q2 := VQ hd bs.length (f + (a - f)) (by omega)
 have hd3 : Y0 d f n = Y0 d f (a - f) ++ (Y0 d (f + (a - f)) bs.length ++ Y0 d (f + (a - f) + bs.length) (f + n - a - bs.length)) := by
  conv => lhs; rw [e1]
  rw [X2S, X2S]
 have he3 : Y0 e f n = Y0 e f (a - f) ++ (Y0 e (f + (a - f)) bs.length ++ Y0 e (f + (a - f) + bs.length) (f + n - a - bs.length)) := by
  conv => lhs; rw [e1]
  rw [X2S, X2S]
 rw [he3, p1, p2, p3, hd3, List.append_assoc]
 congr 1
 ·rw [List.take_left' (by omega)]
 ·congr 1
  rw [← List.append_assoc, List.drop_left' (by rw [List.length_append]; omega)]
def Xaj (S : List UInt8) (T : Nat) : Prop := S.drop T = List.replicate (S.length - T) 0
theorem Xfb {α : Type} (n k : Nat) (x : α) : (List.replicate n x).drop k = List.replicate (n - k) x := by simp
theorem Xcx {d : Disk} {f t tail : Int} {A : List UInt8} (hd : DOk d) (h1 : 0 ≤ f) (h2 : f < t) (h3 : t ≤ d.sectors.length) (h6 : 0 ≤ tail) (h7 : tail + A.length ≤ (t - f) * 64) (hz : Xaj (XO d f t) tail.toNat) (hA : A ≠ []) :
  XO (Yh (Yb d (f.toNat + tail.toNat / 64) (V8 d f t tail A))).1 f t = (XO d f t).take tail.toNat ++ A ++ List.replicate ((XO d f t).length - tail.toNat - A.length) 0 := by
 obtain ⟨k1, k2, k3⟩ := X3y (A := A) hd h1 h2 h3 h6 h7
 have hS : (XO d f t).length = 64 * (t - f).toNat := by unfold XO; exact VQ hd _ _ (by omega)
 have hT : ((XO d f t).take tail.toNat).length = tail.toNat := by rw [List.length_take]; omega
 obtain ⟨y1, y2, y3⟩ := X4v (((XO d f t).take tail.toNat).drop (tail.toNat / 64 * 64) ++ A)
 have hXl : (((XO d f t).take tail.toNat).drop (tail.toNat / 64 * 64)).length = tail.toNat - tail.toNat / 64 * 64 := by rw [List.length_drop, hT]
 have hXA : (((XO d f t).take tail.toNat).drop (tail.toNat / 64 * 64) ++ A).length = tail.toNat - tail.toNat / 64 * 64 + A.length := by rw [List.length_append, hXl]
 have hchunks : V8 d f t tail A = YB ((UP d f t tail A).length / 64) (UP d f t tail A) := if_neg hA
 have hY : UP d f t tail A = V3 (((XO d f t).take tail.toNat).drop (tail.toNat / 64 * 64) ++ A) := rfl
 rw [← hY] at y1 y2 y3
 have hflat : (V8 d f t tail A).flatten = UP d f t tail A := by rw [hchunks]; exact X8d _ _ (by omega)
 have hcl : (V8 d f t tail A).length = (UP d f t tail A).length / 64 := by rw [hchunks, X0W]
 have hw := X9c (f := f.toNat) (n := (t - f).toNat) hd (by omega) (by omega) (by rw [hcl]; omega) k2 (a := f.toNat + tail.toNat / 64) (bs := V8 d f t tail A)
 have h8 : tail.toNat + A.length ≤ (XO d f t).length := by omega
 unfold XO at hS hT hz hXl hXA y2 y3 hY h8 ⊢
 rw [hw, hflat, hcl, show f.toNat + tail.toNat / 64 - f.toNat = tail.toNat / 64 by omega]
 generalize Y0 d f.toNat (t - f).toNat = S at *
 generalize tail.toNat = T at *
 have hfr : S.take (64 * (T / 64)) ++ UP d f t tail A = V3 (S.take T ++ A) := by
  have hp : S.take T ++ A = S.take (T / 64 * 64) ++ ((S.take T).drop (T / 64 * 64) ++ A) := by
   rw [← List.append_assoc]
   congr 1
   conv => lhs; rw [← List.take_append_drop (T / 64 * 64) (S.take T)]
   rw [List.take_take, Nat.min_eq_left (by omega)]
  rw [hp, Xew (by rw [List.length_take]; omega), ← hY, show 64 * (T / 64) = T / 64 * 64 by omega]
 rw [hfr]
 unfold V3
 rw [List.append_assoc (S.take T ++ A)]
 congr 1
 have hdr : S.drop (64 * (T / 64 + (UP d f t tail A).length / 64)) = List.replicate (S.length - 64 * (T / 64 + (UP d f t tail A).length / 64)) 0 := by
  have e : 64 * (T / 64 + (UP d f t tail A).length / 64) = T + (64 * (T / 64 + (UP d f t tail A).length / 64) - T) := by omega
  rw [e, ← List.drop_drop, hz, Xfb]
  congr 1
  omega
 rw [hdr, List.replicate_append_replicate]
 congr 1
 rw [List.length_append, hT]
 clear hw hcl hflat hY hchunks hfr hdr hz
 generalize (UP d f t tail A).length = yl at *
 omega
theorem XfT : ∀ (k : SK) (u : Value), Up u = some k → X0y u u = true := by
 intro k u h
 cases u <;> simp [Up] at h <;> simp [X0y]
theorem Xcy (us : List Value) (ks : List SK) (h : us.map Up = ks.map some) : Vr us us = true := by
 induction us generalizing ks with
 | nil => rfl
 | cons u us ih =>
  cases ks with
  | nil => simp at h
  | cons k ks =>
   simp only [List.map_cons, List.cons.injEq] at h
   unfold Vr
   rw [XfT k u h.1, ih ks h.2]
   rfl
theorem Xdn (c : Chg) (hok : Yd c.v) : Con Tryz.prog 79 [] [Y3 c, Y3 c] [] (ab true) := by
 refine Xb (xs := [ab true]) Tryz.func79 rfl Tryz.ntmps79 rfl rfl rfl (fun E => ?_)
 have ho := X5I c.v hok
 unfold X2y at ho
 obtain ⟨op, id, src, dst, name, ⟨k, n, d, s, l⟩⟩ := c
 simp only [Y3, Xi] at ho ⊢
 repeat first | refine X0 ?_ | (refine JR ?_; (repeat first | refine Z1 ?_ | refine Z0 ?_ | refine ZB ?_ | refine ZC ?_ | refine ZL ?_ | refine Zl ?_ | refine Zr ?_ | refine ZA (γ := 100) ?_ | refine ZA (γ := 101) ?_ | refine Zn ?_ | refine Z9 (hcon := ho) ?_); refine JD ?_)
 exact QL
theorem XgD (r : Rcd) (hok : V5 r) : Con Tryz.prog 51 [] [Yq r, Yq r] [] (ab true) := by
 refine Xb (xs := [ab true]) Tryz.func51 rfl Tryz.ntmps51 rfl rfl rfl (fun E => ?_)
 obtain ⟨kd, ts, l, ⟨k, n, name, key, src, dst⟩, off⟩ := r
 obtain ⟨hlen, hch⟩ := hok
 simp only at hlen hch
 simp only [Yq]
 have hz := Xcy [.int .i64 k, .int .i64 n, .string (X6 name), .string (X6 key), .string (X6 src), .string (X6 dst)] [.i .i64, .i .i64, .s, .s, .s, .s] rfl
 have hlm : (l.map XH).length = l.length := by simp
 refine Qpc ?_; refine Qyb ?_; refine QVc ?_; refine QIa ?_; refine QVc ?_; refine Zq ?_; refine Z1 ?_; refine ZB ?_; refine ZL ?_; refine ZB ?_; refine ZL ?_; refine Z06 (us := [.int .i64 k, .int .i64 n, .string (X6 name), .string (X6 key), .string (X6 src), .string (X6 dst)]) (vs := [.int .i64 k, .int .i64 n, .string (X6 name), .string (X6 key), .string (X6 src), .string (X6 dst)]) (r := true) ?_ (hk := by exact X0J) (hr := by exact hz); refine QAc ?_; refine QFa ?_; refine Z00 ?_; refine QAc ?_; refine Zd ?_; refine QFa ?_; refine Zd ?_; refine Zv ?_; refine Qfa ?_; refine Qhb ?_
 refine Xu (ι := Nat) (fun i => i ≤ l.length) (fun i => ⟨60, [(2, .ptr 100 0), (3, .ptr 101 0), (5, ai i)], [(100, .box [ai kd, ai ts, .d (.sl 10 (l.map XH)), ai k, ai n, X9 name, X9 key, X9 src, X9 dst, ab off]), (101, .box [ai kd, ai ts, .d (.sl 10 (l.map XH)), ai k, ai n, X9 name, X9 key, X9 src, X9 dst, ab off])]⟩) (fun i => l.length - i) 0 (by omega)
  (Xa rfl JM ⟨rfl, rfl, trivial⟩) ?_
 intro i hi
 by_cases hil : i < l.length
 case neg =>
  obtain rfl : i = l.length := by omega
  have hn : ¬ ((l.length : Nat) : Int) < (l.map XH).length := by omega
  refine Qef ?_; exact Qga
 have hn : (i : Int) < (l.map XH).length := by omega
 obtain ⟨x, hx⟩ := Xv (l := l) hil
 have hxc : (l.map XH)[i]? = some (XH x) := YF hx
 have hcall := Xdn x (hch x (List.mem_of_getElem? hx)).2
 obtain ⟨op, id, xsrc, xdst, xname, ⟨xk, xn, xd, xs, xl⟩⟩ := x
 simp only [Y3, XH] at hcall hxc
 refine Qdf ?_; refine QSa ?_; refine QFa ?_; refine Z1 ?_; refine QSa ?_; refine Z9 (hcon := hcall) ?_; refine Qgb ?_; refine Qnb ?_; exact ⟨i + 1, by omega, by omega, Xa rfl JM ⟨rfl, rfl, trivial⟩⟩
theorem X9X {l : List UInt8} : ∀ {k : Nat}, (∀ x ∈ l.take k, x ≠ 0) → l[k]? = some 0 → Y8 l = l.take k ∧ UV l = true := by
 induction l with
 | nil => intro k _ h; simp at h
 | cons y r ih =>
  intro k h1 h2
  unfold Y8 UV
  rw [List.takeWhile_cons, List.any_cons]
  cases k with
  | zero =>
   simp only [List.getElem?_cons_zero, Option.some.injEq] at h2
   subst h2
   simp
  | succ k =>
   have hy : y ≠ 0 := h1 y (by simp)
   have h3 : (y != 0) = true := by simpa using hy
   have h4 : (y == 0) = false := by simpa using hy
   rw [h3, if_pos rfl, h4, Bool.false_or, List.take_succ_cons]
   obtain ⟨k1, k2⟩ := ih (k := k) (fun x hx => h1 x (by simp [hx])) (by simpa using h2)
   unfold Y8 at k1
   unfold UV at k2
   exact ⟨by rw [k1], k2⟩
theorem X7j (l : List Rcd) (hl : l.length ≤ 9223372036854775807) (hok : ∀ r ∈ l, V5 r) : Con Tryz.prog 25 [] [.d (.sl 10 (l.map XG)), .d (.sl 10 (l.map XG))] [] (ab true) := by
 refine Xb (xs := [ab true]) Tryz.func25 rfl Tryz.ntmps25 rfl rfl rfl (fun E => ?_)
 have hlm : (l.map XG).length = l.length := by simp
 refine Qy ?_; refine Zd ?_; refine Z1 ?_; refine Zd ?_; refine QDb ?_; refine Qhb ?_
 refine Xu (fun i : Nat => i ≤ l.length) (fun i => ⟨27, [(0, .d (.sl 10 (l.map XG))), (1, .d (.sl 10 (l.map XG))), (5, ai i)], []⟩) (fun i => l.length - i) 0 (Nat.zero_le _)
  (Xa rfl JM trivial) ?_
 intro i hi
 by_cases hil : i < l.length
 case neg =>
  have hn : ¬ (i : Int) < (l.map XG).length := by omega
  refine Qub ?_; refine Qd ?_
  (show AWP Tryz.prog E _ _ _; refine X1 ?_; exact (show Xq _ _ _ _ _ from ⟨_, St.le_refl _, ⟨rfl, trivial⟩, X3 _⟩))
 have hn : (i : Int) < (l.map XG).length := by omega
 obtain ⟨x, hx⟩ := Xv (l := l) hil
 have hxc : (l.map XG)[i]? = some (XG x) := YF hx
 have hc := XgD x (hok x (List.mem_of_getElem? hx))
 clear hx hok
 obtain ⟨kd, ts, cl, ⟨k, n, name, key, src, dst⟩, off⟩ := x
 simp only [Yq, XG] at *
 refine Qpb ?_; refine Qi ?_; refine QSa ?_; refine Qw ?_; refine QSa ?_; refine QZd ?_; refine Qgb ?_; refine Qnb ?_; exact ⟨i + 1, hil, by omega, Xa rfl JM trivial⟩
def X1v : List Rcd → Int → Int
 | [], n => n
 | r :: l, n => X1v l (IntKind.i64.wrap (n + (r.changes.length : Nat)))
def X1y (l : List Rcd) : Bool := decide (X1v l (l.length : Nat) ≤ 60)
theorem Xdm {l : List Rcd} {i : Nat} {x : Rcd} {n : Int} (h : l[i]? = some x) : X1v (l.drop i) n = X1v (l.drop (i + 1)) (IntKind.i64.wrap (n + (x.changes.length : Nat))) := by
 obtain ⟨hi, rfl⟩ := List.getElem?_eq_some_iff.1 h
 rw [List.drop_eq_getElem_cons hi, X1v]
theorem Xal (l : List Rcd) (hl : l.length ≤ 9223372036854775807) : Con Tryz.prog 30 [] [.d (.sl 10 (l.map XG))] [] (ab (X1y l)) := by
 refine Xb (xs := [ab (X1y l)]) Tryz.func30 rfl Tryz.ntmps30 rfl rfl rfl (fun E => ?_)
 have hlm : (l.map XG).length = l.length := by simp
 unfold X1y
 rw [← hlm]
 generalize hS : X1v l ((l.map XG).length : Nat) = s
 refine Qu ?_; refine Zd ?_; refine Qc ?_; refine Qhb ?_
 refine Xu (ι := Nat × Int) (fun q => q.1 ≤ l.length ∧ X1v (l.drop q.1) q.2 = s) (fun q => ⟨23, [(0, .d (.sl 10 (l.map XG))), (3, ai q.2), (4, ai q.1)], []⟩) (fun q => l.length - q.1) (0, ((l.map XG).length : Nat)) ⟨Nat.zero_le _, by rw [List.drop_zero]; exact hS⟩
  (Xa rfl JM trivial) ?_
 rintro ⟨i, n⟩ ⟨hi, hg⟩
 simp only at hi hg ⊢
 by_cases hil : i < l.length
 case neg =>
  have hn : ¬ (i : Int) < (l.map XG).length := by omega
  rw [List.drop_of_length_le (by omega)] at hg
  have hg : n = s := hg
  subst hg
  refine Qub ?_; refine Qf ?_; refine Zm ?_; refine Qc ?_
  (show AWP Tryz.prog E _ _ _; refine X1 ?_; exact (show Xq _ _ _ _ _ from ⟨_, St.le_refl _, ⟨rfl, trivial⟩, X3 _⟩))
 have hn : (i : Int) < (l.map XG).length := by omega
 obtain ⟨x, hx⟩ := Xv (l := l) hil
 have hxc : (l.map XG)[i]? = some (XG x) := YF hx
 rw [Xdm hx] at hg
 have hcm : (x.changes.map XH).length = x.changes.length := by simp
 rw [← hcm] at hg
 clear hx hcm
 obtain ⟨kd, ts, cl, ⟨k, nn, name, key, src, dst⟩, off⟩ := x
 simp only [XG] at hxc hg
 generalize cl.map XH = cc at *
 refine Qpb ?_; refine JR ?_; refine QBa ?_; refine Qrb ?_; refine Zd ?_; refine Z7 (op := .add) (r' := .int .i64 (IntKind.i64.wrap (n + (cc.length : Nat)))) (u := .int .i64 n) (v := .int .i64 (cc.length : Nat)) ?_ (hr := by exact X56); refine Qc ?_; refine Qnb ?_; exact ⟨(i + 1, IntKind.i64.wrap (n + (cc.length : Nat))), ⟨hil, hg⟩, by simp only; omega, Xa rfl JM trivial⟩
def X4z (r : Rcd) : Prop := YJ r = 0 ∧ (VD r).length ≤ 60000
theorem XeT {ep : Int} {r : Rcd} (h1 : 0 ≤ ep) (h2 : ep ≤ 1000000000000000) (hr : X4z r) : Yu (Yg (YT (YO ep r))) ep = (r, true) := by
 have hbl := X6G h1 h2 hr.2
 have hf := XcV (s := YO ep r) (by omega) [] []
 simp only [List.nil_append, List.append_nil, List.length_nil, Int.natCast_zero, Int.zero_add] at hf
 have hf : Ue (YT (YO ep r)) 0 = (YO ep r, ((YT (YO ep r)).length : Int), 0) := hf
 have hu := X39 (n := ep) ⟨h1, by omega⟩ [] (VD r)
 simp only [List.nil_append, List.length_nil, Int.natCast_zero, Int.zero_add] at hu
 have hu : Xf (YO ep r) 0 = (ep, ((Xo ep).length : Int), 0) := hu
 have hd : (YO ep r).drop (Xo ep).length = Vo r := by
  unfold YO
  rw [List.drop_left' rfl]
  unfold VD
  rw [if_pos hr.1]
 rw [X6x (Xb6 _), hf]
 unfold X1F
 rw [if_neg (by simp), hu]
 unfold X3i
 rw [if_neg (by simp)]
 have hrd : rdS ((YO ep r).drop (Xo ep).length) = (r, 0) := by rw [hd]; exact Xhe hr.1
 simp only [Int.toNat_natCast, hrd]
 rfl
theorem XdC {ep : Int} {r : Rcd} (rest : List UInt8) : Y8 (Ur ep r ++ rest) = Yg (YT (YO ep r)) ∧ UV (Ur ep r ++ rest) = true := by
 have e : Ur ep r ++ rest = Yg (YT (YO ep r)) ++ (0 :: rest) := by unfold Ur; simp
 rw [e]
 have ht : (Yg (YT (YO ep r)) ++ (0 :: rest)).take (Yg (YT (YO ep r))).length = Yg (YT (YO ep r)) := List.take_left' rfl
 obtain ⟨k1, k2⟩ := X9X (l := Yg (YT (YO ep r)) ++ (0 :: rest)) (k := (Yg (YT (YO ep r))).length) (by rw [ht]; exact X8r _) (by simp)
 exact ⟨by rw [k1, ht], k2⟩
theorem Xat {ep : Int} (h1 : 0 ≤ ep) (h2 : ep ≤ 1000000000000000) : ∀ (l : List Rcd) (Z : List UInt8) (a n m : Nat), (∀ r ∈ l, X4z r) → (XA ep l ++ Z).length < n → Z.length < m →
  YS ep n (XA ep l ++ Z) a = (l ++ (YS ep m Z (a + (XA ep l).length)).1, (YS ep m Z (a + (XA ep l).length)).2)
 | [], Z, a, n, m, _, hn, hm => by
  simp only [XA, List.nil_append, List.length_nil, Nat.add_zero] at hn ⊢
  rw [X40 ep n m Z a hn hm]
 | r :: l, Z, a, n, m, hv, hn, hm => by
  have hrl : (Ur ep r).length = (Yg (YT (YO ep r))).length + 1 := by unfold Ur; simp
  obtain ⟨k1, k2⟩ := XdC (ep := ep) (r := r) (XA ep l ++ Z)
  have hre := XeT h1 h2 (hv r (by simp))
  have e : XA ep (r :: l) ++ Z = Ur ep r ++ (XA ep l ++ Z) := by rw [XA, List.append_assoc]
  rw [e] at hn ⊢
  rw [List.length_append] at hn
  cases n with
  | zero => omega
  | succ n =>
   rw [X22 ep _ a n ⟨k2, by rw [k1, hre]⟩, k1, hre, ← hrl, List.drop_left' rfl]
   have ih := Xat h1 h2 l Z (a + (Ur ep r).length) n m (fun x hx => hv x (by simp [hx])) (by omega) hm
   rw [ih]
   have e2 : a + (Ur ep r).length + (XA ep l).length = a + (XA ep (r :: l)).length := by rw [XA, List.length_append]; omega
   rw [e2]
   rfl
theorem Xhg (ep : Int) (z a n : Nat) : YS ep (n + 1) (List.replicate z 0) a = ([], a) := by
 refine X1h ep _ a n fun h => ?_
 cases z with
 | zero => simp [UV] at h
 | succ z =>
  have e : Y8 (List.replicate (z + 1) (0 : UInt8)) = [] := by unfold Y8; rw [List.replicate_succ, List.takeWhile_cons]; simp
  rw [e, X9z] at h
  simp at h
theorem X78 {ep : Int} (h1 : 0 ≤ ep) (h2 : ep ≤ 1000000000000000) (l : List Rcd) (z : Nat) (hv : ∀ r ∈ l, X4z r) : X08 ep (XA ep l ++ List.replicate z 0) = (l, (XA ep l).length) := by
 unfold X08
 rw [Xat h1 h2 l _ 0 _ (z + 1) hv (Nat.lt_succ_self _) (by simp), Xhg]
 simp
theorem Xeo {d : Disk} {f t : Int} (hf : Ud d) (h : XJ d f t 0 0 = 0) : DOk (YD d f t).1 ∧ (YD d f t).1.pending = [] ∧ (YD d f t).1.sectors.length = d.sectors.length ∧ (YD d f t).2 = 0 ∧ XO (YD d f t).1 f t = List.replicate (64 * (t - f).toNat) 0 := by
 obtain ⟨hd, h1, h2, h3, _⟩ := X0X h
 have e : YD d f t = ((Yh (Yb d f.toNat (List.replicate (t - f).toNat YU))).1, 0) := by unfold YD; rw [if_neg (by rw [h]; simp)]
 have hc : ∀ c ∈ List.replicate (t - f).toNat YU, c.length = 64 := fun c hc => by rw [List.eq_of_mem_replicate hc]; rfl
 have hl := X1K _ d f.toNat hd (by rw [List.length_replicate]; omega) hc
 obtain ⟨s1, s2, s3⟩ := X4x hl
 rw [e]
 refine ⟨s1, s3, s2.trans (by rw [(X17 _ d _).1]), rfl, ?_⟩
 unfold XO
 rw [X9c hd (by omega) (Nat.le_refl _) (by rw [List.length_replicate]; omega) hc, Nat.sub_self, Nat.mul_zero, List.take_zero, List.nil_append, List.length_replicate, Nat.zero_add]
 rw [List.drop_of_length_le (by rw [VQ hd _ _ (by omega)]; omega), List.append_nil]
 generalize (t - f).toNat = n
 induction n with
 | zero => rfl
 | succ n ih =>
  rw [List.replicate_succ, List.flatten_cons, ih, show 64 * (n + 1) = 64 + 64 * n by omega, ← List.replicate_append_replicate]
  rfl
theorem XhF {d : Disk} {f t ep tail : Int} {l : List Rcd} (hf : Ud d) (h : (XT d f t ep tail l).2.2 = 0) : (Uz d f t ep tail l).2.2 = 0 ∧ (Uz d f t ep tail l).2.1 = tail + (XA ep l).length ∧
  (Uz d f t ep tail l).1 = (Yh (Yb d (f.toNat + tail.toNat / 64) (V8 d f t tail (XA ep l)))).1 := by
 obtain ⟨s1, s2, s3, s4⟩ := X49 h
 unfold Uz
 rw [if_neg (by rw [h]; simp), s4]
 refine ⟨rfl, rfl, ?_⟩
 unfold X0v
 simp
def exC : Chg := ⟨1, 1, 0, 0, [], .mk 0 0 0 [] []⟩
def exR : Rcd := ⟨1, 1, [exC], zR, false⟩
def exD : Disk := ⟨List.replicate 8 YU, [], true⟩
theorem pu1 : Xo 1 = [1] := by unfold Xo; rw [if_neg (by omega)]; exact X3Z (by decide)
theorem pu3 : Xo 3 = [3] := by unfold Xo; rw [if_neg (by omega)]; exact X3Z (by decide)
theorem X58 : YJ exR = 0 := by decide
theorem Xa8 : VD exR = [1, 1, 1, 1, 1] := by
 unfold VD
 rw [if_pos X58]
 simp [Vo, exR, exC, Uv, Yt, pu1, XX, XS]
theorem X9M : X4z exR := ⟨X58, by rw [Xa8]; decide⟩
theorem X74 : V5 exR := ⟨by simp [exR], fun c hc => by
 simp only [exR, List.mem_singleton] at hc
 subst hc
 exact ⟨by simp [exC], by simp [exC, Yd, V1]⟩⟩
theorem XfM : X0Z exR := ⟨X74, X9M.2⟩
theorem XdE : YO 3 exR = [3, 1, 1, 1, 1, 1] := by unfold YO; rw [pu3, Xa8]; rfl
theorem Xez : ∃ s : List UInt8, 4 ≤ s.length ∧ s.length ≤ 8 ∧ XA 3 [exR] = [6, 3, 1, 2, 1, 2, 1, 2, 1, 2, 1, 2] ++ s ++ [0] := by
 refine ⟨Yg (U0 [3, 1, 1, 1, 1, 1]), ?_, ?_, ?_⟩
 ·have : ∀ l : List UInt8, l.length ≤ (Yg l).length := by
   intro l
   induction l with
   | nil => simp
   | cons x r ih =>
    rw [Yg, List.length_append, List.length_cons]
    have : 1 ≤ (X0t x).length := by unfold X0t; split <;> simp
    omega
  have := this (U0 [3, 1, 1, 1, 1, 1])
  rw [X0U] at this
  exact this
 ·have := X3R (U0 [3, 1, 1, 1, 1, 1])
  rw [X0U] at this
  exact this
 ·rw [XA, XA, List.append_nil, Ur, XdE, Xdy (by decide)]
  have e : (UInt8.ofNat ([3, 1, 1, 1, 1, 1] : List UInt8).length :: (([3, 1, 1, 1, 1, 1] : List UInt8) ++ U0 [3, 1, 1, 1, 1, 1])) = [6, 3, 1, 1, 1, 1, 1] ++ U0 [3, 1, 1, 1, 1, 1] := rfl
  rw [e, X5M]
  rfl
theorem Xdw : X04 8 = (exD, 0) := rfl
theorem X9W : Ud exD := ⟨by decide, by decide⟩
theorem XgW : ∃ (X Y : Disk) (z : Nat) (T : List Disk) (b s : List UInt8), YD exD 5 7 = (X, 0) ∧ Ud X ∧ Yz X 5 7 3 = ([], 0, 0) ∧ Uz X 5 7 3 0 [exR] = (Y, ((z : Nat) : Int), 0) ∧ Ud Y ∧ UY Y ∧ Yz Y 5 7 3 = ([exR], ((z : Nat) : Int), 0) ∧
  (Uz X 5 6 3 60 [exR]) = (Ub, 0, 20) ∧ Y7 Y 5 = ([6, 3, 1, 2, 1, 2, 1, 2, 1, 2, 1, 2] ++ s, 0) ∧ X1N 3 [exR] = ((z : Nat) : Int) ∧ (XT X 5 7 3 0 [exR]).1 = T ∧ T.length = 3 ∧ s.length ≤ 52 := by
 obtain ⟨s, hs1, hs2, hA⟩ := Xez
 have hz : (XA 3 [exR]).length = 13 + s.length := by rw [hA]; simp; omega
 have hsp : XJ exD 5 7 0 0 = 0 := by decide
 obtain ⟨f1, f2, f3, f4, f5⟩ := Xeo X9W hsp
 have hF : YD exD 5 7 = ((YD exD 5 7).1, 0) := Prod.ext rfl f4
 generalize (YD exD 5 7).1 = X at *
 have hXl : X.sectors.length = 8 := f3
 have hXf : Ud X := ⟨by omega, by rw [f2]; simp⟩
 have hE : Ux [exR] = 0 := by unfold Ux; rw [X58]; rfl
 have hsp1 : ∀ ep tail t : Int, 0 ≤ ep → ep ≤ 1000000000000000 → 0 ≤ tail → 5 < t → t ≤ 7 → tail ≤ (t - 5) * 64 → XJ X 5 t ep tail = 0 := fun ep tail t a1 a2 a3 a4 a5 a6 => by
  unfold XJ
  rw [if_neg (by rw [f1.v]; simp), if_neg (by rw [f1.on]; simp), if_neg (by omega), if_neg (by omega)]
 have hst : XT X 5 7 3 0 [exR] = (X0v X 5 7 0 (XA 3 [exR]), (0 : Int) + ((XA 3 [exR]).length : Nat), 0) := by
  unfold XT
  rw [if_neg (by rw [hsp1 3 0 7 (by omega) (by omega) (by omega) (by omega) (by omega) (by omega)]; simp), if_neg (by rw [hE]; simp), if_neg (by rw [hz]; omega)]
 have hst2 : (XT X 5 7 3 0 [exR]).2.2 = 0 := by rw [hst]
 obtain ⟨g1, g2, g3⟩ := XhF hXf hst2
 have hAne : XA 3 [exR] ≠ [] := by rw [hA]; simp
 have hX5 : XO X 5 7 = List.replicate 128 0 := f5
 have hstr := Xcx (d := X) (f := 5) (t := 7) (tail := 0) (A := XA 3 [exR]) f1 (by omega) (by omega) (by omega) (by omega) (by rw [hz]; omega) (by unfold Xaj; rw [hX5]; simp) hAne
 rw [hX5, ← g3] at hstr
 simp only [Int.toNat_zero, List.take_zero, List.nil_append, List.length_replicate, Nat.sub_zero] at hstr
 obtain ⟨k1, k2, k3⟩ := X3y (A := XA 3 [exR]) (f := 5) (t := 7) (tail := 0) f1 (by omega) (by omega) (by omega) (by omega) (by rw [hz]; omega)
 have hlw := X1K (V8 X 5 7 0 (XA 3 [exR])) X ((5 : Int).toNat + (0 : Int).toNat / 64) f1 k1 k2
 obtain ⟨m1, m2, m3⟩ := X4x hlw
 rw [← g3] at m1 m2 m3
 have hAp : Uz X 5 7 3 0 [exR] = ((Uz X 5 7 3 0 [exR]).1, ((13 + s.length : Nat) : Int), 0) := Prod.ext rfl (Prod.ext (by rw [g2, hz]; simp) g1)
 generalize (Uz X 5 7 3 0 [exR]).1 = Y at *
 have hYl : Y.sectors.length = 8 := by rw [m2, (X17 _ X _).1]; exact hXl
 have hspY : XJ Y 5 7 3 0 = 0 := by
  unfold XJ
  rw [if_neg (by rw [m1.v]; simp), if_neg (by rw [m1.on]; simp), if_neg (by omega), if_neg (by omega)]
 have hY2 : XO Y 5 7 = (Y7 Y 5).1 ++ (Y7 Y 6).1 := by
  show Y0 Y 5 2 = _
  rw [Y0, Y0, Y0, List.append_nil]
  rfl
 have hr5 : (Y7 Y 5).1.length = 64 := X3x m1 (a := 5) (by omega)
 have hrd : (Y7 Y 5).1 = [6, 3, 1, 2, 1, 2, 1, 2, 1, 2, 1, 2] ++ (s ++ [0] ++ List.replicate (51 - s.length) 0) := by
  have h1 : (Y7 Y 5).1 = (XO Y 5 7).take 64 := by rw [hY2, List.take_left' hr5]
  rw [h1, hstr, hz, show 128 - (13 + s.length) = (51 - s.length) + 64 by omega, ← List.replicate_append_replicate, ← List.append_assoc, List.take_left' (by rw [List.length_append, hz, List.length_replicate]; omega), hA]
  simp
 have hr52 : (Y7 Y 5).2 = 0 := by
  unfold Y7
  rw [if_neg (by rw [m1.use]; simp), if_pos ⟨by omega, by omega⟩]
 have hchl : (V8 X 5 7 0 (XA 3 [exR])).length = 1 := by
  unfold V8
  rw [if_neg hAne, X0W]
  have ht : UP X 5 7 0 (XA 3 [exR]) = V3 (XA 3 [exR]) := by unfold UP; simp
  rw [ht]
  obtain ⟨y1, y2, y3⟩ := X4v (XA 3 [exR])
  omega
 refine ⟨X, Y, 13 + s.length, (XT X 5 7 3 0 [exR]).1, [], s ++ [0] ++ List.replicate (51 - s.length) 0, hF, hXf, ?_, hAp, ⟨by omega, by rw [m3]; simp⟩, X0p m1.v (by rw [m3]; simp), ?_, ?_, ?_, ?_, rfl, ?_, by simp; omega⟩
 ·unfold Yz
  rw [if_neg (by rw [hsp1 3 0 7 (by omega) (by omega) (by omega) (by omega) (by omega) (by omega)]; simp), hX5]
  have := X78 (ep := 3) (by omega) (by omega) [] 128 (by simp)
  simp only [XA, List.nil_append, List.length_nil] at this
  rw [this]
  rfl
 ·unfold Yz
  rw [if_neg (by rw [hspY]; simp), hstr, X78 (by omega) (by omega) [exR] _ (by intro r hr; simp only [List.mem_singleton] at hr; subst hr; exact X9M)]
  rw [hz]
 ·have : XT X 5 6 3 60 [exR] = ([], 0, 20) := by
   unfold XT
   rw [if_neg (by rw [hsp1 3 60 6 (by omega) (by omega) (by omega) (by omega) (by omega) (by omega)]; simp), if_neg (by rw [hE]; simp), if_pos (by rw [hz]; omega)]
  unfold Uz
  rw [this]
  rfl
 ·exact Prod.ext hrd hr52
 ·unfold X1N X0w
  rw [if_neg (by omega), if_neg (by rw [hE]; simp), hz]
 ·rw [hst]
  simp only [X0v, List.length_append, List.length_singleton, X5k, hchl]
theorem XcZ : Con Tryz.prog 32 [] [ai 1, ai 1] [] (Yq exR) := by
 refine Xb (xs := [Yq exR]) Tryz.func32 rfl Tryz.ntmps32 rfl rfl rfl (fun E => ?_)
 rw [UK]
 simp only [exR, exC, zR, XH, Xy, List.map_cons, List.map_nil]
 refine Qia ?_; refine JD ?_; refine Qi ?_; refine Zx ?_; refine Z5 ?_; refine Zx ?_; refine QTa ?_
 (show AWP Tryz.prog E _ _ _; refine X1 ?_; exact (show Xq _ _ _ _ _ from ⟨_, Xl 100 (cs' := [ai 1, ai 1, .d (.sl 10 [[.v (.int .i64 1), .v (.int .i64 1), .v (.int .i64 0), .v (.int .i64 0), .v (.string (X6 [])), .v (.int .i64 0), .v (.int .i64 0), .v (.int .i64 0), .v (.string (X6 [])), .sl 5 []]]), ai 0, ai 0, X9 [], X9 [], X9 [], X9 [], ab false]) rfl
  ⟨AVal.le_refl _, AVal.le_refl _, AVal.le_d (Xgf (XhC (X0m (X0K _) (X0m (X0K _) (X0m (X0K _) (X0m (X0K _) (X0m (X0K _) (X0m (X0K _) (X0m (X0K _) (X0m (X0K _) (X0m (X0K _) (X0m (Xci 5) Xhn)))))))))) rfl (Xdu 10))), AVal.le_refl _, AVal.le_refl _, AVal.le_refl _, AVal.le_refl _, AVal.le_refl _, AVal.le_refl _, AVal.le_refl _, trivial⟩ rfl, ⟨⟨100, 0, _, rfl, rfl, .inr ⟨10, _, rfl, rfl, rfl, rfl⟩⟩, trivial⟩, X3 _⟩))
structure Ask where
 f : Int
 t : Int
 ep : Int
 tail : Int
 other : Int
 pick : Int
 a : List Rcd
 b : List Rcd
 keep : List Int
abbrev X0A (q : Ask) : AVal := .agg [ai q.f, ai q.t, ai q.ep, ai q.tail, ai q.other, ai q.pick, .d (.sl 10 (q.a.map XG)), .d (.sl 10 (q.b.map XG)), .d (X2W q.keep)]
def X48 (q : Ask) : Prop := (∀ r ∈ q.a, V5 r) ∧ q.a.length ≤ 9223372036854775807 ∧ (∀ r ∈ q.b, V5 r) ∧ q.b.length ≤ 9223372036854775807 ∧ q.keep.length ≤ 9223372036854775807
def X0H (d : Disk) (q : Ask) : Bool := decide (d.sectors.length ≤ 40 ∧ d.pending.length ≤ 40) && (X1y q.a && X1y q.b && decide (q.keep.length ≤ 100))
theorem X8a (d : Disk) (q : Ask) (hq : X48 q) : Con Tryz.prog 9 [] [XK d, X0A q] [] (ab (X0H d q)) := by
 refine Xb (xs := [ab (X0H d q)]) Tryz.func9 rfl Tryz.ntmps9 rfl rfl rfl (fun E => ?_)
 have c1 := Xal q.a hq.2.1
 have c2 := Xal q.b hq.2.2.2.1
 obtain ⟨secs, pend, on⟩ := d
 obtain ⟨f, t, ep, tail, other, pick, a, b, keep⟩ := q
 unfold X0H X0A
 simp only at c1 c2 ⊢
 have hsm : (secs.map XZ).length = secs.length := by simp
 have hpm : (pend.map cWr).length = pend.length := by simp
 have hkm : (keep.map X2A).length = keep.length := by simp
 generalize X1y a = fa at *
 generalize X1y b = fb at *
 generalize a.map XG = ca at *
 generalize b.map XG = cb at *
 clear hq
 by_cases a1 : secs.length ≤ 40
 case neg =>
  have a1' : ¬ ((secs.map XZ).length : Int) ≤ 40 := by omega
  rw [decide_eq_false (fun h => a1 h.1), Bool.false_and]
  refine Qpc ?_; refine QGa ?_; refine Zd ?_; refine Zm ?_; refine Qwc ?_; refine QP ?_; refine QJa ?_; refine QP ?_; refine QJa ?_; refine Qba ?_; refine QT ?_
  (show AWP Tryz.prog E _ _ _; refine X1 ?_; exact (show Xq _ _ _ _ _ from ⟨_, St.le_refl _, ⟨rfl, trivial⟩, X3 _⟩))
 have a1' : ((secs.map XZ).length : Int) ≤ 40 := by omega
 by_cases a2 : pend.length ≤ 40
 case neg =>
  have a2' : ¬ ((pend.map cWr).length : Int) ≤ 40 := by omega
  rw [decide_eq_false (fun h => a2 h.2), Bool.false_and]
  refine Qpc ?_; refine QGa ?_; refine Zd ?_; refine Zm ?_; refine QIa ?_; refine Zd ?_; refine Zm ?_; refine Zn ?_; refine QP ?_; refine QJa ?_; refine QP ?_; refine QJa ?_; refine Qba ?_; refine QT ?_
  (show AWP Tryz.prog E _ _ _; refine X1 ?_; exact (show Xq _ _ _ _ _ from ⟨_, St.le_refl _, ⟨rfl, trivial⟩, X3 _⟩))
 have a2' : ((pend.map cWr).length : Int) ≤ 40 := by omega
 rw [decide_eq_true ⟨a1, a2⟩, Bool.true_and]
 cases fa with
 | false =>
  refine Qkf ?_; refine Zn ?_; refine QP ?_; refine QJa ?_; refine Qba ?_; refine QT ?_
  (show AWP Tryz.prog E _ _ _; refine X1 ?_; exact (show Xq _ _ _ _ _ from ⟨_, St.le_refl _, ⟨rfl, trivial⟩, X3 _⟩))
 | true =>
 cases fb with
 | false =>
  refine Qkf ?_; refine QLa ?_; refine Z9 (hcon := c2) ?_; refine Zn ?_; refine Qba ?_; refine QT ?_
  (show AWP Tryz.prog E _ _ _; refine X1 ?_; exact (show Xq _ _ _ _ _ from ⟨_, St.le_refl _, ⟨rfl, trivial⟩, X3 _⟩))
 | true =>
 rw [Bool.true_and, Bool.true_and]
 by_cases a3 : keep.length ≤ 100
 ·have a3' : ((keep.map X2A).length : Int) ≤ 100 := by omega
  rw [decide_eq_true a3]
  refine Qkf ?_; refine QLa ?_; refine Z9 (hcon := c2) ?_; refine QLa ?_; refine Zd ?_; refine Zm ?_; refine QQ ?_
  (show AWP Tryz.prog E _ _ _; refine X1 ?_; exact (show Xq _ _ _ _ _ from ⟨_, Xc 4 (AVal.le_of_eq (by refine Eq.trans (b := ab (decide _)) rfl ?_; rw [decide_eq_true a3'])), ⟨rfl, trivial⟩, X3 _⟩))
 ·have a3' : ¬ ((keep.map X2A).length : Int) ≤ 100 := by omega
  rw [decide_eq_false a3]
  refine Qkf ?_; refine QLa ?_; refine Z9 (hcon := c2) ?_; refine QLa ?_; refine Zd ?_; refine Zm ?_; refine QQ ?_
  (show AWP Tryz.prog E _ _ _; refine X1 ?_; exact (show Xq _ _ _ _ _ from ⟨_, Xc 4 (AVal.le_of_eq (by refine Eq.trans (b := ab (decide _)) rfl ?_; rw [decide_eq_false a3'])), ⟨rfl, trivial⟩, X3 _⟩))
end Go.Fw
