/- What is accepted as a value is its encoding, in plain Lean. -/
import Derived.Test.YtbhleedlnaakkaaGreatG18
set_option maxHeartbeats 16000000
namespace Go.Fw
open Go
set_option linter.unusedVariables false
theorem X5c {b : List UInt8} {a : Int} (h : 0 ≤ a) (h2 : a ≤ b.length) : only b a a [] := ⟨h, by omega, h2, by simp⟩
theorem VJ {b : List UInt8} {a m e : Int} {w1 w2 : List UInt8} (h1 : only b a m w1) (h2 : only b m e w2) : only b a e (w1 ++ w2) := by
 obtain ⟨k1, k2, k3, k4⟩ := h1
 obtain ⟨j1, j2, j3, j4⟩ := h2
 refine ⟨k1, by omega, j3, ?_⟩
 rw [show (e - a).toNat = (m - a).toNat + (e - m).toNat by omega, List.take_add, k4, List.drop_drop, show a.toNat + (m - a).toNat = m.toNat by omega, j4]
theorem X9V {b : List UInt8} {a : Int} {c : UInt8} (h0 : 0 ≤ a) (h : b[a.toNat]? = some c) : only b a (a + 1) [c] := by
 obtain ⟨hl, he⟩ := List.getElem?_eq_some_iff.1 h
 refine ⟨h0, by omega, by omega, ?_⟩
 rw [show (a + 1 - a).toNat = 1 by omega, List.drop_eq_getElem_cons hl, he]
 rfl
def X18 (b : List UInt8) (g : Nat → Int → Val × Int × Int) : Prop := ∀ (i : Nat) (q : Int) (x : Val) (e : Int), 0 ≤ q → q ≤ b.length → g i q = (x, e, 0) → only b q e (XA x)
theorem X9y {g : Nat → Int → Val × Int × Int} {b : List UInt8} {a : Int} (hg : X18 b g) (h0 : 0 ≤ a) (h1 : a ≤ b.length) : ∀ (j : Nat) (l : List Val) (e : Int), XC g a j = (l, e, 0) → only b a e (XU l) ∧ l.length = j
 | 0, l, e, h => by
  simp only [XC, Prod.mk.injEq] at h
  obtain ⟨rfl, rfl, _⟩ := h
  exact ⟨X5c h0 h1, rfl⟩
 | j + 1, l, e, h => by
  by_cases hz : (XC g a j).2.2 = 0
  ·rw [X0x hz] at h
   have ih := X9y hg h0 h1 j (XC g a j).1 (XC g a j).2.1 (by rw [← hz])
   generalize (XC g a j).1 = l0 at *
   generalize (XC g a j).2.1 = q at *
   obtain ⟨⟨i1, i2⟩, i3⟩ := ih
   simp only [Prod.mk.injEq] at h
   obtain ⟨rfl, rfl, h3⟩ := h
   have hx := hg j q (g j q).1 (g j q).2.1 (by omega) (by omega) (by rw [← h3])
   refine ⟨?_, by simp [i3]⟩
   rw [X4D]
   have := VJ ⟨i1, i2⟩ hx
   simpa [XU] using this
  ·rw [X0D hz (j + 1) (by omega)] at h
   exact absurd (congrArg (fun r => r.2.2) h) hz
theorem Xbd (c : UInt8) : UInt8.ofNat (((c.toNat : Nat) : Int)).toNat = c := by simp
theorem Xei {gl gp : Nat → Int → Val × Int × Int} {b : List UInt8} {a k : Int} {v : Val} {e : Int} (hgl : X18 b gl) (hgp : X18 b gp) (h0 : 0 ≤ a) (h1 : a ≤ b.length) (h : Y8 gl gp b a k = (v, e, 0)) :
  ∃ w, only b a e w ∧ XA v = UInt8.ofNat k.toNat :: w := by
 unfold Y8 at h
 split at h
 ·rename_i hk
  simp only [Prod.mk.injEq] at h
  obtain ⟨rfl, rfl, h3⟩ := h
  have := X4u (b := b) (a := a) (n := (Xq b a).1) (e := (Xq b a).2.1) (by rw [← h3])
  exact ⟨_, this.1, by rw [XA, if_pos hk]⟩
 rename_i hk1
 split at h
 ·rename_i hk
  subst hk
  simp only at h
  split at h
  ·rename_i h3
   simp only [Prod.mk.injEq] at h
   exact absurd h.2.2 h3
  rename_i h3
  have h3 : (Xq b a).2.2 = 0 := by simpa using h3
  simp only [Prod.mk.injEq] at h
  obtain ⟨rfl, rfl, h4⟩ := h
  have e1 := X4u (b := b) (a := a) (n := (Xq b a).1) (e := (Xq b a).2.1) (by rw [← h3])
  have e2 := X4u (b := b) (a := (Xq b a).2.1) (n := (Xq b (Xq b a).2.1).1) (e := (Xq b (Xq b a).2.1).2.1) (by rw [← h4])
  exact ⟨_, VJ e1.1 e2.1, by rw [XA]; simp⟩
 rename_i hk3
 split at h
 ·rename_i hk
  subst hk
  simp only [Prod.mk.injEq] at h
  obtain ⟨rfl, rfl, h3⟩ := h
  have := X1S (b := b) (a := a) (s := (Y9 b a 100).1) (e := (Y9 b a 100).2.1) (most := 100) (by rw [← h3])
  exact ⟨_, this.1, by rw [XA]; simp⟩
 rename_i hk4
 split at h
 ·rename_i hk
  simp only at h
  split at h
  ·rename_i h3
   simp only [Prod.mk.injEq] at h
   exact absurd h.2.2 h3
  rename_i h3
  split at h
  ·simp at h
  have h3 : (Xe b a).2.2 = 0 := by simpa using h3
  have e1 := X1v (b := b) (a := a) (n := (Xe b a).1) (e := (Xe b a).2.1) (by rw [← h3])
  simp only [Prod.mk.injEq] at h
  obtain ⟨rfl, rfl, h4⟩ := h
  have hall : X18 b (if k = 8 then gl else gp) := by
   split
   ·exact hgl
   ·exact hgp
  obtain ⟨⟨k1, k2, k3, k4⟩, k5, k6, k7⟩ := e1
  have e2 := X9y (g := if k = 8 then gl else gp) (b := b) (a := (Xe b a).2.1) hall (by omega) (by omega) (Xe b a).1.toNat _ _ (by rw [← h4])
  refine ⟨_, VJ ⟨k1, k2, k3, k4⟩ e2.1, ?_⟩
  rw [XA, if_neg hk1, if_neg hk3, if_neg hk4, if_pos hk, e2.2]
  rw [show (((Xe b a).1.toNat : Nat) : Int) = (Xe b a).1 by omega]
 rename_i hk7
 simp only [Prod.mk.injEq] at h
 obtain ⟨rfl, rfl, _⟩ := h
 exact ⟨[], X5c h0 h1, by rw [XA, if_neg hk1, if_neg hk3, if_neg hk4, if_neg hk7]⟩
theorem X57 {gl gp : Nat → Int → Val × Int × Int} {m : Nat} {b : List UInt8} {a want : Int} {v : Val} {e : Int} (hgl : X18 b gl) (hgp : X18 b gp) (h0 : 0 ≤ a) (h1 : a ≤ b.length) (h : Ud gl gp m b a want = (v, e, 0)) : only b a e (XA v) := by
 unfold Ud at h
 split at h
 ·simp at h
 rename_i h2
 obtain ⟨c, hc⟩ := Xu (l := b) (k := a.toNat) (by omega)
 rw [hc, Option.getD_some] at h
 simp only at h
 split at h
 ·simp at h
 split at h
 ·simp at h
 obtain ⟨w, hw, hp⟩ := Xei hgl hgp (by omega) (by omega) h
 rw [hp, Xbd]
 exact VJ (X9V h0 hc) hw
theorem X5Q {b : List UInt8} : X18 b noG := fun i q x e _ _ h => by simp [noG] at h
theorem X9e {b : List UInt8} : X18 b (Uu b) := fun i q x e h0 h1 h => by
 unfold Uu X2I at h
 exact X57 X5Q X5Q h0 h1 h
theorem X99 {b : List UInt8} : ∀ (m : Nat) (a : Int) (v : Val) (e : Int), 0 ≤ a → a ≤ b.length → V5 b m a = (v, e, 0) → only b a e (XA v)
 | 0, a, v, e, h0, h1, h => by
  rw [X0q] at h
  exact X57 X5Q X9e h0 h1 h
 | m + 1, a, v, e, h0, h1, h => by
  rw [X0q] at h
  exact X57 (gl := VZ b (m + 1)) (fun i q x e h0 h1 h => X99 m q x e h0 h1 h) X9e h0 h1 h
theorem X6i {b : List UInt8} {a e : Int} {v : Val} (h : Yf b a = (v, e, 0)) : only b a e (Ys v) ∧ X7 8 v = true ∧ (XA v).length ≤ b.length := by
 unfold Yf at h
 split at h
 ·simp at h
 simp only at h
 split at h
 ·rename_i h2
  simp only [Prod.mk.injEq] at h
  exact absurd h.2.2 h2
 rename_i h1 h2
 have ho := X99 8 a v e (by omega) (by omega) h
 have hv : X7 8 v = true := by
  have := X6S (gl := VZ b 8) (gp := Uu b) (m := 8) (b := b) (a := a) (want := 0) (by rw [← X0q, h])
  rw [← X0q, h] at this
  exact this
 have hl : (XA v).length ≤ b.length := by
  rw [← ho.2.2.2]
  simp
  omega
 refine ⟨?_, hv, hl⟩
 unfold Ys
 rw [if_pos hv]
 exact ho
end Go.Fw
namespace Go.Fw
open Go
set_option linter.unusedVariables false
theorem Xgw {b : List UInt8} {a limit k a1 : Int} (h0 : 0 ≤ a) (h : rkI b a 0 limit = (k, a1, 0)) : only b a a1 [UInt8.ofNat k.toNat] ∧ a1 = a + 1 ∧ 1 ≤ k ∧ k ≤ limit := by
 unfold rkI rkS at h
 rw [if_neg (by simp), if_neg (by simp)] at h
 split at h
 ·simp at h
 ·rename_i h1
  split at h
  ·simp at h
  ·rename_i h2
   obtain ⟨c, hc⟩ : ∃ c, b[a.toNat]? = some c := ⟨_, List.getElem?_eq_getElem (by omega)⟩
   rw [hc] at h h2
   simp only [Option.getD_some, Prod.mk.injEq] at h h2
   obtain ⟨rfl, rfl, _⟩ := h
   refine ⟨?_, by omega, by omega, by omega⟩
   rw [Xbd, show ((a.toNat : Nat) : Int) + 1 = a + 1 by omega]
   exact X9V h0 hc
theorem X8R {b : List UInt8} {a : Int} : rnS b a 0 = Xe b a := if_neg (by simp)
theorem X5s {b : List UInt8} {a : Int} : rsS b a 0 = Y9 b a 20 := if_neg (by simp)
theorem X46 {b : List UInt8} {a e m : Int} {s : List UInt8} (h : rsS b a e = (s, m, 0)) : e = 0 := by
 by_cases he : e = 0
 ·exact he
 ·rw [XhT he] at h
  simp at h
  exact absurd h.2.2 he
theorem Xf1 {b : List UInt8} {a e n m : Int} (h : riS b a e = (n, m, 0)) : e = 0 := by
 by_cases he : e = 0
 ·exact he
 ·rw [X7a he] at h
  simp at h
  exact absurd h.2.2 he
theorem Xg3 (c : UInt8) (w : List UInt8) : c :: w = [c] ++ w := rfl
theorem X5V : XY zV := by rw [XY]; exact ⟨by simp, by simp, by rw [Vi]; trivial⟩
theorem XhG (b : List UInt8) (a e : Int) : (rsS b a e).1.length ≤ 20 := by
 unfold rsS
 split
 ·simp
 ·have := X7X b a 20 (by omega)
  omega
theorem XfF (b : List UInt8) (a e : Int) : XY (rvS b a e).1 := by
 unfold rvS
 split
 ·exact X5V
 ·by_cases hz : (Yf b a).2.2 = 0
  ·have := X6i (b := b) (a := a) (v := (Yf b a).1) (e := (Yf b a).2.1) (by rw [← hz])
   exact X5a _ _ this.2.1
  ·unfold Yf at hz ⊢
   split
   ·exact X5V
   ·rename_i h1
    rw [if_neg h1] at hz
    simp only at hz ⊢
    split
    ·exact X5V
    ·rename_i h2
     rw [if_neg h2] at hz
     exact absurd (by simpa using h2) hz
theorem XcJ {b : List UInt8} {a at_ : Int} {r : Rul} (h0 : 0 ≤ a) (h : U5 b a 0 = (r, at_, 0)) : only b a at_ (UA r) ∧ a < at_ := by
 unfold U5 at h
 simp only at h
 generalize hk : rkI b a 0 7 = k at h
 obtain ⟨kd, a1, e1⟩ := k
 simp only at h
 generalize h1 : rsS b a1 e1 = s at h
 obtain ⟨s1, a2, e2⟩ := s
 simp only at h
 generalize h2 : rsS b a2 e2 = s at h
 obtain ⟨s2, a3, e3⟩ := s
 simp only at h
 generalize h3 : rsS b a3 e3 = s at h
 obtain ⟨s3, a4, e4⟩ := s
 simp only at h
 generalize h4 : rsS b a4 e4 = s at h
 obtain ⟨s4, a5, e5⟩ := s
 simp only at h
 generalize h5 : riS b a5 e5 = s at h
 obtain ⟨n, a6, e6⟩ := s
 simp only [Prod.mk.injEq] at h
 obtain ⟨rfl, rfl, rfl⟩ := h
 obtain rfl := Xf1 h5
 obtain rfl := X46 h4
 obtain rfl := X46 h3
 obtain rfl := X46 h2
 obtain rfl := X46 h1
 rw [X5s] at h1 h2 h3 h4
 rw [X4q] at h5
 obtain ⟨p1, p2, p3, p4⟩ := Xgw h0 hk
 have x1 := X1S h1
 have x2 := X1S h2
 have x3 := X1S h3
 have x4 := X1S h4
 have x5 := X4u h5
 refine ⟨?_, by omega⟩
 unfold UA
 simp only
 rw [Xg3]
 exact VJ p1 (VJ (VJ (VJ (VJ x1.1 x2.1) x3.1) x4.1) x5.1)
end Go.Fw
namespace Go.Fw
open Go Go.Proofs
set_option maxRecDepth 100000
set_option linter.unusedVariables false
set_option linter.unusedSimpArgs false
def U3 (b : List UInt8) (a : Int) : Rul × Int × Int :=
 if a < 0 ∨ (b.length : Int) < a then (zR, 0, 1) else
  let r := U5 b a 0
  let e := if r.2.2 = 0 then YW r.1 else r.2.2
  if e ≠ 0 then (zR, 0, e) else (r.1, r.2.1, 0)
theorem XbS (r : Rul) (ρ : Nat → Nat) : (XW r).ren ρ = XW r := rfl
theorem XhF (b : List UInt8) (a e : Int) (hb : b.length ≤ 281474976710656) (ha : e = 0 → 0 ≤ a ∧ a ≤ b.length) : Con Tryz.prog 112 [(101, oRd b a e)] [.ptr 101 0] [(101, oRd b (U5 b a e).2.1 (U5 b a e).2.2)] (XW (U5 b a e).1) := by
 have h := UO 0 101 (Xfs b a e hb ha)
 rw [XbS] at h
 exact h
theorem Xht (b : List UInt8) (a : Int) (hb : b.length ≤ 281474976710656) : Con Tryz.prog 60 [] [.d (Xa b), ai a] [] (.tup [XW (U3 b a).1, ai (U3 b a).2.1, ai (U3 b a).2.2]) := by
 refine X9 (xs := [XW (U3 b a).1, ai (U3 b a).2.1, ai (U3 b a).2.2]) Tryz.func60 rfl Tryz.ntmps60 rfl rfl rfl (fun E => ?_)
 have hlm : (b.map X6).length = b.length := by simp
 unfold U3
 by_cases h1 : a < 0
 ·rw [if_pos (.inl h1)]
  refine X0 ?_; refine JR ?_; refine Zw (γ := 100) ?_; refine Z0 ?_; refine Z0 ?_; refine JD ?_; refine X0 ?_; refine X0 ?_; refine JR ?_; refine Z1 ?_; refine Z8 ?_; refine Z1 ?_; refine Zo ?_; refine Zo ?_
  refine Zo ?_; refine Zo ?_; refine Zn ?_; refine JD ?_; refine JT ?_; refine X0 ?_; refine JR ?_; refine Zx ?_; refine Zy ?_; refine Z0 ?_; refine Z0 ?_; refine JD ?_
  exact X1 ⟨_, St.le_refl _, ⟨⟨100, 0, _, rfl, rfl, .inr ⟨6, _, rfl, rfl, rfl, rfl⟩⟩, rfl, rfl, trivial⟩, X3 _⟩
 by_cases h2 : (b.length : Int) < a
 ·rw [if_pos (.inr h2)]
  have h2' : ((b.map X6).length : Int) < a := by omega
  refine X0 ?_; refine JR ?_; refine Zw (γ := 100) ?_; refine Z0 ?_; refine Z0 ?_; refine JD ?_; refine X0 ?_; refine X0 ?_; refine JR ?_; refine Z1 ?_; refine Z8 ?_; refine Z1 ?_; refine Z1 ?_; refine Z1 ?_
  refine Zd ?_; refine Zs ?_; refine Zq ?_; refine JD ?_; refine JT ?_; refine X0 ?_; refine JR ?_; refine Zx ?_; refine Zy ?_; refine Z0 ?_; refine Z0 ?_; refine JD ?_
  exact X1 ⟨_, St.le_refl _, ⟨⟨100, 0, _, rfl, rfl, .inr ⟨6, _, rfl, rfl, rfl, rfl⟩⟩, rfl, rfl, trivial⟩, X3 _⟩
 rw [if_neg (by omega)]
 have h2' : ¬ ((b.map X6).length : Int) < a := by omega
 have hr := XhF b a 0 hb (fun _ => by omega)
 have hc := X5n (U5 b a 0).1
 generalize U5 b a 0 = r at *
 obtain ⟨c, at_, e⟩ := r
 simp only at hr hc ⊢
 generalize YW c = ce at *
 obtain ⟨k, n, name, key, src, dst⟩ := c
 simp only [XW] at hr hc ⊢
 by_cases he : e = 0
 ·subst he
  rw [if_pos rfl]
  by_cases h3 : ce = 0
  ·subst h3
   rw [if_neg (by simp)]
   repeat first | refine X0 ?_ | (refine JR ?_; (repeat first | refine Z1 ?_ | refine Z0 ?_ | refine Z01 ?_ | refine ZB ?_ | refine ZC ?_ | refine ZL ?_ | refine Zd ?_ | refine Z8 ?_ | refine Zs ?_ | refine Zl ?_ | refine Zv ?_ | refine Zw (γ := 100) ?_ | refine Zw (γ := 102) ?_ | refine ZA (γ := 101) ?_ | refine Zy ?_ | refine Zx ?_ | refine Zq ?_ | refine Z9 (hcon := hr) ?_ | refine Z9 (hcon := hc) ?_); refine JD ?_) | refine JT ?_ | refine JF ?_ | refine X2 ?_
   exact X1 ⟨_, St.le_refl _, ⟨⟨100, 0, _, rfl, rfl, .inr ⟨6, _, rfl, rfl, rfl, rfl⟩⟩, rfl, rfl, trivial⟩, X3 _⟩
  ·rw [if_pos h3]
   repeat first | refine X0 ?_ | (refine JR ?_; (repeat first | refine Z1 ?_ | refine Z0 ?_ | refine Z01 ?_ | refine ZB ?_ | refine ZC ?_ | refine ZL ?_ | refine Zd ?_ | refine Z8 ?_ | refine Zs ?_ | refine Zl ?_ | refine Zv ?_ | refine Zw (γ := 100) ?_ | refine Zw (γ := 102) ?_ | refine ZA (γ := 101) ?_ | refine Zy ?_ | refine Zx ?_ | refine Zq ?_ | refine Z9 (hcon := hr) ?_ | refine Z9 (hcon := hc) ?_); refine JD ?_) | refine JT ?_ | refine JF ?_ | refine X2 ?_
   exact X1 ⟨_, St.le_refl _, ⟨⟨100, 0, _, rfl, rfl, .inr ⟨6, _, rfl, rfl, rfl, rfl⟩⟩, rfl, rfl, trivial⟩, X3 _⟩
 ·rw [if_neg he, if_pos he]
  repeat first | refine X0 ?_ | (refine JR ?_; (repeat first | refine Z1 ?_ | refine Z0 ?_ | refine Z01 ?_ | refine ZB ?_ | refine ZC ?_ | refine Zd ?_ | refine Z8 ?_ | refine Zs ?_ | refine Zl ?_ | refine Zv ?_ | refine Zw (γ := 100) ?_ | refine Zw (γ := 102) ?_ | refine ZA (γ := 101) ?_ | refine Zy ?_ | refine Zx ?_ | refine Zq ?_ | refine Z9 (hcon := hr) ?_); refine JD ?_) | refine JT ?_ | refine JF ?_ | refine X2 ?_
  exact X1 ⟨_, St.le_refl _, ⟨⟨100, 0, _, rfl, rfl, .inr ⟨6, _, rfl, rfl, rfl, rfl⟩⟩, rfl, rfl, trivial⟩, X3 _⟩
end Go.Fw
namespace Go.Fw
open Go
set_option linter.unusedVariables false
def YH (l : List Int) : List UInt8 := (l.map Xc).flatten
def Yd (p : Prp) : List UInt8 := Xz p.key ++ Ys p.v
def YT {α : Type} (w : α → List UInt8) (l : List α) : List UInt8 := Xc l.length ++ (l.map w).flatten
def Y1 (n : Nod) : List UInt8 := Xc n.id ++ (YT Xz n.labels ++ YT Yd n.props)
def Yp (e : Edg) : List UInt8 := Xc e.id ++ (Xc e.src ++ (Xc e.dst ++ (Xz e.typ ++ YT Yd e.props)))
def V0 (g : Gra) (rs : List Rul) : List (List UInt8) := YH [g.nn, g.ne, rs.length, g.nodes.length, g.edges.length] :: (rs.map XN ++ g.nodes.map Y1 ++ g.edges.map Yp)
def XL (l : List (List UInt8)) : List UInt8 := (l.map Y2).flatten
def Xw : List UInt8 := [71, 68, 66, 49]
def Yy (g : Gra) (rs : List Rul) : Int := if Yh g ≠ 0 then Yh g else if Uj rs = false then 19 else 0
def Yz (g : Gra) (rs : List Rul) : List UInt8 := Xw ++ XL (V0 g rs)
def V9 (g : Gra) (rs : List Rul) : List UInt8 := if Yy g rs = 0 then Yz g rs else []
structure Rd where
 k : Nat
 c : List UInt8
 a : Int
 e : Int
def Rd.put (s : Rd) (a e : Int) : Rd := ⟨s.k, s.c, a, e⟩
def XF (b : List UInt8) (s : Rd) : Rd :=
 if s.e ≠ 0 then s else let r := YQ (b.drop s.k) 0; ⟨if r.2.2 = 0 then s.k + r.2.1.toNat else s.k, r.1, 0, r.2.2⟩
def YD (s : Rd) : Rd := if s.e = 0 ∧ s.a < s.c.length then s.put s.a 2 else s
def Vg (b : List UInt8) (s : Rd) : Rd := if s.e = 0 ∧ s.k < b.length then s.put s.a 2 else s
def U4 {α : Type} (z : α) (f : List UInt8 → Int → α × Int × Int) (s : Rd) : α × Rd :=
 if s.e ≠ 0 then (z, s) else let r := f s.c s.a; (r.1, s.put (if r.2.2 = 0 then r.2.1 else s.a) r.2.2)
def Xb : Rd → Int × Rd := U4 0 Xe
def XR : Rd → List UInt8 × Rd := U4 [] fun c a => Y9 c a 20
def Um : Rd → Val × Rd := U4 zV Yf
def Yi : Rd → Rul × Rd := U4 zR U3
def Xt {α : Type} (f : Rd → α × Rd) : Nat → Rd → List α × Rd
 | 0, s => ([], s)
 | n + 1, s => if s.e ≠ 0 then ([], s) else let x := f s; let r := Xt f n x.2; (x.1 :: r.1, r.2)
def Yl (s : Rd) : Prp × Rd := let k := XR s; let v := Um k.2; (⟨k.1, v.1⟩, v.2)
def Yr {α : Type} (f : Rd → α × Rd) (s : Rd) : List α × Rd := let n := Xb s; Xt f n.1.toNat n.2
def Ym (s : Rd) : Nod × Rd :=
 let i := Xb s; let l := Yr XR i.2; let p := Yr Yl l.2; (⟨i.1, l.1, p.1⟩, p.2)
def XO (s : Rd) : Edg × Rd :=
 let i := Xb s; let f := Xb i.2; let t := Xb f.2; let y := XR t.2; let p := Yr Yl y.2; (⟨i.1, f.1, t.1, y.1, p.1⟩, p.2)
def Xs {α : Type} (b : List UInt8) (f : Rd → α × Rd) (s : Rd) : α × Rd := let r := f (XF b s); (r.1, YD r.2)
def X0y (b : List UInt8) (s : Rd) : (Int × Int × Int × Int × Int) × Rd :=
 Xs b (fun s => let a := Xb s; let c := Xb a.2; let r := Xb c.2; let n := Xb r.2; let m := Xb n.2; ((a.1, c.1, r.1, n.1, m.1), m.2)) s
def U7 (b : List UInt8) (s : Rd) : (Gra × List Rul) × Rd :=
 let h := X0y b s
 let r := Xt (Xs b Yi) h.1.2.2.1.toNat h.2
 let n := Xt (Xs b Ym) h.1.2.2.2.1.toNat r.2
 let m := Xt (Xs b XO) h.1.2.2.2.2.toNat n.2
 ((⟨n.1, m.1, h.1.1, h.1.2.1⟩, r.1), Vg b m.2)
def YA (b : List UInt8) : Gra × List Rul × Int :=
 let x := U7 (b.drop 4) ⟨0, [], 0, if b.take 4 = Xw then 0 else 2⟩
 let e := if x.2.e ≠ 0 then x.2.e else if Yh x.1.1 ≠ 0 then Yh x.1.1 else if Uj x.1.2 = false then 19 else 0
 if e ≠ 0 then (X0k, [], e) else (x.1.1, x.1.2, 0)
theorem X1e {α : Type} {f : Rd → α × Rd} {n : Nat} {s : Rd} (h : s.e ≠ 0) : Xt f n s = ([], s) := by
 cases n with
 | zero => rfl
 | succ n => rw [Xt, if_pos h]
theorem X9O {α : Type} {z : α} {f : List UInt8 → Int → α × Int × Int} {s : Rd} (h : s.e ≠ 0) : U4 z f s = (z, s) := by
 unfold U4
 rw [if_pos h]
end Go.Fw
namespace Go.Fw
open Go
set_option linter.unusedVariables false
set_option linter.unusedSimpArgs false
structure At (b : List UInt8) (q : Nat) (w : List UInt8) : Prop where
 le : q ≤ b.length
 eq : b.drop q = w
theorem At.step {b : List UInt8} {q : Nat} {u w : List UInt8} (h : At b q (u ++ w)) : At b (q + u.length) w := by
 have h1 := congrArg List.length h.eq
 simp only [List.length_drop, List.length_append] at h1
 refine ⟨by have := h.le; omega, ?_⟩
 rw [← List.drop_drop, h.eq, List.drop_left]
theorem At.split {b : List UInt8} {q : Nat} {u w : List UInt8} (h : At b q (u ++ w)) : b = b.take q ++ u ++ w ∧ (b.take q).length = q := by
 refine ⟨?_, by have := h.le; simp; omega⟩
 rw [List.append_assoc, ← h.eq, List.take_append_drop]
theorem At.cons {b : List UInt8} {q : Nat} {c : UInt8} {w : List UInt8} (h : At b q (c :: w)) : b[q]? = some c ∧ At b (q + 1) w := by
 refine ⟨?_, At.step (u := [c]) h⟩
 have := congrArg (·[0]?) h.eq
 simpa using this
theorem Xdy {b : List UInt8} {q : Nat} {k limit : Int} {w : List UInt8} (h : At b q (UInt8.ofNat k.toNat :: w)) (hk : 1 ≤ k ∧ k ≤ limit ∧ k ≤ 255) : rkI b q 0 limit = (k, ((q + 1 : Nat) : Int), 0) := by
 obtain ⟨h1, h2⟩ := h.cons
 have hlt := (List.getElem?_eq_some_iff.1 h1).1
 unfold rkI rkS
 rw [if_neg (by simp), if_neg (by simp), Int.toNat_natCast, if_neg (by omega), h1, Option.getD_some, UL (by omega), if_neg (by omega)]
 simp only [Prod.mk.injEq, and_true]
 constructor
 ·omega
 ·omega
theorem Xck {b : List UInt8} {q : Nat} {n : Int} {w : List UInt8} (h : At b q (Xc n ++ w)) (hn : 0 ≤ n ∧ n ≤ 9223372036854775807) : rnS b q 0 = (n, ((q + (Xc n).length : Nat) : Int), 0) := by
 obtain ⟨h1, h2⟩ := h.split
 have := X4K hn (b.take q) w
 rw [X8R]
 rw [← h1, h2] at this
 rw [this]
 simp
theorem XeJ {b : List UInt8} {q : Nat} {n : Int} {w : List UInt8} (h : At b q (XP n ++ w)) (hn : -9223372036854775808 ≤ n ∧ n ≤ 9223372036854775807) : riS b q 0 = (n, ((q + (XP n).length : Nat) : Int), 0) := by
 obtain ⟨h1, h2⟩ := h.split
 have := X4d hn (b.take q) w
 rw [X4q]
 rw [← h1, h2] at this
 rw [this]
 simp
theorem X2S {b : List UInt8} {q : Nat} {s : List UInt8} {w : List UInt8} (h : At b q (Xz s ++ w)) (hn : s.length ≤ 20) : rsS b q 0 = (s, ((q + (Xz s).length : Nat) : Int), 0) := by
 obtain ⟨h1, h2⟩ := h.split
 have := Xb5 (s := s) (most := 20) (by omega) (by omega) (b.take q) w
 rw [X5s]
 rw [← h1, h2] at this
 rw [this]
 simp
theorem Xfi {b : List UInt8} {q : Nat} {v : Val} {w : List UInt8} (h : At b q (Ys v ++ w)) (hv : X7 8 v = true) : rvS b q 0 = (v, ((q + (Ys v).length : Nat) : Int), 0) := by
 obtain ⟨h1, h2⟩ := h.split
 have := XcM hv (b.take q) w
 rw [XhC]
 rw [← h1, h2] at this
 rw [this]
 simp
theorem At.eqv {b : List UInt8} {q q' : Nat} {w w' : List UInt8} (h : At b q w) (hq : q = q') (hw : w = w') : At b q' w' := hq ▸ hw ▸ h
theorem Xfw {b : List UInt8} {q : Nat} {r : Rul} {w : List UInt8} (hr : YW r = 0) (h : At b q (UA r ++ w)) : U5 b q 0 = (r, ((q + (UA r).length : Nat) : Int), 0) ∧ At b (q + (UA r).length) w := by
 refine ⟨?_, h.step⟩
 obtain ⟨o1, ⟨l1, l2, l3, l4⟩, o3⟩ := X29 hr
 obtain ⟨k, n, name, key, src, dst⟩ := r
 simp only at o1 l1 l2 l3 l4 o3
 have hput : UA ⟨k, n, name, key, src, dst⟩ = UInt8.ofNat k.toNat :: (Xz name ++ (Xz key ++ (Xz src ++ (Xz dst ++ XP n)))) := by
  unfold UA; simp only [List.append_assoc]
 rw [hput] at h ⊢
 rw [List.cons_append] at h
 have k1 := Xdy h (limit := 7) (by omega)
 have h1 := h.cons.2
 simp only [List.append_assoc] at h1
 have k2 := X2S h1 l1
 have h2 := h1.step
 have k3 := X2S h2 l2
 have h3 := h2.step
 have k4 := X2S h3 l3
 have h4 := h3.step
 have k5 := X2S h4 l4
 have h5 := h4.step
 have k6 := XeJ h5 o1
 unfold U5
 rw [k1]
 simp only
 rw [k2]
 simp only
 rw [k3]
 simp only
 rw [k4]
 simp only
 rw [k5]
 simp only
 rw [k6]
 simp only [Prod.mk.injEq, true_and, and_true, List.length_cons, List.length_append]
 omega
end Go.Fw
namespace Go.Fw
open Go
set_option linter.unusedVariables false
set_option linter.unusedSimpArgs false
structure PartR {α : Type} (f : Rd → α × Rd) : Prop where
 err : ∀ s, s.e ≠ 0 → (f s).2 = s
 keep : ∀ s, (f s).2.k = s.k ∧ (f s).2.c = s.c
theorem PartR.back {α : Type} {f : Rd → α × Rd} (h : PartR f) {s : Rd} (he : (f s).2.e = 0) : s.e = 0 := by
 by_cases q : s.e = 0
 ·exact q
 ·rw [h.err s q] at he; exact he
def UJ {α : Type} (ok : α → Prop) (w : α → List UInt8) (f : Rd → α × Rd) : Prop :=
 ∀ (s : Rd) (q : Nat) (x : α) (t : List UInt8), ok x → s.e = 0 → s.a = q → At s.c q (w x ++ t) → f s = (x, ⟨s.k, s.c, ((q + (w x).length : Nat) : Int), 0⟩)
def UC {α : Type} (ok : α → Prop) (w : α → List UInt8) (f : Rd → α × Rd) : Prop :=
 ∀ s : Rd, 0 ≤ s.a → s.a ≤ s.c.length → (f s).2.e = 0 → only s.c s.a (f s).2.a (w (f s).1) ∧ ok (f s).1
theorem X2q {α : Type} (z : α) (f : List UInt8 → Int → α × Int × Int) : PartR (U4 z f) := by
 refine ⟨fun s h => by rw [X9O h], fun s => ?_⟩
 unfold U4
 split <;> exact ⟨rfl, rfl⟩
theorem X4Q {α : Type} {z : α} {f : List UInt8 → Int → α × Int × Int} {ok : α → Prop} {w : α → List UInt8}
  (h : ∀ (c : List UInt8) (q : Nat) (x : α) (t : List UInt8), ok x → At c q (w x ++ t) → f c q = (x, ((q + (w x).length : Nat) : Int), 0)) : UJ ok w (U4 z f) := by
 intro s q x t hx he ha hat
 unfold U4
 rw [if_neg (by simp [he]), ha, h s.c q x t hx hat]
 rfl
theorem X4B {α : Type} {z : α} {f : List UInt8 → Int → α × Int × Int} {ok : α → Prop} {w : α → List UInt8}
  (h : ∀ (c : List UInt8) (a : Int) (x : α) (e : Int), f c a = (x, e, 0) → only c a e (w x) ∧ ok x) : UC ok w (U4 z f) := by
 intro s h0 h1 he
 have hs : s.e = 0 := (X2q z f).back he
 unfold U4 at he ⊢
 rw [if_neg (by simp [hs])] at he ⊢
 simp only [Rd.put] at he ⊢
 rw [if_pos he]
 exact h s.c s.a _ _ (by rw [← he])
theorem X3s {α : Type} {f : Rd → α × Rd} (hf : PartR f) : ∀ n, PartR (Xt f n)
 | 0 => ⟨fun s _ => rfl, fun s => ⟨rfl, rfl⟩⟩
 | n + 1 => by
  refine ⟨fun s h => by rw [X1e h], fun s => ?_⟩
  rw [Xt]
  split
  ·exact ⟨rfl, rfl⟩
  ·have h1 := hf.keep s
   have h2 := (X3s hf n).keep (f s).2
   exact ⟨h2.1.trans h1.1, h2.2.trans h1.2⟩
theorem Xbc {α : Type} {f : Rd → α × Rd} {ok : α → Prop} {w : α → List UInt8} (hf : UJ ok w f) : ∀ (l : List α) (s : Rd) (q : Nat) (t : List UInt8), (∀ x ∈ l, ok x) → s.e = 0 → s.a = q →
  At s.c q ((l.map w).flatten ++ t) → Xt f l.length s = (l, ⟨s.k, s.c, ((q + (l.map w).flatten.length : Nat) : Int), 0⟩)
 | [], s, q, t, _, he, ha, hat => by
  obtain ⟨k, c, a, e⟩ := s
  simp only at he ha
  subst he ha
  rfl
 | x :: r, s, q, t, hx, he, ha, hat => by
  have hat' : At s.c q (w x ++ ((r.map w).flatten ++ t)) := by simpa using hat
  have h1 := hf s q x _ (hx x (by simp)) he ha hat'
  have h2 := Xbc hf r ⟨s.k, s.c, ((q + (w x).length : Nat) : Int), 0⟩ (q + (w x).length) t (fun y hy => hx y (by simp [hy])) rfl rfl hat'.step
  rw [List.length_cons, Xt, if_neg (by simp [he]), h1]
  simp only
  rw [h2]
  simp only [List.map_cons, List.flatten_cons, List.length_append, Nat.add_assoc]
def Uf {α β : Type} (f : Rd → α × Rd) (g : α → Rd → β × Rd) (s : Rd) : (α × β) × Rd := (((f s).1, (g (f s).1 (f s).2).1), (g (f s).1 (f s).2).2)
theorem Us {α β : Type} {f : Rd → α × Rd} {g : α → Rd → β × Rd} (hf : PartR f) (hg : ∀ x, PartR (g x)) : PartR (Uf f g) := by
 refine ⟨fun s h => ?_, fun s => ?_⟩
 ·unfold Uf
  have := hf.err s h
  simp only
  rw [(hg _).err _ (by rw [this]; exact h), this]
 ·unfold Uf
  have h1 := hf.keep s
  have h2 := (hg (f s).1).keep (f s).2
  exact ⟨h2.1.trans h1.1, h2.2.trans h1.2⟩
theorem X0e {α β : Type} {f : Rd → α × Rd} {g : α → Rd → β × Rd} {ok : α → Prop} {ok' : α → β → Prop} {w : α → List UInt8} {w' : β → List UInt8} (hf : UJ ok w f) (hg : ∀ x, UJ (ok' x) w' (g x)) :
  UJ (fun p : α × β => ok p.1 ∧ ok' p.1 p.2) (fun p => w p.1 ++ w' p.2) (Uf f g) := by
 rintro s q ⟨x, y⟩ t ⟨hx, hy⟩ he ha hat
 rw [List.append_assoc] at hat
 have h1 := hf s q x _ hx he ha hat
 unfold Uf
 rw [h1]
 simp only
 rw [hg x ⟨s.k, s.c, ((q + (w x).length : Nat) : Int), 0⟩ (q + (w x).length) y t hy rfl rfl hat.step]
 simp only [List.length_append, Nat.add_assoc]
theorem XQ : PartR Xb := X2q 0 Xe
theorem Uq : PartR XR := X2q [] fun c a => Y9 c a 20
theorem X35 : PartR Um := X2q zV Yf
theorem X0E : PartR Yi := X2q zR U3
def okN (n : Int) : Prop := 0 ≤ n ∧ n ≤ 9223372036854775807
theorem X0w : UJ okN Xc Xb := X4Q fun c q x t hx h => by have := Xck h hx; rwa [X8R] at this
theorem X64 : UJ (fun s => s.length ≤ 20) Xz XR := X4Q fun c q x t hx h => by have := X2S h hx; rwa [X5s] at this
theorem XfD : UJ (fun v => X7 8 v = true) Ys Um := X4Q fun c q x t hx h => by
 have := Xfi h hx
 unfold rvS at this
 rwa [if_neg (by simp)] at this
theorem Xcy : UJ (fun r => YW r = 0) XN Yi := X4Q fun c q x t hx h => by
 have hp : XN x = UA x := if_pos hx
 rw [hp] at h ⊢
 have h1 := (Xfw hx h).1
 have hq := h.le
 unfold U3
 rw [if_neg (by omega)]
 simp only [h1, hx, if_true, ne_eq, not_true_eq_false, if_false]
theorem X9G : UC (fun r => YW r = 0) XN Yi := X4B fun c a x e h => by
 unfold U3 at h
 by_cases h0 : a < 0 ∨ (c.length : Int) < a
 ·rw [if_pos h0] at h; simp at h
 ·rw [if_neg h0] at h
  generalize hr : U5 c a 0 = r at h
  obtain ⟨y, z, e'⟩ := r
  simp only at h
  by_cases he : e' = 0
  ·subst he
   simp only [if_true] at h
   by_cases hy : YW y = 0
   ·rw [if_neg (by simp [hy])] at h
    simp only [Prod.mk.injEq, and_true] at h
    obtain ⟨rfl, rfl⟩ := h
    refine ⟨?_, hy⟩
    have hp : XN y = UA y := if_pos hy
    rw [hp]
    exact (XcJ (by omega) hr).1
   ·rw [if_pos hy] at h
    simp only [Prod.mk.injEq] at h
    exact absurd h.2.2 hy
  ·rw [if_neg he, if_pos he] at h
   simp only [Prod.mk.injEq] at h
   exact absurd h.2.2 he
theorem VP {α : Type} {f : Rd → α × Rd} (hf : PartR f) : PartR (Yr f) := by
 have h := Us XQ (fun n : Int => X3s hf n.toNat)
 exact ⟨fun s hs => h.err s hs, fun s => h.keep s⟩
theorem X6g {α : Type} {f : Rd → α × Rd} {ok : α → Prop} {w : α → List UInt8} (hf : UJ ok w f) : UJ (fun l => (∀ x ∈ l, ok x) ∧ l.length ≤ 9223372036854775807) (YT w) (Yr f) := by
 rintro s q l t ⟨hx, hl⟩ he ha hat
 unfold YT at hat ⊢
 rw [List.append_assoc] at hat
 have h1 := X0w s q (l.length : Nat) _ ⟨by omega, by omega⟩ he ha hat
 unfold Yr
 rw [h1]
 simp only [Int.toNat_natCast]
 rw [Xbc hf l ⟨s.k, s.c, ((q + (Xc l.length).length : Nat) : Int), 0⟩ (q + (Xc l.length).length) t hx rfl rfl hat.step]
 simp only [List.length_append, Nat.add_assoc]
def X10 {α β : Type} (φ : α → β) (f : Rd → α × Rd) (s : Rd) : β × Rd := (φ (f s).1, (f s).2)
theorem X5L {α β : Type} {φ : α → β} {f : Rd → α × Rd} (h : PartR f) : PartR (X10 φ f) := ⟨h.err, h.keep⟩
theorem X6C {α β : Type} {φ : α → β} {f : Rd → α × Rd} {ok : α → Prop} {w : α → List UInt8} (hf : UJ ok w f) (ψ : β → α) (hψ : ∀ y, φ (ψ y) = y) : UJ (fun y => ok (ψ y)) (fun y => w (ψ y)) (X10 φ f) := by
 intro s q y t hy he ha hat
 unfold X10
 rw [hf s q (ψ y) t hy he ha hat, hψ]
def okP (p : Prp) : Prop := p.key.length ≤ 20 ∧ X7 8 p.v = true
theorem X6O : Yl = X10 (fun p : List UInt8 × Val => (⟨p.1, p.2⟩ : Prp)) (Uf XR fun _ => Um) := rfl
theorem Vx : PartR Yl := by rw [X6O]; exact X5L (Us Uq fun _ => X35)
theorem X8n : UJ okP Yd Yl := by
 rw [X6O]
 exact X6C (X0e X64 fun _ => XfD) (fun p : Prp => (p.key, p.v)) fun _ => rfl
def okL {α : Type} (ok : α → Prop) (l : List α) : Prop := (∀ x ∈ l, ok x) ∧ l.length ≤ 9223372036854775807
theorem X5C : Ym = X10 (fun p : Int × List (List UInt8) × List Prp => (⟨p.1, p.2.1, p.2.2⟩ : Nod)) (Uf Xb fun _ => Uf (Yr XR) fun _ => Yr Yl) := rfl
theorem X0P : PartR Ym := by rw [X5C]; exact X5L (Us XQ fun _ => Us (VP Uq) fun _ => VP Vx)
def Xb0 (n : Nod) : Prop := okN n.id ∧ okL (fun s => s.length ≤ 20) n.labels ∧ okL okP n.props
theorem Xi4 : UJ Xb0 Y1 Ym := by
 rw [X5C]
 exact X6C (X0e X0w fun _ => X0e (X6g X64) fun _ => X6g X8n) (fun n : Nod => (n.id, n.labels, n.props)) fun _ => rfl
theorem X6I : XO = X10 (fun p : Int × Int × Int × List UInt8 × List Prp => (⟨p.1, p.2.1, p.2.2.1, p.2.2.2.1, p.2.2.2.2⟩ : Edg)) (Uf Xb fun _ => Uf Xb fun _ => Uf Xb fun _ => Uf XR fun _ => Yr Yl) := rfl
theorem X0S : PartR XO := by rw [X6I]; exact X5L (Us XQ fun _ => Us XQ fun _ => Us XQ fun _ => Us Uq fun _ => VP Vx)
def XaE (e : Edg) : Prop := okN e.id ∧ okN e.src ∧ okN e.dst ∧ e.typ.length ≤ 20 ∧ okL okP e.props
theorem XcR : UJ XaE Yp XO := by
 rw [X6I]
 exact X6C (X0e X0w fun _ => X0e X0w fun _ => X0e X0w fun _ => X0e X64 fun _ => X6g X8n) (fun e : Edg => (e.id, e.src, e.dst, e.typ, e.props)) fun _ => rfl
end Go.Fw
namespace Go.Fw
open Go
set_option linter.unusedVariables false
set_option linter.unusedSimpArgs false
theorem XbX {b t c : List UInt8} {s : Rd} (he : s.e = 0) (h : b.drop s.k = Y2 c ++ t) (hc : (c.length : Int) ≤ 9223372036854775807) : XF b s = ⟨s.k + (Y2 c).length, c, 0, 0⟩ := by
 have := Xff hc [] t
 simp only [List.nil_append, List.length_nil] at this
 unfold XF
 rw [if_neg (by simp [he]), h]
 have h0 : ((0 : Nat) : Int) = 0 := rfl
 rw [h0] at this
 simp only [this, if_true]
 congr 1
 omega
theorem X5y {b : List UInt8} {s : Rd} (h : s.e ≠ 0) : XF b s = s := if_pos h
theorem X3f {s : Rd} (h : s.e ≠ 0) : YD s = s := if_neg fun q => h q.1
theorem X8Y {α : Type} {f : Rd → α × Rd} {ok : α → Prop} {w : α → List UInt8} (hf : UJ ok w f) {b t : List UInt8} {s : Rd} {x : α} (hx : ok x) (hl : ((w x).length : Int) ≤ 9223372036854775807) (he : s.e = 0) (h : b.drop s.k = Y2 (w x) ++ t) :
  Xs b f s = (x, ⟨s.k + (Y2 (w x)).length, w x, (w x).length, 0⟩) := by
 unfold Xs
 rw [XbX he h hl]
 have := hf ⟨s.k + (Y2 (w x)).length, w x, 0, 0⟩ 0 x [] hx rfl rfl ⟨by simp, by simp⟩
 simp only [this]
 unfold YD
 rw [if_neg (by simp)]
 simp
theorem X3B {α : Type} {f : Rd → α × Rd} {ok : α → Prop} {w : α → List UInt8} (hf : UJ ok w f) {b : List UInt8} : ∀ (l : List α) (t : List UInt8) (s : Rd), (∀ x ∈ l, ok x ∧ ((w x).length : Int) ≤ 9223372036854775807) → s.e = 0 → s.k ≤ b.length → b.drop s.k = XL (l.map w) ++ t →
  ∃ s', Xt (Xs b f) l.length s = (l, s') ∧ s'.e = 0 ∧ s'.k ≤ b.length ∧ b.drop s'.k = t
 | [], t, s, _, he, hk, h => ⟨s, rfl, he, hk, by simpa [XL] using h⟩
 | x :: r, t, s, hx, he, hk, h => by
  have h' : b.drop s.k = Y2 (w x) ++ (XL (r.map w) ++ t) := by simpa [XL] using h
  have h1 := X8Y hf (hx x (by simp)).1 (hx x (by simp)).2 he h'
  have hd : b.drop (s.k + (Y2 (w x)).length) = XL (r.map w) ++ t := by rw [← List.drop_drop, h', List.drop_left]
  have hlen : s.k + (Y2 (w x)).length ≤ b.length := by
   have := congrArg List.length h'
   simp only [List.length_drop, List.length_append] at this
   omega
  obtain ⟨s', h2, h3, h4, h5⟩ := X3B hf r t ⟨s.k + (Y2 (w x)).length, w x, (w x).length, 0⟩ (fun y hy => hx y (by simp [hy])) rfl hlen hd
  refine ⟨s', ?_, h3, h4, h5⟩
  rw [List.length_cons, Xt, if_neg (by simp [he]), h1]
  simp only
  rw [h2]
def X0H (s : Rd) : (Int × Int × Int × Int × Int) × Rd := let a := Xb s; let c := Xb a.2; let r := Xb c.2; let n := Xb r.2; let m := Xb n.2; ((a.1, c.1, r.1, n.1, m.1), m.2)
theorem X1x (b : List UInt8) (s : Rd) : X0y b s = Xs b X0H s := rfl
theorem X5r : X0H = Uf Xb fun _ => Uf Xb fun _ => Uf Xb fun _ => Uf Xb fun _ => Xb := rfl
def okH (p : Int × Int × Int × Int × Int) : Prop := okN p.1 ∧ okN p.2.1 ∧ okN p.2.2.1 ∧ okN p.2.2.2.1 ∧ okN p.2.2.2.2
def VK (p : Int × Int × Int × Int × Int) : List UInt8 := Xc p.1 ++ (Xc p.2.1 ++ (Xc p.2.2.1 ++ (Xc p.2.2.2.1 ++ Xc p.2.2.2.2)))
theorem X7U (a c r n m : Int) : VK (a, c, r, n, m) = YH [a, c, r, n, m] := by simp [VK, YH]
theorem X5g : PartR X0H := by
 rw [X5r]
 exact Us XQ fun _ => Us XQ fun _ => Us XQ fun _ => Us XQ fun _ => XQ
theorem XfA : UJ okH VK X0H := by
 rw [X5r]
 exact X0e X0w fun _ => X0e X0w fun _ => X0e X0w fun _ => X0e X0w fun _ => X0w
end Go.Fw
namespace Go.Fw
open Go
set_option linter.unusedVariables false
set_option linter.unusedSimpArgs false
theorem X1h {α : Type} {w : α → List UInt8} {k : Nat} : ∀ {l : List α}, (∀ x ∈ l, (w x).length ≤ k) → (l.map w).flatten.length ≤ k * l.length
 | [], _ => by simp
 | x :: r, h => by
  have h1 := h x (by simp)
  have h2 := X1h (l := r) fun y hy => h y (by simp [hy])
  simp only [List.map_cons, List.flatten_cons, List.length_append, List.length_cons, Nat.mul_add, Nat.mul_one]
  omega
theorem X32 {s : List UInt8} (h : XG s = true) : s.length ≤ 20 := by
 unfold XG at h
 simp only [Bool.and_eq_true, decide_eq_true_eq] at h
 exact h.1.1.2
theorem X6U {v : Val} (h : YN v = true) : X7 8 v = true ∧ (v.kind = 1 ∨ v.kind = 2 ∨ v.kind = 4) := by
 unfold YN X4M at h
 simp only [Bool.and_eq_true, decide_eq_true_eq] at h
 exact ⟨h.2, h.1⟩
theorem X2A {v : Val} (h : YN v = true) : (Ys v).length ≤ 111 := by
 obtain ⟨h1, h2⟩ := X6U h
 unfold Ys
 rw [if_pos h1]
 obtain ⟨k, n, d, s, l⟩ := v
 simp only [Val.kind] at h2
 exact XeN h1 (by omega) (by omega)
theorem X42 {ls : List (List UInt8)} {ps : List Prp} (h : U1 ls ps = 0) : (ls.length ≤ 8 ∧ ∀ s ∈ ls, s.length ≤ 20) ∧ ps.length ≤ 16 ∧ ∀ p ∈ ps, p.key.length ≤ 20 ∧ YN p.v = true := by
 unfold U1 at h
 by_cases c1 : 8 < ls.length ∨ 16 < ps.length
 ·rw [if_pos c1] at h; simp at h
 rw [if_neg c1] at h
 by_cases c2 : ls.all XG = false ∨ (ps.map Prp.key).all XG = false
 ·rw [if_pos c2] at h; simp at h
 rw [if_neg c2] at h
 by_cases c3 : Uh ls = false ∨ Uh (ps.map Prp.key) = false
 ·rw [if_pos c3] at h; simp at h
 rw [if_neg c3] at h
 by_cases c4 : (ps.map Prp.v).all YN = false
 ·rw [if_pos c4] at h; simp at h
 have e1 : ls.all XG = true := by cases q : ls.all XG <;> simp_all
 have e2 : (ps.map Prp.key).all XG = true := by cases q : (ps.map Prp.key).all XG <;> simp_all
 have e4 : (ps.map Prp.v).all YN = true := by cases q : (ps.map Prp.v).all YN <;> simp_all
 rw [List.all_eq_true] at e1 e2 e4
 refine ⟨⟨by omega, fun s hs => X32 (e1 s hs)⟩, by omega, fun p hp => ⟨X32 (e2 p.key (List.mem_map.2 ⟨p, hp, rfl⟩)), e4 p.v (List.mem_map.2 ⟨p, hp, rfl⟩)⟩⟩
theorem X1n {ps : List Prp} (hl : ps.length ≤ 16) (h : ∀ p ∈ ps, p.key.length ≤ 20 ∧ YN p.v = true) : okL okP ps ∧ (YT Yd ps).length ≤ 2266 := by
 refine ⟨⟨fun p hp => ⟨(h p hp).1, (X6U (h p hp).2).1⟩, by omega⟩, ?_⟩
 unfold YT
 have h1 := VV (n := (ps.length : Nat)) (by omega)
 have h2 := X1h (w := Yd) (k := 141) (l := ps) fun p hp => by
  unfold Yd
  have a := Ug (h p hp).1
  have b := X2A (h p hp).2
  simp only [List.length_append]
  omega
 simp only [List.length_append]
 omega
theorem Xbt {ls : List (List UInt8)} (hl : ls.length ≤ 8) (h : ∀ s ∈ ls, s.length ≤ 20) : okL (fun s : List UInt8 => s.length ≤ 20) ls ∧ (YT Xz ls).length ≤ 250 := by
 refine ⟨⟨h, by omega⟩, ?_⟩
 unfold YT
 have h1 := VV (n := (ls.length : Nat)) (by omega)
 have h2 := X1h (w := Xz) (k := 30) (l := ls) fun s hs => by have := Ug (h s hs); omega
 simp only [List.length_append]
 omega
theorem Xey {nn : Int} {p : Option Nod} {n : Nod} (h : UU nn p n = 0) : 1 ≤ n.id ∧ n.id < nn ∧ U1 n.labels n.props = 0 := by
 unfold UU at h
 by_cases c1 : ∃ q, p = some q ∧ n.id ≤ q.id
 ·rw [if_pos c1] at h; simp at h
 rw [if_neg c1] at h
 by_cases c2 : n.id < 1 ∨ nn ≤ n.id
 ·rw [if_pos c2] at h; simp at h
 rw [if_neg c2] at h
 exact ⟨by omega, by omega, h⟩
theorem X61 {nn : Int} : ∀ (l : List Nod) (p : Option Nod), Uo nn p l = 0 → ∀ n ∈ l, 1 ≤ n.id ∧ n.id < nn ∧ U1 n.labels n.props = 0
 | [], _, _, n, h => by simp at h
 | x :: r, p, h, n, hn => by
  rw [Uo] at h
  have h0 : UU nn p x = 0 := by
   by_cases h0 : UU nn p x = 0
   ·exact h0
   ·rw [if_pos h0] at h; exact absurd h h0
  rw [h0, if_neg (by simp)] at h
  rcases List.mem_cons.1 hn with rfl | hn
  ·exact Xey h0
  ·exact X61 r _ h n hn
theorem Xeo {ns : List Nod} {ne : Int} {p : Option Edg} {e : Edg} (h : Vh ns ne p e = 0) : 1 ≤ e.id ∧ e.id < ne ∧ Yv ns e.src = true ∧ Yv ns e.dst = true ∧ XG e.typ = true ∧ U1 [] e.props = 0 := by
 unfold Vh at h
 by_cases c1 : ∃ q, p = some q ∧ e.id ≤ q.id
 ·rw [if_pos c1] at h; simp at h
 rw [if_neg c1] at h
 by_cases c2 : e.id < 1 ∨ ne ≤ e.id
 ·rw [if_pos c2] at h; simp at h
 rw [if_neg c2] at h
 by_cases c3 : Yv ns e.src = false ∨ Yv ns e.dst = false
 ·rw [if_pos c3] at h; simp at h
 rw [if_neg c3] at h
 by_cases c4 : XG e.typ = false
 ·rw [if_pos c4] at h; simp at h
 rw [if_neg c4] at h
 simp only [not_or, Bool.not_eq_false] at c3 c4
 exact ⟨by omega, by omega, c3.1, c3.2, c4, h⟩
theorem X76 {ns : List Nod} {ne : Int} : ∀ (l : List Edg) (p : Option Edg), Vq ns ne p l = 0 → ∀ e ∈ l, 1 ≤ e.id ∧ e.id < ne ∧ Yv ns e.src = true ∧ Yv ns e.dst = true ∧ XG e.typ = true ∧ U1 [] e.props = 0
 | [], _, _, n, h => by simp at h
 | x :: r, p, h, n, hn => by
  rw [Vq] at h
  have h0 : Vh ns ne p x = 0 := by
   by_cases h0 : Vh ns ne p x = 0
   ·exact h0
   ·rw [if_pos h0] at h; exact absurd h h0
  rw [h0, if_neg (by simp)] at h
  rcases List.mem_cons.1 hn with rfl | hn
  ·exact Xeo h0
  ·exact X76 r _ h n hn
structure GraOk (g : Gra) : Prop where
 nl : g.nodes.length ≤ 2000
 el : g.edges.length ≤ 4000
 nn : 1 ≤ g.nn ∧ g.nn ≤ 1000001
 ne : 1 ≤ g.ne ∧ g.ne ≤ 1000001
 nodes : ∀ n ∈ g.nodes, Xb0 n ∧ (Y1 n).length ≤ 2526
 edges : ∀ e ∈ g.edges, XaE e ∧ (Yp e).length ≤ 2326
theorem X3g {g : Gra} (h : Yh g = 0) : GraOk g := by
 unfold Yh at h
 by_cases c1 : 2000 < g.nodes.length ∨ 4000 < g.edges.length
 ·rw [if_pos c1] at h; simp at h
 rw [if_neg c1] at h
 by_cases c2 : g.nn < 1 ∨ 1000001 < g.nn ∨ g.ne < 1 ∨ 1000001 < g.ne
 ·rw [if_pos c2] at h; simp at h
 rw [if_neg c2] at h
 by_cases c3 : Uo g.nn none g.nodes ≠ 0
 ·rw [if_pos c3] at h; exact absurd h c3
 rw [if_neg c3] at h
 have c3 : Uo g.nn none g.nodes = 0 := by simpa using c3
 have hn := X61 _ _ c3
 have he := X76 _ _ h
 have hid : ∀ i, Yv g.nodes i = true → 1 ≤ i ∧ i < g.nn := by
  intro i hi
  unfold Yv at hi
  rw [List.any_eq_true] at hi
  obtain ⟨x, hx, e⟩ := hi
  have := hn x hx
  simp only [decide_eq_true_eq] at e
  omega
 refine ⟨by omega, by omega, by omega, by omega, fun n q => ?_, fun e q => ?_⟩
 ·obtain ⟨h1, h2, h3⟩ := hn n q
  obtain ⟨⟨p1, p2⟩, p3, p4⟩ := X42 h3
  obtain ⟨a1, a2⟩ := X1n p3 p4
  obtain ⟨b1, b2⟩ := Xbt p1 p2
  refine ⟨⟨⟨by omega, by omega⟩, b1, a1⟩, ?_⟩
  have := VV (n := n.id) (by omega)
  unfold Y1
  simp only [List.length_append]
  omega
 ·obtain ⟨h1, h2, h3, h4, h5, h6⟩ := he e q
  obtain ⟨_, p3, p4⟩ := X42 h6
  obtain ⟨a1, a2⟩ := X1n p3 p4
  have s1 := hid _ h3
  have s2 := hid _ h4
  refine ⟨⟨⟨by omega, by omega⟩, ⟨by omega, by omega⟩, ⟨by omega, by omega⟩, X32 h5, a1⟩, ?_⟩
  have := VV (n := e.id) (by omega)
  have := VV (n := e.src) (by omega)
  have := VV (n := e.dst) (by omega)
  have := Ug (X32 h5)
  unfold Yp
  simp only [List.length_append]
  omega
theorem X9j : ∀ (l : List Rul) (p : Option Rul), VC p l = true → ∀ r ∈ l, YW r = 0
 | [], _, _, r, h => by simp at h
 | x :: l, p, h, r, hr => by
  rw [VC] at h
  simp only [Bool.and_eq_true, decide_eq_true_eq] at h
  rcases List.mem_cons.1 hr with rfl | hr
  ·exact h.1.1
  ·exact X9j l _ h.2 r hr
theorem X3Y {l : List Rul} (h : Uj l = true) : l.length ≤ 40 ∧ ∀ r ∈ l, YW r = 0 ∧ (XN r).length ≤ 200 := by
 unfold Uj at h
 simp only [Bool.and_eq_true, decide_eq_true_eq] at h
 refine ⟨h.2, fun r hr => ?_⟩
 have := X9j _ _ h.1 r hr
 refine ⟨this, ?_⟩
 unfold XN
 rw [if_pos this]
 exact Xfq this
theorem X6Z {g : Gra} {rs : List Rul} (h : Yy g rs = 0) : Yh g = 0 ∧ Uj rs = true := by
 unfold Yy at h
 by_cases c : Yh g ≠ 0
 ·rw [if_pos c] at h; exact absurd h c
 rw [if_neg c] at h
 by_cases c2 : Uj rs = false
 ·rw [if_pos c2] at h; simp at h
 exact ⟨by simpa using c, by simpa using c2⟩
theorem Xg0 {g : Gra} {rs : List Rul} (h : Yy g rs = 0) (t : List UInt8) :
  ∃ s, U7 (XL (V0 g rs) ++ t) ⟨0, [], 0, 0⟩ = ((g, rs), s) ∧ s.e = if t = [] then 0 else 2 := by
 obtain ⟨h1, h2⟩ := X6Z h
 have G := X3g h1
 obtain ⟨S1, S2⟩ := X3Y h2
 generalize hb : XL (V0 g rs) ++ t = b
 have hb0 : b.drop 0 = Y2 (VK (g.nn, g.ne, (rs.length : Nat), (g.nodes.length : Nat), (g.edges.length : Nat))) ++ (XL (rs.map XN) ++ (XL (g.nodes.map Y1) ++ (XL (g.edges.map Yp) ++ t))) := by
  rw [List.drop_zero, ← hb, V0, ← X7U]
  simp [XL]
 have hL : ((VK (g.nn, g.ne, (rs.length : Nat), (g.nodes.length : Nat), (g.edges.length : Nat))).length : Int) ≤ 9223372036854775807 := by
  have := VV (n := g.nn) (by have := G.nn; omega)
  have := VV (n := g.ne) (by have := G.ne; omega)
  have := VV (n := (rs.length : Nat)) (by omega)
  have := VV (n := (g.nodes.length : Nat)) (by have := G.nl; omega)
  have := VV (n := (g.edges.length : Nat)) (by have := G.el; omega)
  unfold VK
  simp only [List.length_append]
  omega
 have i0 := X8Y XfA (b := b) (s := ⟨0, [], 0, 0⟩) (x := (g.nn, g.ne, (rs.length : Nat), (g.nodes.length : Nat), (g.edges.length : Nat)))
  ⟨⟨by have := G.nn; omega, by have := G.nn; omega⟩, ⟨by have := G.ne; simp only; omega, by have := G.ne; simp only; omega⟩, ⟨by simp only; omega, by simp only; omega⟩, ⟨by simp only; omega, by have := G.nl; simp only; omega⟩, ⟨by simp only; omega, by have := G.el; simp only; omega⟩⟩ hL rfl hb0
 rw [← X1x] at i0
 have hd0 : b.drop (0 + (Y2 (VK (g.nn, g.ne, (rs.length : Nat), (g.nodes.length : Nat), (g.edges.length : Nat)))).length) = XL (rs.map XN) ++ (XL (g.nodes.map Y1) ++ (XL (g.edges.map Yp) ++ t)) := by
  rw [← List.drop_drop, hb0, List.drop_left]
 have hk0 : 0 + (Y2 (VK (g.nn, g.ne, (rs.length : Nat), (g.nodes.length : Nat), (g.edges.length : Nat)))).length ≤ b.length := by
  have := congrArg List.length hb0
  simp only [List.drop_zero, List.length_append] at this
  omega
 unfold U7
 rw [i0]
 simp only [Int.toNat_natCast]
 generalize hs1 : (Rd.mk (0 + (Y2 (VK (g.nn, g.ne, (rs.length : Nat), (g.nodes.length : Nat), (g.edges.length : Nat)))).length) (VK (g.nn, g.ne, (rs.length : Nat), (g.nodes.length : Nat), (g.edges.length : Nat))) ((VK (g.nn, g.ne, (rs.length : Nat), (g.nodes.length : Nat), (g.edges.length : Nat))).length : Nat) 0) = s1
 have e1 : s1.e = 0 := by rw [← hs1]
 have k1 : s1.k ≤ b.length := by rw [← hs1]; exact hk0
 have d1 : b.drop s1.k = XL (rs.map XN) ++ (XL (g.nodes.map Y1) ++ (XL (g.edges.map Yp) ++ t)) := by rw [← hs1]; exact hd0
 obtain ⟨s2, r2, e2, k2, d2⟩ := X3B Xcy rs _ s1 (fun r hr => ⟨(S2 r hr).1, by have := (S2 r hr).2; omega⟩) e1 k1 d1
 obtain ⟨s3, r3, e3, k3, d3⟩ := X3B Xi4 g.nodes _ s2 (fun n hn => ⟨(G.nodes n hn).1, by have := (G.nodes n hn).2; omega⟩) e2 k2 d2
 obtain ⟨s4, r4, e4, k4, d4⟩ := X3B XcR g.edges _ s3 (fun n hn => ⟨(G.edges n hn).1, by have := (G.edges n hn).2; omega⟩) e3 k3 d3
 rw [r2]
 simp only
 rw [r3]
 simp only
 rw [r4]
 refine ⟨_, rfl, ?_⟩
 simp only
 unfold Vg
 have hl := congrArg List.length d4
 simp only [List.length_drop] at hl
 by_cases ht : t = []
 ·subst ht
  simp only [List.length_nil] at hl
  rw [if_neg (by omega), if_pos rfl, e4]
 ·have : 0 < t.length := List.length_pos_iff.2 ht
  rw [if_pos ⟨e4, by omega⟩, if_neg ht]
  rfl
theorem X3I {g : Gra} {rs : List Rul} (h : Yy g rs = 0) (t : List UInt8) : YA (Yz g rs ++ t) = if t = [] then (g, rs, 0) else (X0k, [], 2) := by
 obtain ⟨h1, h2⟩ := X6Z h
 obtain ⟨s, hs, he⟩ := Xg0 h t
 have d4 : (Yz g rs ++ t).drop 4 = XL (V0 g rs) ++ t := by
  unfold Yz
  rw [List.append_assoc, List.drop_append_of_le_length (by decide)]
  rfl
 have t4 : (Yz g rs ++ t).take 4 = Xw := by
  unfold Yz
  rw [List.append_assoc, List.take_append_of_le_length (by decide)]
  rfl
 unfold YA
 rw [d4, t4, if_pos rfl, hs]
 simp only [he, h1, h2]
 by_cases ht : t = []
 ·simp [ht]
 ·simp [ht]
end Go.Fw
