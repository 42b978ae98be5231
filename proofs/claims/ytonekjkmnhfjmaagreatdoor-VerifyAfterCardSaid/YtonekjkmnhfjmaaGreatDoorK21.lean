/- The null value: the program's and the reference's tests; plain values. -/
import Derived.Test.YtonekjkmnhfjmaaGreatDoorK20
set_option maxHeartbeats 8000000
namespace Go.Fw
open Go Go.Proofs
set_option maxRecDepth 100000
set_option linter.unusedVariables false
set_option linter.unusedSimpArgs false
theorem Xal {m : Nat} {k n d : Int} {s : List UInt8} {l : List Val} (h : X8 m (.mk k n d s l) = true) (hk : k = 0) : n = 0 ∧ d = 0 ∧ s = [] ∧ l = [] := by
 subst hk
 rw [X8] at h
 simp at h
 exact ⟨h.2, h.1.1.1, h.1.1.2, h.1.2⟩
theorem X6U {m : Nat} {k n d : Int} {s : List UInt8} {l : List Val} (h : X8 m (.mk k n d s l) = true) : 0 ≤ k ∧ k ≤ 8 := by
 refine Classical.byContradiction fun hn => ?_
 rw [X8] at h
 rw [if_neg (by omega), if_neg (by omega), if_neg (by omega), if_neg (by omega), if_neg (by omega), if_neg (by omega), if_neg (by omega), if_neg (by omega)] at h
 simp at h
theorem Xd4 (f : FuncId) : Con Tryz.prog 313 [] [.d (.sl 5 []), .d (.sl 5 []), .fn f []] [] (ai 0) := by
 refine Xc (xs := [ai 0]) Tryz.func313 rfl Tryz.ntmps313 rfl rfl rfl (fun E => ?_)
 refine QU ?_; refine Qcc ?_
 refine Xz (fun _ : Unit => True) (fun _ => ⟨39, [(0, .d (.sl 5 [])), (1, .d (.sl 5 [])), (12, ai 0), (13, ai 0)], []⟩) (fun _ => 0) () trivial
  (X6 rfl ⟨JL, JL, JL, JL, trivial⟩ trivial) ?_
 intro _ _
 refine Qka ?_; refine Qh ?_; refine Z3 ?_; refine Z1 ?_; refine QYc ?_; exact QMd
theorem XeZ (k n d : Int) (s : List UInt8) (l : List Val) (h : UL k ≠ 0) : Con Tryz.prog 312 [] [Xm (.mk k n d s l), Xm zV] [] (ai (XL (UL k) 0)) := by
 refine Xc (xs := [ai (XL (UL k) 0)]) Tryz.func312 rfl Tryz.ntmps312 rfl rfl rfl (fun E => ?_)
 have c1 := X7v k n d s l
 have c2 := X7v 0 0 0 [] []
 have c3 := X1G (UL k) 0
 rw [show UL 0 = 0 from rfl] at c2
 have hz : XL (UL k) 0 ≠ 0 := by
  unfold XL
  split
  ·omega
  ·split
   ·omega
   ·omega
 generalize XL (UL k) 0 = z at *
 generalize UL k = c at *
 simp only [Xm, XG] at c1 c2 ⊢
 refine Qae ?_; refine Zr (hcon := c1) ?_; refine ZX ?_; refine Zr (hcon := c2) ?_; refine Zr (hcon := c3) ?_; exact Qhe
theorem Xht : Con Tryz.prog 312 [] [Xm zV, Xm zV] [] (ai 0) := by
 refine Xc (xs := [ai 0]) Tryz.func312 rfl Tryz.ntmps312 rfl rfl rfl (fun E => ?_)
 have c2 := X7v 0 0 0 [] []
 have c3 := X1G 0 0
 have c4 := XdN []
 have c5 := Xd4 312
 have c6 := XbB [0, 0, 0] (by decide)
 rw [show UL 0 = 0 from rfl] at c2
 rw [show XL 0 0 = 0 from rfl] at c3
 rw [show orI [0, 0, 0] = 0 from rfl] at c6
 simp only [Xm, XG, List.map_cons, List.map_nil] at c2 c6 ⊢
 refine Qae ?_; refine Zr (hcon := c2) ?_; refine ZX ?_; refine Zr (hcon := c2) ?_; refine Zr (hcon := c3) ?_; refine Qie ?_; refine QZd ?_; refine Zr (hcon := c2) ?_; refine Qk ?_; refine Qje ?_; refine Zr (hcon := c4) ?_; refine Qke ?_; refine Zr (hcon := c3) ?_; refine Qke ?_; refine Zr (hcon := c5) ?_; refine Zo ?_; refine Zr (hcon := c6) ?_; exact QCb
def X2u (v : Val) : Int := if X8 8 v = false then 1 else XL (UL v.kind) 0
theorem XfH (v : Val) : decide (X2u v = 0) = YA v := by
 unfold X2u YA
 cases h : X8 8 v with
 | false => simp
 | true =>
  obtain ⟨k, n, d, s, l⟩ := v
  have hk := X6U h
  simp only [Val.kind, Bool.true_and]
  refine decide_eq_decide.2 ?_
  rw [if_neg (by simp)]
  unfold XL UL
  constructor
  ·intro h1
   split at h1
   ·omega
   split at h1
   ·split at h1
    ·omega
    ·split at h1 <;> omega
   ·split at h1 <;> omega
  ·intro h1
   subst h1
   rfl
theorem Xfu (v : Val) : Con Tryz.prog 273 [] [Xm v, Xm zV] [] (ai (X2u v)) := by
 refine Xc (xs := [ai (X2u v)]) Tryz.func273 rfl Tryz.ntmps273 rfl rfl rfl (fun E => ?_)
 have hv := X2i v
 have hz := X2i zV
 rw [show X8 8 zV = true by rw [X8]; simp] at hz
 unfold X2u
 cases h : X8 8 v with
 | false =>
  rw [h] at hv
  rw [if_pos rfl]
  obtain ⟨k, n, d, s, l⟩ := v
  simp only [Xm, XG] at hv hz ⊢
  refine Qle ?_; refine QBb ?_; refine Qma ?_; refine Qe ?_; refine QSb ?_; refine JF ?_; refine Qzb ?_; refine JF ?_; refine Qzb ?_; refine JT ?_; exact QY
 | true =>
  rw [h] at hv
  rw [if_neg (by simp)]
  obtain ⟨k, n, d, s, l⟩ := v
  simp only [Val.kind]
  by_cases hk : UL k = 0
  ·have hk0 : k = 0 := by
    have := X6U h
    unfold UL at hk
    split at hk
    ·omega
    ·split at hk <;> omega
   obtain ⟨rfl, rfl, rfl, rfl⟩ := Xal h hk0
   subst hk0
   have ho := Xht
   rw [show XL (UL 0) 0 = 0 from rfl]
   simp only [Xm, XG] at hv hz ho ⊢
   refine QYd ?_; refine QTc ?_; refine Qbe ?_; refine ZX ?_; refine Qbe ?_; refine QBb ?_; refine Qma ?_; refine Qr ?_; refine Qme ?_; refine Qne ?_; refine Zr (hcon := ho) ?_; exact QCb
  ·have ho := XeZ k n d s l hk
   generalize XL (UL k) 0 = z at *
   simp only [Xm, XG] at hv hz ho ⊢
   refine Qle ?_; refine QBb ?_; refine Qma ?_; refine Qr ?_; refine Qme ?_; refine Qne ?_; refine Zr (hcon := ho) ?_; exact QCb
theorem X7m (v : Val) : Con Tryz.prog 214 [] [Xm v] [] (ab (YA v)) := by
 refine Xc (xs := [ab (YA v)]) Tryz.func214 rfl Tryz.ntmps214 rfl rfl rfl (fun E => ?_)
 have ho := Xfu v
 rw [← XfH v]
 generalize X2u v = z at *
 obtain ⟨k, n, d, s, l⟩ := v
 simp only [Xm, XG] at ho ⊢
 refine QWc ?_; refine ZJ ?_; refine Zr (hcon := ho) ?_; refine Qya ?_; exact QX
def X7A (b : Bool) (k n d : Int) : Int × Int × Bool := if b = false then (0, 0, false) else if k = 2 then (n, 1, true) else if k = 3 then (n, d, true) else (0, 0, false)
def X04 (v : Val) : Int × Int × Bool := X7A (X8 8 v) v.kind v.n v.d
theorem X68 (v : Val) (hok : Ym v) : Con Tryz.prog 184 [] [Xm v] [] (.tup [UA (X04 v).1 (X04 v).2.1, ab (X04 v).2.2]) := by
 have hv := X1u v hok
 refine Xc (xs := [UA (X04 v).1 (X04 v).2.1, ab (X04 v).2.2]) Tryz.func184 rfl Tryz.ntmps184 rfl rfl rfl (fun E => ?_)
 unfold X04
 generalize X8 8 v = bb at *
 obtain ⟨k, n, d, s, l⟩ := v
 simp only [Xm, Val.kind, Val.n, Val.d] at hv ⊢
 unfold X7A
 cases bb with
 | false =>
  rw [if_pos rfl]
  refine Qoe ?_; refine Qb ?_; refine QZd ?_; refine Qbe ?_; refine Zd ?_; refine Qpe ?_; exact Qqe
 | true =>
  rw [if_neg (by simp)]
  by_cases h2 : k = 2
  ·rw [if_pos h2]
   refine Qoe ?_; refine Qb ?_; refine QZd ?_; refine Qce ?_; refine Qre ?_; refine Qm ?_; refine QJb ?_; refine ZJ ?_; refine QCa ?_; exact Qqe
  rw [if_neg h2]
  by_cases h3 : k = 3
  ·rw [if_pos h3]
   refine Qoe ?_; refine Qb ?_; refine QZd ?_; refine Qce ?_; refine Qse ?_; refine Qre ?_; refine Qm ?_; refine Qje ?_; refine ZJ ?_; refine QCa ?_; exact Qqe
  rw [if_neg h3]
  refine Qoe ?_; refine Qb ?_; refine QZd ?_; refine Qce ?_; refine Qse ?_; refine Qse ?_; refine QDa ?_; exact Qqe
def X3p (v : Val) : Prop := Con Tryz.prog 117 [] [Xm v, Xm v] [] (ai 0)
theorem XfP (l : List Val) (hl : l.length ≤ 9223372036854775807) (ih : ∀ x ∈ l, X3p x) : Con Tryz.prog 242 [] [.d (.sl 5 (XG l)), .d (.sl 5 (XG l))] [] (ai 0) := by
 refine Xc (xs := [ai 0]) Tryz.func242 rfl Tryz.ntmps242 rfl rfl rfl (fun E => ?_)
 have hlen := X02 l
 have hi := X3F (XG l).length
 refine QXc ?_
 refine Xz (fun i : Nat => i ≤ l.length) (fun i => ⟨36, [(0, .d (.sl 5 (XG l))), (1, .d (.sl 5 (XG l))), (5, ai i)], []⟩) (fun i => l.length - i) 0 (by omega)
  (X6 rfl ⟨JL, JL, JL, trivial⟩ trivial) ?_
 intro i hi2
 by_cases hil : i < l.length
 case neg =>
  have hn : ¬ (i : Int) < (XG l).length := by omega
  refine Ql ?_; refine QYc ?_; refine Qdb ?_; refine Qab ?_; refine Qd ?_; refine Z3 ?_; refine Z1 ?_; refine Z3 ?_; refine Zr (hcon := hi) ?_; exact QCb
 obtain ⟨x, hx⟩ := Xs (l := l) hil
 have hxc : (XG l)[i]? = some (Y5 x) := by rw [X2O]; exact Xx hx
 have hc := ih x (List.mem_of_getElem? hx)
 unfold X3p at hc
 have hn : (i : Int) < (XG l).length := by omega
 obtain ⟨k, n, d, s, q⟩ := x
 simp only [Xm, Y5] at hc hxc
 refine Ql ?_; refine QYc ?_; refine Qt ?_; refine QYc ?_; refine ZB ?_; refine Qbb ?_; refine Qe ?_; refine Qdc ?_; refine Qq ?_; refine Qdc ?_; refine Qte ?_; refine Qie ?_; refine Qgb ?_; exact ⟨i + 1, by omega, by omega, X6 rfl ⟨JL, JL, JL, trivial⟩ trivial⟩
theorem XgF (v : Val) (hl : v.l.length ≤ 9223372036854775807) (ih : ∀ x ∈ v.l, X3p x) : Con Tryz.prog 181 [] [Xm v, Xm v] [] (ai 0) := by
 obtain ⟨k, n, d, s, l⟩ := v
 simp only [Val.l] at hl ih
 have hl := XfP l hl ih
 have hk := X3F k
 have hn := X3F n
 have hd := X3F d
 have hs := Xih s
 refine Xc (xs := [ai 0]) Tryz.func181 rfl Tryz.ntmps181 rfl rfl rfl (fun E => ?_)
 simp only [Xm]
 refine QYd ?_; refine Que ?_; refine Qve ?_; refine Que ?_; refine Zr (hcon := hn) ?_; refine Qie ?_; refine Que ?_; refine Zr (hcon := hd) ?_; refine Qie ?_; refine Que ?_; refine Zr (hcon := hs) ?_; refine Qie ?_; refine Qje ?_; refine Zr (hcon := hl) ?_; exact QCb
theorem Xew (v : Val) (hok : Ym v) (hf : Con Tryz.prog 181 [] [Xm v, Xm v] [] (ai 0)) : X3p v := by
 have hv := X1u v hok
 have hn := X68 v hok
 have hcl := X6D v.kind
 have hi := X3F (Vt v.kind)
 have hcmp := Xi9 (X04 v).1 (X04 v).2.1
 refine Xc (xs := [ai 0]) Tryz.func117 rfl Tryz.ntmps117 rfl rfl rfl (fun E => ?_)
 generalize X04 v = u at *
 generalize X8 8 v = bb at *
 obtain ⟨k, n, d, s, l⟩ := v
 obtain ⟨p, q, is⟩ := u
 simp only [Xm, Val.kind] at hv hn hcl hi hcmp hf ⊢
 generalize Vt k = c at *
 cases bb with
 | false =>
  refine Qxe ?_; refine Qm ?_; refine Qne ?_; refine Zr (hcon := hf) ?_; exact QCb
 | true =>
  cases is with
  | true =>
   refine Qxe ?_; refine Qye ?_; refine Zr (hcon := hcl) ?_; refine QIb ?_; refine Zr (hcon := hcl) ?_; refine Zr (hcon := hi) ?_; refine Qie ?_; refine QTc ?_; refine Zr (hcon := hn) ?_; refine Qze ?_; refine QTc ?_; refine Zr (hcon := hn) ?_; refine QAe ?_; refine Qh ?_; refine Qm ?_; refine Qne ?_; refine Zr (hcon := hcmp) ?_; exact QCb
  | false =>
   refine Qxe ?_; refine Qye ?_; refine Zr (hcon := hcl) ?_; refine QIb ?_; refine Zr (hcon := hcl) ?_; refine Zr (hcon := hi) ?_; refine Qie ?_; refine QTc ?_; refine Zr (hcon := hn) ?_; refine Qze ?_; refine QTc ?_; refine Zr (hcon := hn) ?_; refine QAe ?_; refine Qh ?_; refine Qj ?_; refine Qne ?_; refine Zr (hcon := hf) ?_; exact QCb
theorem X9M : ∀ v : Val, Ym v → X3p v
 | .mk k n d s l => fun hok => Xew (.mk k n d s l) hok (XgF (.mk k n d s l) (by rw [Ym] at hok; exact hok.2.1) fun x hx => X9M x (X6u (by rw [Ym] at hok; exact hok.2.2) hx))
termination_by v => SizeOf.sizeOf v
decreasing_by
 have h1 := List.sizeOf_lt_of_mem (show x ∈ l from hx)
 simp only [Val.mk.sizeOf_spec]
 omega
theorem XeX (x y : Int) : Con Tryz.prog 182 [] [ai x, ai y] [] (ai (XL x y)) := by
 refine Xc (xs := [ai (XL x y)]) Tryz.func182 rfl Tryz.ntmps182 rfl rfl rfl (fun E => ?_)
 by_cases h1 : x < y
 ·rw [show XL x y = -1 by simp [XL, h1]]
  refine Qc ?_; refine Ql ?_; refine Zq ?_; exact QZ
 by_cases h2 : y < x
 ·rw [show XL x y = 1 by simp [XL, h1, h2]]
  refine Qc ?_; refine Ql ?_; refine Zq ?_; refine QLd ?_; refine Zb ?_; exact QZ
 rw [show XL x y = 0 by simp [XL, h1, h2]]
 refine Qc ?_; exact QNd
theorem X4J (b : Bool) : Con Tryz.prog 180 [] [ab b] [] (ai (if b then 2 else 0)) := by
 refine Xc (xs := [ai (if b then 2 else 0)]) Tryz.func180 rfl Tryz.ntmps180 rfl rfl rfl (fun E => ?_)
 cases b with
 | true =>
  refine QU ?_; exact QZ
 | false =>
  refine QU ?_; exact QMd
theorem XcR {k : Int} (h : k ≠ 0) : 0 < Vt k := by
 unfold Vt
 rw [if_neg h]
 split
 ·omega
 split
 ·omega
 split
 ·omega
 split
 ·omega
 split
 ·omega
 split <;> omega
def X1g (v : Val) : Int := if X8 8 v = false then 1 else XL (Vt v.kind) 0
theorem Xfg (v : Val) : decide (X1g v = 0) = YA v := by
 unfold X1g YA
 cases h : X8 8 v with
 | false => simp
 | true =>
  obtain ⟨k, n, d, s, l⟩ := v
  have hk := X6U h
  simp only [Val.kind, Bool.true_and]
  refine decide_eq_decide.2 ?_
  rw [if_neg (by simp)]
  unfold XL Vt
  constructor
  ·intro h1
   refine Classical.byContradiction fun h0 => ?_
   rw [if_neg h0] at h1
   have hpos : (0 : Int) < (if k = 1 then 1 else if k = 2 ∨ k = 3 then 2 else if k = 4 then 3 else if k = 5 then 4 else if k = 6 then 5 else if k = 8 then 6 else 7) := by
    split
    ·omega
    split
    ·omega
    split
    ·omega
    split
    ·omega
    split
    ·omega
    split <;> omega
   rw [if_neg (by omega), if_pos hpos] at h1
   omega
  ·intro h1
   subst h1
   rfl
theorem Xc8 (v : Val) (hok : Ym v) : Con Tryz.prog 117 [] [Xm v, Xm zV] [] (ai (X1g v)) := by
 have hv := X1u v hok
 have hz := X1u zV (by simp [Ym, VW])
 rw [show X8 8 zV = true by rw [X8]; simp] at hz
 by_cases hz0 : v = zV
 ·subst hz0
  rw [show X1g zV = 0 by unfold X1g; rw [show X8 8 zV = true by rw [X8]; simp]; rfl]
  exact X9M zV (by simp [Ym, VW])
 refine Xc (xs := [ai (X1g v)]) Tryz.func117 rfl Tryz.ntmps117 rfl rfl rfl (fun E => ?_)
 unfold X1g
 cases h : X8 8 v with
 | false =>
  rw [h] at hv
  rw [if_pos rfl]
  have hy := X4J false
  rw [if_neg (by simp)] at hy
  obtain ⟨k, n, d, s, l⟩ := v
  simp only [Xm, XG] at hv hz ⊢
  refine Qle ?_; refine QBb ?_; refine Ql ?_; refine Z0c ?_; refine Qv ?_; refine Zr (hcon := hy) ?_; refine Z03 ?_; exact QCb
 | true =>
  rw [h] at hv
  rw [if_neg (by simp)]
  obtain ⟨k, n, d, s, l⟩ := v
  have c1 := X6D k
  have c2 := X6D 0
  rw [show Vt 0 = 0 from rfl] at c2
  have c3 := XeX (Vt k) 0
  simp only [Val.kind]
  have hk0 : k ≠ 0 := fun h1 => by
   obtain ⟨rfl, rfl, rfl, rfl⟩ := Xal h h1
   exact hz0 (by rw [h1])
  have hcp := XcR hk0
  have hnz : XL (Vt k) 0 ≠ 0 := by
   unfold XL
   rw [if_neg (by omega), if_pos hcp]
   omega
  generalize XL (Vt k) 0 = z at *
  generalize Vt k = c at *
  simp only [Xm, XG] at hv hz ⊢
  refine Qle ?_; refine QBb ?_; refine Ql ?_; refine Z0c ?_; refine Qj ?_; refine Qwe ?_; refine Qye ?_; refine Zr (hcon := c1) ?_; refine QIb ?_; refine Zr (hcon := c2) ?_; refine Zr (hcon := c3) ?_; exact Qhe
theorem XbE (v : Val) (hok : Ym v) : Con Tryz.prog 172 [] [Xm v] [] (ab (YA v)) := by
 refine Xc (xs := [ab (YA v)]) Tryz.func172 rfl Tryz.ntmps172 rfl rfl rfl (fun E => ?_)
 have ho := Xc8 v hok
 rw [← Xfg v]
 generalize X1g v = z at *
 obtain ⟨k, n, d, s, l⟩ := v
 simp only [Xm, XG] at ho ⊢
 refine QWc ?_; refine ZJ ?_; refine Zr (hcon := ho) ?_; refine Qya ?_; exact QX
theorem X9N (v : Val) : Con Tryz.prog 156 [] [Xm v] [] (ab (XV v)) := by
 refine Xc (xs := [ab (XV v)]) Tryz.func156 rfl Tryz.ntmps156 rfl rfl rfl (fun E => ?_)
 have hv := X2i v
 unfold XV
 generalize X8 8 v = b at *
 obtain ⟨k, n, d, s, l⟩ := v
 simp only [Xm, Val.kind] at hv ⊢
 unfold X4j
 by_cases h1 : k = 1
 ·rw [decide_eq_true (by omega), Bool.true_and]
  cases b with
  | true =>
   refine QHb ?_; refine QCc ?_; refine QBe ?_; refine QCe ?_; exact QUa
  | false =>
   refine QHb ?_; refine QCc ?_; refine QBe ?_; refine QCe ?_; exact QDe
 by_cases h2 : k = 2
 ·rw [decide_eq_true (by omega), Bool.true_and]
  cases b with
  | true =>
   refine QEe ?_; refine QV ?_; refine QCe ?_; exact QUa
  | false =>
   refine QEe ?_; refine QV ?_; refine QCe ?_; exact QDe
 by_cases h4 : k = 4
 ·rw [decide_eq_true (by omega), Bool.true_and]
  cases b with
  | true =>
   refine QEe ?_; refine Qkd ?_; refine Qjc ?_; refine Qbe ?_; exact QUa
  | false =>
   refine QEe ?_; refine Qkd ?_; refine Qjc ?_; refine Qbe ?_; exact QDe
 rw [decide_eq_false (by omega), Bool.false_and]
 refine QEe ?_; refine Qkd ?_; refine QJ ?_; exact QP
theorem X9X (v : Val) (hok : Ym v) : Con Tryz.prog 173 [] [Xm v] [] (ab (XV v)) := by
 refine Xc (xs := [ab (XV v)]) Tryz.func173 rfl Tryz.ntmps173 rfl rfl rfl (fun E => ?_)
 have hv := X1u v hok
 unfold XV
 generalize X8 8 v = b at *
 obtain ⟨k, n, d, s, l⟩ := v
 simp only [Xm, Val.kind] at hv ⊢
 unfold X4j
 by_cases h1 : k = 1
 ·rw [decide_eq_true (by omega), Bool.true_and]
  cases b with
  | true =>
   refine QWc ?_; refine Qbe ?_; refine QDc ?_; refine QBe ?_; exact QUa
  | false =>
   exact QFe
 by_cases h2 : k = 2
 ·rw [decide_eq_true (by omega), Bool.true_and]
  cases b with
  | true =>
   refine QGe ?_; refine QV ?_; exact QUa
  | false =>
   exact QFe
 by_cases h4 : k = 4
 ·rw [decide_eq_true (by omega), Bool.true_and]
  cases b with
  | true =>
   refine QGe ?_; refine Qkd ?_; exact QUa
  | false =>
   exact QFe
 rw [decide_eq_false (by omega), Bool.false_and]
 cases b with
 | true =>
  refine QGe ?_; refine Qkd ?_; exact QDe
 | false =>
  exact QFe
end Go.Fw
