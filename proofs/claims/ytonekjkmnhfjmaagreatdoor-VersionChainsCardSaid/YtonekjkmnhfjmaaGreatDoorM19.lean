/- The null value: the program's and the reference's tests; plain values. -/
import Derived.Test.YtonekjkmnhfjmaaGreatDoorM18
set_option maxHeartbeats 8000000
namespace Go.Fw
open Go Go.Proofs
set_option maxRecDepth 100000
set_option linter.unusedVariables false
set_option linter.unusedSimpArgs false
theorem X7x {m : Nat} {k n d : Int} {s : List UInt8} {l : List Val} (h : X8 m (.mk k n d s l) = true) (hk : k = 0) : n = 0 ∧ d = 0 ∧ s = [] ∧ l = [] := by
 subst hk
 rw [X8] at h
 simp at h
 exact ⟨h.2, h.1.1.1, h.1.1.2, h.1.2⟩
theorem X6i {m : Nat} {k n d : Int} {s : List UInt8} {l : List Val} (h : X8 m (.mk k n d s l) = true) : 0 ≤ k ∧ k ≤ 8 := by
 refine Classical.byContradiction fun hn => ?_
 rw [X8] at h
 rw [if_neg (by omega), if_neg (by omega), if_neg (by omega), if_neg (by omega), if_neg (by omega), if_neg (by omega), if_neg (by omega), if_neg (by omega)] at h
 simp at h
theorem Xcr (f : FuncId) : Con Tryz.prog 313 [] [.d (.sl 5 []), .d (.sl 5 []), .fn f []] [] (ai 0) := by
 refine Xc (xs := [ai 0]) Tryz.func313 rfl Tryz.ntmps313 rfl rfl rfl (fun E => ?_)
 refine Qu ?_; refine Qjb ?_
 refine Xz (fun _ : Unit => True) (fun _ => ⟨39, [(0, .d (.sl 5 [])), (1, .d (.sl 5 [])), (12, ai 0), (13, ai 0)], []⟩) (fun _ => 0) () trivial
  (X7 rfl ⟨JL, JL, JL, JL, trivial⟩ trivial) ?_
 intro _ _
 refine QM ?_; refine Qt ?_; refine Qib ?_; refine Qbc ?_; exact QQc
theorem XeK (k n d : Int) (s : List UInt8) (l : List Val) (h : Uq k ≠ 0) : Con Tryz.prog 312 [] [XG (.mk k n d s l), XG zV] [] (ai (XW (Uq k) 0)) := by
 refine Xc (xs := [ai (XW (Uq k) 0)]) Tryz.func312 rfl Tryz.ntmps312 rfl rfl rfl (fun E => ?_)
 have c1 := X5M k n d s l
 have c2 := X5M 0 0 0 [] []
 have c3 := X3j (Uq k) 0
 rw [show Uq 0 = 0 from rfl] at c2
 have hz : XW (Uq k) 0 ≠ 0 := by
  unfold XW
  split
  ·omega
  ·split
   ·omega
   ·omega
 generalize XW (Uq k) 0 = z at *
 generalize Uq k = c at *
 simp only [XG, Xx] at c1 c2 ⊢
 refine Qad ?_; refine Qbd ?_; refine Z9 (hcon := c1) ?_; refine ZL ?_; refine Z9 (hcon := c2) ?_; refine Z9 (hcon := c3) ?_; exact Qhd
theorem Xdf : Con Tryz.prog 312 [] [XG zV, XG zV] [] (ai 0) := by
 refine Xc (xs := [ai 0]) Tryz.func312 rfl Tryz.ntmps312 rfl rfl rfl (fun E => ?_)
 have c2 := X5M 0 0 0 [] []
 have c3 := X3j 0 0
 have c4 := Xe2 []
 have c5 := Xcr 312
 have c6 := XfP [0, 0, 0] (by decide)
 rw [show Uq 0 = 0 from rfl] at c2
 rw [show XW 0 0 = 0 from rfl] at c3
 rw [show orI [0, 0, 0] = 0 from rfl] at c6
 simp only [XG, Xx, List.map_cons, List.map_nil] at c2 c6 ⊢
 refine Qad ?_; refine Qbd ?_; refine Z9 (hcon := c2) ?_; refine ZL ?_; refine Z9 (hcon := c2) ?_; refine Z9 (hcon := c3) ?_; refine Qid ?_; refine Qbd ?_; refine Z9 (hcon := c2) ?_; refine Qdc ?_; refine Qjd ?_; refine Z9 (hcon := c4) ?_; refine Qkd ?_; refine Z9 (hcon := c3) ?_; refine Qkd ?_; refine Z9 (hcon := c5) ?_; refine Z5 ?_; refine Z9 (hcon := c6) ?_; exact QNa
def X1Q (v : Val) : Int := if X8 8 v = false then 1 else XW (Uq v.kind) 0
theorem XdM (v : Val) : decide (X1Q v = 0) = Yo v := by
 unfold X1Q Yo
 cases h : X8 8 v with
 | false => simp
 | true =>
  obtain ⟨k, n, d, s, l⟩ := v
  have hk := X6i h
  simp only [Val.kind, Bool.true_and]
  refine decide_eq_decide.2 ?_
  rw [if_neg (by simp)]
  unfold XW Uq
  constructor
  ·intro h1
   split at h1
   ·omega
   split at h1
   ·split at h1
    ·omega
    ·split at h1 <;> omega
   ·split at h1 <;> omega
  ·intro h1
   subst h1
   rfl
theorem Xdg (v : Val) : Con Tryz.prog 273 [] [XG v, XG zV] [] (ai (X1Q v)) := by
 refine Xc (xs := [ai (X1Q v)]) Tryz.func273 rfl Tryz.ntmps273 rfl rfl rfl (fun E => ?_)
 have hv := X5h v
 have hz := X5h zV
 rw [show X8 8 zV = true by rw [X8]; simp] at hz
 unfold X1Q
 cases h : X8 8 v with
 | false =>
  rw [h] at hv
  rw [if_pos rfl]
  obtain ⟨k, n, d, s, l⟩ := v
  simp only [XG, Xx] at hv hz ⊢
  refine Qld ?_; refine QKa ?_; refine QO ?_; refine Qd ?_; refine Z1 ?_; refine QU ?_; refine Qmd ?_; refine Qd ?_; refine Qmd ?_; refine QJa ?_; refine JT ?_; exact Qz
 | true =>
  rw [h] at hv
  rw [if_neg (by simp)]
  obtain ⟨k, n, d, s, l⟩ := v
  simp only [Val.kind]
  by_cases hk : Uq k = 0
  ·have hk0 : k = 0 := by
    have := X6i h
    unfold Uq at hk
    split at hk
    ·omega
    ·split at hk <;> omega
   obtain ⟨rfl, rfl, rfl, rfl⟩ := X7x h hk0
   subst hk0
   have ho := Xdf
   rw [show XW (Uq 0) 0 = 0 from rfl]
   simp only [XG, Xx] at hv hz ho ⊢
   refine Qad ?_; refine QWb ?_; refine Z9 (hcon := hv) ?_; refine ZL ?_; refine Z9 (hcon := hv) ?_; refine QKa ?_; refine QO ?_; refine QUc ?_; refine Qna ?_; refine JT ?_; refine Qnd ?_; refine Z9 (hcon := ho) ?_; exact QNa
  ·have ho := XeK k n d s l hk
   generalize XW (Uq k) 0 = z at *
   simp only [XG, Xx] at hv hz ho ⊢
   refine Qld ?_; refine QKa ?_; refine QO ?_; refine QUc ?_; refine Qna ?_; refine JT ?_; refine Qnd ?_; refine Z9 (hcon := ho) ?_; exact QNa
theorem X5E (v : Val) : Con Tryz.prog 214 [] [XG v] [] (ab (Yo v)) := by
 refine Xc (xs := [ab (Yo v)]) Tryz.func214 rfl Tryz.ntmps214 rfl rfl rfl (fun E => ?_)
 have ho := Xdg v
 rw [← XdM v]
 generalize X1Q v = z at *
 obtain ⟨k, n, d, s, l⟩ := v
 simp only [XG, Xx] at ho ⊢
 refine QSa ?_; refine QWb ?_; refine Zx ?_; refine Z9 (hcon := ho) ?_; refine Qda ?_; exact Qy
def X7V (b : Bool) (k n d : Int) : Int × Int × Bool := if b = false then (0, 0, false) else if k = 2 then (n, 1, true) else if k = 3 then (n, d, true) else (0, 0, false)
def X05 (v : Val) : Int × Int × Bool := X7V (X8 8 v) v.kind v.n v.d
theorem XfJ (v : Val) (hok : Y3 v) : Con Tryz.prog 184 [] [XG v] [] (.tup [X1X (X05 v).1 (X05 v).2.1, ab (X05 v).2.2]) := by
 have hv := X3u v hok
 refine Xc (xs := [X1X (X05 v).1 (X05 v).2.1, ab (X05 v).2.2]) Tryz.func184 rfl Tryz.ntmps184 rfl rfl rfl (fun E => ?_)
 unfold X05
 generalize X8 8 v = bb at *
 obtain ⟨k, n, d, s, l⟩ := v
 simp only [XG, Val.kind, Val.n, Val.d] at hv ⊢
 unfold X7V
 cases bb with
 | false =>
  rw [if_pos rfl]
  refine Qpd ?_; refine Qfd ?_; refine Qrd ?_; exact Qsd
 | true =>
  rw [if_neg (by simp)]
  by_cases h2 : k = 2
  ·rw [if_pos h2]
   refine Qpd ?_; refine Qfd ?_; refine Qtd ?_; refine Zl ?_; refine Qx ?_; refine QUa ?_; refine Zx ?_; refine Qfa ?_; exact Qsd
  rw [if_neg h2]
  by_cases h3 : k = 3
  ·rw [if_pos h3]
   refine Qpd ?_; refine Qfd ?_; refine Qtd ?_; refine Qdc ?_; refine Qsb ?_; refine Zl ?_; refine Qx ?_; refine Qjd ?_; refine Zx ?_; refine Qfa ?_; exact Qsd
  rw [if_neg h3]
  refine Qpd ?_; refine Qfd ?_; refine Qtd ?_; refine Qdc ?_; refine Qsb ?_; refine Qdc ?_; refine Qga ?_; exact Qsd
def X1p (v : Val) : Prop := Con Tryz.prog 117 [] [XG v, XG v] [] (ai 0)
theorem XeE (l : List Val) (hl : l.length ≤ 9223372036854775807) (ih : ∀ x ∈ l, X1p x) : Con Tryz.prog 242 [] [.d (.sl 5 (Xx l)), .d (.sl 5 (Xx l))] [] (ai 0) := by
 refine Xc (xs := [ai 0]) Tryz.func242 rfl Tryz.ntmps242 rfl rfl rfl (fun E => ?_)
 have hlen := Vb l
 have hi := X2W (Xx l).length
 refine Qac ?_
 refine Xz (fun i : Nat => i ≤ l.length) (fun i => ⟨36, [(0, .d (.sl 5 (Xx l))), (1, .d (.sl 5 (Xx l))), (5, ai i)], []⟩) (fun i => l.length - i) 0 (by omega)
  (X7 rfl ⟨JL, JL, JL, trivial⟩ trivial) ?_
 intro i hi2
 by_cases hil : i < l.length
 case neg =>
  have hn : ¬ (i : Int) < (Xx l).length := by omega
  refine Qva ?_; refine Qbc ?_; refine Qza ?_; refine QMa ?_; refine Qib ?_; refine Zd ?_; refine Z9 (hcon := hi) ?_; exact QNa
 obtain ⟨x, hx⟩ := Xu (l := l) hil
 have hxc : (Xx l)[i]? = some (Y1 x) := by rw [X19]; exact XD hx
 have hc := ih x (List.mem_of_getElem? hx)
 unfold X1p at hc
 have hn : (i : Int) < (Xx l).length := by omega
 obtain ⟨k, n, d, s, q⟩ := x
 simp only [XG, Y1] at hc hxc
 refine Qva ?_; refine Qbc ?_; refine QX ?_; refine Qbc ?_; refine Zn ?_; refine Qxa ?_; refine Qd ?_; refine Qic ?_; refine Qud ?_; refine Z9 (hcon := hc) ?_; refine Qid ?_; refine QBa ?_; exact ⟨i + 1, by omega, by omega, X7 rfl ⟨JL, JL, JL, trivial⟩ trivial⟩
theorem XfS (v : Val) (hl : v.l.length ≤ 9223372036854775807) (ih : ∀ x ∈ v.l, X1p x) : Con Tryz.prog 181 [] [XG v, XG v] [] (ai 0) := by
 obtain ⟨k, n, d, s, l⟩ := v
 simp only [Val.l] at hl ih
 have hl := XeE l hl ih
 have hk := X2W k
 have hn := X2W n
 have hd := X2W d
 have hs := Xg4 s
 refine Xc (xs := [ai 0]) Tryz.func181 rfl Tryz.ntmps181 rfl rfl rfl (fun E => ?_)
 simp only [XG]
 refine Qad ?_; refine Qsb ?_; refine QTa ?_; refine Z9 (hcon := hk) ?_; refine Qid ?_; refine Qsb ?_; refine QTa ?_; refine Z9 (hcon := hn) ?_; refine Qid ?_; refine Qsb ?_; refine QTa ?_; refine Z9 (hcon := hd) ?_; refine Qid ?_; refine Qsb ?_; refine QTa ?_; refine Z9 (hcon := hs) ?_; refine Qid ?_; refine Qjd ?_; refine Z9 (hcon := hl) ?_; exact QNa
theorem Xfw (v : Val) (hok : Y3 v) (hf : Con Tryz.prog 181 [] [XG v, XG v] [] (ai 0)) : X1p v := by
 have hv := X3u v hok
 have hn := XfJ v hok
 have hcl := X7f v.kind
 have hi := X2W (V2 v.kind)
 have hcmp := XcL (X05 v).1 (X05 v).2.1
 refine Xc (xs := [ai 0]) Tryz.func117 rfl Tryz.ntmps117 rfl rfl rfl (fun E => ?_)
 generalize X05 v = u at *
 generalize X8 8 v = bb at *
 obtain ⟨k, n, d, s, l⟩ := v
 obtain ⟨p, q, is⟩ := u
 simp only [XG, Val.kind] at hv hn hcl hi hcmp hf ⊢
 generalize V2 k = c at *
 cases bb with
 | false =>
  refine Qwd ?_; refine Qx ?_; refine Qnd ?_; refine Z9 (hcon := hf) ?_; exact QNa
 | true =>
  cases is with
  | true =>
   refine Qwd ?_; refine Qtd ?_; refine Z9 (hcon := hcl) ?_; refine QTa ?_; refine Z9 (hcon := hcl) ?_; refine Z9 (hcon := hi) ?_; refine Qid ?_; refine QWb ?_; refine Z9 (hcon := hn) ?_; refine Qxd ?_; refine QWb ?_; refine Z9 (hcon := hn) ?_; refine Qzd ?_; refine Qt ?_; refine Qx ?_; refine Qnd ?_; refine Z9 (hcon := hcmp) ?_; exact QNa
  | false =>
   refine Qwd ?_; refine Qtd ?_; refine Z9 (hcon := hcl) ?_; refine QTa ?_; refine Z9 (hcon := hcl) ?_; refine Z9 (hcon := hi) ?_; refine Qid ?_; refine QWb ?_; refine Z9 (hcon := hn) ?_; refine Qxd ?_; refine QWb ?_; refine Z9 (hcon := hn) ?_; refine Qzd ?_; refine Qt ?_; refine QH ?_; refine Qnd ?_; refine Z9 (hcon := hf) ?_; exact QNa
theorem X43 : ∀ v : Val, Y3 v → X1p v
 | .mk k n d s l => fun hok => Xfw (.mk k n d s l) hok (XfS (.mk k n d s l) (by rw [Y3] at hok; exact hok.2.1) fun x hx => X43 x (X1F (by rw [Y3] at hok; exact hok.2.2) hx))
termination_by v => SizeOf.sizeOf v
decreasing_by
 have h1 := List.sizeOf_lt_of_mem (show x ∈ l from hx)
 simp only [Val.mk.sizeOf_spec]
 omega
theorem Xfp (x y : Int) : Con Tryz.prog 182 [] [ai x, ai y] [] (ai (XW x y)) := by
 refine Xc (xs := [ai (XW x y)]) Tryz.func182 rfl Tryz.ntmps182 rfl rfl rfl (fun E => ?_)
 by_cases h1 : x < y
 ·rw [show XW x y = -1 by simp [XW, h1]]
  refine Qc ?_; refine QOc ?_; exact QA
 by_cases h2 : y < x
 ·rw [show XW x y = 1 by simp [XW, h1, h2]]
  refine Qc ?_; refine QOc ?_; refine QPc ?_; refine Zs ?_; exact QA
 rw [show XW x y = 0 by simp [XW, h1, h2]]
 refine Qc ?_; exact QRc
theorem XgR (b : Bool) : Con Tryz.prog 180 [] [ab b] [] (ai (if b then 2 else 0)) := by
 refine Xc (xs := [ai (if b then 2 else 0)]) Tryz.func180 rfl Tryz.ntmps180 rfl rfl rfl (fun E => ?_)
 cases b with
 | true =>
  refine Qu ?_; exact QA
 | false =>
  refine Qu ?_; exact QQc
theorem XdP {k : Int} (h : k ≠ 0) : 0 < V2 k := by
 unfold V2
 rw [if_neg h]
 split
 ·omega
 split
 ·omega
 split
 ·omega
 split
 ·omega
 split
 ·omega
 split <;> omega
def X16 (v : Val) : Int := if X8 8 v = false then 1 else XW (V2 v.kind) 0
theorem XbP (v : Val) : decide (X16 v = 0) = Yo v := by
 unfold X16 Yo
 cases h : X8 8 v with
 | false => simp
 | true =>
  obtain ⟨k, n, d, s, l⟩ := v
  have hk := X6i h
  simp only [Val.kind, Bool.true_and]
  refine decide_eq_decide.2 ?_
  rw [if_neg (by simp)]
  unfold XW V2
  constructor
  ·intro h1
   refine Classical.byContradiction fun h0 => ?_
   rw [if_neg h0] at h1
   have hpos : (0 : Int) < (if k = 1 then 1 else if k = 2 ∨ k = 3 then 2 else if k = 4 then 3 else if k = 5 then 4 else if k = 6 then 5 else if k = 8 then 6 else 7) := by
    split
    ·omega
    split
    ·omega
    split
    ·omega
    split
    ·omega
    split
    ·omega
    split <;> omega
   rw [if_neg (by omega), if_pos hpos] at h1
   omega
  ·intro h1
   subst h1
   rfl
theorem Xgq (v : Val) (hok : Y3 v) : Con Tryz.prog 117 [] [XG v, XG zV] [] (ai (X16 v)) := by
 have hv := X3u v hok
 have hz := X3u zV (by simp [Y3, VN])
 rw [show X8 8 zV = true by rw [X8]; simp] at hz
 by_cases hz0 : v = zV
 ·subst hz0
  rw [show X16 zV = 0 by unfold X16; rw [show X8 8 zV = true by rw [X8]; simp]; rfl]
  exact X43 zV (by simp [Y3, VN])
 refine Xc (xs := [ai (X16 v)]) Tryz.func117 rfl Tryz.ntmps117 rfl rfl rfl (fun E => ?_)
 unfold X16
 cases h : X8 8 v with
 | false =>
  rw [h] at hv
  rw [if_pos rfl]
  have hy := XgR false
  rw [if_neg (by simp)] at hy
  obtain ⟨k, n, d, s, l⟩ := v
  simp only [XG, Xx] at hv hz ⊢
  refine Qld ?_; refine QKa ?_; refine Qva ?_; refine Z00 ?_; refine QIa ?_; refine Z9 (hcon := hy) ?_; refine ZR ?_; exact QNa
 | true =>
  rw [h] at hv
  rw [if_neg (by simp)]
  obtain ⟨k, n, d, s, l⟩ := v
  have c1 := X7f k
  have c2 := X7f 0
  rw [show V2 0 = 0 from rfl] at c2
  have c3 := Xfp (V2 k) 0
  simp only [Val.kind]
  have hk0 : k ≠ 0 := fun h1 => by
   obtain ⟨rfl, rfl, rfl, rfl⟩ := X7x h h1
   exact hz0 (by rw [h1])
  have hcp := XdP hk0
  have hnz : XW (V2 k) 0 ≠ 0 := by
   unfold XW
   rw [if_neg (by omega), if_pos hcp]
   omega
  generalize XW (V2 k) 0 = z at *
  generalize V2 k = c at *
  simp only [XG, Xx] at hv hz ⊢
  refine Qld ?_; refine QKa ?_; refine Qva ?_; refine Z00 ?_; refine QH ?_; refine Qvd ?_; refine Qtd ?_; refine Z9 (hcon := c1) ?_; refine QTa ?_; refine Z9 (hcon := c2) ?_; refine Z9 (hcon := c3) ?_; exact Qhd
theorem Xaw (v : Val) (hok : Y3 v) : Con Tryz.prog 172 [] [XG v] [] (ab (Yo v)) := by
 refine Xc (xs := [ab (Yo v)]) Tryz.func172 rfl Tryz.ntmps172 rfl rfl rfl (fun E => ?_)
 have ho := Xgq v hok
 rw [← XbP v]
 generalize X16 v = z at *
 obtain ⟨k, n, d, s, l⟩ := v
 simp only [XG, Xx] at ho ⊢
 refine QSa ?_; refine QWb ?_; refine Zx ?_; refine Z9 (hcon := ho) ?_; refine Qda ?_; exact Qy
theorem X8Z (v : Val) : Con Tryz.prog 156 [] [XG v] [] (ab (Yd v)) := by
 refine Xc (xs := [ab (Yd v)]) Tryz.func156 rfl Tryz.ntmps156 rfl rfl rfl (fun E => ?_)
 have hv := X5h v
 unfold Yd
 generalize X8 8 v = b at *
 obtain ⟨k, n, d, s, l⟩ := v
 simp only [XG, Val.kind] at hv ⊢
 unfold X4e
 by_cases h1 : k = 1
 ·rw [decide_eq_true (by omega), Bool.true_and]
  cases b with
  | true =>
   refine QVa ?_; refine Zl ?_; refine Qv ?_; refine Qv ?_; exact QAd
  | false =>
   refine QVa ?_; refine Zl ?_; refine Qv ?_; refine Qv ?_; exact QCd
 by_cases h2 : k = 2
 ·rw [decide_eq_true (by omega), Bool.true_and]
  cases b with
  | true =>
   refine QVa ?_; refine QJb ?_; refine Qv ?_; exact QAd
  | false =>
   refine QVa ?_; refine QJb ?_; refine Qv ?_; exact QCd
 by_cases h4 : k = 4
 ·rw [decide_eq_true (by omega), Bool.true_and]
  cases b with
  | true =>
   refine QVa ?_; refine QJb ?_; refine QIb ?_; exact QAd
  | false =>
   refine QVa ?_; refine QJb ?_; refine QIb ?_; exact QCd
 rw [decide_eq_false (by omega), Bool.false_and]
 refine QVa ?_; refine QJb ?_; refine QIb ?_; refine Qr ?_; exact Qp
theorem X9E (v : Val) (hok : Y3 v) : Con Tryz.prog 173 [] [XG v] [] (ab (Yd v)) := by
 refine Xc (xs := [ab (Yd v)]) Tryz.func173 rfl Tryz.ntmps173 rfl rfl rfl (fun E => ?_)
 have hv := X3u v hok
 unfold Yd
 generalize X8 8 v = b at *
 obtain ⟨k, n, d, s, l⟩ := v
 simp only [XG, Val.kind] at hv ⊢
 unfold X4e
 by_cases h1 : k = 1
 ·rw [decide_eq_true (by omega), Bool.true_and]
  cases b with
  | true =>
   refine QDd ?_; refine Zl ?_; refine Qv ?_; refine Qv ?_; exact Qoa
  | false =>
   exact QEd
 by_cases h2 : k = 2
 ·rw [decide_eq_true (by omega), Bool.true_and]
  cases b with
  | true =>
   refine QDd ?_; refine QJb ?_; refine Qv ?_; exact Qoa
  | false =>
   exact QEd
 by_cases h4 : k = 4
 ·rw [decide_eq_true (by omega), Bool.true_and]
  cases b with
  | true =>
   refine QDd ?_; refine QJb ?_; refine QIb ?_; exact Qoa
  | false =>
   exact QEd
 rw [decide_eq_false (by omega), Bool.false_and]
 cases b with
 | true =>
  refine QDd ?_; refine QJb ?_; refine QIb ?_; exact QBd
 | false =>
  exact QEd
end Go.Fw
