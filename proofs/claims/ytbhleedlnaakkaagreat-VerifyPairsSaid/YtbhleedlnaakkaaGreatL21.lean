/- The reference's check of a graph. -/
import Derived.Test.YtbhleedlnaakkaaGreatL16
set_option maxHeartbeats 16000000
namespace Go.Fw
open Go Go.Proofs
set_option maxRecDepth 100000
set_option linter.unusedVariables false
set_option linter.unusedSimpArgs false
abbrev X8R : Nod := ⟨0, [], []⟩
def YS : List Nod → Int → Nod × Bool
 | [], _ => (X8R, false)
 | x :: r, n => if x.id = n then (x, true) else YS r n
theorem X6p : ∀ (l : List Nod) (n : Int), (YS l n).2 = XA l n
 | [], n => rfl
 | x :: r, n => by
  unfold YS XA
  rw [List.any_cons]
  by_cases h : x.id = n
  ·simp [h]
  ·have := X6p r n
   unfold XA at this
   simp [h, this]
theorem X8M {l : List Nod} {n : Int} {i : Nat} {x : Nod} (h : l[i]? = some x) : YS (l.drop i) n = if x.id = n then (x, true) else YS (l.drop (i + 1)) n := by
 obtain ⟨hi, rfl⟩ := List.getElem?_eq_some_iff.1 h
 rw [List.drop_eq_getElem_cons hi, YS]
theorem X4x (ns : List Nod) (es : List Edg) (nn ne n : Int) (hl : ns.length ≤ 9223372036854775807) : Con Tryz.prog 33 [] [.agg [.d (.sl 3 (ns.map X8)), .d (.sl 5 (es.map Xi)), ai nn, ai ne], ai n] [] (.tup [Yi (YS ns n).1, ab (YS ns n).2]) := by
 refine X9 (xs := [Yi (YS ns n).1, ab (YS ns n).2]) Tryz.func33 rfl Tryz.ntmps33 rfl rfl rfl (fun E => ?_)
 have hlm : (ns.map X8).length = ns.length := by simp
 generalize hG : YS ns n = G
 refine X0 ?_; refine JR ?_; refine ZA (γ := 100) ?_; refine Zw (γ := 101) ?_; refine Z0 ?_; refine JD ?_; refine X0 ?_; refine X0 ?_; refine JR ?_; refine Z0 ?_; refine JD ?_; refine X4 ?_
 refine Xs (fun i : Nat => i ≤ ns.length ∧ YS (ns.drop i) n = G) (fun i => ⟨28, [(1, ai n), (2, .ptr 100 0), (4, .ptr 101 0), (6, ai i)], [(100, .box [.d (.sl 3 (ns.map X8)), .d (.sl 5 (es.map Xi)), ai nn, ai ne]), (101, .box [ai 0, ani, ani])]⟩) (fun i => ns.length - i) 0 ⟨Nat.zero_le _, by simpa using hG⟩
  (X7 rfl JM ⟨rfl, rfl, trivial⟩) ?_
 rintro i ⟨hi, hg⟩
 by_cases hil : i < ns.length
 case neg =>
  obtain rfl : i = ns.length := by omega
  have hn : ¬ ((ns.length : Nat) : Int) < (ns.map X8).length := by omega
  rw [List.drop_length, YS] at hg
  subst hg
  simp only [Yi, List.map_nil]
  refine X0 ?_; refine X0 ?_; refine JR ?_; refine Z1 ?_; refine ZB ?_; refine ZC ?_; refine Zd ?_; refine Z8 ?_; refine JD ?_; refine JF ?_; refine Xo ?_; refine X0 ?_; refine JR ?_; refine Zx ?_
  refine Zy ?_; refine Z0 ?_; refine JD ?_
  exact X1 ⟨_, VJ 101 (cs' := [ai 0, .d (.sl 1 []), .d (.sl 6 [])]) rfl JM rfl, ⟨⟨101, 0, _, rfl, rfl, .inr ⟨3, _, rfl, rfl, rfl, rfl⟩⟩, rfl, trivial⟩, X2 _⟩
 have hn : (i : Int) < (ns.map X8).length := by omega
 obtain ⟨x, hx⟩ := Xm (l := ns) hil
 have hxc : (ns.map X8)[i]? = some (X8 x) := Xr hx
 rw [X8M hx] at hg
 obtain ⟨id, labels, props⟩ := x
 simp only [X8] at hxc hg
 by_cases he : id = n
 ·rw [if_pos he] at hg
  subst hg
  simp only [Yi]
  refine X0 ?_; refine X0 ?_; refine JR ?_; refine Z1 ?_; refine ZB ?_; refine ZC ?_; refine Zd ?_; refine Z8 ?_; refine JD ?_; refine JT ?_; refine X3 ?_; refine X0 ?_; refine X4 ?_
  refine X0 ?_; refine JR ?_; refine ZB ?_; refine ZC ?_; refine Z1 ?_; refine Zj ?_; refine ZN ?_; refine Zk ?_; refine Z1 ?_; refine Zl ?_; refine JD ?_; refine JT ?_; refine X0 ?_; refine JR ?_; refine ZB ?_
  refine ZC ?_; refine Z1 ?_; refine Zj ?_; refine ZK ?_; refine Zy ?_; refine Z0 ?_; refine JD ?_
  exact X1 ⟨_, St.le_refl _, ⟨⟨101, 0, _, rfl, rfl, .inr ⟨3, _, rfl, rfl, rfl, rfl⟩⟩, rfl, trivial⟩, X2 _⟩
 ·rw [if_neg he] at hg
  refine X0 ?_; refine X0 ?_; refine JR ?_; refine Z1 ?_; refine ZB ?_; refine ZC ?_; refine Zd ?_; refine Z8 ?_; refine JD ?_; refine JT ?_; refine X3 ?_; refine X0 ?_; refine X4 ?_
  refine X0 ?_; refine JR ?_; refine ZB ?_; refine ZC ?_; refine Z1 ?_; refine Zj ?_; refine ZN ?_; refine Zk ?_; refine Z1 ?_; refine Zl ?_; refine JD ?_; refine JF ?_; refine X3 ?_; refine JR ?_; refine Z1 ?_
  refine Zb ?_; refine Z0 ?_; refine JD ?_
  exact ⟨i + 1, ⟨by omega, hg⟩, by omega, X7 rfl JM ⟨rfl, rfl, trivial⟩⟩
theorem X7N (ns : List Nod) (es : List Edg) (nn ne : Int) (hok : ∀ n ∈ ns, X1L n) (hl : ns.length ≤ 9223372036854775807) (i : Nat) (x : Nod) (hx : ns[i]? = some x) : Con Tryz.prog 81 [] [.agg [.d (.sl 3 (ns.map X8)), .d (.sl 5 (es.map Xi)), ai nn, ai ne], ai i] [] (ai (Ye nn (XN ns i) x)) := by
 refine X9 (xs := [ai (Ye nn (XN ns i) x)]) Tryz.func81 rfl Tryz.ntmps81 rfl rfl rfl (fun E => ?_)
 have hil := (List.getElem?_eq_some_iff.1 hx).1
 have hxc : (ns.map X8)[i]? = some (X8 x) := Xr hx
 have hxh := hok x (List.mem_of_getElem? hx)
 have hpc := X4h x.labels x.props hxh.1 hxh.2.2.2
 clear hxh
 by_cases h0 : i = 0
 ·subst h0
  rw [X5R]
  obtain ⟨id, labels, props⟩ := x
  simp only [X8] at hxc hpc ⊢
  by_cases q2 : id < 1
  ·rw [if_pos (show id < 1 ∨ nn ≤ id from .inl q2)]
   refine X0 ?_; refine JR ?_; refine ZA (γ := 100) ?_; refine Z0 ?_; refine JD ?_; refine X0 ?_; refine JR ?_; refine ZB ?_; refine ZC ?_; refine Z1 ?_; refine Zj ?_; refine ZK ?_; refine Zw (γ := 101) ?_
   refine Zy ?_; refine JD ?_; refine X0 ?_; refine X0 ?_; refine JR ?_; refine Z1 ?_; refine Zs ?_; refine Z1 ?_; refine Zo ?_; refine Zo ?_; refine Zo ?_; refine Zo ?_; refine Zo ?_; refine Zo ?_; refine Zo ?_
   refine Zo ?_; refine Zo ?_; refine Zo ?_; refine Zq ?_; refine JD ?_; refine JF ?_; refine X3 ?_; refine X0 ?_; refine X0 ?_; refine JR ?_; refine ZB ?_; refine ZC ?_; refine Z8 ?_; refine Z1 ?_
   refine Zo ?_; refine Zo ?_; refine Zo ?_; refine Zo ?_; refine Zo ?_; refine Zn ?_; refine JD ?_; refine JT ?_; refine X0 ?_; refine JR ?_; refine Z0 ?_; refine JD ?_
   exact X1 ⟨_, St.le_refl _, ⟨rfl, trivial⟩, X2 _⟩
  by_cases q3 : nn ≤ id
  ·rw [if_pos (show id < 1 ∨ nn ≤ id from .inr q3)]
   refine X0 ?_; refine JR ?_; refine ZA (γ := 100) ?_; refine Z0 ?_; refine JD ?_; refine X0 ?_; refine JR ?_; refine ZB ?_; refine ZC ?_; refine Z1 ?_; refine Zj ?_; refine ZK ?_; refine Zw (γ := 101) ?_
   refine Zy ?_; refine JD ?_; refine X0 ?_; refine X0 ?_; refine JR ?_; refine Z1 ?_; refine Zs ?_; refine Z1 ?_; refine Zo ?_; refine Zo ?_; refine Zo ?_; refine Zo ?_; refine Zo ?_; refine Zo ?_; refine Zo ?_
   refine Zo ?_; refine Zo ?_; refine Zo ?_; refine Zq ?_; refine JD ?_; refine JF ?_; refine X3 ?_; refine X0 ?_; refine X0 ?_; refine JR ?_; refine ZB ?_; refine ZC ?_; refine Z8 ?_; refine Z1 ?_
   refine ZB ?_; refine ZC ?_; refine ZB ?_; refine ZC ?_; refine Z2 ?_; refine Zq ?_; refine JD ?_; refine JT ?_; refine X0 ?_; refine JR ?_; refine Z0 ?_; refine JD ?_
   exact X1 ⟨_, St.le_refl _, ⟨rfl, trivial⟩, X2 _⟩
  rw [if_neg (show ¬ (id < 1 ∨ nn ≤ id) from fun h => h.elim q2 q3)]
  generalize Ya labels props = e at *
  refine X0 ?_; refine JR ?_; refine ZA (γ := 100) ?_; refine Z0 ?_; refine JD ?_; refine X0 ?_; refine JR ?_; refine ZB ?_; refine ZC ?_; refine Z1 ?_; refine Zj ?_; refine ZK ?_; refine Zw (γ := 101) ?_
  refine Zy ?_; refine JD ?_; refine X0 ?_; refine X0 ?_; refine JR ?_; refine Z1 ?_; refine Zs ?_; refine Z1 ?_; refine Zo ?_; refine Zo ?_; refine Zo ?_; refine Zo ?_; refine Zo ?_; refine Zo ?_; refine Zo ?_
  refine Zo ?_; refine Zo ?_; refine Zo ?_; refine Zq ?_; refine JD ?_; refine JF ?_; refine X3 ?_; refine X0 ?_; refine X0 ?_; refine JR ?_; refine ZB ?_; refine ZC ?_; refine Z8 ?_; refine Z1 ?_
  refine ZB ?_; refine ZC ?_; refine ZB ?_; refine ZC ?_; refine Z2 ?_; refine Zq ?_; refine JD ?_; refine JF ?_; refine X3 ?_; refine X0 ?_; refine JR ?_; refine ZB ?_; refine ZC ?_; refine ZB ?_; refine ZC ?_
  refine Z9 (hcon := hpc) ?_; refine Z0 ?_; refine JD ?_
  exact X1 ⟨_, St.le_refl _, ⟨rfl, trivial⟩, X2 _⟩
 ·obtain ⟨j, rfl⟩ : ∃ j, i = j + 1 := ⟨i - 1, by omega⟩
  obtain ⟨p, hp⟩ := Xm (l := ns) (k := j) (by omega)
  have hpp : (ns.map X8)[j]? = some (X8 p) := Xr hp
  rw [X66 hp]
  clear hp hx
  obtain ⟨id, labels, props⟩ := x
  obtain ⟨pid, plabels, pprops⟩ := p
  simp only [X8] at hxc hpc hpp ⊢
  by_cases q1 : id ≤ pid
  ·rw [if_pos q1]
   refine X0 ?_; refine JR ?_; refine ZA (γ := 100) ?_; refine Z0 ?_; refine JD ?_; refine X0 ?_; refine JR ?_; refine ZB ?_; refine ZC ?_; refine Z1 ?_; refine Zj ?_; refine ZK ?_; refine Zw (γ := 101) ?_
   refine Zy ?_; refine JD ?_; refine X0 ?_; refine X0 ?_; refine JR ?_; refine Z1 ?_; refine Zs ?_; refine Z1 ?_; refine ZB ?_; refine ZC ?_; refine ZB ?_; refine ZC ?_; refine Z1 ?_
   refine Z4 (op := .sub) (r' := .int .i64 ((j : Nat) : Int)) (u := .int .i64 ((j + 1 : Nat) : Int)) (v := .int .i64 1) ?_ (hr' := by exact congrArg (Value.int .i64) (show (((j + 1 : Nat) : Int) - 1) = (j : Int) by omega)) (hr := by exact XH (by unfold Xy; omega))
   refine Zj ?_; refine ZN ?_; refine Zk ?_; refine Zm ?_; refine Zn ?_; refine JD ?_; refine JT ?_; refine X0 ?_; refine JR ?_; refine Z0 ?_; refine JD ?_
   exact X1 ⟨_, St.le_refl _, ⟨rfl, trivial⟩, X2 _⟩
  rw [if_neg q1]
  by_cases q2 : id < 1
  ·rw [if_pos (show id < 1 ∨ nn ≤ id from .inl q2)]
   refine X0 ?_; refine JR ?_; refine ZA (γ := 100) ?_; refine Z0 ?_; refine JD ?_; refine X0 ?_; refine JR ?_; refine ZB ?_; refine ZC ?_; refine Z1 ?_; refine Zj ?_; refine ZK ?_; refine Zw (γ := 101) ?_
   refine Zy ?_; refine JD ?_; refine X0 ?_; refine X0 ?_; refine JR ?_; refine Z1 ?_; refine Zs ?_; refine Z1 ?_; refine ZB ?_; refine ZC ?_; refine ZB ?_; refine ZC ?_; refine Z1 ?_
   refine Z4 (op := .sub) (r' := .int .i64 ((j : Nat) : Int)) (u := .int .i64 ((j + 1 : Nat) : Int)) (v := .int .i64 1) ?_ (hr' := by exact congrArg (Value.int .i64) (show (((j + 1 : Nat) : Int) - 1) = (j : Int) by omega)) (hr := by exact XH (by unfold Xy; omega))
   refine Zj ?_; refine ZN ?_; refine Zk ?_; refine Zm ?_; refine Zn ?_; refine JD ?_; refine JF ?_; refine X3 ?_; refine X0 ?_; refine X0 ?_; refine JR ?_; refine ZB ?_; refine ZC ?_; refine Z8 ?_
   refine Z1 ?_; refine Zo ?_; refine Zo ?_; refine Zo ?_; refine Zo ?_; refine Zo ?_; refine Zn ?_; refine JD ?_; refine JT ?_; refine X0 ?_; refine JR ?_; refine Z0 ?_; refine JD ?_
   exact X1 ⟨_, St.le_refl _, ⟨rfl, trivial⟩, X2 _⟩
  by_cases q3 : nn ≤ id
  ·rw [if_pos (show id < 1 ∨ nn ≤ id from .inr q3)]
   refine X0 ?_; refine JR ?_; refine ZA (γ := 100) ?_; refine Z0 ?_; refine JD ?_; refine X0 ?_; refine JR ?_; refine ZB ?_; refine ZC ?_; refine Z1 ?_; refine Zj ?_; refine ZK ?_; refine Zw (γ := 101) ?_
   refine Zy ?_; refine JD ?_; refine X0 ?_; refine X0 ?_; refine JR ?_; refine Z1 ?_; refine Zs ?_; refine Z1 ?_; refine ZB ?_; refine ZC ?_; refine ZB ?_; refine ZC ?_; refine Z1 ?_
   refine Z4 (op := .sub) (r' := .int .i64 ((j : Nat) : Int)) (u := .int .i64 ((j + 1 : Nat) : Int)) (v := .int .i64 1) ?_ (hr' := by exact congrArg (Value.int .i64) (show (((j + 1 : Nat) : Int) - 1) = (j : Int) by omega)) (hr := by exact XH (by unfold Xy; omega))
   refine Zj ?_; refine ZN ?_; refine Zk ?_; refine Zm ?_; refine Zn ?_; refine JD ?_; refine JF ?_; refine X3 ?_; refine X0 ?_; refine X0 ?_; refine JR ?_; refine ZB ?_; refine ZC ?_; refine Z8 ?_
   refine Z1 ?_; refine ZB ?_; refine ZC ?_; refine ZB ?_; refine ZC ?_; refine Z2 ?_; refine Zq ?_; refine JD ?_; refine JT ?_; refine X0 ?_; refine JR ?_; refine Z0 ?_; refine JD ?_
   exact X1 ⟨_, St.le_refl _, ⟨rfl, trivial⟩, X2 _⟩
  rw [if_neg (show ¬ (id < 1 ∨ nn ≤ id) from fun h => h.elim q2 q3)]
  generalize Ya labels props = e at *
  refine X0 ?_; refine JR ?_; refine ZA (γ := 100) ?_; refine Z0 ?_; refine JD ?_; refine X0 ?_; refine JR ?_; refine ZB ?_; refine ZC ?_; refine Z1 ?_; refine Zj ?_; refine ZK ?_; refine Zw (γ := 101) ?_
  refine Zy ?_; refine JD ?_; refine X0 ?_; refine X0 ?_; refine JR ?_; refine Z1 ?_; refine Zs ?_; refine Z1 ?_; refine ZB ?_; refine ZC ?_; refine ZB ?_; refine ZC ?_; refine Z1 ?_
  refine Z4 (op := .sub) (r' := .int .i64 ((j : Nat) : Int)) (u := .int .i64 ((j + 1 : Nat) : Int)) (v := .int .i64 1) ?_ (hr' := by exact congrArg (Value.int .i64) (show (((j + 1 : Nat) : Int) - 1) = (j : Int) by omega)) (hr := by exact XH (by unfold Xy; omega))
  refine Zj ?_; refine ZN ?_; refine Zk ?_; refine Zm ?_; refine Zn ?_; refine JD ?_; refine JF ?_; refine X3 ?_; refine X0 ?_; refine X0 ?_; refine JR ?_; refine ZB ?_; refine ZC ?_; refine Z8 ?_
  refine Z1 ?_; refine ZB ?_; refine ZC ?_; refine ZB ?_; refine ZC ?_; refine Z2 ?_; refine Zq ?_; refine JD ?_; refine JF ?_; refine X3 ?_; refine X0 ?_; refine JR ?_; refine ZB ?_; refine ZC ?_; refine ZB ?_
  refine ZC ?_; refine Z9 (hcon := hpc) ?_; refine Z0 ?_; refine JD ?_
  exact X1 ⟨_, St.le_refl _, ⟨rfl, trivial⟩, X2 _⟩
theorem X9I (ns : List Nod) (es : List Edg) (nn ne : Int) (hok : ∀ e ∈ es, X2e e) (hnl : ns.length ≤ 9223372036854775807) (hl : es.length ≤ 9223372036854775807) (i : Nat) (x : Edg) (hx : es[i]? = some x) : Con Tryz.prog 82 [] [.agg [.d (.sl 3 (ns.map X8)), .d (.sl 5 (es.map Xi)), ai nn, ai ne], ai i] [] (ai (YI ns ne (XN es i) x)) := by
 refine X9 (xs := [ai (YI ns ne (XN es i) x)]) Tryz.func82 rfl Tryz.ntmps82 rfl rfl rfl (fun E => ?_)
 have hil := (List.getElem?_eq_some_iff.1 hx).1
 have hxc : (es.map Xi)[i]? = some (Xi x) := Xr hx
 have hxh := hok x (List.mem_of_getElem? hx)
 have hpc := X4h [] x.props (by simp) hxh.2.2
 have hs1 := X4x ns es nn ne x.src hnl
 have hs2 := X4x ns es nn ne x.dst hnl
 rw [X6p] at hs1 hs2
 have hnm := X2t x.typ
 clear hxh
 by_cases h0 : i = 0
 ·subst h0
  rw [X5Y]
  obtain ⟨id, src, dst, typ, props⟩ := x
  simp only [Xi, Yi] at hxc hpc hs1 hs2 hnm ⊢
  simp only [List.map_nil] at hpc
  generalize XA ns src = b1 at *
  generalize XA ns dst = b2 at *
  generalize (YS ns src).1 = m1 at *
  generalize (YS ns dst).1 = m2 at *
  generalize Xj typ = b3 at *
  generalize Ya [] props = e at *
  by_cases q2 : id < 1
  ·rw [if_pos (show id < 1 ∨ ne ≤ id from .inl q2)]
   refine X0 ?_; refine JR ?_; refine ZA (γ := 100) ?_; refine Z0 ?_; refine JD ?_; refine X0 ?_; refine JR ?_; refine ZB ?_; refine ZC ?_; refine Z1 ?_; refine Zj ?_; refine ZK ?_; refine Zw (γ := 101) ?_
   refine Zy ?_; refine JD ?_; refine X0 ?_; refine X0 ?_; refine JR ?_; refine Z1 ?_; refine Zs ?_; refine Z1 ?_; refine Zo ?_; refine Zo ?_; refine Zo ?_; refine Zo ?_; refine Zo ?_; refine Zo ?_; refine Zo ?_
   refine Zo ?_; refine Zo ?_; refine Zo ?_; refine Zq ?_; refine JD ?_; refine JF ?_; refine X3 ?_; refine X0 ?_; refine X0 ?_; refine JR ?_; refine ZB ?_; refine ZC ?_; refine Z8 ?_; refine Z1 ?_
   refine Zo ?_; refine Zo ?_; refine Zo ?_; refine Zo ?_; refine Zo ?_; refine Zn ?_; refine JD ?_; refine JT ?_; refine X0 ?_; refine JR ?_; refine Z0 ?_; refine JD ?_
   exact X1 ⟨_, St.le_refl _, ⟨rfl, trivial⟩, X2 _⟩
  by_cases q3 : ne ≤ id
  ·rw [if_pos (show id < 1 ∨ ne ≤ id from .inr q3)]
   refine X0 ?_; refine JR ?_; refine ZA (γ := 100) ?_; refine Z0 ?_; refine JD ?_; refine X0 ?_; refine JR ?_; refine ZB ?_; refine ZC ?_; refine Z1 ?_; refine Zj ?_; refine ZK ?_; refine Zw (γ := 101) ?_
   refine Zy ?_; refine JD ?_; refine X0 ?_; refine X0 ?_; refine JR ?_; refine Z1 ?_; refine Zs ?_; refine Z1 ?_; refine Zo ?_; refine Zo ?_; refine Zo ?_; refine Zo ?_; refine Zo ?_; refine Zo ?_; refine Zo ?_
   refine Zo ?_; refine Zo ?_; refine Zo ?_; refine Zq ?_; refine JD ?_; refine JF ?_; refine X3 ?_; refine X0 ?_; refine X0 ?_; refine JR ?_; refine ZB ?_; refine ZC ?_; refine Z8 ?_; refine Z1 ?_
   refine ZB ?_; refine ZC ?_; refine ZB ?_; refine ZC ?_; refine Z2 ?_; refine Zq ?_; refine JD ?_; refine JT ?_; refine X0 ?_; refine JR ?_; refine Z0 ?_; refine JD ?_
   exact X1 ⟨_, St.le_refl _, ⟨rfl, trivial⟩, X2 _⟩
  rw [if_neg (show ¬ (id < 1 ∨ ne ≤ id) from fun h => h.elim q2 q3)]
  cases b1 with
  | false =>
   rw [if_pos (show false = false ∨ b2 = false from .inl rfl)]
   refine X0 ?_; refine JR ?_; refine ZA (γ := 100) ?_; refine Z0 ?_; refine JD ?_; refine X0 ?_; refine JR ?_; refine ZB ?_; refine ZC ?_; refine Z1 ?_; refine Zj ?_; refine ZK ?_; refine Zw (γ := 101) ?_
   refine Zy ?_; refine JD ?_; refine X0 ?_; refine X0 ?_; refine JR ?_; refine Z1 ?_; refine Zs ?_; refine Z1 ?_; refine Zo ?_; refine Zo ?_; refine Zo ?_; refine Zo ?_; refine Zo ?_; refine Zo ?_; refine Zo ?_
   refine Zo ?_; refine Zo ?_; refine Zo ?_; refine Zq ?_; refine JD ?_; refine JF ?_; refine X3 ?_; refine X0 ?_; refine X0 ?_; refine JR ?_; refine ZB ?_; refine ZC ?_; refine Z8 ?_; refine Z1 ?_
   refine ZB ?_; refine ZC ?_; refine ZB ?_; refine ZC ?_; refine Z2 ?_; refine Zq ?_; refine JD ?_; refine JF ?_; refine X3 ?_; refine X0 ?_; refine JR ?_; refine ZL ?_; refine ZB ?_; refine ZC ?_
   refine Z9 (hcon := hs1) ?_; refine Z1 ?_; refine ZF ?_; refine ZF ?_; refine Zw (γ := 102) ?_; refine Zy ?_; refine Z0 ?_; refine JD ?_; refine X0 ?_; refine JR ?_; refine ZL ?_; refine ZB ?_; refine ZC ?_
   refine Z9 (hcon := hs2) ?_; refine Z1 ?_; refine ZF ?_; refine ZF ?_; refine Zw (γ := 103) ?_; refine Zy ?_; refine Z0 ?_; refine JD ?_; refine X0 ?_; refine X0 ?_; refine JR ?_; refine Z1 ?_; refine Zu ?_
   refine Z1 ?_; refine Zo ?_; refine Zo ?_; refine Zn ?_; refine JD ?_; refine JT ?_; refine X0 ?_; refine JR ?_; refine Z0 ?_; refine JD ?_
   exact X1 ⟨_, St.le_refl _, ⟨rfl, trivial⟩, X2 _⟩
  | true =>
   cases b2 with
   | false =>
    rw [if_pos (show true = false ∨ false = false from .inr rfl)]
    refine X0 ?_; refine JR ?_; refine ZA (γ := 100) ?_; refine Z0 ?_; refine JD ?_; refine X0 ?_; refine JR ?_; refine ZB ?_; refine ZC ?_; refine Z1 ?_; refine Zj ?_; refine ZK ?_; refine Zw (γ := 101) ?_
    refine Zy ?_; refine JD ?_; refine X0 ?_; refine X0 ?_; refine JR ?_; refine Z1 ?_; refine Zs ?_; refine Z1 ?_; refine Zo ?_; refine Zo ?_; refine Zo ?_; refine Zo ?_; refine Zo ?_; refine Zo ?_; refine Zo ?_
    refine Zo ?_; refine Zo ?_; refine Zo ?_; refine Zq ?_; refine JD ?_; refine JF ?_; refine X3 ?_; refine X0 ?_; refine X0 ?_; refine JR ?_; refine ZB ?_; refine ZC ?_; refine Z8 ?_; refine Z1 ?_
    refine ZB ?_; refine ZC ?_; refine ZB ?_; refine ZC ?_; refine Z2 ?_; refine Zq ?_; refine JD ?_; refine JF ?_; refine X3 ?_; refine X0 ?_; refine JR ?_; refine ZL ?_; refine ZB ?_; refine ZC ?_
    refine Z9 (hcon := hs1) ?_; refine Z1 ?_; refine ZF ?_; refine ZF ?_; refine Zw (γ := 102) ?_; refine Zy ?_; refine Z0 ?_; refine JD ?_; refine X0 ?_; refine JR ?_; refine ZL ?_; refine ZB ?_; refine ZC ?_
    refine Z9 (hcon := hs2) ?_; refine Z1 ?_; refine ZF ?_; refine ZF ?_; refine Zw (γ := 103) ?_; refine Zy ?_; refine Z0 ?_; refine JD ?_; refine X0 ?_; refine X0 ?_; refine JR ?_; refine Z1 ?_; refine Zu ?_
    refine Z1 ?_; refine Z1 ?_; refine Zu ?_; refine Zq ?_; refine JD ?_; refine JT ?_; refine X0 ?_; refine JR ?_; refine Z0 ?_; refine JD ?_
    exact X1 ⟨_, St.le_refl _, ⟨rfl, trivial⟩, X2 _⟩
   | true =>
    rw [if_neg (show ¬ (true = false ∨ true = false) by simp)]
    cases b3 with
    | false =>
     rw [if_pos (show false = false from rfl)]
     refine X0 ?_; refine JR ?_; refine ZA (γ := 100) ?_; refine Z0 ?_; refine JD ?_; refine X0 ?_; refine JR ?_; refine ZB ?_; refine ZC ?_; refine Z1 ?_; refine Zj ?_; refine ZK ?_; refine Zw (γ := 101) ?_
     refine Zy ?_; refine JD ?_; refine X0 ?_; refine X0 ?_; refine JR ?_; refine Z1 ?_; refine Zs ?_; refine Z1 ?_; refine Zo ?_; refine Zo ?_; refine Zo ?_; refine Zo ?_; refine Zo ?_; refine Zo ?_; refine Zo ?_
     refine Zo ?_; refine Zo ?_; refine Zo ?_; refine Zq ?_; refine JD ?_; refine JF ?_; refine X3 ?_; refine X0 ?_; refine X0 ?_; refine JR ?_; refine ZB ?_; refine ZC ?_; refine Z8 ?_; refine Z1 ?_
     refine ZB ?_; refine ZC ?_; refine ZB ?_; refine ZC ?_; refine Z2 ?_; refine Zq ?_; refine JD ?_; refine JF ?_; refine X3 ?_; refine X0 ?_; refine JR ?_; refine ZL ?_; refine ZB ?_; refine ZC ?_
     refine Z9 (hcon := hs1) ?_; refine Z1 ?_; refine ZF ?_; refine ZF ?_; refine Zw (γ := 102) ?_; refine Zy ?_; refine Z0 ?_; refine JD ?_; refine X0 ?_; refine JR ?_; refine ZL ?_; refine ZB ?_; refine ZC ?_
     refine Z9 (hcon := hs2) ?_; refine Z1 ?_; refine ZF ?_; refine ZF ?_; refine Zw (γ := 103) ?_; refine Zy ?_; refine Z0 ?_; refine JD ?_; refine X0 ?_; refine X0 ?_; refine JR ?_; refine Z1 ?_; refine Zu ?_
     refine Z1 ?_; refine Z1 ?_; refine Zu ?_; refine Zq ?_; refine JD ?_; refine JF ?_; refine X3 ?_; refine X0 ?_; refine X0 ?_; refine JR ?_; refine ZB ?_; refine ZC ?_; refine Z9 (hcon := hnm) ?_
     refine Zu ?_; refine JD ?_; refine JT ?_; refine X0 ?_; refine JR ?_; refine Z0 ?_; refine JD ?_
     exact X1 ⟨_, St.le_refl _, ⟨rfl, trivial⟩, X2 _⟩
    | true =>
     rw [if_neg (show ¬ true = false by simp)]
     refine X0 ?_; refine JR ?_; refine ZA (γ := 100) ?_; refine Z0 ?_; refine JD ?_; refine X0 ?_; refine JR ?_; refine ZB ?_; refine ZC ?_; refine Z1 ?_; refine Zj ?_; refine ZK ?_; refine Zw (γ := 101) ?_
     refine Zy ?_; refine JD ?_; refine X0 ?_; refine X0 ?_; refine JR ?_; refine Z1 ?_; refine Zs ?_; refine Z1 ?_; refine Zo ?_; refine Zo ?_; refine Zo ?_; refine Zo ?_; refine Zo ?_; refine Zo ?_; refine Zo ?_
     refine Zo ?_; refine Zo ?_; refine Zo ?_; refine Zq ?_; refine JD ?_; refine JF ?_; refine X3 ?_; refine X0 ?_; refine X0 ?_; refine JR ?_; refine ZB ?_; refine ZC ?_; refine Z8 ?_; refine Z1 ?_
     refine ZB ?_; refine ZC ?_; refine ZB ?_; refine ZC ?_; refine Z2 ?_; refine Zq ?_; refine JD ?_; refine JF ?_; refine X3 ?_; refine X0 ?_; refine JR ?_; refine ZL ?_; refine ZB ?_; refine ZC ?_
     refine Z9 (hcon := hs1) ?_; refine Z1 ?_; refine ZF ?_; refine ZF ?_; refine Zw (γ := 102) ?_; refine Zy ?_; refine Z0 ?_; refine JD ?_; refine X0 ?_; refine JR ?_; refine ZL ?_; refine ZB ?_; refine ZC ?_
     refine Z9 (hcon := hs2) ?_; refine Z1 ?_; refine ZF ?_; refine ZF ?_; refine Zw (γ := 103) ?_; refine Zy ?_; refine Z0 ?_; refine JD ?_; refine X0 ?_; refine X0 ?_; refine JR ?_; refine Z1 ?_; refine Zu ?_
     refine Z1 ?_; refine Z1 ?_; refine Zu ?_; refine Zq ?_; refine JD ?_; refine JF ?_; refine X3 ?_; refine X0 ?_; refine X0 ?_; refine JR ?_; refine ZB ?_; refine ZC ?_; refine Z9 (hcon := hnm) ?_
     refine Zu ?_; refine JD ?_; refine JF ?_; refine X3 ?_; refine X0 ?_; refine JR ?_; refine ZB ?_; refine ZC ?_; refine Z9 (hcon := hpc) ?_; refine Z0 ?_; refine JD ?_
     exact X1 ⟨_, St.le_refl _, ⟨rfl, trivial⟩, X2 _⟩
 ·obtain ⟨j, rfl⟩ : ∃ j, i = j + 1 := ⟨i - 1, by omega⟩
  obtain ⟨p, hp⟩ := Xm (l := es) (k := j) (by omega)
  have hpp : (es.map Xi)[j]? = some (Xi p) := Xr hp
  rw [X3O hp]
  clear hp hx
  obtain ⟨id, src, dst, typ, props⟩ := x
  obtain ⟨pid, psrc, pdst, ptyp, pprops⟩ := p
  simp only [Xi, Yi] at hxc hpc hpp hs1 hs2 hnm ⊢
  simp only [List.map_nil] at hpc
  generalize XA ns src = b1 at *
  generalize XA ns dst = b2 at *
  generalize (YS ns src).1 = m1 at *
  generalize (YS ns dst).1 = m2 at *
  generalize Xj typ = b3 at *
  generalize Ya [] props = e at *
  by_cases q1 : id ≤ pid
  ·rw [if_pos q1]
   refine X0 ?_; refine JR ?_; refine ZA (γ := 100) ?_; refine Z0 ?_; refine JD ?_; refine X0 ?_; refine JR ?_; refine ZB ?_; refine ZC ?_; refine Z1 ?_; refine Zj ?_; refine ZK ?_; refine Zw (γ := 101) ?_
   refine Zy ?_; refine JD ?_; refine X0 ?_; refine X0 ?_; refine JR ?_; refine Z1 ?_; refine Zs ?_; refine Z1 ?_; refine ZB ?_; refine ZC ?_; refine ZB ?_; refine ZC ?_; refine Z1 ?_
   refine Z4 (op := .sub) (r' := .int .i64 ((j : Nat) : Int)) (u := .int .i64 ((j + 1 : Nat) : Int)) (v := .int .i64 1) ?_ (hr' := by exact congrArg (Value.int .i64) (show (((j + 1 : Nat) : Int) - 1) = (j : Int) by omega)) (hr := by exact XH (by unfold Xy; omega))
   refine Zj ?_; refine ZN ?_; refine Zk ?_; refine Zm ?_; refine Zn ?_; refine JD ?_; refine JT ?_; refine X0 ?_; refine JR ?_; refine Z0 ?_; refine JD ?_
   exact X1 ⟨_, St.le_refl _, ⟨rfl, trivial⟩, X2 _⟩
  rw [if_neg q1]
  by_cases q2 : id < 1
  ·rw [if_pos (show id < 1 ∨ ne ≤ id from .inl q2)]
   refine X0 ?_; refine JR ?_; refine ZA (γ := 100) ?_; refine Z0 ?_; refine JD ?_; refine X0 ?_; refine JR ?_; refine ZB ?_; refine ZC ?_; refine Z1 ?_; refine Zj ?_; refine ZK ?_; refine Zw (γ := 101) ?_
   refine Zy ?_; refine JD ?_; refine X0 ?_; refine X0 ?_; refine JR ?_; refine Z1 ?_; refine Zs ?_; refine Z1 ?_; refine ZB ?_; refine ZC ?_; refine ZB ?_; refine ZC ?_; refine Z1 ?_
   refine Z4 (op := .sub) (r' := .int .i64 ((j : Nat) : Int)) (u := .int .i64 ((j + 1 : Nat) : Int)) (v := .int .i64 1) ?_ (hr' := by exact congrArg (Value.int .i64) (show (((j + 1 : Nat) : Int) - 1) = (j : Int) by omega)) (hr := by exact XH (by unfold Xy; omega))
   refine Zj ?_; refine ZN ?_; refine Zk ?_; refine Zm ?_; refine Zn ?_; refine JD ?_; refine JF ?_; refine X3 ?_; refine X0 ?_; refine X0 ?_; refine JR ?_; refine ZB ?_; refine ZC ?_; refine Z8 ?_
   refine Z1 ?_; refine Zo ?_; refine Zo ?_; refine Zo ?_; refine Zo ?_; refine Zo ?_; refine Zn ?_; refine JD ?_; refine JT ?_; refine X0 ?_; refine JR ?_; refine Z0 ?_; refine JD ?_
   exact X1 ⟨_, St.le_refl _, ⟨rfl, trivial⟩, X2 _⟩
  by_cases q3 : ne ≤ id
  ·rw [if_pos (show id < 1 ∨ ne ≤ id from .inr q3)]
   refine X0 ?_; refine JR ?_; refine ZA (γ := 100) ?_; refine Z0 ?_; refine JD ?_; refine X0 ?_; refine JR ?_; refine ZB ?_; refine ZC ?_; refine Z1 ?_; refine Zj ?_; refine ZK ?_; refine Zw (γ := 101) ?_
   refine Zy ?_; refine JD ?_; refine X0 ?_; refine X0 ?_; refine JR ?_; refine Z1 ?_; refine Zs ?_; refine Z1 ?_; refine ZB ?_; refine ZC ?_; refine ZB ?_; refine ZC ?_; refine Z1 ?_
   refine Z4 (op := .sub) (r' := .int .i64 ((j : Nat) : Int)) (u := .int .i64 ((j + 1 : Nat) : Int)) (v := .int .i64 1) ?_ (hr' := by exact congrArg (Value.int .i64) (show (((j + 1 : Nat) : Int) - 1) = (j : Int) by omega)) (hr := by exact XH (by unfold Xy; omega))
   refine Zj ?_; refine ZN ?_; refine Zk ?_; refine Zm ?_; refine Zn ?_; refine JD ?_; refine JF ?_; refine X3 ?_; refine X0 ?_; refine X0 ?_; refine JR ?_; refine ZB ?_; refine ZC ?_; refine Z8 ?_
   refine Z1 ?_; refine ZB ?_; refine ZC ?_; refine ZB ?_; refine ZC ?_; refine Z2 ?_; refine Zq ?_; refine JD ?_; refine JT ?_; refine X0 ?_; refine JR ?_; refine Z0 ?_; refine JD ?_
   exact X1 ⟨_, St.le_refl _, ⟨rfl, trivial⟩, X2 _⟩
  rw [if_neg (show ¬ (id < 1 ∨ ne ≤ id) from fun h => h.elim q2 q3)]
  cases b1 with
  | false =>
   rw [if_pos (show false = false ∨ b2 = false from .inl rfl)]
   refine X0 ?_; refine JR ?_; refine ZA (γ := 100) ?_; refine Z0 ?_; refine JD ?_; refine X0 ?_; refine JR ?_; refine ZB ?_; refine ZC ?_; refine Z1 ?_; refine Zj ?_; refine ZK ?_; refine Zw (γ := 101) ?_
   refine Zy ?_; refine JD ?_; refine X0 ?_; refine X0 ?_; refine JR ?_; refine Z1 ?_; refine Zs ?_; refine Z1 ?_; refine ZB ?_; refine ZC ?_; refine ZB ?_; refine ZC ?_; refine Z1 ?_
   refine Z4 (op := .sub) (r' := .int .i64 ((j : Nat) : Int)) (u := .int .i64 ((j + 1 : Nat) : Int)) (v := .int .i64 1) ?_ (hr' := by exact congrArg (Value.int .i64) (show (((j + 1 : Nat) : Int) - 1) = (j : Int) by omega)) (hr := by exact XH (by unfold Xy; omega))
   refine Zj ?_; refine ZN ?_; refine Zk ?_; refine Zm ?_; refine Zn ?_; refine JD ?_; refine JF ?_; refine X3 ?_; refine X0 ?_; refine X0 ?_; refine JR ?_; refine ZB ?_; refine ZC ?_; refine Z8 ?_
   refine Z1 ?_; refine ZB ?_; refine ZC ?_; refine ZB ?_; refine ZC ?_; refine Z2 ?_; refine Zq ?_; refine JD ?_; refine JF ?_; refine X3 ?_; refine X0 ?_; refine JR ?_; refine ZL ?_; refine ZB ?_; refine ZC ?_
   refine Z9 (hcon := hs1) ?_; refine Z1 ?_; refine ZF ?_; refine ZF ?_; refine Zw (γ := 102) ?_; refine Zy ?_; refine Z0 ?_; refine JD ?_; refine X0 ?_; refine JR ?_; refine ZL ?_; refine ZB ?_; refine ZC ?_
   refine Z9 (hcon := hs2) ?_; refine Z1 ?_; refine ZF ?_; refine ZF ?_; refine Zw (γ := 103) ?_; refine Zy ?_; refine Z0 ?_; refine JD ?_; refine X0 ?_; refine X0 ?_; refine JR ?_; refine Z1 ?_; refine Zu ?_
   refine Z1 ?_; refine Zo ?_; refine Zo ?_; refine Zn ?_; refine JD ?_; refine JT ?_; refine X0 ?_; refine JR ?_; refine Z0 ?_; refine JD ?_
   exact X1 ⟨_, St.le_refl _, ⟨rfl, trivial⟩, X2 _⟩
  | true =>
   cases b2 with
   | false =>
    rw [if_pos (show true = false ∨ false = false from .inr rfl)]
    refine X0 ?_; refine JR ?_; refine ZA (γ := 100) ?_; refine Z0 ?_; refine JD ?_; refine X0 ?_; refine JR ?_; refine ZB ?_; refine ZC ?_; refine Z1 ?_; refine Zj ?_; refine ZK ?_; refine Zw (γ := 101) ?_
    refine Zy ?_; refine JD ?_; refine X0 ?_; refine X0 ?_; refine JR ?_; refine Z1 ?_; refine Zs ?_; refine Z1 ?_; refine ZB ?_; refine ZC ?_; refine ZB ?_; refine ZC ?_; refine Z1 ?_
    refine Z4 (op := .sub) (r' := .int .i64 ((j : Nat) : Int)) (u := .int .i64 ((j + 1 : Nat) : Int)) (v := .int .i64 1) ?_ (hr' := by exact congrArg (Value.int .i64) (show (((j + 1 : Nat) : Int) - 1) = (j : Int) by omega)) (hr := by exact XH (by unfold Xy; omega))
    refine Zj ?_; refine ZN ?_; refine Zk ?_; refine Zm ?_; refine Zn ?_; refine JD ?_; refine JF ?_; refine X3 ?_; refine X0 ?_; refine X0 ?_; refine JR ?_; refine ZB ?_; refine ZC ?_; refine Z8 ?_
    refine Z1 ?_; refine ZB ?_; refine ZC ?_; refine ZB ?_; refine ZC ?_; refine Z2 ?_; refine Zq ?_; refine JD ?_; refine JF ?_; refine X3 ?_; refine X0 ?_; refine JR ?_; refine ZL ?_; refine ZB ?_; refine ZC ?_
    refine Z9 (hcon := hs1) ?_; refine Z1 ?_; refine ZF ?_; refine ZF ?_; refine Zw (γ := 102) ?_; refine Zy ?_; refine Z0 ?_; refine JD ?_; refine X0 ?_; refine JR ?_; refine ZL ?_; refine ZB ?_; refine ZC ?_
    refine Z9 (hcon := hs2) ?_; refine Z1 ?_; refine ZF ?_; refine ZF ?_; refine Zw (γ := 103) ?_; refine Zy ?_; refine Z0 ?_; refine JD ?_; refine X0 ?_; refine X0 ?_; refine JR ?_; refine Z1 ?_; refine Zu ?_
    refine Z1 ?_; refine Z1 ?_; refine Zu ?_; refine Zq ?_; refine JD ?_; refine JT ?_; refine X0 ?_; refine JR ?_; refine Z0 ?_; refine JD ?_
    exact X1 ⟨_, St.le_refl _, ⟨rfl, trivial⟩, X2 _⟩
   | true =>
    rw [if_neg (show ¬ (true = false ∨ true = false) by simp)]
    cases b3 with
    | false =>
     rw [if_pos (show false = false from rfl)]
     refine X0 ?_; refine JR ?_; refine ZA (γ := 100) ?_; refine Z0 ?_; refine JD ?_; refine X0 ?_; refine JR ?_; refine ZB ?_; refine ZC ?_; refine Z1 ?_; refine Zj ?_; refine ZK ?_; refine Zw (γ := 101) ?_
     refine Zy ?_; refine JD ?_; refine X0 ?_; refine X0 ?_; refine JR ?_; refine Z1 ?_; refine Zs ?_; refine Z1 ?_; refine ZB ?_; refine ZC ?_; refine ZB ?_; refine ZC ?_; refine Z1 ?_
     refine Z4 (op := .sub) (r' := .int .i64 ((j : Nat) : Int)) (u := .int .i64 ((j + 1 : Nat) : Int)) (v := .int .i64 1) ?_ (hr' := by exact congrArg (Value.int .i64) (show (((j + 1 : Nat) : Int) - 1) = (j : Int) by omega)) (hr := by exact XH (by unfold Xy; omega))
     refine Zj ?_; refine ZN ?_; refine Zk ?_; refine Zm ?_; refine Zn ?_; refine JD ?_; refine JF ?_; refine X3 ?_; refine X0 ?_; refine X0 ?_; refine JR ?_; refine ZB ?_; refine ZC ?_; refine Z8 ?_
     refine Z1 ?_; refine ZB ?_; refine ZC ?_; refine ZB ?_; refine ZC ?_; refine Z2 ?_; refine Zq ?_; refine JD ?_; refine JF ?_; refine X3 ?_; refine X0 ?_; refine JR ?_; refine ZL ?_; refine ZB ?_; refine ZC ?_
     refine Z9 (hcon := hs1) ?_; refine Z1 ?_; refine ZF ?_; refine ZF ?_; refine Zw (γ := 102) ?_; refine Zy ?_; refine Z0 ?_; refine JD ?_; refine X0 ?_; refine JR ?_; refine ZL ?_; refine ZB ?_; refine ZC ?_
     refine Z9 (hcon := hs2) ?_; refine Z1 ?_; refine ZF ?_; refine ZF ?_; refine Zw (γ := 103) ?_; refine Zy ?_; refine Z0 ?_; refine JD ?_; refine X0 ?_; refine X0 ?_; refine JR ?_; refine Z1 ?_; refine Zu ?_
     refine Z1 ?_; refine Z1 ?_; refine Zu ?_; refine Zq ?_; refine JD ?_; refine JF ?_; refine X3 ?_; refine X0 ?_; refine X0 ?_; refine JR ?_; refine ZB ?_; refine ZC ?_; refine Z9 (hcon := hnm) ?_
     refine Zu ?_; refine JD ?_; refine JT ?_; refine X0 ?_; refine JR ?_; refine Z0 ?_; refine JD ?_
     exact X1 ⟨_, St.le_refl _, ⟨rfl, trivial⟩, X2 _⟩
    | true =>
     rw [if_neg (show ¬ true = false by simp)]
     refine X0 ?_; refine JR ?_; refine ZA (γ := 100) ?_; refine Z0 ?_; refine JD ?_; refine X0 ?_; refine JR ?_; refine ZB ?_; refine ZC ?_; refine Z1 ?_; refine Zj ?_; refine ZK ?_; refine Zw (γ := 101) ?_
     refine Zy ?_; refine JD ?_; refine X0 ?_; refine X0 ?_; refine JR ?_; refine Z1 ?_; refine Zs ?_; refine Z1 ?_; refine ZB ?_; refine ZC ?_; refine ZB ?_; refine ZC ?_; refine Z1 ?_
     refine Z4 (op := .sub) (r' := .int .i64 ((j : Nat) : Int)) (u := .int .i64 ((j + 1 : Nat) : Int)) (v := .int .i64 1) ?_ (hr' := by exact congrArg (Value.int .i64) (show (((j + 1 : Nat) : Int) - 1) = (j : Int) by omega)) (hr := by exact XH (by unfold Xy; omega))
     refine Zj ?_; refine ZN ?_; refine Zk ?_; refine Zm ?_; refine Zn ?_; refine JD ?_; refine JF ?_; refine X3 ?_; refine X0 ?_; refine X0 ?_; refine JR ?_; refine ZB ?_; refine ZC ?_; refine Z8 ?_
     refine Z1 ?_; refine ZB ?_; refine ZC ?_; refine ZB ?_; refine ZC ?_; refine Z2 ?_; refine Zq ?_; refine JD ?_; refine JF ?_; refine X3 ?_; refine X0 ?_; refine JR ?_; refine ZL ?_; refine ZB ?_; refine ZC ?_
     refine Z9 (hcon := hs1) ?_; refine Z1 ?_; refine ZF ?_; refine ZF ?_; refine Zw (γ := 102) ?_; refine Zy ?_; refine Z0 ?_; refine JD ?_; refine X0 ?_; refine JR ?_; refine ZL ?_; refine ZB ?_; refine ZC ?_
     refine Z9 (hcon := hs2) ?_; refine Z1 ?_; refine ZF ?_; refine ZF ?_; refine Zw (γ := 103) ?_; refine Zy ?_; refine Z0 ?_; refine JD ?_; refine X0 ?_; refine X0 ?_; refine JR ?_; refine Z1 ?_; refine Zu ?_
     refine Z1 ?_; refine Z1 ?_; refine Zu ?_; refine Zq ?_; refine JD ?_; refine JF ?_; refine X3 ?_; refine X0 ?_; refine X0 ?_; refine JR ?_; refine ZB ?_; refine ZC ?_; refine Z9 (hcon := hnm) ?_
     refine Zu ?_; refine JD ?_; refine JF ?_; refine X3 ?_; refine X0 ?_; refine JR ?_; refine ZB ?_; refine ZC ?_; refine Z9 (hcon := hpc) ?_; refine Z0 ?_; refine JD ?_
     exact X1 ⟨_, St.le_refl _, ⟨rfl, trivial⟩, X2 _⟩
theorem X37 (g : Gra) (hok : GraHold g) : Con Tryz.prog 30 [] [Xp g] [] (ai (XC g)) := by
 obtain ⟨ns, es, nn, ne⟩ := g
 obtain ⟨hnl, hel, hnh, heh⟩ := hok
 simp only at hnl hel hnh heh
 unfold Xp
 simp only
 refine X9 (xs := [ai (XC ⟨ns, es, nn, ne⟩)]) Tryz.func30 rfl Tryz.ntmps30 rfl rfl rfl (fun E => ?_)
 have hlm : (ns.map X8).length = ns.length := by simp
 have hle : (es.map Xi).length = es.length := by simp
 by_cases h1 : 2000 < ns.length
 ·rw [X1u (.inl h1)]
  have h1' : (2000 : Int) < (ns.map X8).length := by omega
  refine X0 ?_; refine JR ?_; refine ZA (γ := 100) ?_; refine Z0 ?_; refine JD ?_; refine X0 ?_; refine X0 ?_; refine JR ?_; refine ZB ?_; refine ZC ?_; refine Zd ?_; refine Zs ?_; refine Z1 ?_; refine Zo ?_
  refine Zo ?_; refine Zo ?_; refine Zo ?_; refine Zn ?_; refine JD ?_; refine JT ?_; refine X0 ?_; refine JR ?_; refine Z0 ?_; refine JD ?_
  exact X1 ⟨_, St.le_refl _, ⟨rfl, trivial⟩, X2 _⟩
 have h1' : ¬ (2000 : Int) < (ns.map X8).length := by omega
 by_cases h2 : 4000 < es.length
 ·rw [X1u (.inr h2)]
  have h2' : (4000 : Int) < (es.map Xi).length := by omega
  refine X0 ?_; refine JR ?_; refine ZA (γ := 100) ?_; refine Z0 ?_; refine JD ?_; refine X0 ?_; refine X0 ?_; refine JR ?_; refine ZB ?_; refine ZC ?_; refine Zd ?_; refine Zs ?_; refine Z1 ?_; refine ZB ?_
  refine ZC ?_; refine Zd ?_; refine Zs ?_; refine Zq ?_; refine JD ?_; refine JT ?_; refine X0 ?_; refine JR ?_; refine Z0 ?_; refine JD ?_
  exact X1 ⟨_, St.le_refl _, ⟨rfl, trivial⟩, X2 _⟩
 have h2' : ¬ (4000 : Int) < (es.map Xi).length := by omega
 by_cases a1 : nn < 1
 ·rw [Vx h1 h2 (.inl a1)]
  refine X0 ?_; refine JR ?_; refine ZA (γ := 100) ?_; refine Z0 ?_; refine JD ?_; refine X0 ?_; refine X0 ?_; refine JR ?_; refine ZB ?_; refine ZC ?_; refine Zd ?_; refine Zs ?_; refine Z1 ?_; refine ZB ?_
  refine ZC ?_; refine Zd ?_; refine Zs ?_; refine Zq ?_; refine JD ?_; refine JF ?_; refine X3 ?_; refine X0 ?_; refine X0 ?_; refine JR ?_; refine ZB ?_; refine ZC ?_; refine Z8 ?_; refine Z1 ?_
  refine Zo ?_; refine Zo ?_; refine Zo ?_; refine Zn ?_; refine Z1 ?_; refine Zo ?_; refine Zo ?_; refine Zo ?_; refine Zn ?_; refine Z1 ?_; refine Zo ?_; refine Zo ?_; refine Zo ?_; refine Zn ?_; refine JD ?_
  refine JT ?_; refine X0 ?_; refine JR ?_; refine Z0 ?_; refine JD ?_
  exact X1 ⟨_, St.le_refl _, ⟨rfl, trivial⟩, X2 _⟩
 by_cases a2 : 1000001 < nn
 ·rw [Vx h1 h2 (.inr (.inl a2))]
  refine X0 ?_; refine JR ?_; refine ZA (γ := 100) ?_; refine Z0 ?_; refine JD ?_; refine X0 ?_; refine X0 ?_; refine JR ?_; refine ZB ?_; refine ZC ?_; refine Zd ?_; refine Zs ?_; refine Z1 ?_; refine ZB ?_
  refine ZC ?_; refine Zd ?_; refine Zs ?_; refine Zq ?_; refine JD ?_; refine JF ?_; refine X3 ?_; refine X0 ?_; refine X0 ?_; refine JR ?_; refine ZB ?_; refine ZC ?_; refine Z8 ?_; refine Z1 ?_
  refine ZB ?_; refine ZC ?_; refine Zs ?_; refine Zq ?_; refine Z1 ?_; refine Zo ?_; refine Zo ?_; refine Zo ?_; refine Zn ?_; refine Z1 ?_; refine Zo ?_; refine Zo ?_; refine Zo ?_; refine Zn ?_; refine JD ?_
  refine JT ?_; refine X0 ?_; refine JR ?_; refine Z0 ?_; refine JD ?_
  exact X1 ⟨_, St.le_refl _, ⟨rfl, trivial⟩, X2 _⟩
 by_cases a3 : ne < 1
 ·rw [Vx h1 h2 (.inr (.inr (.inl a3)))]
  refine X0 ?_; refine JR ?_; refine ZA (γ := 100) ?_; refine Z0 ?_; refine JD ?_; refine X0 ?_; refine X0 ?_; refine JR ?_; refine ZB ?_; refine ZC ?_; refine Zd ?_; refine Zs ?_; refine Z1 ?_; refine ZB ?_
  refine ZC ?_; refine Zd ?_; refine Zs ?_; refine Zq ?_; refine JD ?_; refine JF ?_; refine X3 ?_; refine X0 ?_; refine X0 ?_; refine JR ?_; refine ZB ?_; refine ZC ?_; refine Z8 ?_; refine Z1 ?_
  refine ZB ?_; refine ZC ?_; refine Zs ?_; refine Zq ?_; refine Z1 ?_; refine ZB ?_; refine ZC ?_; refine Z8 ?_; refine Zq ?_; refine Z1 ?_; refine Zo ?_; refine Zo ?_; refine Zo ?_; refine Zn ?_; refine JD ?_
  refine JT ?_; refine X0 ?_; refine JR ?_; refine Z0 ?_; refine JD ?_
  exact X1 ⟨_, St.le_refl _, ⟨rfl, trivial⟩, X2 _⟩
 by_cases a4 : 1000001 < ne
 ·rw [Vx h1 h2 (.inr (.inr (.inr a4)))]
  refine X0 ?_; refine JR ?_; refine ZA (γ := 100) ?_; refine Z0 ?_; refine JD ?_; refine X0 ?_; refine X0 ?_; refine JR ?_; refine ZB ?_; refine ZC ?_; refine Zd ?_; refine Zs ?_; refine Z1 ?_; refine ZB ?_
  refine ZC ?_; refine Zd ?_; refine Zs ?_; refine Zq ?_; refine JD ?_; refine JF ?_; refine X3 ?_; refine X0 ?_; refine X0 ?_; refine JR ?_; refine ZB ?_; refine ZC ?_; refine Z8 ?_; refine Z1 ?_
  refine ZB ?_; refine ZC ?_; refine Zs ?_; refine Zq ?_; refine Z1 ?_; refine ZB ?_; refine ZC ?_; refine Z8 ?_; refine Zq ?_; refine Z1 ?_; refine ZB ?_; refine ZC ?_; refine Zs ?_; refine Zq ?_; refine JD ?_
  refine JT ?_; refine X0 ?_; refine JR ?_; refine Z0 ?_; refine JD ?_
  exact X1 ⟨_, St.le_refl _, ⟨rfl, trivial⟩, X2 _⟩
 rw [X68 h1 h2 a1 a2 a3 a4]
 generalize hN : XZ nn none ns = N
 generalize hM : YG ns ne none es = M
 refine X0 ?_; refine JR ?_; refine ZA (γ := 100) ?_; refine Z0 ?_; refine JD ?_; refine X0 ?_; refine X0 ?_; refine JR ?_; refine ZB ?_; refine ZC ?_; refine Zd ?_; refine Zs ?_; refine Z1 ?_; refine ZB ?_
 refine ZC ?_; refine Zd ?_; refine Zs ?_; refine Zq ?_; refine JD ?_; refine JF ?_; refine X3 ?_; refine X0 ?_; refine X0 ?_; refine JR ?_; refine ZB ?_; refine ZC ?_; refine Z8 ?_; refine Z1 ?_
 refine ZB ?_; refine ZC ?_; refine Zs ?_; refine Zq ?_; refine Z1 ?_; refine ZB ?_; refine ZC ?_; refine Z8 ?_; refine Zq ?_; refine Z1 ?_; refine ZB ?_; refine ZC ?_; refine Zs ?_; refine Zq ?_; refine JD ?_
 refine JF ?_; refine X3 ?_; refine X0 ?_; refine X0 ?_; refine JR ?_; refine Z0 ?_; refine JD ?_; refine X4 ?_
 refine Xs (fun i : Nat => i ≤ ns.length ∧ XZ nn (XN ns i) (ns.drop i) = N) (fun i => ⟨61, [(1, .ptr 100 0), (3, ai i)], [(100, .box [.d (.sl 3 (ns.map X8)), .d (.sl 5 (es.map Xi)), ai nn, ai ne])]⟩) (fun i => ns.length - i) 0 ⟨Nat.zero_le _, by simpa [XN] using hN⟩
  (X7 rfl JM ⟨rfl, trivial⟩) ?_
 rintro i ⟨hi, hg⟩
 by_cases hil : i < ns.length
 case pos =>
  have hn : (i : Int) < (ns.map X8).length := by omega
  obtain ⟨x, hx⟩ := Xm (l := ns) hil
  have hc := X7N ns es nn ne hnh hnl i x hx
  rw [X3C hx] at hg
  generalize Ye nn (XN ns i) x = e at *
  by_cases he : e = 0
  ·subst he
   rw [if_neg (by simp)] at hg
   refine X0 ?_; refine X0 ?_; refine JR ?_; refine Z1 ?_; refine ZB ?_; refine ZC ?_; refine Zd ?_; refine Z8 ?_; refine JD ?_; refine JT ?_; refine X3 ?_; refine X0 ?_; refine X4 ?_
   refine X0 ?_; refine JR ?_; refine ZL ?_; refine Z1 ?_; refine Z9 (hcon := hc) ?_; refine Z0 ?_; refine JD ?_; refine X0 ?_; refine JR ?_; refine Z1 ?_; refine Zv ?_; refine JD ?_; refine JF ?_
   refine X3 ?_; refine JR ?_; refine Z1 ?_; refine Zb ?_; refine Z0 ?_; refine JD ?_
   exact ⟨i + 1, ⟨by omega, hg⟩, by omega, X7 rfl JM ⟨rfl, trivial⟩⟩
  ·rw [if_pos he] at hg
   subst hg
   rw [if_pos he]
   refine X0 ?_; refine X0 ?_; refine JR ?_; refine Z1 ?_; refine ZB ?_; refine ZC ?_; refine Zd ?_; refine Z8 ?_; refine JD ?_; refine JT ?_; refine X3 ?_; refine X0 ?_; refine X4 ?_
   refine X0 ?_; refine JR ?_; refine ZL ?_; refine Z1 ?_; refine Z9 (hcon := hc) ?_; refine Z0 ?_; refine JD ?_; refine X0 ?_; refine JR ?_; refine Z1 ?_; refine Zv ?_; refine JD ?_; refine JT ?_
   refine X0 ?_; refine JR ?_; refine Z1 ?_; refine Z0 ?_; refine JD ?_
   exact X1 ⟨_, St.le_refl _, ⟨rfl, trivial⟩, X2 _⟩
 obtain rfl : i = ns.length := by omega
 have hn : ¬ ((ns.length : Nat) : Int) < (ns.map X8).length := by omega
 rw [List.drop_length, XZ] at hg
 subst hg
 rw [if_neg (by simp)]
 refine X0 ?_; refine X0 ?_; refine JR ?_; refine Z1 ?_; refine ZB ?_; refine ZC ?_; refine Zd ?_; refine Z8 ?_; refine JD ?_; refine JF ?_; refine Xo ?_; refine X0 ?_; refine X0 ?_; refine JR ?_
 refine Z0 ?_; refine JD ?_; refine X4 ?_
 refine Xs (fun i : Nat => i ≤ es.length ∧ YG ns ne (XN es i) (es.drop i) = M) (fun i => ⟨61, [(1, .ptr 100 0), (5, ai i)], [(100, .box [.d (.sl 3 (ns.map X8)), .d (.sl 5 (es.map Xi)), ai nn, ai ne])]⟩) (fun i => es.length - i) 0 ⟨Nat.zero_le _, by simpa [XN] using hM⟩
  (X7 rfl JM ⟨rfl, trivial⟩) ?_
 clear hi hil hn
 rintro i ⟨hi, hg⟩
 by_cases hil : i < es.length
 case neg =>
  obtain rfl : i = es.length := by omega
  have hn : ¬ ((es.length : Nat) : Int) < (es.map Xi).length := by omega
  rw [List.drop_length, YG] at hg
  subst hg
  refine X0 ?_; refine X0 ?_; refine JR ?_; refine Z1 ?_; refine ZB ?_; refine ZC ?_; refine Zd ?_; refine Z8 ?_; refine JD ?_; refine JF ?_; refine Xo ?_; refine X0 ?_; refine JR ?_; refine Z0 ?_
  refine JD ?_
  exact X1 ⟨_, St.le_refl _, ⟨rfl, trivial⟩, X2 _⟩
 have hn : (i : Int) < (es.map Xi).length := by omega
 obtain ⟨x, hx⟩ := Xm (l := es) hil
 have hc := X9I ns es nn ne heh hnl hel i x hx
 rw [X3A hx] at hg
 generalize YI ns ne (XN es i) x = e at *
 by_cases he : e = 0
 ·subst he
  rw [if_neg (by simp)] at hg
  refine X0 ?_; refine X0 ?_; refine JR ?_; refine Z1 ?_; refine ZB ?_; refine ZC ?_; refine Zd ?_; refine Z8 ?_; refine JD ?_; refine JT ?_; refine X3 ?_; refine X0 ?_; refine X4 ?_
  refine X0 ?_; refine JR ?_; refine ZL ?_; refine Z1 ?_; refine Z9 (hcon := hc) ?_; refine Z0 ?_; refine JD ?_; refine X0 ?_; refine JR ?_; refine Z1 ?_; refine Zv ?_; refine JD ?_; refine JF ?_
  refine X3 ?_; refine JR ?_; refine Z1 ?_; refine Zb ?_; refine Z0 ?_; refine JD ?_
  exact ⟨i + 1, ⟨by omega, hg⟩, by omega, X7 rfl JM ⟨rfl, trivial⟩⟩
 ·rw [if_pos he] at hg
  subst hg
  refine X0 ?_; refine X0 ?_; refine JR ?_; refine Z1 ?_; refine ZB ?_; refine ZC ?_; refine Zd ?_; refine Z8 ?_; refine JD ?_; refine JT ?_; refine X3 ?_; refine X0 ?_; refine X4 ?_
  refine X0 ?_; refine JR ?_; refine ZL ?_; refine Z1 ?_; refine Z9 (hcon := hc) ?_; refine Z0 ?_; refine JD ?_; refine X0 ?_; refine JR ?_; refine Z1 ?_; refine Zv ?_; refine JD ?_; refine JT ?_
  refine X0 ?_; refine JR ?_; refine Z1 ?_; refine Z0 ?_; refine JD ?_
  exact X1 ⟨_, St.le_refl _, ⟨rfl, trivial⟩, X2 _⟩
end Go.Fw
