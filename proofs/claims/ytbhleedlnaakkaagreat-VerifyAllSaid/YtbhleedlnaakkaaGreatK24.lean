/- The reference's check of a graph. -/
import Derived.Test.YtbhleedlnaakkaaGreatK17
set_option maxHeartbeats 16000000
namespace Go.Fw
open Go Go.Proofs
set_option maxRecDepth 100000
set_option linter.unusedVariables false
set_option linter.unusedSimpArgs false
abbrev X8j : Nod := ⟨0, [], []⟩
def YU : List Nod → Int → Nod × Bool
 | [], _ => (X8j, false)
 | x :: r, n => if x.id = n then (x, true) else YU r n
theorem X6a : ∀ (l : List Nod) (n : Int), (YU l n).2 = XP l n
 | [], n => rfl
 | x :: r, n => by
  unfold YU XP
  rw [List.any_cons]
  by_cases h : x.id = n
  ·simp [h]
  ·have := X6a r n
   unfold XP at this
   simp [h, this]
theorem X7n {l : List Nod} {n : Int} {i : Nat} {x : Nod} (h : l[i]? = some x) : YU (l.drop i) n = if x.id = n then (x, true) else YU (l.drop (i + 1)) n := by
 obtain ⟨hi, rfl⟩ := List.getElem?_eq_some_iff.1 h
 rw [List.drop_eq_getElem_cons hi, YU]
theorem X6k (ns : List Nod) (es : List Edg) (nn ne n : Int) (hl : ns.length ≤ 9223372036854775807) : Con Tryz.prog 33 [] [.agg [.d (.sl 3 (ns.map X8)), .d (.sl 5 (es.map Xg)), ai nn, ai ne], ai n] [] (.tup [Yu (YU ns n).1, ab (YU ns n).2]) := by
 refine Xa (xs := [Yu (YU ns n).1, ab (YU ns n).2]) Tryz.func33 rfl Tryz.ntmps33 rfl rfl rfl (fun E => ?_)
 have hlm : (ns.map X8).length = ns.length := by simp
 generalize hG : YU ns n = G
 refine X0 ?_; refine JR ?_; refine ZA (γ := 100) ?_; refine Zw (γ := 101) ?_; refine Z0 ?_; refine JD ?_; refine X0 ?_; refine X0 ?_; refine JR ?_; refine Z0 ?_; refine JD ?_; refine X4 ?_
 refine Xt (fun i : Nat => i ≤ ns.length ∧ YU (ns.drop i) n = G) (fun i => ⟨28, [(1, ai n), (2, .ptr 100 0), (4, .ptr 101 0), (6, ai i)], [(100, .box [.d (.sl 3 (ns.map X8)), .d (.sl 5 (es.map Xg)), ai nn, ai ne]), (101, .box [ai 0, ani, ani])]⟩) (fun i => ns.length - i) 0 ⟨Nat.zero_le _, by simpa using hG⟩
  (X6 rfl JM ⟨rfl, rfl, trivial⟩) ?_
 rintro i ⟨hi, hg⟩
 by_cases hil : i < ns.length
 case neg =>
  obtain rfl : i = ns.length := by omega
  have hn : ¬ ((ns.length : Nat) : Int) < (ns.map X8).length := by omega
  rw [List.drop_length, YU] at hg
  subst hg
  simp only [Yu, List.map_nil]
  refine X0 ?_; refine X0 ?_; refine JR ?_; refine Z1 ?_; refine ZB ?_; refine ZC ?_; refine Zd ?_; refine Z8 ?_; refine JD ?_; refine JF ?_; refine Xp ?_; refine X0 ?_; refine JR ?_; refine Zx ?_
  refine Zy ?_; refine Z0 ?_; refine JD ?_
  exact X1 ⟨_, X03 101 (cs' := [ai 0, .d (.sl 1 []), .d (.sl 6 [])]) rfl JM rfl, ⟨⟨101, 0, _, rfl, rfl, .inr ⟨3, _, rfl, rfl, rfl, rfl⟩⟩, rfl, trivial⟩, X2 _⟩
 have hn : (i : Int) < (ns.map X8).length := by omega
 obtain ⟨x, hx⟩ := Xm (l := ns) hil
 have hxc : (ns.map X8)[i]? = some (X8 x) := Xq hx
 rw [X7n hx] at hg
 obtain ⟨id, labels, props⟩ := x
 simp only [X8] at hxc hg
 by_cases he : id = n
 ·rw [if_pos he] at hg
  subst hg
  simp only [Yu]
  refine X0 ?_; refine X0 ?_; refine JR ?_; refine Z1 ?_; refine ZB ?_; refine ZC ?_; refine Zd ?_; refine Z8 ?_; refine JD ?_; refine JT ?_; refine X3 ?_; refine X0 ?_; refine X4 ?_
  refine X0 ?_; refine JR ?_; refine ZB ?_; refine ZC ?_; refine Z1 ?_; refine Zj ?_; refine ZN ?_; refine Zk ?_; refine Z1 ?_; refine Zl ?_; refine JD ?_; refine JT ?_; refine X0 ?_; refine JR ?_; refine ZB ?_
  refine ZC ?_; refine Z1 ?_; refine Zj ?_; refine ZK ?_; refine Zy ?_; refine Z0 ?_; refine JD ?_
  exact X1 ⟨_, St.le_refl _, ⟨⟨101, 0, _, rfl, rfl, .inr ⟨3, _, rfl, rfl, rfl, rfl⟩⟩, rfl, trivial⟩, X2 _⟩
 ·rw [if_neg he] at hg
  refine X0 ?_; refine X0 ?_; refine JR ?_; refine Z1 ?_; refine ZB ?_; refine ZC ?_; refine Zd ?_; refine Z8 ?_; refine JD ?_; refine JT ?_; refine X3 ?_; refine X0 ?_; refine X4 ?_
  refine X0 ?_; refine JR ?_; refine ZB ?_; refine ZC ?_; refine Z1 ?_; refine Zj ?_; refine ZN ?_; refine Zk ?_; refine Z1 ?_; refine Zl ?_; refine JD ?_; refine JF ?_; refine X3 ?_; refine JR ?_; refine Z1 ?_
  refine Zb ?_; refine Z0 ?_; refine JD ?_
  exact ⟨i + 1, ⟨by omega, hg⟩, by omega, X6 rfl JM ⟨rfl, rfl, trivial⟩⟩
theorem X7C (ns : List Nod) (es : List Edg) (nn ne : Int) (hok : ∀ n ∈ ns, X0P n) (hl : ns.length ≤ 9223372036854775807) (i : Nat) (x : Nod) (hx : ns[i]? = some x) : Con Tryz.prog 81 [] [.agg [.d (.sl 3 (ns.map X8)), .d (.sl 5 (es.map Xg)), ai nn, ai ne], ai i] [] (ai (YF nn (XF ns i) x)) := by
 refine Xa (xs := [ai (YF nn (XF ns i) x)]) Tryz.func81 rfl Tryz.ntmps81 rfl rfl rfl (fun E => ?_)
 have hil := (List.getElem?_eq_some_iff.1 hx).1
 have hxc : (ns.map X8)[i]? = some (X8 x) := Xq hx
 have hxh := hok x (List.mem_of_getElem? hx)
 have hpc := X4C x.labels x.props hxh.1 hxh.2.2.2
 clear hxh
 by_cases h0 : i = 0
 ·subst h0
  rw [X4K]
  obtain ⟨id, labels, props⟩ := x
  simp only [X8] at hxc hpc ⊢
  by_cases q2 : id < 1
  ·rw [if_pos (show id < 1 ∨ nn ≤ id from .inl q2)]
   refine X0 ?_; refine JR ?_; refine ZA (γ := 100) ?_; refine Z0 ?_; refine JD ?_; refine X0 ?_; refine JR ?_; refine ZB ?_; refine ZC ?_; refine Z1 ?_; refine Zj ?_; refine ZK ?_; refine Zw (γ := 101) ?_
   refine Zy ?_; refine JD ?_; refine X0 ?_; refine X0 ?_; refine JR ?_; refine Z1 ?_; refine Zs ?_; refine Z1 ?_; refine Zo ?_; refine Zo ?_; refine Zo ?_; refine Zo ?_; refine Zo ?_; refine Zo ?_; refine Zo ?_
   refine Zo ?_; refine Zo ?_; refine Zo ?_; refine Zq ?_; refine JD ?_; refine JF ?_; refine X3 ?_; refine X0 ?_; refine X0 ?_; refine JR ?_; refine ZB ?_; refine ZC ?_; refine Z8 ?_; refine Z1 ?_
   refine Zo ?_; refine Zo ?_; refine Zo ?_; refine Zo ?_; refine Zo ?_; refine Zn ?_; refine JD ?_; refine JT ?_; refine X0 ?_; refine JR ?_; refine Z0 ?_; refine JD ?_
   exact X1 ⟨_, St.le_refl _, ⟨rfl, trivial⟩, X2 _⟩
  by_cases q3 : nn ≤ id
  ·rw [if_pos (show id < 1 ∨ nn ≤ id from .inr q3)]
   refine X0 ?_; refine JR ?_; refine ZA (γ := 100) ?_; refine Z0 ?_; refine JD ?_; refine X0 ?_; refine JR ?_; refine ZB ?_; refine ZC ?_; refine Z1 ?_; refine Zj ?_; refine ZK ?_; refine Zw (γ := 101) ?_
   refine Zy ?_; refine JD ?_; refine X0 ?_; refine X0 ?_; refine JR ?_; refine Z1 ?_; refine Zs ?_; refine Z1 ?_; refine Zo ?_; refine Zo ?_; refine Zo ?_; refine Zo ?_; refine Zo ?_; refine Zo ?_; refine Zo ?_
   refine Zo ?_; refine Zo ?_; refine Zo ?_; refine Zq ?_; refine JD ?_; refine JF ?_; refine X3 ?_; refine X0 ?_; refine X0 ?_; refine JR ?_; refine ZB ?_; refine ZC ?_; refine Z8 ?_; refine Z1 ?_
   refine ZB ?_; refine ZC ?_; refine ZB ?_; refine ZC ?_; refine Z2 ?_; refine Zq ?_; refine JD ?_; refine JT ?_; refine X0 ?_; refine JR ?_; refine Z0 ?_; refine JD ?_
   exact X1 ⟨_, St.le_refl _, ⟨rfl, trivial⟩, X2 _⟩
  rw [if_neg (show ¬ (id < 1 ∨ nn ≤ id) from fun h => h.elim q2 q3)]
  generalize Y4 labels props = e at *
  refine X0 ?_; refine JR ?_; refine ZA (γ := 100) ?_; refine Z0 ?_; refine JD ?_; refine X0 ?_; refine JR ?_; refine ZB ?_; refine ZC ?_; refine Z1 ?_; refine Zj ?_; refine ZK ?_; refine Zw (γ := 101) ?_
  refine Zy ?_; refine JD ?_; refine X0 ?_; refine X0 ?_; refine JR ?_; refine Z1 ?_; refine Zs ?_; refine Z1 ?_; refine Zo ?_; refine Zo ?_; refine Zo ?_; refine Zo ?_; refine Zo ?_; refine Zo ?_; refine Zo ?_
  refine Zo ?_; refine Zo ?_; refine Zo ?_; refine Zq ?_; refine JD ?_; refine JF ?_; refine X3 ?_; refine X0 ?_; refine X0 ?_; refine JR ?_; refine ZB ?_; refine ZC ?_; refine Z8 ?_; refine Z1 ?_
  refine ZB ?_; refine ZC ?_; refine ZB ?_; refine ZC ?_; refine Z2 ?_; refine Zq ?_; refine JD ?_; refine JF ?_; refine X3 ?_; refine X0 ?_; refine JR ?_; refine ZB ?_; refine ZC ?_; refine ZB ?_; refine ZC ?_
  refine Z9 (hcon := hpc) ?_; refine Z0 ?_; refine JD ?_
  exact X1 ⟨_, St.le_refl _, ⟨rfl, trivial⟩, X2 _⟩
 ·obtain ⟨j, rfl⟩ : ∃ j, i = j + 1 := ⟨i - 1, by omega⟩
  obtain ⟨p, hp⟩ := Xm (l := ns) (k := j) (by omega)
  have hpp : (ns.map X8)[j]? = some (X8 p) := Xq hp
  rw [X3O hp]
  clear hp hx
  obtain ⟨id, labels, props⟩ := x
  obtain ⟨pid, plabels, pprops⟩ := p
  simp only [X8] at hxc hpc hpp ⊢
  by_cases q1 : id ≤ pid
  ·rw [if_pos q1]
   refine X0 ?_; refine JR ?_; refine ZA (γ := 100) ?_; refine Z0 ?_; refine JD ?_; refine X0 ?_; refine JR ?_; refine ZB ?_; refine ZC ?_; refine Z1 ?_; refine Zj ?_; refine ZK ?_; refine Zw (γ := 101) ?_
   refine Zy ?_; refine JD ?_; refine X0 ?_; refine X0 ?_; refine JR ?_; refine Z1 ?_; refine Zs ?_; refine Z1 ?_; refine ZB ?_; refine ZC ?_; refine ZB ?_; refine ZC ?_; refine Z1 ?_
   refine Z4 (op := .sub) (r' := .int .i64 ((j : Nat) : Int)) (u := .int .i64 ((j + 1 : Nat) : Int)) (v := .int .i64 1) ?_ (hr' := by exact congrArg (Value.int .i64) (show (((j + 1 : Nat) : Int) - 1) = (j : Int) by omega)) (hr := by exact XJ (by unfold XB; omega))
   refine Zj ?_; refine ZN ?_; refine Zk ?_; refine Zm ?_; refine Zn ?_; refine JD ?_; refine JT ?_; refine X0 ?_; refine JR ?_; refine Z0 ?_; refine JD ?_
   exact X1 ⟨_, St.le_refl _, ⟨rfl, trivial⟩, X2 _⟩
  rw [if_neg q1]
  by_cases q2 : id < 1
  ·rw [if_pos (show id < 1 ∨ nn ≤ id from .inl q2)]
   refine X0 ?_; refine JR ?_; refine ZA (γ := 100) ?_; refine Z0 ?_; refine JD ?_; refine X0 ?_; refine JR ?_; refine ZB ?_; refine ZC ?_; refine Z1 ?_; refine Zj ?_; refine ZK ?_; refine Zw (γ := 101) ?_
   refine Zy ?_; refine JD ?_; refine X0 ?_; refine X0 ?_; refine JR ?_; refine Z1 ?_; refine Zs ?_; refine Z1 ?_; refine ZB ?_; refine ZC ?_; refine ZB ?_; refine ZC ?_; refine Z1 ?_
   refine Z4 (op := .sub) (r' := .int .i64 ((j : Nat) : Int)) (u := .int .i64 ((j + 1 : Nat) : Int)) (v := .int .i64 1) ?_ (hr' := by exact congrArg (Value.int .i64) (show (((j + 1 : Nat) : Int) - 1) = (j : Int) by omega)) (hr := by exact XJ (by unfold XB; omega))
   refine Zj ?_; refine ZN ?_; refine Zk ?_; refine Zm ?_; refine Zn ?_; refine JD ?_; refine JF ?_; refine X3 ?_; refine X0 ?_; refine X0 ?_; refine JR ?_; refine ZB ?_; refine ZC ?_; refine Z8 ?_
   refine Z1 ?_; refine Zo ?_; refine Zo ?_; refine Zo ?_; refine Zo ?_; refine Zo ?_; refine Zn ?_; refine JD ?_; refine JT ?_; refine X0 ?_; refine JR ?_; refine Z0 ?_; refine JD ?_
   exact X1 ⟨_, St.le_refl _, ⟨rfl, trivial⟩, X2 _⟩
  by_cases q3 : nn ≤ id
  ·rw [if_pos (show id < 1 ∨ nn ≤ id from .inr q3)]
   refine X0 ?_; refine JR ?_; refine ZA (γ := 100) ?_; refine Z0 ?_; refine JD ?_; refine X0 ?_; refine JR ?_; refine ZB ?_; refine ZC ?_; refine Z1 ?_; refine Zj ?_; refine ZK ?_; refine Zw (γ := 101) ?_
   refine Zy ?_; refine JD ?_; refine X0 ?_; refine X0 ?_; refine JR ?_; refine Z1 ?_; refine Zs ?_; refine Z1 ?_; refine ZB ?_; refine ZC ?_; refine ZB ?_; refine ZC ?_; refine Z1 ?_
   refine Z4 (op := .sub) (r' := .int .i64 ((j : Nat) : Int)) (u := .int .i64 ((j + 1 : Nat) : Int)) (v := .int .i64 1) ?_ (hr' := by exact congrArg (Value.int .i64) (show (((j + 1 : Nat) : Int) - 1) = (j : Int) by omega)) (hr := by exact XJ (by unfold XB; omega))
   refine Zj ?_; refine ZN ?_; refine Zk ?_; refine Zm ?_; refine Zn ?_; refine JD ?_; refine JF ?_; refine X3 ?_; refine X0 ?_; refine X0 ?_; refine JR ?_; refine ZB ?_; refine ZC ?_; refine Z8 ?_
   refine Z1 ?_; refine ZB ?_; refine ZC ?_; refine ZB ?_; refine ZC ?_; refine Z2 ?_; refine Zq ?_; refine JD ?_; refine JT ?_; refine X0 ?_; refine JR ?_; refine Z0 ?_; refine JD ?_
   exact X1 ⟨_, St.le_refl _, ⟨rfl, trivial⟩, X2 _⟩
  rw [if_neg (show ¬ (id < 1 ∨ nn ≤ id) from fun h => h.elim q2 q3)]
  generalize Y4 labels props = e at *
  refine X0 ?_; refine JR ?_; refine ZA (γ := 100) ?_; refine Z0 ?_; refine JD ?_; refine X0 ?_; refine JR ?_; refine ZB ?_; refine ZC ?_; refine Z1 ?_; refine Zj ?_; refine ZK ?_; refine Zw (γ := 101) ?_
  refine Zy ?_; refine JD ?_; refine X0 ?_; refine X0 ?_; refine JR ?_; refine Z1 ?_; refine Zs ?_; refine Z1 ?_; refine ZB ?_; refine ZC ?_; refine ZB ?_; refine ZC ?_; refine Z1 ?_
  refine Z4 (op := .sub) (r' := .int .i64 ((j : Nat) : Int)) (u := .int .i64 ((j + 1 : Nat) : Int)) (v := .int .i64 1) ?_ (hr' := by exact congrArg (Value.int .i64) (show (((j + 1 : Nat) : Int) - 1) = (j : Int) by omega)) (hr := by exact XJ (by unfold XB; omega))
  refine Zj ?_; refine ZN ?_; refine Zk ?_; refine Zm ?_; refine Zn ?_; refine JD ?_; refine JF ?_; refine X3 ?_; refine X0 ?_; refine X0 ?_; refine JR ?_; refine ZB ?_; refine ZC ?_; refine Z8 ?_
  refine Z1 ?_; refine ZB ?_; refine ZC ?_; refine ZB ?_; refine ZC ?_; refine Z2 ?_; refine Zq ?_; refine JD ?_; refine JF ?_; refine X3 ?_; refine X0 ?_; refine JR ?_; refine ZB ?_; refine ZC ?_; refine ZB ?_
  refine ZC ?_; refine Z9 (hcon := hpc) ?_; refine Z0 ?_; refine JD ?_
  exact X1 ⟨_, St.le_refl _, ⟨rfl, trivial⟩, X2 _⟩
theorem Xa5 (ns : List Nod) (es : List Edg) (nn ne : Int) (hok : ∀ e ∈ es, X1i e) (hnl : ns.length ≤ 9223372036854775807) (hl : es.length ≤ 9223372036854775807) (i : Nat) (x : Edg) (hx : es[i]? = some x) : Con Tryz.prog 82 [] [.agg [.d (.sl 3 (ns.map X8)), .d (.sl 5 (es.map Xg)), ai nn, ai ne], ai i] [] (ai (U8 ns ne (XF es i) x)) := by
 refine Xa (xs := [ai (U8 ns ne (XF es i) x)]) Tryz.func82 rfl Tryz.ntmps82 rfl rfl rfl (fun E => ?_)
 have hil := (List.getElem?_eq_some_iff.1 hx).1
 have hxc : (es.map Xg)[i]? = some (Xg x) := Xq hx
 have hxh := hok x (List.mem_of_getElem? hx)
 have hpc := X4C [] x.props (by simp) hxh.2.2
 have hs1 := X6k ns es nn ne x.src hnl
 have hs2 := X6k ns es nn ne x.dst hnl
 rw [X6a] at hs1 hs2
 have hnm := X5T x.typ
 clear hxh
 by_cases h0 : i = 0
 ·subst h0
  rw [X5r]
  obtain ⟨id, src, dst, typ, props⟩ := x
  simp only [Xg, Yu] at hxc hpc hs1 hs2 hnm ⊢
  simp only [List.map_nil] at hpc
  generalize XP ns src = b1 at *
  generalize XP ns dst = b2 at *
  generalize (YU ns src).1 = m1 at *
  generalize (YU ns dst).1 = m2 at *
  generalize Xl typ = b3 at *
  generalize Y4 [] props = e at *
  by_cases q2 : id < 1
  ·rw [if_pos (show id < 1 ∨ ne ≤ id from .inl q2)]
   refine X0 ?_; refine JR ?_; refine ZA (γ := 100) ?_; refine Z0 ?_; refine JD ?_; refine X0 ?_; refine JR ?_; refine ZB ?_; refine ZC ?_; refine Z1 ?_; refine Zj ?_; refine ZK ?_; refine Zw (γ := 101) ?_
   refine Zy ?_; refine JD ?_; refine X0 ?_; refine X0 ?_; refine JR ?_; refine Z1 ?_; refine Zs ?_; refine Z1 ?_; refine Zo ?_; refine Zo ?_; refine Zo ?_; refine Zo ?_; refine Zo ?_; refine Zo ?_; refine Zo ?_
   refine Zo ?_; refine Zo ?_; refine Zo ?_; refine Zq ?_; refine JD ?_; refine JF ?_; refine X3 ?_; refine X0 ?_; refine X0 ?_; refine JR ?_; refine ZB ?_; refine ZC ?_; refine Z8 ?_; refine Z1 ?_
   refine Zo ?_; refine Zo ?_; refine Zo ?_; refine Zo ?_; refine Zo ?_; refine Zn ?_; refine JD ?_; refine JT ?_; refine X0 ?_; refine JR ?_; refine Z0 ?_; refine JD ?_
   exact X1 ⟨_, St.le_refl _, ⟨rfl, trivial⟩, X2 _⟩
  by_cases q3 : ne ≤ id
  ·rw [if_pos (show id < 1 ∨ ne ≤ id from .inr q3)]
   refine X0 ?_; refine JR ?_; refine ZA (γ := 100) ?_; refine Z0 ?_; refine JD ?_; refine X0 ?_; refine JR ?_; refine ZB ?_; refine ZC ?_; refine Z1 ?_; refine Zj ?_; refine ZK ?_; refine Zw (γ := 101) ?_
   refine Zy ?_; refine JD ?_; refine X0 ?_; refine X0 ?_; refine JR ?_; refine Z1 ?_; refine Zs ?_; refine Z1 ?_; refine Zo ?_; refine Zo ?_; refine Zo ?_; refine Zo ?_; refine Zo ?_; refine Zo ?_; refine Zo ?_
   refine Zo ?_; refine Zo ?_; refine Zo ?_; refine Zq ?_; refine JD ?_; refine JF ?_; refine X3 ?_; refine X0 ?_; refine X0 ?_; refine JR ?_; refine ZB ?_; refine ZC ?_; refine Z8 ?_; refine Z1 ?_
   refine ZB ?_; refine ZC ?_; refine ZB ?_; refine ZC ?_; refine Z2 ?_; refine Zq ?_; refine JD ?_; refine JT ?_; refine X0 ?_; refine JR ?_; refine Z0 ?_; refine JD ?_
   exact X1 ⟨_, St.le_refl _, ⟨rfl, trivial⟩, X2 _⟩
  rw [if_neg (show ¬ (id < 1 ∨ ne ≤ id) from fun h => h.elim q2 q3)]
  cases b1 with
  | false =>
   rw [if_pos (show false = false ∨ b2 = false from .inl rfl)]
   refine X0 ?_; refine JR ?_; refine ZA (γ := 100) ?_; refine Z0 ?_; refine JD ?_; refine X0 ?_; refine JR ?_; refine ZB ?_; refine ZC ?_; refine Z1 ?_; refine Zj ?_; refine ZK ?_; refine Zw (γ := 101) ?_
   refine Zy ?_; refine JD ?_; refine X0 ?_; refine X0 ?_; refine JR ?_; refine Z1 ?_; refine Zs ?_; refine Z1 ?_; refine Zo ?_; refine Zo ?_; refine Zo ?_; refine Zo ?_; refine Zo ?_; refine Zo ?_; refine Zo ?_
   refine Zo ?_; refine Zo ?_; refine Zo ?_; refine Zq ?_; refine JD ?_; refine JF ?_; refine X3 ?_; refine X0 ?_; refine X0 ?_; refine JR ?_; refine ZB ?_; refine ZC ?_; refine Z8 ?_; refine Z1 ?_
   refine ZB ?_; refine ZC ?_; refine ZB ?_; refine ZC ?_; refine Z2 ?_; refine Zq ?_; refine JD ?_; refine JF ?_; refine X3 ?_; refine X0 ?_; refine JR ?_; refine ZL ?_; refine ZB ?_; refine ZC ?_
   refine Z9 (hcon := hs1) ?_; refine Z1 ?_; refine ZF ?_; refine ZF ?_; refine Zw (γ := 102) ?_; refine Zy ?_; refine Z0 ?_; refine JD ?_; refine X0 ?_; refine JR ?_; refine ZL ?_; refine ZB ?_; refine ZC ?_
   refine Z9 (hcon := hs2) ?_; refine Z1 ?_; refine ZF ?_; refine ZF ?_; refine Zw (γ := 103) ?_; refine Zy ?_; refine Z0 ?_; refine JD ?_; refine X0 ?_; refine X0 ?_; refine JR ?_; refine Z1 ?_; refine Zu ?_
   refine Z1 ?_; refine Zo ?_; refine Zo ?_; refine Zn ?_; refine JD ?_; refine JT ?_; refine X0 ?_; refine JR ?_; refine Z0 ?_; refine JD ?_
   exact X1 ⟨_, St.le_refl _, ⟨rfl, trivial⟩, X2 _⟩
  | true =>
   cases b2 with
   | false =>
    rw [if_pos (show true = false ∨ false = false from .inr rfl)]
    refine X0 ?_; refine JR ?_; refine ZA (γ := 100) ?_; refine Z0 ?_; refine JD ?_; refine X0 ?_; refine JR ?_; refine ZB ?_; refine ZC ?_; refine Z1 ?_; refine Zj ?_; refine ZK ?_; refine Zw (γ := 101) ?_
    refine Zy ?_; refine JD ?_; refine X0 ?_; refine X0 ?_; refine JR ?_; refine Z1 ?_; refine Zs ?_; refine Z1 ?_; refine Zo ?_; refine Zo ?_; refine Zo ?_; refine Zo ?_; refine Zo ?_; refine Zo ?_; refine Zo ?_
    refine Zo ?_; refine Zo ?_; refine Zo ?_; refine Zq ?_; refine JD ?_; refine JF ?_; refine X3 ?_; refine X0 ?_; refine X0 ?_; refine JR ?_; refine ZB ?_; refine ZC ?_; refine Z8 ?_; refine Z1 ?_
    refine ZB ?_; refine ZC ?_; refine ZB ?_; refine ZC ?_; refine Z2 ?_; refine Zq ?_; refine JD ?_; refine JF ?_; refine X3 ?_; refine X0 ?_; refine JR ?_; refine ZL ?_; refine ZB ?_; refine ZC ?_
    refine Z9 (hcon := hs1) ?_; refine Z1 ?_; refine ZF ?_; refine ZF ?_; refine Zw (γ := 102) ?_; refine Zy ?_; refine Z0 ?_; refine JD ?_; refine X0 ?_; refine JR ?_; refine ZL ?_; refine ZB ?_; refine ZC ?_
    refine Z9 (hcon := hs2) ?_; refine Z1 ?_; refine ZF ?_; refine ZF ?_; refine Zw (γ := 103) ?_; refine Zy ?_; refine Z0 ?_; refine JD ?_; refine X0 ?_; refine X0 ?_; refine JR ?_; refine Z1 ?_; refine Zu ?_
    refine Z1 ?_; refine Z1 ?_; refine Zu ?_; refine Zq ?_; refine JD ?_; refine JT ?_; refine X0 ?_; refine JR ?_; refine Z0 ?_; refine JD ?_
    exact X1 ⟨_, St.le_refl _, ⟨rfl, trivial⟩, X2 _⟩
   | true =>
    rw [if_neg (show ¬ (true = false ∨ true = false) by simp)]
    cases b3 with
    | false =>
     rw [if_pos (show false = false from rfl)]
     refine X0 ?_; refine JR ?_; refine ZA (γ := 100) ?_; refine Z0 ?_; refine JD ?_; refine X0 ?_; refine JR ?_; refine ZB ?_; refine ZC ?_; refine Z1 ?_; refine Zj ?_; refine ZK ?_; refine Zw (γ := 101) ?_
     refine Zy ?_; refine JD ?_; refine X0 ?_; refine X0 ?_; refine JR ?_; refine Z1 ?_; refine Zs ?_; refine Z1 ?_; refine Zo ?_; refine Zo ?_; refine Zo ?_; refine Zo ?_; refine Zo ?_; refine Zo ?_; refine Zo ?_
     refine Zo ?_; refine Zo ?_; refine Zo ?_; refine Zq ?_; refine JD ?_; refine JF ?_; refine X3 ?_; refine X0 ?_; refine X0 ?_; refine JR ?_; refine ZB ?_; refine ZC ?_; refine Z8 ?_; refine Z1 ?_
     refine ZB ?_; refine ZC ?_; refine ZB ?_; refine ZC ?_; refine Z2 ?_; refine Zq ?_; refine JD ?_; refine JF ?_; refine X3 ?_; refine X0 ?_; refine JR ?_; refine ZL ?_; refine ZB ?_; refine ZC ?_
     refine Z9 (hcon := hs1) ?_; refine Z1 ?_; refine ZF ?_; refine ZF ?_; refine Zw (γ := 102) ?_; refine Zy ?_; refine Z0 ?_; refine JD ?_; refine X0 ?_; refine JR ?_; refine ZL ?_; refine ZB ?_; refine ZC ?_
     refine Z9 (hcon := hs2) ?_; refine Z1 ?_; refine ZF ?_; refine ZF ?_; refine Zw (γ := 103) ?_; refine Zy ?_; refine Z0 ?_; refine JD ?_; refine X0 ?_; refine X0 ?_; refine JR ?_; refine Z1 ?_; refine Zu ?_
     refine Z1 ?_; refine Z1 ?_; refine Zu ?_; refine Zq ?_; refine JD ?_; refine JF ?_; refine X3 ?_; refine X0 ?_; refine X0 ?_; refine JR ?_; refine ZB ?_; refine ZC ?_; refine Z9 (hcon := hnm) ?_
     refine Zu ?_; refine JD ?_; refine JT ?_; refine X0 ?_; refine JR ?_; refine Z0 ?_; refine JD ?_
     exact X1 ⟨_, St.le_refl _, ⟨rfl, trivial⟩, X2 _⟩
    | true =>
     rw [if_neg (show ¬ true = false by simp)]
     refine X0 ?_; refine JR ?_; refine ZA (γ := 100) ?_; refine Z0 ?_; refine JD ?_; refine X0 ?_; refine JR ?_; refine ZB ?_; refine ZC ?_; refine Z1 ?_; refine Zj ?_; refine ZK ?_; refine Zw (γ := 101) ?_
     refine Zy ?_; refine JD ?_; refine X0 ?_; refine X0 ?_; refine JR ?_; refine Z1 ?_; refine Zs ?_; refine Z1 ?_; refine Zo ?_; refine Zo ?_; refine Zo ?_; refine Zo ?_; refine Zo ?_; refine Zo ?_; refine Zo ?_
     refine Zo ?_; refine Zo ?_; refine Zo ?_; refine Zq ?_; refine JD ?_; refine JF ?_; refine X3 ?_; refine X0 ?_; refine X0 ?_; refine JR ?_; refine ZB ?_; refine ZC ?_; refine Z8 ?_; refine Z1 ?_
     refine ZB ?_; refine ZC ?_; refine ZB ?_; refine ZC ?_; refine Z2 ?_; refine Zq ?_; refine JD ?_; refine JF ?_; refine X3 ?_; refine X0 ?_; refine JR ?_; refine ZL ?_; refine ZB ?_; refine ZC ?_
     refine Z9 (hcon := hs1) ?_; refine Z1 ?_; refine ZF ?_; refine ZF ?_; refine Zw (γ := 102) ?_; refine Zy ?_; refine Z0 ?_; refine JD ?_; refine X0 ?_; refine JR ?_; refine ZL ?_; refine ZB ?_; refine ZC ?_
     refine Z9 (hcon := hs2) ?_; refine Z1 ?_; refine ZF ?_; refine ZF ?_; refine Zw (γ := 103) ?_; refine Zy ?_; refine Z0 ?_; refine JD ?_; refine X0 ?_; refine X0 ?_; refine JR ?_; refine Z1 ?_; refine Zu ?_
     refine Z1 ?_; refine Z1 ?_; refine Zu ?_; refine Zq ?_; refine JD ?_; refine JF ?_; refine X3 ?_; refine X0 ?_; refine X0 ?_; refine JR ?_; refine ZB ?_; refine ZC ?_; refine Z9 (hcon := hnm) ?_
     refine Zu ?_; refine JD ?_; refine JF ?_; refine X3 ?_; refine X0 ?_; refine JR ?_; refine ZB ?_; refine ZC ?_; refine Z9 (hcon := hpc) ?_; refine Z0 ?_; refine JD ?_
     exact X1 ⟨_, St.le_refl _, ⟨rfl, trivial⟩, X2 _⟩
 ·obtain ⟨j, rfl⟩ : ∃ j, i = j + 1 := ⟨i - 1, by omega⟩
  obtain ⟨p, hp⟩ := Xm (l := es) (k := j) (by omega)
  have hpp : (es.map Xg)[j]? = some (Xg p) := Xq hp
  rw [X63 hp]
  clear hp hx
  obtain ⟨id, src, dst, typ, props⟩ := x
  obtain ⟨pid, psrc, pdst, ptyp, pprops⟩ := p
  simp only [Xg, Yu] at hxc hpc hpp hs1 hs2 hnm ⊢
  simp only [List.map_nil] at hpc
  generalize XP ns src = b1 at *
  generalize XP ns dst = b2 at *
  generalize (YU ns src).1 = m1 at *
  generalize (YU ns dst).1 = m2 at *
  generalize Xl typ = b3 at *
  generalize Y4 [] props = e at *
  by_cases q1 : id ≤ pid
  ·rw [if_pos q1]
   refine X0 ?_; refine JR ?_; refine ZA (γ := 100) ?_; refine Z0 ?_; refine JD ?_; refine X0 ?_; refine JR ?_; refine ZB ?_; refine ZC ?_; refine Z1 ?_; refine Zj ?_; refine ZK ?_; refine Zw (γ := 101) ?_
   refine Zy ?_; refine JD ?_; refine X0 ?_; refine X0 ?_; refine JR ?_; refine Z1 ?_; refine Zs ?_; refine Z1 ?_; refine ZB ?_; refine ZC ?_; refine ZB ?_; refine ZC ?_; refine Z1 ?_
   refine Z4 (op := .sub) (r' := .int .i64 ((j : Nat) : Int)) (u := .int .i64 ((j + 1 : Nat) : Int)) (v := .int .i64 1) ?_ (hr' := by exact congrArg (Value.int .i64) (show (((j + 1 : Nat) : Int) - 1) = (j : Int) by omega)) (hr := by exact XJ (by unfold XB; omega))
   refine Zj ?_; refine ZN ?_; refine Zk ?_; refine Zm ?_; refine Zn ?_; refine JD ?_; refine JT ?_; refine X0 ?_; refine JR ?_; refine Z0 ?_; refine JD ?_
   exact X1 ⟨_, St.le_refl _, ⟨rfl, trivial⟩, X2 _⟩
  rw [if_neg q1]
  by_cases q2 : id < 1
  ·rw [if_pos (show id < 1 ∨ ne ≤ id from .inl q2)]
   refine X0 ?_; refine JR ?_; refine ZA (γ := 100) ?_; refine Z0 ?_; refine JD ?_; refine X0 ?_; refine JR ?_; refine ZB ?_; refine ZC ?_; refine Z1 ?_; refine Zj ?_; refine ZK ?_; refine Zw (γ := 101) ?_
   refine Zy ?_; refine JD ?_; refine X0 ?_; refine X0 ?_; refine JR ?_; refine Z1 ?_; refine Zs ?_; refine Z1 ?_; refine ZB ?_; refine ZC ?_; refine ZB ?_; refine ZC ?_; refine Z1 ?_
   refine Z4 (op := .sub) (r' := .int .i64 ((j : Nat) : Int)) (u := .int .i64 ((j + 1 : Nat) : Int)) (v := .int .i64 1) ?_ (hr' := by exact congrArg (Value.int .i64) (show (((j + 1 : Nat) : Int) - 1) = (j : Int) by omega)) (hr := by exact XJ (by unfold XB; omega))
   refine Zj ?_; refine ZN ?_; refine Zk ?_; refine Zm ?_; refine Zn ?_; refine JD ?_; refine JF ?_; refine X3 ?_; refine X0 ?_; refine X0 ?_; refine JR ?_; refine ZB ?_; refine ZC ?_; refine Z8 ?_
   refine Z1 ?_; refine Zo ?_; refine Zo ?_; refine Zo ?_; refine Zo ?_; refine Zo ?_; refine Zn ?_; refine JD ?_; refine JT ?_; refine X0 ?_; refine JR ?_; refine Z0 ?_; refine JD ?_
   exact X1 ⟨_, St.le_refl _, ⟨rfl, trivial⟩, X2 _⟩
  by_cases q3 : ne ≤ id
  ·rw [if_pos (show id < 1 ∨ ne ≤ id from .inr q3)]
   refine X0 ?_; refine JR ?_; refine ZA (γ := 100) ?_; refine Z0 ?_; refine JD ?_; refine X0 ?_; refine JR ?_; refine ZB ?_; refine ZC ?_; refine Z1 ?_; refine Zj ?_; refine ZK ?_; refine Zw (γ := 101) ?_
   refine Zy ?_; refine JD ?_; refine X0 ?_; refine X0 ?_; refine JR ?_; refine Z1 ?_; refine Zs ?_; refine Z1 ?_; refine ZB ?_; refine ZC ?_; refine ZB ?_; refine ZC ?_; refine Z1 ?_
   refine Z4 (op := .sub) (r' := .int .i64 ((j : Nat) : Int)) (u := .int .i64 ((j + 1 : Nat) : Int)) (v := .int .i64 1) ?_ (hr' := by exact congrArg (Value.int .i64) (show (((j + 1 : Nat) : Int) - 1) = (j : Int) by omega)) (hr := by exact XJ (by unfold XB; omega))
   refine Zj ?_; refine ZN ?_; refine Zk ?_; refine Zm ?_; refine Zn ?_; refine JD ?_; refine JF ?_; refine X3 ?_; refine X0 ?_; refine X0 ?_; refine JR ?_; refine ZB ?_; refine ZC ?_; refine Z8 ?_
   refine Z1 ?_; refine ZB ?_; refine ZC ?_; refine ZB ?_; refine ZC ?_; refine Z2 ?_; refine Zq ?_; refine JD ?_; refine JT ?_; refine X0 ?_; refine JR ?_; refine Z0 ?_; refine JD ?_
   exact X1 ⟨_, St.le_refl _, ⟨rfl, trivial⟩, X2 _⟩
  rw [if_neg (show ¬ (id < 1 ∨ ne ≤ id) from fun h => h.elim q2 q3)]
  cases b1 with
  | false =>
   rw [if_pos (show false = false ∨ b2 = false from .inl rfl)]
   refine X0 ?_; refine JR ?_; refine ZA (γ := 100) ?_; refine Z0 ?_; refine JD ?_; refine X0 ?_; refine JR ?_; refine ZB ?_; refine ZC ?_; refine Z1 ?_; refine Zj ?_; refine ZK ?_; refine Zw (γ := 101) ?_
   refine Zy ?_; refine JD ?_; refine X0 ?_; refine X0 ?_; refine JR ?_; refine Z1 ?_; refine Zs ?_; refine Z1 ?_; refine ZB ?_; refine ZC ?_; refine ZB ?_; refine ZC ?_; refine Z1 ?_
   refine Z4 (op := .sub) (r' := .int .i64 ((j : Nat) : Int)) (u := .int .i64 ((j + 1 : Nat) : Int)) (v := .int .i64 1) ?_ (hr' := by exact congrArg (Value.int .i64) (show (((j + 1 : Nat) : Int) - 1) = (j : Int) by omega)) (hr := by exact XJ (by unfold XB; omega))
   refine Zj ?_; refine ZN ?_; refine Zk ?_; refine Zm ?_; refine Zn ?_; refine JD ?_; refine JF ?_; refine X3 ?_; refine X0 ?_; refine X0 ?_; refine JR ?_; refine ZB ?_; refine ZC ?_; refine Z8 ?_
   refine Z1 ?_; refine ZB ?_; refine ZC ?_; refine ZB ?_; refine ZC ?_; refine Z2 ?_; refine Zq ?_; refine JD ?_; refine JF ?_; refine X3 ?_; refine X0 ?_; refine JR ?_; refine ZL ?_; refine ZB ?_; refine ZC ?_
   refine Z9 (hcon := hs1) ?_; refine Z1 ?_; refine ZF ?_; refine ZF ?_; refine Zw (γ := 102) ?_; refine Zy ?_; refine Z0 ?_; refine JD ?_; refine X0 ?_; refine JR ?_; refine ZL ?_; refine ZB ?_; refine ZC ?_
   refine Z9 (hcon := hs2) ?_; refine Z1 ?_; refine ZF ?_; refine ZF ?_; refine Zw (γ := 103) ?_; refine Zy ?_; refine Z0 ?_; refine JD ?_; refine X0 ?_; refine X0 ?_; refine JR ?_; refine Z1 ?_; refine Zu ?_
   refine Z1 ?_; refine Zo ?_; refine Zo ?_; refine Zn ?_; refine JD ?_; refine JT ?_; refine X0 ?_; refine JR ?_; refine Z0 ?_; refine JD ?_
   exact X1 ⟨_, St.le_refl _, ⟨rfl, trivial⟩, X2 _⟩
  | true =>
   cases b2 with
   | false =>
    rw [if_pos (show true = false ∨ false = false from .inr rfl)]
    refine X0 ?_; refine JR ?_; refine ZA (γ := 100) ?_; refine Z0 ?_; refine JD ?_; refine X0 ?_; refine JR ?_; refine ZB ?_; refine ZC ?_; refine Z1 ?_; refine Zj ?_; refine ZK ?_; refine Zw (γ := 101) ?_
    refine Zy ?_; refine JD ?_; refine X0 ?_; refine X0 ?_; refine JR ?_; refine Z1 ?_; refine Zs ?_; refine Z1 ?_; refine ZB ?_; refine ZC ?_; refine ZB ?_; refine ZC ?_; refine Z1 ?_
    refine Z4 (op := .sub) (r' := .int .i64 ((j : Nat) : Int)) (u := .int .i64 ((j + 1 : Nat) : Int)) (v := .int .i64 1) ?_ (hr' := by exact congrArg (Value.int .i64) (show (((j + 1 : Nat) : Int) - 1) = (j : Int) by omega)) (hr := by exact XJ (by unfold XB; omega))
    refine Zj ?_; refine ZN ?_; refine Zk ?_; refine Zm ?_; refine Zn ?_; refine JD ?_; refine JF ?_; refine X3 ?_; refine X0 ?_; refine X0 ?_; refine JR ?_; refine ZB ?_; refine ZC ?_; refine Z8 ?_
    refine Z1 ?_; refine ZB ?_; refine ZC ?_; refine ZB ?_; refine ZC ?_; refine Z2 ?_; refine Zq ?_; refine JD ?_; refine JF ?_; refine X3 ?_; refine X0 ?_; refine JR ?_; refine ZL ?_; refine ZB ?_; refine ZC ?_
    refine Z9 (hcon := hs1) ?_; refine Z1 ?_; refine ZF ?_; refine ZF ?_; refine Zw (γ := 102) ?_; refine Zy ?_; refine Z0 ?_; refine JD ?_; refine X0 ?_; refine JR ?_; refine ZL ?_; refine ZB ?_; refine ZC ?_
    refine Z9 (hcon := hs2) ?_; refine Z1 ?_; refine ZF ?_; refine ZF ?_; refine Zw (γ := 103) ?_; refine Zy ?_; refine Z0 ?_; refine JD ?_; refine X0 ?_; refine X0 ?_; refine JR ?_; refine Z1 ?_; refine Zu ?_
    refine Z1 ?_; refine Z1 ?_; refine Zu ?_; refine Zq ?_; refine JD ?_; refine JT ?_; refine X0 ?_; refine JR ?_; refine Z0 ?_; refine JD ?_
    exact X1 ⟨_, St.le_refl _, ⟨rfl, trivial⟩, X2 _⟩
   | true =>
    rw [if_neg (show ¬ (true = false ∨ true = false) by simp)]
    cases b3 with
    | false =>
     rw [if_pos (show false = false from rfl)]
     refine X0 ?_; refine JR ?_; refine ZA (γ := 100) ?_; refine Z0 ?_; refine JD ?_; refine X0 ?_; refine JR ?_; refine ZB ?_; refine ZC ?_; refine Z1 ?_; refine Zj ?_; refine ZK ?_; refine Zw (γ := 101) ?_
     refine Zy ?_; refine JD ?_; refine X0 ?_; refine X0 ?_; refine JR ?_; refine Z1 ?_; refine Zs ?_; refine Z1 ?_; refine ZB ?_; refine ZC ?_; refine ZB ?_; refine ZC ?_; refine Z1 ?_
     refine Z4 (op := .sub) (r' := .int .i64 ((j : Nat) : Int)) (u := .int .i64 ((j + 1 : Nat) : Int)) (v := .int .i64 1) ?_ (hr' := by exact congrArg (Value.int .i64) (show (((j + 1 : Nat) : Int) - 1) = (j : Int) by omega)) (hr := by exact XJ (by unfold XB; omega))
     refine Zj ?_; refine ZN ?_; refine Zk ?_; refine Zm ?_; refine Zn ?_; refine JD ?_; refine JF ?_; refine X3 ?_; refine X0 ?_; refine X0 ?_; refine JR ?_; refine ZB ?_; refine ZC ?_; refine Z8 ?_
     refine Z1 ?_; refine ZB ?_; refine ZC ?_; refine ZB ?_; refine ZC ?_; refine Z2 ?_; refine Zq ?_; refine JD ?_; refine JF ?_; refine X3 ?_; refine X0 ?_; refine JR ?_; refine ZL ?_; refine ZB ?_; refine ZC ?_
     refine Z9 (hcon := hs1) ?_; refine Z1 ?_; refine ZF ?_; refine ZF ?_; refine Zw (γ := 102) ?_; refine Zy ?_; refine Z0 ?_; refine JD ?_; refine X0 ?_; refine JR ?_; refine ZL ?_; refine ZB ?_; refine ZC ?_
     refine Z9 (hcon := hs2) ?_; refine Z1 ?_; refine ZF ?_; refine ZF ?_; refine Zw (γ := 103) ?_; refine Zy ?_; refine Z0 ?_; refine JD ?_; refine X0 ?_; refine X0 ?_; refine JR ?_; refine Z1 ?_; refine Zu ?_
     refine Z1 ?_; refine Z1 ?_; refine Zu ?_; refine Zq ?_; refine JD ?_; refine JF ?_; refine X3 ?_; refine X0 ?_; refine X0 ?_; refine JR ?_; refine ZB ?_; refine ZC ?_; refine Z9 (hcon := hnm) ?_
     refine Zu ?_; refine JD ?_; refine JT ?_; refine X0 ?_; refine JR ?_; refine Z0 ?_; refine JD ?_
     exact X1 ⟨_, St.le_refl _, ⟨rfl, trivial⟩, X2 _⟩
    | true =>
     rw [if_neg (show ¬ true = false by simp)]
     refine X0 ?_; refine JR ?_; refine ZA (γ := 100) ?_; refine Z0 ?_; refine JD ?_; refine X0 ?_; refine JR ?_; refine ZB ?_; refine ZC ?_; refine Z1 ?_; refine Zj ?_; refine ZK ?_; refine Zw (γ := 101) ?_
     refine Zy ?_; refine JD ?_; refine X0 ?_; refine X0 ?_; refine JR ?_; refine Z1 ?_; refine Zs ?_; refine Z1 ?_; refine ZB ?_; refine ZC ?_; refine ZB ?_; refine ZC ?_; refine Z1 ?_
     refine Z4 (op := .sub) (r' := .int .i64 ((j : Nat) : Int)) (u := .int .i64 ((j + 1 : Nat) : Int)) (v := .int .i64 1) ?_ (hr' := by exact congrArg (Value.int .i64) (show (((j + 1 : Nat) : Int) - 1) = (j : Int) by omega)) (hr := by exact XJ (by unfold XB; omega))
     refine Zj ?_; refine ZN ?_; refine Zk ?_; refine Zm ?_; refine Zn ?_; refine JD ?_; refine JF ?_; refine X3 ?_; refine X0 ?_; refine X0 ?_; refine JR ?_; refine ZB ?_; refine ZC ?_; refine Z8 ?_
     refine Z1 ?_; refine ZB ?_; refine ZC ?_; refine ZB ?_; refine ZC ?_; refine Z2 ?_; refine Zq ?_; refine JD ?_; refine JF ?_; refine X3 ?_; refine X0 ?_; refine JR ?_; refine ZL ?_; refine ZB ?_; refine ZC ?_
     refine Z9 (hcon := hs1) ?_; refine Z1 ?_; refine ZF ?_; refine ZF ?_; refine Zw (γ := 102) ?_; refine Zy ?_; refine Z0 ?_; refine JD ?_; refine X0 ?_; refine JR ?_; refine ZL ?_; refine ZB ?_; refine ZC ?_
     refine Z9 (hcon := hs2) ?_; refine Z1 ?_; refine ZF ?_; refine ZF ?_; refine Zw (γ := 103) ?_; refine Zy ?_; refine Z0 ?_; refine JD ?_; refine X0 ?_; refine X0 ?_; refine JR ?_; refine Z1 ?_; refine Zu ?_
     refine Z1 ?_; refine Z1 ?_; refine Zu ?_; refine Zq ?_; refine JD ?_; refine JF ?_; refine X3 ?_; refine X0 ?_; refine X0 ?_; refine JR ?_; refine ZB ?_; refine ZC ?_; refine Z9 (hcon := hnm) ?_
     refine Zu ?_; refine JD ?_; refine JF ?_; refine X3 ?_; refine X0 ?_; refine JR ?_; refine ZB ?_; refine ZC ?_; refine Z9 (hcon := hpc) ?_; refine Z0 ?_; refine JD ?_
     exact X1 ⟨_, St.le_refl _, ⟨rfl, trivial⟩, X2 _⟩
theorem X9x (g : Gra) (hok : GraHold g) : Con Tryz.prog 30 [] [Xr g] [] (ai (Yc g)) := by
 obtain ⟨ns, es, nn, ne⟩ := g
 obtain ⟨hnl, hel, hnh, heh⟩ := hok
 simp only at hnl hel hnh heh
 unfold Xr
 simp only
 refine Xa (xs := [ai (Yc ⟨ns, es, nn, ne⟩)]) Tryz.func30 rfl Tryz.ntmps30 rfl rfl rfl (fun E => ?_)
 have hlm : (ns.map X8).length = ns.length := by simp
 have hle : (es.map Xg).length = es.length := by simp
 by_cases h1 : 2000 < ns.length
 ·rw [X0X (.inl h1)]
  have h1' : (2000 : Int) < (ns.map X8).length := by omega
  refine X0 ?_; refine JR ?_; refine ZA (γ := 100) ?_; refine Z0 ?_; refine JD ?_; refine X0 ?_; refine X0 ?_; refine JR ?_; refine ZB ?_; refine ZC ?_; refine Zd ?_; refine Zs ?_; refine Z1 ?_; refine Zo ?_
  refine Zo ?_; refine Zo ?_; refine Zo ?_; refine Zn ?_; refine JD ?_; refine JT ?_; refine X0 ?_; refine JR ?_; refine Z0 ?_; refine JD ?_
  exact X1 ⟨_, St.le_refl _, ⟨rfl, trivial⟩, X2 _⟩
 have h1' : ¬ (2000 : Int) < (ns.map X8).length := by omega
 by_cases h2 : 4000 < es.length
 ·rw [X0X (.inr h2)]
  have h2' : (4000 : Int) < (es.map Xg).length := by omega
  refine X0 ?_; refine JR ?_; refine ZA (γ := 100) ?_; refine Z0 ?_; refine JD ?_; refine X0 ?_; refine X0 ?_; refine JR ?_; refine ZB ?_; refine ZC ?_; refine Zd ?_; refine Zs ?_; refine Z1 ?_; refine ZB ?_
  refine ZC ?_; refine Zd ?_; refine Zs ?_; refine Zq ?_; refine JD ?_; refine JT ?_; refine X0 ?_; refine JR ?_; refine Z0 ?_; refine JD ?_
  exact X1 ⟨_, St.le_refl _, ⟨rfl, trivial⟩, X2 _⟩
 have h2' : ¬ (4000 : Int) < (es.map Xg).length := by omega
 by_cases a1 : nn < 1
 ·rw [Vq h1 h2 (.inl a1)]
  refine X0 ?_; refine JR ?_; refine ZA (γ := 100) ?_; refine Z0 ?_; refine JD ?_; refine X0 ?_; refine X0 ?_; refine JR ?_; refine ZB ?_; refine ZC ?_; refine Zd ?_; refine Zs ?_; refine Z1 ?_; refine ZB ?_
  refine ZC ?_; refine Zd ?_; refine Zs ?_; refine Zq ?_; refine JD ?_; refine JF ?_; refine X3 ?_; refine X0 ?_; refine X0 ?_; refine JR ?_; refine ZB ?_; refine ZC ?_; refine Z8 ?_; refine Z1 ?_
  refine Zo ?_; refine Zo ?_; refine Zo ?_; refine Zn ?_; refine Z1 ?_; refine Zo ?_; refine Zo ?_; refine Zo ?_; refine Zn ?_; refine Z1 ?_; refine Zo ?_; refine Zo ?_; refine Zo ?_; refine Zn ?_; refine JD ?_
  refine JT ?_; refine X0 ?_; refine JR ?_; refine Z0 ?_; refine JD ?_
  exact X1 ⟨_, St.le_refl _, ⟨rfl, trivial⟩, X2 _⟩
 by_cases a2 : 1000001 < nn
 ·rw [Vq h1 h2 (.inr (.inl a2))]
  refine X0 ?_; refine JR ?_; refine ZA (γ := 100) ?_; refine Z0 ?_; refine JD ?_; refine X0 ?_; refine X0 ?_; refine JR ?_; refine ZB ?_; refine ZC ?_; refine Zd ?_; refine Zs ?_; refine Z1 ?_; refine ZB ?_
  refine ZC ?_; refine Zd ?_; refine Zs ?_; refine Zq ?_; refine JD ?_; refine JF ?_; refine X3 ?_; refine X0 ?_; refine X0 ?_; refine JR ?_; refine ZB ?_; refine ZC ?_; refine Z8 ?_; refine Z1 ?_
  refine ZB ?_; refine ZC ?_; refine Zs ?_; refine Zq ?_; refine Z1 ?_; refine Zo ?_; refine Zo ?_; refine Zo ?_; refine Zn ?_; refine Z1 ?_; refine Zo ?_; refine Zo ?_; refine Zo ?_; refine Zn ?_; refine JD ?_
  refine JT ?_; refine X0 ?_; refine JR ?_; refine Z0 ?_; refine JD ?_
  exact X1 ⟨_, St.le_refl _, ⟨rfl, trivial⟩, X2 _⟩
 by_cases a3 : ne < 1
 ·rw [Vq h1 h2 (.inr (.inr (.inl a3)))]
  refine X0 ?_; refine JR ?_; refine ZA (γ := 100) ?_; refine Z0 ?_; refine JD ?_; refine X0 ?_; refine X0 ?_; refine JR ?_; refine ZB ?_; refine ZC ?_; refine Zd ?_; refine Zs ?_; refine Z1 ?_; refine ZB ?_
  refine ZC ?_; refine Zd ?_; refine Zs ?_; refine Zq ?_; refine JD ?_; refine JF ?_; refine X3 ?_; refine X0 ?_; refine X0 ?_; refine JR ?_; refine ZB ?_; refine ZC ?_; refine Z8 ?_; refine Z1 ?_
  refine ZB ?_; refine ZC ?_; refine Zs ?_; refine Zq ?_; refine Z1 ?_; refine ZB ?_; refine ZC ?_; refine Z8 ?_; refine Zq ?_; refine Z1 ?_; refine Zo ?_; refine Zo ?_; refine Zo ?_; refine Zn ?_; refine JD ?_
  refine JT ?_; refine X0 ?_; refine JR ?_; refine Z0 ?_; refine JD ?_
  exact X1 ⟨_, St.le_refl _, ⟨rfl, trivial⟩, X2 _⟩
 by_cases a4 : 1000001 < ne
 ·rw [Vq h1 h2 (.inr (.inr (.inr a4)))]
  refine X0 ?_; refine JR ?_; refine ZA (γ := 100) ?_; refine Z0 ?_; refine JD ?_; refine X0 ?_; refine X0 ?_; refine JR ?_; refine ZB ?_; refine ZC ?_; refine Zd ?_; refine Zs ?_; refine Z1 ?_; refine ZB ?_
  refine ZC ?_; refine Zd ?_; refine Zs ?_; refine Zq ?_; refine JD ?_; refine JF ?_; refine X3 ?_; refine X0 ?_; refine X0 ?_; refine JR ?_; refine ZB ?_; refine ZC ?_; refine Z8 ?_; refine Z1 ?_
  refine ZB ?_; refine ZC ?_; refine Zs ?_; refine Zq ?_; refine Z1 ?_; refine ZB ?_; refine ZC ?_; refine Z8 ?_; refine Zq ?_; refine Z1 ?_; refine ZB ?_; refine ZC ?_; refine Zs ?_; refine Zq ?_; refine JD ?_
  refine JT ?_; refine X0 ?_; refine JR ?_; refine Z0 ?_; refine JD ?_
  exact X1 ⟨_, St.le_refl _, ⟨rfl, trivial⟩, X2 _⟩
 rw [X5o h1 h2 a1 a2 a3 a4]
 generalize hN : Yl nn none ns = N
 generalize hM : Ua ns ne none es = M
 refine X0 ?_; refine JR ?_; refine ZA (γ := 100) ?_; refine Z0 ?_; refine JD ?_; refine X0 ?_; refine X0 ?_; refine JR ?_; refine ZB ?_; refine ZC ?_; refine Zd ?_; refine Zs ?_; refine Z1 ?_; refine ZB ?_
 refine ZC ?_; refine Zd ?_; refine Zs ?_; refine Zq ?_; refine JD ?_; refine JF ?_; refine X3 ?_; refine X0 ?_; refine X0 ?_; refine JR ?_; refine ZB ?_; refine ZC ?_; refine Z8 ?_; refine Z1 ?_
 refine ZB ?_; refine ZC ?_; refine Zs ?_; refine Zq ?_; refine Z1 ?_; refine ZB ?_; refine ZC ?_; refine Z8 ?_; refine Zq ?_; refine Z1 ?_; refine ZB ?_; refine ZC ?_; refine Zs ?_; refine Zq ?_; refine JD ?_
 refine JF ?_; refine X3 ?_; refine X0 ?_; refine X0 ?_; refine JR ?_; refine Z0 ?_; refine JD ?_; refine X4 ?_
 refine Xt (fun i : Nat => i ≤ ns.length ∧ Yl nn (XF ns i) (ns.drop i) = N) (fun i => ⟨61, [(1, .ptr 100 0), (3, ai i)], [(100, .box [.d (.sl 3 (ns.map X8)), .d (.sl 5 (es.map Xg)), ai nn, ai ne])]⟩) (fun i => ns.length - i) 0 ⟨Nat.zero_le _, by simpa [XF] using hN⟩
  (X6 rfl JM ⟨rfl, trivial⟩) ?_
 rintro i ⟨hi, hg⟩
 by_cases hil : i < ns.length
 case pos =>
  have hn : (i : Int) < (ns.map X8).length := by omega
  obtain ⟨x, hx⟩ := Xm (l := ns) hil
  have hc := X7C ns es nn ne hnh hnl i x hx
  rw [X44 hx] at hg
  generalize YF nn (XF ns i) x = e at *
  by_cases he : e = 0
  ·subst he
   rw [if_neg (by simp)] at hg
   refine X0 ?_; refine X0 ?_; refine JR ?_; refine Z1 ?_; refine ZB ?_; refine ZC ?_; refine Zd ?_; refine Z8 ?_; refine JD ?_; refine JT ?_; refine X3 ?_; refine X0 ?_; refine X4 ?_
   refine X0 ?_; refine JR ?_; refine ZL ?_; refine Z1 ?_; refine Z9 (hcon := hc) ?_; refine Z0 ?_; refine JD ?_; refine X0 ?_; refine JR ?_; refine Z1 ?_; refine Zv ?_; refine JD ?_; refine JF ?_
   refine X3 ?_; refine JR ?_; refine Z1 ?_; refine Zb ?_; refine Z0 ?_; refine JD ?_
   exact ⟨i + 1, ⟨by omega, hg⟩, by omega, X6 rfl JM ⟨rfl, trivial⟩⟩
  ·rw [if_pos he] at hg
   subst hg
   rw [if_pos he]
   refine X0 ?_; refine X0 ?_; refine JR ?_; refine Z1 ?_; refine ZB ?_; refine ZC ?_; refine Zd ?_; refine Z8 ?_; refine JD ?_; refine JT ?_; refine X3 ?_; refine X0 ?_; refine X4 ?_
   refine X0 ?_; refine JR ?_; refine ZL ?_; refine Z1 ?_; refine Z9 (hcon := hc) ?_; refine Z0 ?_; refine JD ?_; refine X0 ?_; refine JR ?_; refine Z1 ?_; refine Zv ?_; refine JD ?_; refine JT ?_
   refine X0 ?_; refine JR ?_; refine Z1 ?_; refine Z0 ?_; refine JD ?_
   exact X1 ⟨_, St.le_refl _, ⟨rfl, trivial⟩, X2 _⟩
 obtain rfl : i = ns.length := by omega
 have hn : ¬ ((ns.length : Nat) : Int) < (ns.map X8).length := by omega
 rw [List.drop_length, Yl] at hg
 subst hg
 rw [if_neg (by simp)]
 refine X0 ?_; refine X0 ?_; refine JR ?_; refine Z1 ?_; refine ZB ?_; refine ZC ?_; refine Zd ?_; refine Z8 ?_; refine JD ?_; refine JF ?_; refine Xp ?_; refine X0 ?_; refine X0 ?_; refine JR ?_
 refine Z0 ?_; refine JD ?_; refine X4 ?_
 refine Xt (fun i : Nat => i ≤ es.length ∧ Ua ns ne (XF es i) (es.drop i) = M) (fun i => ⟨61, [(1, .ptr 100 0), (5, ai i)], [(100, .box [.d (.sl 3 (ns.map X8)), .d (.sl 5 (es.map Xg)), ai nn, ai ne])]⟩) (fun i => es.length - i) 0 ⟨Nat.zero_le _, by simpa [XF] using hM⟩
  (X6 rfl JM ⟨rfl, trivial⟩) ?_
 clear hi hil hn
 rintro i ⟨hi, hg⟩
 by_cases hil : i < es.length
 case neg =>
  obtain rfl : i = es.length := by omega
  have hn : ¬ ((es.length : Nat) : Int) < (es.map Xg).length := by omega
  rw [List.drop_length, Ua] at hg
  subst hg
  refine X0 ?_; refine X0 ?_; refine JR ?_; refine Z1 ?_; refine ZB ?_; refine ZC ?_; refine Zd ?_; refine Z8 ?_; refine JD ?_; refine JF ?_; refine Xp ?_; refine X0 ?_; refine JR ?_; refine Z0 ?_
  refine JD ?_
  exact X1 ⟨_, St.le_refl _, ⟨rfl, trivial⟩, X2 _⟩
 have hn : (i : Int) < (es.map Xg).length := by omega
 obtain ⟨x, hx⟩ := Xm (l := es) hil
 have hc := Xa5 ns es nn ne heh hnl hel i x hx
 rw [X5j hx] at hg
 generalize U8 ns ne (XF es i) x = e at *
 by_cases he : e = 0
 ·subst he
  rw [if_neg (by simp)] at hg
  refine X0 ?_; refine X0 ?_; refine JR ?_; refine Z1 ?_; refine ZB ?_; refine ZC ?_; refine Zd ?_; refine Z8 ?_; refine JD ?_; refine JT ?_; refine X3 ?_; refine X0 ?_; refine X4 ?_
  refine X0 ?_; refine JR ?_; refine ZL ?_; refine Z1 ?_; refine Z9 (hcon := hc) ?_; refine Z0 ?_; refine JD ?_; refine X0 ?_; refine JR ?_; refine Z1 ?_; refine Zv ?_; refine JD ?_; refine JF ?_
  refine X3 ?_; refine JR ?_; refine Z1 ?_; refine Zb ?_; refine Z0 ?_; refine JD ?_
  exact ⟨i + 1, ⟨by omega, hg⟩, by omega, X6 rfl JM ⟨rfl, trivial⟩⟩
 ·rw [if_pos he] at hg
  subst hg
  refine X0 ?_; refine X0 ?_; refine JR ?_; refine Z1 ?_; refine ZB ?_; refine ZC ?_; refine Zd ?_; refine Z8 ?_; refine JD ?_; refine JT ?_; refine X3 ?_; refine X0 ?_; refine X4 ?_
  refine X0 ?_; refine JR ?_; refine ZL ?_; refine Z1 ?_; refine Z9 (hcon := hc) ?_; refine Z0 ?_; refine JD ?_; refine X0 ?_; refine JR ?_; refine Z1 ?_; refine Zv ?_; refine JD ?_; refine JT ?_
  refine X0 ?_; refine JR ?_; refine Z1 ?_; refine Z0 ?_; refine JD ?_
  exact X1 ⟨_, St.le_refl _, ⟨rfl, trivial⟩, X2 _⟩
end Go.Fw
