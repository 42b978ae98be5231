/- Nil as a slice of nothing, inside data. -/
import Derived.OpenShut
import Derived.Deep.Slices
import Derived.Deep.Strs
import Derived.KernelRfl
import Derived.Test.YtbhleedlnaakkaaGreatG25
set_option maxHeartbeats 32000000
namespace Go.Fw
open Go
set_option linter.unusedVariables false
section
variable {P : Program} {E : Env} {S : St}
theorem XgM {x : Code} {Q : Exit → St → Prop} (U : St) (h : AWP P E x S (X2H (fun T => T.le U) Q)) (k : ∀ T, T.le U → Q .normal T) : AWP P E x S Q :=
 X5A h fun e T hq => by
  cases e with
  | normal => exact k T hq
  | _ => exact hq
end
end Go.Fw
namespace Go.Fw
open Go Go.ChangeShapes Go.WideShapes Go.Deep
set_option linter.unusedVariables false
theorem X6a {M : Mem} : ∀ {ds es : List D} {us vs : List Value}, YP M ds us → YP M es vs → YP M (ds ++ es) (us ++ vs)
 | [], _, [], _, _, h => h
 | [], _, _ :: _, _, h, _ => by simp only [YP] at h
 | _ :: _, _, [], _, h, _ => by simp only [YP] at h
 | d :: ds, es, u :: us, vs, h, k => by
  simp only [YP, List.cons_append] at h ⊢
  exact ⟨h.1, X6a h.2 k⟩
section
variable {H : Type} {enc : TypeId × Value → H} {P : Program} {W : World}
theorem X06 {t : TypeId} (ht : P.underlying t = some (.int .i64)) : Opens enc P W t (fun n : Int => -9223372036854775808 ≤ n ∧ n ≤ 9223372036854775807) (fun n => [.v (.int .i64 n)]) :=
 (Xa2 ht).to id fun a ha => ⟨bounds_i64 ha, rfl⟩
structure OpensF {α : Type} (enc : TypeId × Value → H) (P : Program) (W : World) (N : Nat) (fs : List Field) (off : Nat) (p : α → Prop) (f : α → List D) : Prop where
 op : ∀ cs : List Value, cs.length = N → (∀ q ∈ fs, ∃ n x, DataW.trod enc P W 0 (fun _ => true) true n q.type ((cs.drop q.offset).take (P.cellsOf q.type)) = some x) → ∃ r, p r ∧ YP W.cell? (f r) (cs.drop off)
theorem X2Z {N : Nat} : OpensF enc P W N [] N (fun _ : Unit => True) (fun _ => []) := by
 refine ⟨fun cs hN _ => ⟨(), trivial, ?_⟩⟩
 rw [List.drop_of_length_le (by omega)]; trivial
theorem UH {α β : Type} {N : Nat} {q : Field} {fs : List Field} {off s : Nat} {p : α → Prop} {f : α → List D} {p' : β → Prop} {f' : β → List D} (hoff : q.offset = off) (hs : P.cellsOf q.type = s)
  (h : Opens enc P W q.type p f) (k : OpensF enc P W N fs (off + s) p' f') : OpensF enc P W N (q :: fs) off (fun r : α × β => p r.1 ∧ p' r.2) (fun r => f r.1 ++ f' r.2) := by
 refine ⟨fun cs hN hall => ?_⟩
 obtain ⟨n, x, hx⟩ := hall q (by simp)
 rw [hoff, hs] at hx
 obtain ⟨r, h1, h2⟩ := h.op _ _ _ hx
 obtain ⟨r', h3, h4⟩ := k.op cs hN fun q' hq' => hall q' (by simp [hq'])
 refine ⟨(r, r'), ⟨h1, h3⟩, ?_⟩
 have := X6a h2 h4
 rwa [← List.drop_drop, List.take_append_drop] at this
theorem X2P {α : Type} {t : TypeId} {fs : Array Field} {N : Nat} {p : α → Prop} {f : α → List D} (ht : P.underlying t = some (.struct fs)) (hN : P.cellsOf t = N) (h : OpensF enc P W N fs.toList 0 p f) : Opens enc P W t p f := by
 refine ⟨fun n cs x hx => ?_⟩
 obtain ⟨xs, n', _, _, hl, hlen, hf⟩ := DataW.trod_struct ht hx
 have := h.op cs (hl.trans hN) fun q hq => by
  obtain ⟨i, hi⟩ := List.getElem?_of_mem hq
  have h1 := hf i q (by simpa using hi)
  have hlt := (List.getElem?_eq_some_iff.1 hi).1
  simp only [Array.length_toList] at hlt
  exact ⟨n', _, h1.trans (List.getElem?_eq_getElem (by omega))⟩
 simpa using this
theorem X6v {α : Type} {t : TypeId} {fs : Array Field} {r : Reach} {b0 : Nat} {v : Value} {d : DataW H} {ps : List MemPlace} {p : α → Prop} {f : α → List D} (ht : P.underlying t = some (.struct fs))
  (hval : Value.okWide P W r b0 t v) (hd : DataW.Trod enc P W 0 (fun _ => true) true t v d ps) (ho : Opens enc P W t p f) : ∃ x, p x ∧ (AVal.agg ((f x).map .d)).sat (g0 W.cell?) v := by
 simp only [Value.okWide, ht] at hval
 obtain ⟨cs, rfl, _, _⟩ := hval
 obtain ⟨n, hn⟩ := hd
 obtain ⟨x, h1, h2⟩ := ho.op _ _ _ hn
 refine ⟨x, h1, ?_⟩
 simp only [AVal.sat]
 exact ⟨cs, rfl, X5v rfl h2⟩
end
end Go.Fw
namespace Go.Fw
open Go Go.ChangeShapes Go.WideShapes Go.Deep
set_option linter.unusedVariables false
section
variable {H : Type} {enc : TypeId × Value → H} {P : Program} {W : World}
theorem Xdi (s : ByteArray) : X5 s.data.toList = s := by
 cases s; simp [X5]
theorem X1g {t : TypeId} (ht : P.underlying t = some .string) : Opens enc P W t (fun s : List UInt8 => s.length ≤ 9223372036854775807) (fun s => [.v (.string (X5 s))]) := by
 refine ⟨fun n cs x hx => ?_⟩
 obtain ⟨s, rfl, _, hl⟩ := DataW.trod_string ht hx
 refine ⟨s.data.toList, by simpa [maxLen] using hl, ?_⟩
 simp only [YP, D.rep, Xdi]
 exact ⟨⟨trivial, rfl⟩, trivial⟩
theorem X24 {α : Type} {t : TypeId} {p : α → Prop} {f : α → List D} (h : ∀ n, OpensN enc P W n t p f) : Opens enc P W t p f := ⟨fun n => (h n).op⟩
theorem X2t {α : Type} {n : Nat} {t e : TypeId} {sz : Nat} {p : α → Prop} {f : α → List D} (ht : P.underlying t = some (.slice e)) (hz : P.cellsOf e = sz) (h0 : 0 < sz) (ho : ∀ m, n = m + 1 → OpensN enc P W m e p f) :
  OpensN enc P W n t (fun l : List α => (∀ r ∈ l, p r) ∧ l.length ≤ 9223372036854775807) (fun l => [.sl sz (l.map f)]) := by
 refine ⟨fun cs x hx => ?_⟩
 rcases DataW.trod_slice ht hx with ⟨rfl, _⟩ | ⟨a, len, cap, elems, rest, n', hn, rfl, _, _, hl, hm, hlen, hel, _, _⟩
 ·refine ⟨[], ⟨by simp, by simp⟩, ?_⟩
  simp only [YP, D.rep, List.map_nil]
  exact ⟨⟨none, 0, rfl, Nat.le_refl _, Nat.zero_le _, .inl trivial⟩, trivial⟩
 have hel' : ∀ i, i < len → ∃ r, p r ∧ (f r).length = sz ∧ ∀ j d, (f r)[j]? = some d → ∃ u, W.cell? ((a.add (i * sz)).add j) = some u ∧ d.rep W.cell? u := by
  intro i hi
  have h0 := hel i hi
  rw [List.getElem?_eq_getElem (by omega)] at h0
  obtain ⟨cs', h1, h2⟩ := Option.bind_eq_some_iff.1 h0
  obtain ⟨r, h3, h4⟩ := (ho n' hn).op _ _ h2
  obtain ⟨_, h5, h6⟩ := World.cells?_some h1
  rw [hz] at h5 h6
  refine ⟨r, h3, by rw [← X5e h4, h5], fun j d hd => ?_⟩
  obtain ⟨u, h7, h8⟩ := X5f h4 j d hd
  have hj : j < sz := by
   have := (List.getElem?_eq_some_iff.1 h7).1
   omega
  exact ⟨u, (h6 j hj).trans h7, h8⟩
 obtain ⟨l, h1, h2⟩ := X59 len hel'
 refine ⟨l, ⟨fun r hr => ?_, by rw [h1]; have hm' : cap ≤ 9223372036854775807 := hm; omega⟩, ?_⟩
 ·obtain ⟨i, hi⟩ := List.getElem?_of_mem hr
  exact (h2 i r hi).1
 simp only [YP, D.rep]
 refine ⟨⟨some a, cap, by rw [List.length_map, h1], by rw [List.length_map, h1]; exact hl, hm, ?_⟩, trivial⟩
 by_cases h00 : len = 0
 ·exact .inl (by rw [List.eq_nil_of_length_eq_zero (h1.trans h00)]; rfl)
 right
 obtain ⟨b, o, sp⟩ := a
 have hsp : sp = none := by
  obtain ⟨r, hr⟩ : ∃ r, l[0]? = some r := ⟨_, List.getElem?_eq_getElem (by omega)⟩
  obtain ⟨_, hlen, hcell⟩ := h2 0 r hr
  obtain ⟨d, hd⟩ : ∃ d, (f r)[0]? = some d := ⟨_, List.getElem?_eq_getElem (by omega)⟩
  obtain ⟨u, hu, _⟩ := hcell 0 d hd
  simpa [Addr.add] using World.cell?_spot hu
 subst hsp
 refine ⟨b, o, rfl, X31 _ _ _ fun i r hr => ?_⟩
 obtain ⟨x, hx, rfl⟩ : ∃ x, l[i]? = some x ∧ f x = r := by simpa using hr
 obtain ⟨_, hlen, hcell⟩ := h2 i x hx
 refine ⟨hlen, X1H _ _ _ fun j d hd => ?_⟩
 obtain ⟨u, hu, hd⟩ := hcell j d hd
 rw [Up, Up] at hu
 exact ⟨u, hu, hd⟩
structure OpensFN {α : Type} (enc : TypeId × Value → H) (P : Program) (W : World) (n : Nat) (N : Nat) (fs : List Field) (off : Nat) (p : α → Prop) (f : α → List D) : Prop where
 op : ∀ cs : List Value, cs.length = N → (∀ q ∈ fs, ∃ x, DataW.trod enc P W 0 (fun _ => true) true n q.type ((cs.drop q.offset).take (P.cellsOf q.type)) = some x) → ∃ r, p r ∧ YP W.cell? (f r) (cs.drop off)
theorem XhD {n N : Nat} : OpensFN enc P W n N [] N (fun _ : Unit => True) (fun _ => []) := by
 refine ⟨fun cs hN _ => ⟨(), trivial, ?_⟩⟩
 rw [List.drop_of_length_le (by omega)]; trivial
theorem X2N {α β : Type} {n N : Nat} {q : Field} {fs : List Field} {off s : Nat} {p : α → Prop} {f : α → List D} {p' : β → Prop} {f' : β → List D} (hoff : q.offset = off) (hs : P.cellsOf q.type = s)
  (h : OpensN enc P W n q.type p f) (k : OpensFN enc P W n N fs (off + s) p' f') : OpensFN enc P W n N (q :: fs) off (fun r : α × β => p r.1 ∧ p' r.2) (fun r => f r.1 ++ f' r.2) := by
 refine ⟨fun cs hN hall => ?_⟩
 obtain ⟨x, hx⟩ := hall q (by simp)
 rw [hoff, hs] at hx
 obtain ⟨r, h1, h2⟩ := h.op _ _ hx
 obtain ⟨r', h3, h4⟩ := k.op cs hN fun q' hq' => hall q' (by simp [hq'])
 refine ⟨(r, r'), ⟨h1, h3⟩, ?_⟩
 have := X6a h2 h4
 rwa [← List.drop_drop, List.take_append_drop] at this
theorem Xek {α : Type} {n : Nat} {t : TypeId} {fs : Array Field} {N : Nat} {p : α → Prop} {f : α → List D} (ht : P.underlying t = some (.struct fs)) (hN : P.cellsOf t = N) (h : ∀ m, n = m + 1 → OpensFN enc P W m N fs.toList 0 p f) : OpensN enc P W n t p f := by
 refine ⟨fun cs x hx => ?_⟩
 obtain ⟨xs, n', hn, _, hl, hlen, hf⟩ := DataW.trod_struct ht hx
 have := (h n' hn).op cs (hl.trans hN) fun q hq => by
  obtain ⟨i, hi⟩ := List.getElem?_of_mem hq
  have h1 := hf i q (by simpa using hi)
  have hlt := (List.getElem?_eq_some_iff.1 hi).1
  simp only [Array.length_toList] at hlt
  exact ⟨_, h1.trans (List.getElem?_eq_getElem (by omega))⟩
 simpa using this
end
end Go.Fw
namespace Go.Fw
open Go Go.Proofs
set_option maxRecDepth 100000
set_option linter.unusedVariables false
set_option linter.unusedSimpArgs false
mutual
def V7 : Nat → Val → Int → Int
 | dp, .mk k n d s l, left => if dp = 0 then -1 else Vl (dp - 1) l (left - 1 - (s.length / 50 : Nat))
def Vl : Nat → List Val → Int → Int
 | _, [], left => left
 | dp, x :: r, left => if left < 0 then left else Vl dp r (V7 dp x left)
end
theorem Xhn {dp : Nat} {l : List Val} {left : Int} (h : left < 0) : Vl dp l left = left := by
 cases l with
 | nil => rw [Vl]
 | cons x r => rw [Vl, if_pos h]
theorem X55 {dp : Nat} : ∀ {l : List Val} {left : Int}, -400000000000000000 ≤ left → left ≤ 1000000 → (∀ x ∈ l, ∀ q : Int, 0 ≤ q → q ≤ 1000000 → -400000000000000000 ≤ V7 dp x q ∧ V7 dp x q ≤ 1000000) → -400000000000000000 ≤ Vl dp l left ∧ Vl dp l left ≤ 1000000
 | [], left, h1, h2, _ => by rw [Vl]; exact ⟨h1, h2⟩
 | x :: r, left, h1, h2, hx => by
  rw [Vl]
  split
  ·exact ⟨h1, h2⟩
  ·have := hx x (by simp) left (by omega) h2
   exact X55 this.1 this.2 fun y hy => hx y (by simp [hy])
theorem X6L : ∀ (v : Val) (dp : Nat) (left : Int), XY v → 0 ≤ left → left ≤ 1000000 → -400000000000000000 ≤ V7 dp v left ∧ V7 dp v left ≤ 1000000
 | .mk k n d s l, dp, left, hok, h1, h2 => by
  rw [XY] at hok
  rw [V7]
  split
  ·omega
  ·exact X55 (by omega) (by omega) fun x hx q q1 q2 => X6L x (dp - 1) q (X1p hok.2.2 hx) q1 q2
termination_by v => SizeOf.sizeOf v
decreasing_by
 have h1 := List.sizeOf_lt_of_mem (show x ∈ l from hx)
 simp only [Val.mk.sizeOf_spec]
 omega
def X7e (v : Val) : Prop := ∀ (dp : Nat) (left : Int), dp ≤ 100 → -400000000000000000 ≤ left → left ≤ 1000000 → Con Tryz.prog 93 [] [Xv v, ai left, ai dp] [] (ai (V7 dp v left))
theorem Xhz {dp : Nat} {l : List Val} {i : Nat} {x : Val} {left : Int} (h : l[i]? = some x) (h0 : ¬ left < 0) : Vl dp (l.drop i) left = Vl dp (l.drop (i + 1)) (V7 dp x left) := by
 rw [List.drop_eq_getElem_cons (List.getElem?_eq_some_iff.1 h).1, (List.getElem?_eq_some_iff.1 h).2, Vl, if_neg h0]
theorem Xel (v : Val) (hok : XY v) (ih : ∀ x ∈ v.l, X7e x) : X7e v := by
 obtain ⟨k, n, d, s, l⟩ := v
 intro dp left hdp hl1 hl2
 rw [XY] at hok
 simp only [Val.l] at ih
 have hlen := UR l
 have hsz : (X5 s).size = s.length := rfl
 refine X9 (xs := [ai (V7 dp (.mk k n d s l) left)]) Tryz.func93 rfl Tryz.ntmps93 rfl rfl rfl (fun E => ?_)
 rw [V7]
 by_cases h0 : dp = 0
 ·subst h0
  rw [if_pos rfl]
  refine X0 ?_; refine JR ?_; refine ZA (γ := 100) ?_; refine Z0 ?_; refine JD ?_; refine X0 ?_; refine JR ?_; refine Z1 ?_; refine ZR ?_; refine ZB ?_; refine ZC ?_; refine Zc ?_
  refine Z7 (op := .quo) (r' := nj ((X5 s).size / 50)) (u := nj (X5 s).size) (v := nj 50) ?_ (hr := by exact UN (by omega) (by rw [Xx]; omega)); refine ZR ?_; refine Z0 ?_; refine JD ?_; refine X0 ?_
  refine X0 ?_; refine JR ?_; refine Z1 ?_; refine Z8 ?_; refine JD ?_; refine JT ?_; refine X0 ?_; refine JR ?_; refine Z0 ?_; refine JD ?_
  exact X1 ⟨_, St.le_refl _, ⟨rfl, trivial⟩, X3 _⟩
 rw [if_neg h0]
 have hdp1 : ¬ (dp : Int) < 1 := by omega
 obtain ⟨e, rfl⟩ : ∃ e, dp = e + 1 := ⟨dp - 1, by omega⟩
 rw [Nat.add_sub_cancel]
 refine X0 ?_; refine JR ?_; refine ZA (γ := 100) ?_; refine Z0 ?_; refine JD ?_; refine X0 ?_; refine JR ?_; refine Z1 ?_; refine ZR ?_; refine ZB ?_; refine ZC ?_; refine Zc ?_
 refine Z7 (op := .quo) (r' := nj ((X5 s).size / 50)) (u := nj (X5 s).size) (v := nj 50) ?_ (hr := by exact UN (by omega) (by rw [Xx]; omega)); refine ZR ?_; refine Z0 ?_; refine JD ?_; refine X0 ?_
 refine X0 ?_; refine JR ?_; refine Z1 ?_; refine Z8 ?_; refine JD ?_; refine JF ?_; refine X2 ?_; refine X0 ?_; refine X0 ?_; refine JR ?_; refine Z0 ?_; refine JD ?_; refine X4 ?_
 generalize hG : Vl e l (left - 1 - (s.length / 50 : Nat)) = G
 refine Xy (ι := Nat × Int) (fun q => q.1 ≤ l.length ∧ -1000000000000000000 ≤ q.2 ∧ q.2 ≤ 1000000 ∧ Vl e (l.drop q.1) q.2 = G) (fun q => ⟨38, [(1, ai q.2), (2, ai (e + 1 : Nat)), (3, .ptr 100 0), (7, ai q.1)], [(100, .box [ai k, ai n, ai d, .d (.v (.string (X5 s))), .d (.sl 5 (XJ l))])]⟩) (fun q => l.length - q.1) (0, left - 1 - (s.length / 50 : Nat)) ⟨by omega, by omega, by omega, hG⟩
  (X8 rfl ⟨JL, JL, JL, JL, trivial⟩ ⟨rfl, trivial⟩) ?_
 rintro ⟨i, cur⟩ ⟨hi, c1, c2, hg⟩
 simp only at hi c1 c2 hg
 by_cases hil : i < l.length
 case neg =>
  obtain rfl : i = l.length := by omega
  rw [List.drop_length, Vl] at hg
  subst hg
  have hn : ¬ ((l.length : Nat) : Int) < (XJ l).length := by omega
  refine X0 ?_; refine X0 ?_; refine JR ?_; refine Z1 ?_; refine ZB ?_; refine ZC ?_; refine Zd ?_; refine Z8 ?_; refine Z1 ?_; refine Zo ?_; refine Zo ?_; refine Zq ?_; refine JD ?_; refine JF ?_
  refine Xj ?_; refine X0 ?_; refine JR ?_; refine Z1 ?_; refine Z0 ?_; refine JD ?_
  exact X1 ⟨_, St.le_refl _, ⟨rfl, trivial⟩, X3 _⟩
 have hn : (i : Int) < (XJ l).length := by omega
 by_cases hneg : cur < 0
 ·rw [Xhn hneg] at hg
  subst hg
  have hneg' : ¬ 0 ≤ cur := by omega
  refine X0 ?_; refine X0 ?_; refine JR ?_; refine Z1 ?_; refine ZB ?_; refine ZC ?_; refine Zd ?_; refine Z8 ?_; refine Z1 ?_; refine Z1 ?_; refine Z2 ?_; refine Zn ?_; refine JD ?_; refine JF ?_
  refine Xj ?_; refine X0 ?_; refine JR ?_; refine Z1 ?_; refine Z0 ?_; refine JD ?_
  exact X1 ⟨_, St.le_refl _, ⟨rfl, trivial⟩, X3 _⟩
 have hpos : 0 ≤ cur := by omega
 obtain ⟨x, hx⟩ := Xu (l := l) hil
 have hxc : (XJ l)[i]? = some (YO x) := by rw [X14]; exact XS hx
 have hcall := ih x (List.mem_of_getElem? hx) e cur (by omega) (by omega) c2
 have hlow := X6L x e cur (X1p hok.2.2 (List.mem_of_getElem? hx)) hpos c2
 rw [Xhz hx hneg] at hg
 generalize V7 e x cur = z at *
 obtain ⟨xk, xn, xd, xs, xl⟩ := x
 simp only [Xv, YO] at hcall hxc
 refine X0 ?_; refine X0 ?_; refine JR ?_; refine Z1 ?_; refine ZB ?_; refine ZC ?_; refine Zd ?_; refine Z8 ?_; refine Z1 ?_; refine Z1 ?_; refine Z2 ?_; refine Zn ?_; refine JD ?_; refine JT ?_
 refine X2 ?_; refine X0 ?_; refine X4 ?_; refine JR ?_; refine ZB ?_; refine ZC ?_; refine Z1 ?_; refine Zj ?_; refine ZK ?_; refine Z1 ?_; refine Z1 ?_
 refine Z4 (op := .sub) (r' := nj e) (u := .int .i64 ((e + 1 : Nat) : Int)) (v := .int .i64 1) ?_ (hr' := by exact congrArg (Value.int .i64) (show (((e + 1 : Nat) : Int) - 1) = (e : Int) by omega)) (hr := by exact Ya (by unfold Y7; omega))
 refine Z9 (hcon := hcall) ?_; refine Z0 ?_; refine JD ?_; refine JR ?_; refine Z1 ?_; refine Zb ?_; refine Z0 ?_; refine JD ?_
 exact ⟨(i + 1, z), ⟨by show i + 1 ≤ l.length; omega, by show -1000000000000000000 ≤ z; omega, by show z ≤ 1000000; omega, hg⟩, by show l.length - (i + 1) < l.length - i; omega, X8 rfl ⟨JL, JL, JL, JL, trivial⟩ ⟨rfl, trivial⟩⟩
theorem X7I : ∀ v : Val, XY v → X7e v
 | .mk k n d s l => fun hok => Xel (.mk k n d s l) hok fun x hx => X7I x (X1p (by rw [XY] at hok; exact hok.2.2) hx)
termination_by v => SizeOf.sizeOf v
decreasing_by
 have h1 := List.sizeOf_lt_of_mem (show x ∈ l from hx)
 simp only [Val.mk.sizeOf_spec]
 omega
end Go.Fw
namespace Go.Fw
open Go Go.Proofs
set_option maxRecDepth 100000
set_option linter.unusedVariables false
set_option linter.unusedSimpArgs false
theorem X7Q (v : Val) (dp : Nat) (left : Int) (hok : XY v) (h1 : -200000000000000000 ≤ left) (h2 : left ≤ 1000000) : -400000000000000000 ≤ V7 dp v left ∧ V7 dp v left ≤ 1000000 := by
 obtain ⟨k, n, d, s, l⟩ := v
 rw [XY] at hok
 rw [V7]
 split
 ·omega
 ·exact X55 (by omega) (by omega) fun x hx q q1 q2 => X6L x (dp - 1) q (X1p hok.2.2 hx) q1 q2
end Go.Fw
namespace Go.Fw
open Go Go.Proofs
set_option maxRecDepth 100000
set_option linter.unusedVariables false
set_option linter.unusedSimpArgs false
theorem X40 {L : List (List UInt8)} {k n : Nat} (h : ∀ b ∈ L, b.length ≤ k) (hk : k ≤ 65536) (hn : L.length ≤ n) : (Xw ++ XL L).length ≤ 4 + 65600 * n := by
 have h1 := X84 (L := L) fun b hb => by have := h b hb; omega
 have h4 : Xw.length = 4 := rfl
 have : 65600 * L.length ≤ 65600 * n := Nat.mul_le_mul_left _ hn
 rw [List.length_append]
 omega
end Go.Fw
namespace Go.Fw
open Go Go.Proofs
set_option maxRecDepth 100000
set_option linter.unusedVariables false
set_option linter.unusedSimpArgs false
def UB : List Prp → Int → Int
 | [], left => left
 | p :: r, left => if left < 0 then left else UB r (V7 12 p.v (left - (p.key.length / 50 : Nat)))
theorem XgL {l : List Prp} {left : Int} (h : left < 0) : UB l left = left := by
 cases l with
 | nil => rfl
 | cons x r => rw [UB, if_pos h]
theorem XhZ {l : List Prp} {i : Nat} {x : Prp} {left : Int} (h : l[i]? = some x) (h0 : ¬ left < 0) : UB (l.drop i) left = UB (l.drop (i + 1)) (V7 12 x.v (left - (x.key.length / 50 : Nat))) := by
 rw [List.drop_eq_getElem_cons (List.getElem?_eq_some_iff.1 h).1, (List.getElem?_eq_some_iff.1 h).2, UB, if_neg h0]
theorem Xai (l : List Prp) (left : Int) (h0 : left ≤ 1000000) (hl : l.length ≤ 9223372036854775807) (hok : ∀ p ∈ l, X07 p) : Con Tryz.prog 38 [] [.d (.sl 6 (l.map Xk)), ai left] [] (ai (UB l left)) := by
 refine X9 (xs := [ai (UB l left)]) Tryz.func38 rfl Tryz.ntmps38 rfl rfl rfl (fun E => ?_)
 have hlm : (l.map Xk).length = l.length := by simp
 generalize hG : UB l left = G
 refine X0 ?_; refine JR ?_; refine Z0 ?_; refine JD ?_; refine X0 ?_; refine X0 ?_; refine JR ?_; refine Z0 ?_; refine JD ?_; refine X4 ?_
 refine Xy (ι := Nat × Int) (fun q => q.1 ≤ l.length ∧ q.2 ≤ 1000000 ∧ UB (l.drop q.1) q.2 = G) (fun q => ⟨32, [(0, .d (.sl 6 (l.map Xk))), (1, ai q.2), (5, ai q.1)], []⟩) (fun q => l.length - q.1) (0, left) ⟨Nat.zero_le _, h0, by simpa using hG⟩
  (X8 rfl JM trivial) ?_
 rintro ⟨i, cur⟩ ⟨hi, c2, hg⟩
 simp only at hi c2 hg
 by_cases hil : i < l.length
 case neg =>
  obtain rfl : i = l.length := by omega
  rw [List.drop_length, UB] at hg
  subst hg
  have hn : ¬ ((l.length : Nat) : Int) < (l.map Xk).length := by omega
  refine X0 ?_; refine X0 ?_; refine JR ?_; refine Z1 ?_; refine Z1 ?_; refine Zd ?_; refine Z8 ?_; refine Z1 ?_; refine Zo ?_; refine Zo ?_; refine Zq ?_; refine JD ?_; refine JF ?_; refine Xj ?_
  refine X0 ?_; refine JR ?_; refine Z1 ?_; refine Z0 ?_; refine JD ?_
  exact X1 ⟨_, St.le_refl _, ⟨rfl, trivial⟩, X3 _⟩
 have hn : (i : Int) < (l.map Xk).length := by omega
 by_cases hneg : cur < 0
 ·rw [XgL hneg] at hg
  subst hg
  have hpos : ¬ 0 ≤ cur := by omega
  refine X0 ?_; refine X0 ?_; refine JR ?_; refine Z1 ?_; refine Z1 ?_; refine Zd ?_; refine Z8 ?_; refine Z1 ?_; refine Z1 ?_; refine Z2 ?_; refine Zn ?_; refine JD ?_; refine JF ?_; refine Xj ?_
  refine X0 ?_; refine JR ?_; refine Z1 ?_; refine Z0 ?_; refine JD ?_
  exact X1 ⟨_, St.le_refl _, ⟨rfl, trivial⟩, X3 _⟩
 have hpos : 0 ≤ cur := by omega
 obtain ⟨x, hx⟩ := Xu (l := l) hil
 have hxc : (l.map Xk)[i]? = some (Xk x) := XS hx
 obtain ⟨o1, o2⟩ := hok x (List.mem_of_getElem? hx)
 rw [XhZ hx hneg] at hg
 obtain ⟨key, v⟩ := x
 simp only at o1 o2 hg
 have hsz : (X5 key).size = key.length := rfl
 have hcall := X7I v o2 12 (cur - (key.length / 50 : Nat)) (by omega) (by omega) (by omega)
 have hlow := X7Q v 12 (cur - (key.length / 50 : Nat)) o2 (by omega) (by omega)
 generalize V7 12 v (cur - (key.length / 50 : Nat)) = z at *
 obtain ⟨xk, xn, xd, xs, xl⟩ := v
 simp only [Xv, Xk, YO] at hcall hxc
 clear hx
 refine X0 ?_; refine X0 ?_; refine JR ?_; refine Z1 ?_; refine Z1 ?_; refine Zd ?_; refine Z8 ?_; refine Z1 ?_; refine Z1 ?_; refine Z2 ?_; refine Zn ?_; refine JD ?_; refine JT ?_; refine X2 ?_
 refine X0 ?_; refine X4 ?_; refine JR ?_; refine Z1 ?_; refine Z1 ?_; refine Zj ?_; refine ZN ?_; refine ZK ?_; refine Z1 ?_; refine Z1 ?_; refine Z1 ?_; refine Zj ?_; refine ZN ?_; refine Zk ?_; refine Zc ?_
 refine Z7 (op := .quo) (r' := nj ((X5 key).size / 50)) (u := nj (X5 key).size) (v := nj 50) ?_ (hr := by exact UN (by omega) (by rw [Xx]; omega)); refine ZR ?_; refine Z9 (hcon := hcall) ?_; refine Z0 ?_
 refine JD ?_; refine JR ?_; refine Z1 ?_; refine Zb ?_; refine Z0 ?_; refine JD ?_
 exact ⟨(i + 1, z), ⟨by show i + 1 ≤ l.length; omega, hlow.2, hg⟩, by show l.length - (i + 1) < l.length - i; omega, X8 rfl JM trivial⟩
end Go.Fw
namespace Go.Fw
open Go Go.Proofs
set_option maxRecDepth 100000
set_option linter.unusedVariables false
set_option linter.unusedSimpArgs false
def VE : List (List UInt8) → Int → Int
 | [], left => left
 | p :: r, left => if left < 0 then left else VE r (left - (p.length / 50 : Nat))
theorem Xha {l : List (List UInt8)} {left : Int} (h : left < 0) : VE l left = left := by
 cases l with
 | nil => rfl
 | cons x r => rw [VE, if_pos h]
theorem Xf0 {l : List (List UInt8)} {i : Nat} {x : List UInt8} {left : Int} (h : l[i]? = some x) (h0 : ¬ left < 0) : VE (l.drop i) left = VE (l.drop (i + 1)) (left - (x.length / 50 : Nat)) := by
 rw [List.drop_eq_getElem_cons (List.getElem?_eq_some_iff.1 h).1, (List.getElem?_eq_some_iff.1 h).2, VE, if_neg h0]
theorem X6x : ∀ (l : List (List UInt8)) (left : Int), VE l left ≤ left
 | [], left => Int.le_refl _
 | p :: r, left => by
  rw [VE]
  split
  ·exact Int.le_refl _
  ·have := X6x r (left - (p.length / 50 : Nat))
   omega
theorem X3D : ∀ (l : List Prp) (left : Int), left ≤ 1000000 → (∀ p ∈ l, X07 p) → UB l left ≤ 1000000
 | [], left, h, _ => h
 | p :: r, left, h, ho => by
  rw [UB]
  split
  ·exact h
  ·have hp := ho p (by simp)
   have h1 := hp.1
   exact X3D r _ (X7Q p.v 12 _ hp.2 (by omega) (by omega)).2 fun q hq => ho q (by simp [hq])
def VI : List Nod → Int → Int
 | [], left => left
 | n :: r, left => if left < 0 then left else VI r (VE n.labels (UB n.props (left - n.labels.length)))
def X0l : List Edg → Int → Int
 | [], left => left
 | n :: r, left => if left < 0 then left else X0l r (UB n.props (left - (n.typ.length / 50 : Nat)))
theorem XbF {l : List Nod} {left : Int} (h : left < 0) : VI l left = left := by
 cases l with
 | nil => rfl
 | cons x r => rw [VI, if_pos h]
theorem Xc1 {l : List Nod} {i : Nat} {x : Nod} {left : Int} (h : l[i]? = some x) (h0 : ¬ left < 0) : VI (l.drop i) left = VI (l.drop (i + 1)) (VE x.labels (UB x.props (left - x.labels.length))) := by
 rw [List.drop_eq_getElem_cons (List.getElem?_eq_some_iff.1 h).1, (List.getElem?_eq_some_iff.1 h).2, VI, if_neg h0]
theorem Xc5 {l : List Edg} {left : Int} (h : left < 0) : X0l l left = left := by
 cases l with
 | nil => rfl
 | cons x r => rw [X0l, if_pos h]
theorem XdV {l : List Edg} {i : Nat} {x : Edg} {left : Int} (h : l[i]? = some x) (h0 : ¬ left < 0) : X0l (l.drop i) left = X0l (l.drop (i + 1)) (UB x.props (left - (x.typ.length / 50 : Nat))) := by
 rw [List.drop_eq_getElem_cons (List.getElem?_eq_some_iff.1 h).1, (List.getElem?_eq_some_iff.1 h).2, X0l, if_neg h0]
def X2F (g : Gra) (a b : Int) : Bool := if a < g.nodes.length ∨ b < g.edges.length then false else decide (0 ≤ X0l g.edges (VI g.nodes 2000))
theorem XbA : ∀ (l : List Nod) (left : Int), left ≤ 1000000 → (∀ n ∈ l, X1B n) → VI l left ≤ 1000000
 | [], left, h, _ => h
 | n :: r, left, h, ho => by
  rw [VI]
  split
  ·exact h
  ·have h1 := X3D n.props (left - n.labels.length) (by omega) (ho n (by simp)).2.2.2
   have h2 := X6x n.labels (UB n.props (left - n.labels.length))
   exact XbA r _ (by omega) fun q hq => ho q (by simp [hq])
theorem X5Y (g : Gra) (a b : Int) (hg : GraHold g) : Con Tryz.prog 11 [] [Y4 g, ai a, ai b] [] (ab (X2F g a b)) := by
 refine X9 (xs := [ab (X2F g a b)]) Tryz.func11 rfl Tryz.ntmps11 rfl rfl rfl (fun E => ?_)
 obtain ⟨ns, es, nn, ne⟩ := g
 have hln : (ns.map Xi).length = ns.length := by simp
 have hle : (es.map Xr).length = es.length := by simp
 have hnl := hg.nl
 have hel := hg.el
 have hno := hg.nodes
 have hed := hg.edges
 clear hg
 simp only at hnl hel hno hed
 unfold X2F Y4
 simp only
 by_cases h1 : a < ns.length
 ·have h1' : a < (ns.map Xi).length := by omega
  rw [if_pos (.inl h1)]
  refine X0 ?_; refine JR ?_; refine ZA (γ := 100) ?_; refine Z0 ?_; refine JD ?_; refine X0 ?_; refine X0 ?_; refine JR ?_; refine ZB ?_; refine ZC ?_; refine Zd ?_; refine Z1 ?_; refine Zs ?_; refine Z1 ?_
  refine Zo ?_; refine Zo ?_; refine Zo ?_; refine Zo ?_; refine Zo ?_; refine Zn ?_; refine JD ?_; refine JT ?_; refine X0 ?_; refine JR ?_; refine Z0 ?_; refine JD ?_
  exact X1 ⟨_, St.le_refl _, ⟨rfl, trivial⟩, X3 _⟩
 have h1' : ¬ a < (ns.map Xi).length := by omega
 by_cases h2 : b < es.length
 ·have h2' : b < (es.map Xr).length := by omega
  rw [if_pos (.inr h2)]
  refine X0 ?_; refine JR ?_; refine ZA (γ := 100) ?_; refine Z0 ?_; refine JD ?_; refine X0 ?_; refine X0 ?_; refine JR ?_; refine ZB ?_; refine ZC ?_; refine Zd ?_; refine Z1 ?_; refine Zs ?_; refine Z1 ?_
  refine ZB ?_; refine ZC ?_; refine Zd ?_; refine Z1 ?_; refine Zs ?_; refine Zq ?_; refine JD ?_; refine JT ?_; refine X0 ?_; refine JR ?_; refine Z0 ?_; refine JD ?_
  exact X1 ⟨_, St.le_refl _, ⟨rfl, trivial⟩, X3 _⟩
 have h2' : ¬ b < (es.map Xr).length := by omega
 rw [if_neg (fun h => h.elim h1 h2)]
 have hG1 := XbA ns 2000 (by omega) hno
 generalize hG : VI ns 2000 = G at *
 generalize hF : X0l es G = F
 refine X0 ?_; refine JR ?_; refine ZA (γ := 100) ?_; refine Z0 ?_; refine JD ?_; refine X0 ?_; refine X0 ?_; refine JR ?_; refine ZB ?_; refine ZC ?_; refine Zd ?_; refine Z1 ?_; refine Zs ?_; refine Z1 ?_
 refine ZB ?_; refine ZC ?_; refine Zd ?_; refine Z1 ?_; refine Zs ?_; refine Zq ?_; refine JD ?_; refine JF ?_; refine X2 ?_; refine X0 ?_; refine JR ?_; refine Z0 ?_; refine JD ?_; refine X0 ?_
 refine X0 ?_; refine JR ?_; refine Z0 ?_; refine JD ?_
 refine X15 ⟨98, [(3, .ptr 100 0), (7, ai G)], [(100, .box [.d (.sl 3 (ns.map Xi)), .d (.sl 5 (es.map Xr)), ai nn, ai ne])]⟩ ?_ ?_
 ·refine X4 ?_
  refine Xy (ι := Nat × Int) (fun q => q.1 ≤ ns.length ∧ q.2 ≤ 1000000 ∧ VI (ns.drop q.1) q.2 = G) (fun q => ⟨98, [(3, .ptr 100 0), (7, ai q.2), (8, ai q.1)], [(100, .box [.d (.sl 3 (ns.map Xi)), .d (.sl 5 (es.map Xr)), ai nn, ai ne])]⟩) (fun q => ns.length - q.1) (0, 2000) ⟨Nat.zero_le _, by show (2000 : Int) ≤ _; omega, by simpa using hG⟩
   (X8 rfl JM ⟨rfl, trivial⟩) ?_
  rintro ⟨i, cur⟩ ⟨hi, hc2, hg⟩
  simp only at hi hc2 hg
  by_cases hil : i < ns.length
  case neg =>
   obtain rfl : i = ns.length := by omega
   rw [List.drop_length, VI] at hg
   subst hg
   have hn : ¬ ((ns.length : Nat) : Int) < (ns.map Xi).length := by rw [List.length_map]; omega
   refine X0 ?_; refine X0 ?_; refine JR ?_; refine Z1 ?_; refine ZB ?_; refine ZC ?_; refine Zd ?_; refine Z8 ?_; refine Z1 ?_; refine Zo ?_; refine Zo ?_; refine Zq ?_; refine JD ?_; refine JF ?_
   refine Xj ?_
   exact X8 rfl JM ⟨rfl, trivial⟩
  have hn : (i : Int) < (ns.map Xi).length := by rw [List.length_map]; omega
  by_cases hneg : cur < 0
  ·rw [XbF hneg] at hg
   subst hg
   have hpos : ¬ 0 ≤ cur := by omega
   refine X0 ?_; refine X0 ?_; refine JR ?_; refine Z1 ?_; refine ZB ?_; refine ZC ?_; refine Zd ?_; refine Z8 ?_; refine Z1 ?_; refine Z1 ?_; refine Z2 ?_; refine Zn ?_; refine JD ?_; refine JF ?_
   refine Xj ?_
   exact X8 rfl JM ⟨rfl, trivial⟩
  have hpos : 0 ≤ cur := by omega
  obtain ⟨x, hx⟩ := Xu (l := ns) hil
  have hxc : (ns.map Xi)[i]? = some (Xi x) := XS hx
  rw [Xc1 hx hneg] at hg
  have hh := hno x (List.mem_of_getElem? hx)
  obtain ⟨id, labels, props⟩ := x
  obtain ⟨hll, hlo, hpl, hpo⟩ := hh
  simp only [Xi] at hll hlo hpl hpo hxc hg
  clear hx
  have hlm : (labels.map Xn).length = labels.length := by simp
  have hcall := Xai props (cur - labels.length) (by omega) hpl hpo
  have hz1 := X3D props (cur - labels.length) (by omega) hpo
  have hcur : cur - ((labels.map Xn).length : Int) = cur - labels.length := by rw [hlm]
  generalize hz : UB props (cur - labels.length) = z at *
  have hw1 := X6x labels z
  generalize hW : VE labels z = W at *
  refine X0 ?_; refine X0 ?_; refine JR ?_; refine Z1 ?_; refine ZB ?_; refine ZC ?_; refine Zd ?_; refine Z8 ?_; refine Z1 ?_; refine Z1 ?_; refine Z2 ?_; refine Zn ?_; refine JD ?_; refine JT ?_
  refine X2 ?_; refine X0 ?_
  refine X4 ?_
  refine X0 ?_; refine JR ?_; refine ZB ?_; refine ZC ?_; refine Z1 ?_; refine Zj ?_; refine ZK ?_; refine Zw (γ := 101) ?_; refine Zy ?_; refine JD ?_; refine X0 ?_; refine JR ?_; refine ZB ?_; refine ZC ?_
  refine Z1 ?_; refine ZB ?_; refine ZC ?_; refine Zd ?_
  refine Z4 (op := .sub) (r' := .int .i64 (cur - labels.length)) (u := .int .i64 cur) (v := .int .i64 ((labels.map Xn).length : Int)) ?_ (hr' := by exact congrArg (Value.int .i64) hcur) (hr := by exact Ya (by unfold Y7; omega))
  refine Z9 (hcon := hcall) ?_; refine Z0 ?_; refine JD ?_; refine X0 ?_; refine JR ?_; refine Z0 ?_; refine JD ?_
  show AWP Tryz.prog E _ _ _
  refine XgM ⟨98, [(3, .ptr 100 0), (7, ai W), (8, ai i)], [(100, .box [.d (.sl 3 (ns.map Xi)), .d (.sl 5 (es.map Xr)), ai nn, ai ne])]⟩ ?_ ?_
  ·refine X4 ?_
   refine Xy (ι := Nat × Int) (fun q => q.1 ≤ labels.length ∧ q.2 ≤ 1000000 ∧ VE (labels.drop q.1) q.2 = W) (fun q => ⟨98, [(3, .ptr 100 0), (7, ai q.2), (8, ai i), (9, .ptr 101 0), (10, ai q.1)], [(100, .box [.d (.sl 3 (ns.map Xi)), .d (.sl 5 (es.map Xr)), ai nn, ai ne]), (101, .box [ai id, .d (.sl 1 (labels.map Xn)), .d (.sl 6 (props.map Xk))])]⟩) (fun q => labels.length - q.1) (0, z) ⟨Nat.zero_le _, hz1, by simpa using hW⟩
    (X8 rfl JM ⟨rfl, rfl, trivial⟩) ?_
   rintro ⟨k, cur2⟩ ⟨hk, hc3, hg2⟩
   simp only at hk hc3 hg2
   by_cases hkl : k < labels.length
   case neg =>
    obtain rfl : k = labels.length := by omega
    rw [List.drop_length, VE] at hg2
    subst hg2
    have hn : ¬ ((labels.length : Nat) : Int) < (labels.map Xn).length := by rw [List.length_map]; omega
    refine X0 ?_; refine X0 ?_; refine JR ?_; refine Z1 ?_; refine ZB ?_; refine ZC ?_; refine Zd ?_; refine Z8 ?_; refine Z1 ?_; refine Zo ?_; refine Zo ?_; refine Zq ?_; refine JD ?_; refine JF ?_
    refine Xj ?_
    exact X8 rfl JM ⟨rfl, trivial⟩
   have hn : (k : Int) < (labels.map Xn).length := by rw [List.length_map]; omega
   by_cases hneg2 : cur2 < 0
   ·rw [Xha hneg2] at hg2
    subst hg2
    have hpos2 : ¬ 0 ≤ cur2 := by omega
    refine X0 ?_; refine X0 ?_; refine JR ?_; refine Z1 ?_; refine ZB ?_; refine ZC ?_; refine Zd ?_; refine Z8 ?_; refine Z1 ?_; refine Z1 ?_; refine Z2 ?_; refine Zn ?_; refine JD ?_; refine JF ?_
    refine Xj ?_
    exact X8 rfl JM ⟨rfl, trivial⟩
   have hpos2 : 0 ≤ cur2 := by omega
   obtain ⟨x, hx⟩ := Xu (l := labels) hkl
   have hxc : (labels.map Xn)[k]? = some (Xn x) := XS hx
   rw [Xf0 hx hneg2] at hg2
   have hxl := hlo x (List.mem_of_getElem? hx)
   have hsz : (X5 x).size = x.length := rfl
   clear hx
   refine X0 ?_; refine X0 ?_; refine JR ?_; refine Z1 ?_; refine ZB ?_; refine ZC ?_; refine Zd ?_; refine Z8 ?_; refine Z1 ?_; refine Z1 ?_; refine Z2 ?_; refine Zn ?_; refine JD ?_; refine JT ?_
   refine X2 ?_; refine X0 ?_; refine X4 ?_; refine JR ?_; refine Z1 ?_; refine ZB ?_; refine ZC ?_; refine Z1 ?_; refine Zj ?_; refine Zk ?_; refine Zc ?_
   refine Z7 (op := .quo) (r' := nj ((X5 x).size / 50)) (u := nj (X5 x).size) (v := nj 50) ?_ (hr := by exact UN (by omega) (by rw [Xx]; omega)); refine ZR ?_; refine Z0 ?_; refine JD ?_; refine JR ?_
   refine Z1 ?_; refine Zb ?_; refine Z0 ?_; refine JD ?_
   exact ⟨(k + 1, cur2 - (x.length / 50 : Nat)), ⟨by show k + 1 ≤ labels.length; omega, by show cur2 - _ ≤ _; omega, hg2⟩, by show labels.length - (k + 1) < labels.length - k; omega, X8 rfl JM ⟨rfl, rfl, trivial⟩⟩
  intro T hT
  show AWP Tryz.prog E _ _ _
  refine Xm hT ?_
  clear hT T
  refine JR ?_; refine Z1 ?_; refine Zb ?_; refine Z0 ?_; refine JD ?_
  exact ⟨(i + 1, W), ⟨by show i + 1 ≤ ns.length; omega, by show W ≤ 1000000; omega, hg⟩, by show ns.length - (i + 1) < ns.length - i; omega, X8 rfl JM ⟨rfl, trivial⟩⟩
 refine X0 ?_; refine X0 ?_; refine JR ?_; refine Z0 ?_; refine JD ?_; refine X4 ?_
 refine Xy (ι := Nat × Int) (fun q => q.1 ≤ es.length ∧ q.2 ≤ 1000000 ∧ X0l (es.drop q.1) q.2 = F) (fun q => ⟨98, [(3, .ptr 100 0), (7, ai q.2), (11, ai q.1)], [(100, .box [.d (.sl 3 (ns.map Xi)), .d (.sl 5 (es.map Xr)), ai nn, ai ne])]⟩) (fun q => es.length - q.1) (0, G) ⟨Nat.zero_le _, hG1, by simpa using hF⟩
  (X8 rfl JM ⟨rfl, trivial⟩) ?_
 rintro ⟨i, cur⟩ ⟨hi, hc2, hg⟩
 simp only at hi hc2 hg
 by_cases hil : i < es.length
 case neg =>
  obtain rfl : i = es.length := by omega
  rw [List.drop_length, X0l] at hg
  subst hg
  have hn : ¬ ((es.length : Nat) : Int) < (es.map Xr).length := by rw [List.length_map]; omega
  refine X0 ?_; refine X0 ?_; refine JR ?_; refine Z1 ?_; refine ZB ?_; refine ZC ?_; refine Zd ?_; refine Z8 ?_; refine Z1 ?_; refine Zo ?_; refine Zo ?_; refine Zq ?_; refine JD ?_; refine JF ?_
  refine Xj ?_; refine X0 ?_; refine JR ?_; refine Z1 ?_; refine Z2 ?_; refine Z0 ?_; refine JD ?_
  exact X1 ⟨_, St.le_refl _, ⟨rfl, trivial⟩, X3 _⟩
 have hn : (i : Int) < (es.map Xr).length := by rw [List.length_map]; omega
 by_cases hneg : cur < 0
 ·rw [Xc5 hneg] at hg
  subst hg
  have hpos : ¬ 0 ≤ cur := by omega
  refine X0 ?_; refine X0 ?_; refine JR ?_; refine Z1 ?_; refine ZB ?_; refine ZC ?_; refine Zd ?_; refine Z8 ?_; refine Z1 ?_; refine Z1 ?_; refine Z2 ?_; refine Zn ?_; refine JD ?_; refine JF ?_
  refine Xj ?_; refine X0 ?_; refine JR ?_; refine Z1 ?_; refine Z2 ?_; refine Z0 ?_; refine JD ?_
  exact X1 ⟨_, St.le_refl _, ⟨rfl, trivial⟩, X3 _⟩
 have hpos : 0 ≤ cur := by omega
 obtain ⟨x, hx⟩ := Xu (l := es) hil
 have hxc : (es.map Xr)[i]? = some (Xr x) := XS hx
 rw [XdV hx hneg] at hg
 have hh := hed x (List.mem_of_getElem? hx)
 obtain ⟨id, src, dst, typ, props⟩ := x
 obtain ⟨hll, hpl, hpo⟩ := hh
 simp only [Xr] at hll hpl hpo hxc hg
 clear hx
 have hsz : (X5 typ).size = typ.length := rfl
 have hcall := Xai props (cur - (typ.length / 50 : Nat)) (by omega) hpl hpo
 have hz1 := X3D props (cur - (typ.length / 50 : Nat)) (by omega) hpo
 generalize hz : UB props (cur - (typ.length / 50 : Nat)) = z at *
 refine X0 ?_; refine X0 ?_; refine JR ?_; refine Z1 ?_; refine ZB ?_; refine ZC ?_; refine Zd ?_; refine Z8 ?_; refine Z1 ?_; refine Z1 ?_; refine Z2 ?_; refine Zn ?_; refine JD ?_; refine JT ?_
 refine X2 ?_; refine X0 ?_; refine X4 ?_; refine JR ?_; refine ZB ?_; refine ZC ?_; refine Z1 ?_; refine Zj ?_; refine ZN ?_; refine Zk ?_; refine Z1 ?_; refine ZB ?_; refine ZC ?_; refine Z1 ?_
 refine Zj ?_; refine ZN ?_; refine Zk ?_; refine Zc ?_; refine Z7 (op := .quo) (r' := nj ((X5 typ).size / 50)) (u := nj (X5 typ).size) (v := nj 50) ?_ (hr := by exact UN (by omega) (by rw [Xx]; omega))
 refine ZR ?_; refine Z9 (hcon := hcall) ?_; refine Z0 ?_; refine JD ?_; refine JR ?_; refine Z1 ?_; refine Zb ?_; refine Z0 ?_; refine JD ?_
 exact ⟨(i + 1, z), ⟨by show i + 1 ≤ es.length; omega, by show z ≤ 1000000; omega, hg⟩, by show es.length - (i + 1) < es.length - i; omega, X8 rfl JM ⟨rfl, trivial⟩⟩
end Go.Fw
namespace Go.Fw
open Go Go.Proofs
set_option linter.unusedVariables false
theorem X0d : Tryz.prog.cellsOf 3 = 1 := by kernel_rfl
theorem X1k : Tryz.prog.cellsOf 9 = 1 := by kernel_rfl
theorem XeQ : Tryz.prog.cellsOf 57 = 1 := by kernel_rfl
theorem X5d : Tryz.prog.cellsOf 59 = 5 := by kernel_rfl
theorem X81 : Tryz.prog.cellsOf 43 = 6 := by kernel_rfl
def XbK (r : Rul) : List D := [.v (.int .i64 r.kind), .v (.int .i64 r.n), .v (.string (X5 r.name)), .v (.string (X5 r.key)), .v (.string (X5 r.src)), .v (.string (X5 r.dst))]
section
variable {H : Type} {enc : TypeId × Value → H} {W : World}
theorem XaW : ∀ n, OpensN enc Tryz.prog W n 59 XY YO
 | 0 => ⟨fun cs x hx => by simp [DataW.trod] at hx⟩
 | n + 1 =>
  (Xek Tryz.underlying59 X5d (fun m hm =>
   X2N rfl X0d ((X06 Tryz.underlying3).at m) (X2N rfl X0d ((X06 Tryz.underlying3).at m) (X2N rfl X0d ((X06 Tryz.underlying3).at m)
    (X2N rfl X1k ((X1g Tryz.underlying9).at m)
     (X2N rfl XeQ (X2t (p := XY) (f := YO) Tryz.underlying57 X5d (by decide) (fun m' hm' => XaW m')) XhD)))))).to
   (fun r => .mk r.1 r.2.1 r.2.2.1 r.2.2.2.1 r.2.2.2.2.1) fun r h => ⟨by rw [XY]; exact ⟨h.2.2.2.1, h.2.2.2.2.1.2, X43 h.2.2.2.2.1.1⟩, by rw [YO, X14]; rfl⟩
termination_by n => n
decreasing_by omega
theorem Xg6 : Opens enc Tryz.prog W 59 XY YO := X24 XaW
theorem Xdw : Opens enc Tryz.prog W 43 (fun _ : Rul => True) XbK :=
 (X2P Tryz.underlying43 X81
  (UH rfl X0d (X06 Tryz.underlying3) (UH rfl X0d (X06 Tryz.underlying3)
   (UH rfl X1k (X1g Tryz.underlying9) (UH rfl X1k (X1g Tryz.underlying9) (UH rfl X1k (X1g Tryz.underlying9) (UH rfl X1k (X1g Tryz.underlying9) X2Z))))))).to
  (fun r => ⟨r.1, r.2.1, r.2.2.1, r.2.2.2.1, r.2.2.2.2.1, r.2.2.2.2.2.1⟩) fun r h => ⟨trivial, rfl⟩
end
end Go.Fw
namespace Go.Fw
open Go Go.Proofs
set_option linter.unusedVariables false
theorem XfP : Tryz.prog.cellsOf 63 = 1 := by kernel_rfl
theorem X93 : Tryz.prog.cellsOf 64 = 1 := by kernel_rfl
theorem XgK : Tryz.prog.cellsOf 22 = 1 := by kernel_rfl
theorem Xfg : Tryz.prog.cellsOf 23 = 1 := by kernel_rfl
theorem X9s : Tryz.prog.cellsOf 80 = 6 := by kernel_rfl
theorem Xa6 : Tryz.prog.cellsOf 66 = 3 := by kernel_rfl
theorem Xbf : Tryz.prog.cellsOf 77 = 5 := by kernel_rfl
theorem Xd5 : Tryz.prog.cellsOf 25 = 4 := by kernel_rfl
def XaK (g : Gra) : List D := [.sl 3 (g.nodes.map Xi), .sl 5 (g.edges.map Xr), .v (.int .i64 g.nn), .v (.int .i64 g.ne)]
theorem X6K (g : Gra) : Y4 g = .agg ((XaK g).map .d) := rfl
section
variable {H : Type} {enc : TypeId × Value → H} {W : World}
theorem Xd8 : Opens enc Tryz.prog W 80 X07 Xk :=
 (X2P Tryz.underlying80 X9s
  (UH rfl X1k (X1g Tryz.underlying9) (UH rfl X5d Xg6 X2Z))).to
  (fun r => ⟨r.1, r.2.1⟩) fun r h => ⟨⟨h.1, h.2.1⟩, by
   obtain ⟨k, v, u⟩ := r
   cases v
   simp [Xk, YO]⟩
theorem X9K : Opens enc Tryz.prog W 64 (fun l : List Prp => (∀ c ∈ l, X07 c) ∧ l.length ≤ 9223372036854775807) (fun l => [.sl 6 (l.map Xk)]) :=
 X24 fun n => X2t Tryz.underlying64 X9s (by decide) fun m _ => Xd8.at m
theorem Xh2 : Opens enc Tryz.prog W 63 (fun l : List (List UInt8) => (∀ c ∈ l, c.length ≤ 9223372036854775807) ∧ l.length ≤ 9223372036854775807) (fun l => [.sl 1 (l.map Xn)]) :=
 X24 fun n => X2t Tryz.underlying63 X1k (by decide) fun m _ => (X1g Tryz.underlying9).at m
theorem Xgi : Opens enc Tryz.prog W 66 X1B Xi :=
 (X2P Tryz.underlying66 Xa6
  (UH rfl X0d (X06 Tryz.underlying3) (UH rfl XfP Xh2 (UH rfl X93 X9K X2Z)))).to
  (fun r => ⟨r.1, r.2.1, r.2.2.1⟩) fun r h => ⟨⟨h.2.1.2, h.2.1.1, h.2.2.1.2, h.2.2.1.1⟩, rfl⟩
theorem Xem : Opens enc Tryz.prog W 77 X2e Xr :=
 (X2P Tryz.underlying77 Xbf
  (UH rfl X0d (X06 Tryz.underlying3) (UH rfl X0d (X06 Tryz.underlying3) (UH rfl X0d (X06 Tryz.underlying3)
   (UH rfl X1k (X1g Tryz.underlying9) (UH rfl X93 X9K X2Z)))))).to
  (fun r => ⟨r.1, r.2.1, r.2.2.1, r.2.2.2.1, r.2.2.2.2.1⟩) fun r h => ⟨⟨h.2.2.2.1, h.2.2.2.2.1.2, h.2.2.2.2.1.1⟩, rfl⟩
theorem XhL : Opens enc Tryz.prog W 22 (fun l : List Nod => (∀ c ∈ l, X1B c) ∧ l.length ≤ 9223372036854775807) (fun l => [.sl 3 (l.map Xi)]) :=
 X24 fun n => X2t Tryz.underlying22 Xa6 (by decide) fun m _ => Xgi.at m
theorem Xdf : Opens enc Tryz.prog W 23 (fun l : List Edg => (∀ c ∈ l, X2e c) ∧ l.length ≤ 9223372036854775807) (fun l => [.sl 5 (l.map Xr)]) :=
 X24 fun n => X2t Tryz.underlying23 Xbf (by decide) fun m _ => Xem.at m
theorem X74 : Opens enc Tryz.prog W 25 GraHold XaK :=
 (X2P Tryz.underlying25 Xd5
  (UH rfl XgK XhL (UH rfl Xfg Xdf (UH rfl X0d (X06 Tryz.underlying3) (UH rfl X0d (X06 Tryz.underlying3) X2Z))))).to
  (fun r => ⟨r.1, r.2.1, r.2.2.1, r.2.2.2.1⟩) fun r h => ⟨⟨h.1.2, h.2.1.2, h.1.1, h.2.1.1⟩, rfl⟩
theorem Xhe : Opens enc Tryz.prog W 43 (fun _ : Rul => True) Xp := Xdw
theorem X5U : Opens enc Tryz.prog W 26 (fun l : List Rul => (∀ c ∈ l, True) ∧ l.length ≤ 9223372036854775807) (fun l => [.sl 6 (l.map Xp)]) :=
 X24 fun n => X2t Tryz.underlying26 X81 (by decide) fun m _ => Xhe.at m
end
end Go.Fw
