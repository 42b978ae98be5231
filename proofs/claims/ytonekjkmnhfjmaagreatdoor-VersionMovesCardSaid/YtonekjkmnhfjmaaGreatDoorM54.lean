/- Opening what came in: from the reading of an argument to data over the world's own cells. -/
import Derived.OpenShut
import Derived.Deep.Slices
import Derived.Deep.Strs
import Derived.Test.YtonekjkmnhfjmaaGreatDoorM42
import Derived.Test.YtonekjkmnhfjmaaGreatDoorM47
set_option maxHeartbeats 16000000
namespace Go.Fw
open Go Go.ChangeShapes Go.WideShapes Go.Deep
set_option linter.unusedVariables false
section
variable {H : Type} {enc : TypeId × Value → H} {P : Program} {W : World}
theorem Xa8 {α : Type} {t e : TypeId} {r : Reach} {b0 : Nat} {v : Value} {d : DataW H} {ps : List MemPlace} {p : α → Prop} {f : α → D} (ht : P.underlying t = some (.slice e))
  (hval : Value.okWide P W r b0 t v) (hd : DataW.Trod enc P W 0 (fun _ => true) true t v d ps) (ho : Opens enc P W t p (fun x => [f x])) : ∃ x, p x ∧ (AVal.d (f x)).sat (g0 W.cell?) v := by
 obtain ⟨a, n, c, rfl⟩ := okWide_slice ht hval
 obtain ⟨n, hn⟩ := hd
 obtain ⟨x, h1, h2⟩ := ho.op _ _ _ hn
 refine ⟨x, h1, ?_⟩
 have := X6P (g := g0 W.cell?) rfl h2
 simp only [List.map_cons, List.map_nil, Value.cells, Xk] at this
 exact this.1
end
open Go
set_option linter.unusedSimpArgs false
def UK (h : Hist) (ts : Int) : List Chg := if XI h ts ≠ 0 then [] else ((h.cs.drop (ts - h.base).toNat).map Cmt.l).flatten
theorem X2O {n : Nat} : ∀ (l : List Cmt), (∀ c ∈ l, c.l.length ≤ n) → ((l.map Cmt.l).flatten).length ≤ l.length * n
 | [], _ => by simp
 | c :: r, h => by
  have ih := X2O r fun x hx => h x (by simp [hx])
  have := h c (by simp)
  rw [List.map_cons, List.flatten_cons, List.length_append, List.length_cons, Nat.add_mul, Nat.one_mul]; omega
theorem Xae {l : List Cmt} {i : Nat} {c : Cmt} (h : l[i]? = some c) : ((l.drop i).map Cmt.l).flatten = c.l ++ ((l.drop (i + 1)).map Cmt.l).flatten := by
 obtain ⟨hl, h⟩ := List.getElem?_eq_some_iff.1 h
 rw [List.drop_eq_getElem_cons hl, h, List.map_cons, List.flatten_cons]
open Go Go.Proofs
set_option maxRecDepth 100000
theorem XaT (h : Hist) (ts : Int) (hf : HistFit h) : Con Tryz.prog 27 [] [Xq h, ai ts] [] (.tup [.d (.sl 10 ((UK h ts).map XL)), ai (XI h ts)]) := by
 refine Xc (xs := [.d (.sl 10 ((UK h ts).map XL)), ai (XI h ts)]) Tryz.func27 rfl Tryz.ntmps27 rfl rfl rfl (fun E => ?_)
 have hk := X8S h ts hf.hold
 unfold UK
 by_cases c : XI h ts ≠ 0
 ·rw [if_pos c]
  clear hf
  generalize XI h ts = e at *
  obtain ⟨base, ⟨ns, es, nn, ne⟩, cs⟩ := h
  simp only [Xq, List.map_nil] at *
  refine Qgh ?_; refine Qgd ?_; refine QIa ?_; refine QKa ?_
  (show AWP Tryz.prog E _ _ _; refine X1 ?_; exact (show Xd _ _ _ _ _ from ⟨_, X7 rfl (τ := [(4, .d (.sl 10 [])), (5, ai e)]) (L := []) JM trivial, ⟨rfl, rfl, trivial⟩, X3 _⟩))
 rw [if_neg c]
 have c : XI h ts = 0 := by simpa using c
 rw [c] at hk ⊢
 obtain ⟨k, k1, k2, k3⟩ := X2g c
 have hb := X2q c
 rw [k2]
 have hcl := (Ux c).1.cl
 have hlm := Ue h.cs
 have hsl : (((h.cs.map Xh).take (h.cs.map Xh).length).drop k) = (h.cs.drop k).map Xh := by rw [List.take_length]; simp
 have hDl : (h.cs.drop k).length ≤ 1000 := by rw [List.length_drop]; omega
 have hD := fun (x : Cmt) (hx : x ∈ h.cs.drop k) => hf.len x (List.mem_of_mem_drop hx)
 have hRl := X2O (h.cs.drop k) hD
 clear hf c k2 hD
 generalize h.cs.drop k = D at *
 generalize hR : (D.map Cmt.l).flatten = R at *
 have hRb : R.length ≤ 2000000000 := by omega
 have hDm := Ue D
 obtain ⟨base, ⟨ns, es, nn, ne⟩, cs⟩ := h
 simp only [Xq] at *
 have hkl : k ≤ (cs.map Xh).length := by omega
 refine Qgh ?_; refine Qid ?_; refine Qc ?_; refine Qsb ?_; refine QZa ?_
 (refine Z4 (op := .sub) (r' := .int .i64 (k : Nat)) (u := .int .i64 ts) (v := .int .i64 base) ?_ (hr' := by exact congrArg (Value.int .i64) k1) (hr := by exact XU (by unfold Xw; omega)))
 refine Qfh ?_; refine Qjb ?_
 clear hsl hk
 refine Xm (YX 7 131 10 rfl rfl rfl) ?_
 refine Xz (ι := Nat × List Chg) (fun q => q.1 ≤ D.length ∧ q.2 ++ ((D.drop q.1).map Cmt.l).flatten = R) (fun q => ⟨34, [(2, .ptr 100 0), (7, .own 131 (q.2.map XL).length), (22, .d (.sl 2 (D.map Xh))), (23, ai (D.map Xh).length), (24, ai q.1)], [(100, .box [ai base, .d (.sl 3 (ns.map X9)), .d (.sl 5 (es.map Xe)), ai nn, ai ne, .d (.sl 2 (cs.map Xh))]), (131, .row 10 (q.2.map XL))]⟩) (fun q => D.length - q.1) (0, []) ⟨Nat.zero_le _, by simpa using hR⟩
  (X7 rfl JM ⟨rfl, rfl, trivial⟩) ?_
 rintro ⟨i, out⟩ ⟨hi, hg⟩
 simp only at hi hg
 clear hR
 by_cases hil : i < D.length
 case neg =>
  have hn : ¬ (i : Int) < (D.map Xh).length := by omega
  rw [List.drop_of_length_le (by omega), List.map_nil, List.flatten_nil, List.append_nil] at hg
  subst hg
  refine QM ?_; refine Qd ?_; refine QKa ?_; refine Xm (Yb 131 rfl) ?_; refine Xm (Yq 4 131 rfl rfl rfl) ?_
  (show AWP Tryz.prog E _ _ _; refine X1 ?_; exact (show Xd _ _ _ _ _ from ⟨_, St.le_refl _, ⟨rfl, rfl, trivial⟩, X3 _⟩))
 have hn : (i : Int) < (D.map Xh).length := by omega
 obtain ⟨x, hx⟩ := Xu (l := D) hil
 have hxc : (D.map Xh)[i]? = some (Xh x) := XD hx
 rw [Xae hx, ← List.append_assoc] at hg
 have hrm := X0q hg
 obtain ⟨t', l⟩ := x
 simp only [Xh] at hxc hg hrm
 rw [List.length_append] at hrm
 have hroom : (out.map XL).length + (l.map XL).length ≤ 2000000000 := by rw [List.length_map, List.length_map]; omega
 have hap : (out ++ l).map XL = out.map XL ++ l.map XL := List.map_append
 clear hx hRl
 refine Qch ?_; refine JR ?_; refine QZa ?_; refine QLd ?_; refine QV ?_
 refine ⟨(i + 1, out ++ l), ⟨by simp only; omega, hg⟩, by simp only; omega, ?_⟩
 dsimp only
 rw [hap]
 exact X7 rfl ⟨JL, AVal.le_of_eq (by refine Eq.trans (b := AVal.own 131 (_ + _)) rfl ?_; simp only [List.length_append]), JL, JL, JL, trivial⟩ ⟨rfl, rfl, trivial⟩
end Go.Fw
