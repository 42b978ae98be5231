/- The worked examples of the chapter hold. -/
import Derived.KernelRfl
import Derived.Test.YtbhleedlnaakkaaK18
set_option maxHeartbeats 64000000
namespace Go.Fw
open Go Go.Proofs
set_option maxRecDepth 100000
set_option linter.unusedVariables false
set_option linter.unusedSimpArgs false
theorem X96 : Con Try.prog 6 [] [] [] (ab true) := by
 refine Xf (xs := [ab true]) Try.func6 rfl Try.ntmps6 rfl rfl rfl (fun E => ?_)
 have h0 := X6V
 have h1 := X0k exU Y2 Vt
 have h2 := X0k ⟨6, 0, [84], [], [66], []⟩ Y2 Vt
 have h3 := X0k ⟨6, 0, [84], [], [65], []⟩ Y2 Vt
 have h4 := X0k ⟨7, 0, [84], [], [], []⟩ Y2 Vt
 have h5 := X18 [exU] Y2 Vt (by simp)
 have h6 := X5r [exU] Y2 Vt (by simp)
 rw [X7x] at h1
 rw [X6q] at h2
 rw [X78] at h3
 rw [X6b] at h4
 rw [X5l] at h5
 rw [X8Z] at h6
 simp only [Xq, XA, Xk, Xt, Xe, List.map_cons, List.map_nil] at h0 h1 h2 h3 h4 h5 h6
 generalize Y2.nodes.map Xd = X at *
 generalize Y2.edges.map Xl = Y at *
 generalize Y2.nn = nn at *
 generalize Y2.ne = ne at *
 refine X0 ?_; refine JR ?_; refine Z0 ?_; refine JD ?_; refine X0 ?_; refine JR ?_; refine Zj ?_; refine Zh (γ := 100) ?_; refine Zk ?_; refine JD ?_; refine X0 ?_; refine JR ?_; refine ZD ?_
 refine Zc (hcon := h0) ?_; refine Zc (hcon := h1) ?_; refine Z0 ?_; refine JD ?_; refine X0 ?_
 refine JR ?_; refine Zj ?_; refine Zc (hcon := h0) ?_; refine Zc (hcon := h2) ?_; refine Z0 ?_; refine JD ?_; refine X0 ?_
 refine JR ?_; refine Zj ?_; refine Zc (hcon := h0) ?_; refine Zc (hcon := h3) ?_; refine Z0 ?_; refine JD ?_; refine X0 ?_
 refine JR ?_; refine Zj ?_; refine Zc (hcon := h0) ?_; refine Zc (hcon := h4) ?_; refine Z0 ?_; refine JD ?_; refine X0 ?_
 refine JR ?_; refine ZD ?_; refine ZA ?_; refine Zc (hcon := h0) ?_; refine Zc (hcon := h5) ?_; refine Z0 ?_; refine JD ?_; refine X0 ?_
 clear h1 h2 h3 h4 h5
 refine XH (X8 (n := 82) (τ := [(1, .ptr 100 0), (2, .d (.sl 2 [[.v (.int .i64 1), .v (.int .i64 2)]])), (3, .d (.sl 2 [[.v (.int .i64 1), .v (.int .i64 0)]])), (4, .d (.sl 2 [])), (5, .d (.sl 2 [[.v (.int .i64 1), .v (.int .i64 0)]])), (6, .d (.sl 3 [[.v (.int .i64 0), .v (.int .i64 1), .v (.int .i64 2)]]))]) (L := [(100, .box [ai 1, ai 0, Xu [65], Xu [107], Xu [], Xu []])]) rfl JM ⟨rfl, trivial⟩) ?_
 refine JR ?_; refine Z1 ?_; refine Zw ?_; refine Zi ?_; refine Z1 ?_; refine Z1 ?_; refine Zy ?_; refine Zz ?_; refine Zj ?_
 refine ZJ (us := [.int .i64 1, .int .i64 2]) (vs := [.int .i64 1, .int .i64 2]) (r := true) ?_ (hk := by exact X1y) (hr := by exact X0l [.int .i64 1, .int .i64 2] [.i .i64, .i .i64] rfl); refine Z4 ?_
 refine Z1 ?_; refine Z1 ?_; refine Zw ?_; refine Zi ?_; refine Z4 ?_; refine Z1 ?_; refine Z1 ?_; refine Zy ?_; refine Zz ?_; refine Zj ?_
 refine ZJ (us := [.int .i64 1, .int .i64 0]) (vs := [.int .i64 1, .int .i64 0]) (r := true) ?_ (hk := by exact X1y) (hr := by exact X0l [.int .i64 1, .int .i64 0] [.i .i64, .i .i64] rfl); refine Z4 ?_
 refine Z1 ?_; refine Z1 ?_; refine Zw ?_; refine Zi ?_; refine Z4 ?_; refine Z1 ?_; refine Z1 ?_; refine Zw ?_; refine Zi ?_; refine Z4 ?_; refine Z1 ?_; refine Z1 ?_; refine Zy ?_; refine Zz ?_; refine Zj ?_
 refine ZJ (us := [.int .i64 1, .int .i64 0]) (vs := [.int .i64 1, .int .i64 0]) (r := true) ?_ (hk := by exact X1y) (hr := by exact X0l [.int .i64 1, .int .i64 0] [.i .i64, .i .i64] rfl); refine Z4 ?_
 refine Z1 ?_; refine Z1 ?_; refine Zw ?_; refine Zi ?_; refine Z4 ?_; refine Z1 ?_; refine Z1 ?_; refine Zy ?_; refine Zz ?_; refine Zj ?_
 refine ZJ (us := [.int .i64 0, .int .i64 1, .int .i64 2]) (vs := [.int .i64 0, .int .i64 1, .int .i64 2]) (r := true) ?_ (hk := by exact X2n) (hr := by exact X0l [.int .i64 0, .int .i64 1, .int .i64 2] [.i .i64, .i .i64, .i .i64] rfl)
 refine Z4 ?_; refine Z1 ?_; refine ZD ?_; refine ZA ?_; refine Zc (hcon := h0) ?_; refine Zc (hcon := h6) ?_; refine Zi ?_; refine Z4 ?_; refine Z0 ?_
 refine .done (fun _ => by kernel_rfl) ?_
 skip
 exact X1 ⟨_, St.le_refl _, ⟨rfl, trivial⟩, X2 _⟩
end Go.Fw
namespace Go.Fw
open Go Go.Proofs
set_option maxRecDepth 100000
set_option linter.unusedVariables false
set_option linter.unusedSimpArgs false
theorem X7w (g : Gra) (hg : GraHold g) : Con Try.prog 4 [] [Xq g] [] (ab (X01 g)) := by
 refine Xf (xs := [ab (X01 g)]) Try.func4 rfl Try.ntmps4 rfl rfl rfl (fun E => ?_)
 have hh1 := hg.nl
 have hh2 := hg.el
 clear hg
 obtain ⟨ns, es, nn, ne⟩ := g
 simp only [Xq] at hh1 hh2 ⊢
 have hln : (ns.map Xd).length = ns.length := by simp
 have hle : (es.map Xl).length = es.length := by simp
 unfold X01
 simp only
 by_cases c1 : 60 < ns.length
 ·rw [if_pos (.inl c1)]
  have c1' : (60 : Int) < (ns.map Xd).length := by omega
  refine X0 ?_; refine JR ?_; refine Zn (γ := 100) ?_; refine Z0 ?_; refine JD ?_; refine X0 ?_; refine X0 ?_; refine JR ?_; refine Zo ?_; refine Zp ?_; refine Zw ?_; refine Za ?_; refine Z1 ?_; refine Z5 ?_
  refine Z5 ?_; refine Z5 ?_; refine Z5 ?_; refine Z4 ?_; refine JD ?_; refine JT ?_; refine X0 ?_; refine JR ?_; refine Z0 ?_; refine JD ?_
  (show AWP Try.prog E _ _ _; refine X1 ?_; exact (show Xj _ _ _ _ _ from ⟨_, St.le_refl _, ⟨rfl, trivial⟩, X2 _⟩))
 have c1' : ¬ (60 : Int) < (ns.map Xd).length := by omega
 by_cases c2 : 100 < es.length
 ·rw [if_pos (.inr c2)]
  have c2' : (100 : Int) < (es.map Xl).length := by omega
  refine X0 ?_; refine JR ?_; refine Zn (γ := 100) ?_; refine Z0 ?_; refine JD ?_; refine X0 ?_; refine X0 ?_; refine JR ?_; refine Zo ?_; refine Zp ?_; refine Zw ?_; refine Za ?_; refine Z1 ?_; refine Zo ?_
  refine Zp ?_; refine Zw ?_; refine Za ?_; refine Z7 ?_; refine JD ?_; refine JT ?_; refine X0 ?_; refine JR ?_; refine Z0 ?_; refine JD ?_
  (show AWP Try.prog E _ _ _; refine X1 ?_; exact (show Xj _ _ _ _ _ from ⟨_, St.le_refl _, ⟨rfl, trivial⟩, X2 _⟩))
 have c2' : ¬ (100 : Int) < (es.map Xl).length := by omega
 rw [if_neg (fun h => h.elim c1 c2)]
 generalize hFN : ns.all X0q = FN
 generalize hFE : es.all X0K = FE
 refine X0 ?_; refine JR ?_; refine Zn (γ := 100) ?_; refine Z0 ?_; refine JD ?_; refine X0 ?_; refine X0 ?_; refine JR ?_; refine Zo ?_; refine Zp ?_; refine Zw ?_; refine Za ?_; refine Z1 ?_; refine Zo ?_
 refine Zp ?_; refine Zw ?_; refine Za ?_; refine Z7 ?_; refine JD ?_; refine JF ?_; refine X3 ?_; refine X0 ?_; refine X0 ?_; refine JR ?_; refine Z0 ?_; refine JD ?_; refine X4 ?_
 clear c1' c2'
 refine XD (fun i : Nat => i ≤ ns.length ∧ (ns.drop i).all X0q = FN) (fun i => ⟨55, [(1, .ptr 100 0), (3, ai i)], [(100, .box [.d (.sl 3 (ns.map Xd)), .d (.sl 5 (es.map Xl)), ai nn, ai ne])]⟩) (fun i => ns.length - i) 0 ⟨Nat.zero_le _, by simpa using hFN⟩
  (X8 rfl JM ⟨rfl, trivial⟩) ?_
 rintro i ⟨hi, hg⟩
 by_cases hil : i < ns.length
 case pos =>
  have hn : (i : Int) < (ns.map Xd).length := by omega
  obtain ⟨x, hx⟩ := Xs (l := ns) hil
  have hxc : (ns.map Xd)[i]? = some (Xd x) := Xw hx
  rw [X37 hx] at hg
  obtain ⟨xid, labels, props⟩ := x
  have hlm1 : (labels.map Xo).length = labels.length := by simp
  have hlm2 : (props.map Xi).length = props.length := by simp
  simp only [Xd] at hxc
  unfold X0q at hg
  simp only at hg
  clear hx hFN
  by_cases d1 : 20 < labels.length
  ·have d1' : (20 : Int) < (labels.map Xo).length := by omega
   obtain rfl : FN = false := by rw [← hg, decide_eq_false (fun h => by omega)]; rfl
   rw [Bool.false_and]
   clear hg
   refine X0 ?_; refine X0 ?_; refine JR ?_; refine Z1 ?_; refine Zo ?_; refine Zp ?_; refine Zw ?_; refine Ze ?_; refine JD ?_; refine JT ?_; refine X3 ?_; refine X0 ?_; refine X4 ?_
   refine X0 ?_; refine JR ?_; refine Zo ?_; refine Zp ?_; refine Z1 ?_; refine Zy ?_; refine ZI ?_; refine ZC ?_; refine Zw ?_; refine Za ?_; refine Z1 ?_; refine Z5 ?_; refine Z5 ?_; refine Z5 ?_; refine Z5 ?_
   refine Z5 ?_; refine Z5 ?_; refine Z5 ?_; refine Z5 ?_; refine Z4 ?_; refine JD ?_; refine JT ?_; refine X0 ?_; refine JR ?_; refine Z0 ?_; refine JD ?_
   (show AWP Try.prog E _ _ _; refine X1 ?_; exact (show Xj _ _ _ _ _ from ⟨_, St.le_refl _, ⟨rfl, trivial⟩, X2 _⟩))
  have d1' : ¬ (20 : Int) < (labels.map Xo).length := by omega
  by_cases d2 : 20 < props.length
  ·have d2' : (20 : Int) < (props.map Xi).length := by omega
   obtain rfl : FN = false := by rw [← hg, decide_eq_false (fun h => by omega)]; rfl
   rw [Bool.false_and]
   clear hg
   refine X0 ?_; refine X0 ?_; refine JR ?_; refine Z1 ?_; refine Zo ?_; refine Zp ?_; refine Zw ?_; refine Ze ?_; refine JD ?_; refine JT ?_; refine X3 ?_; refine X0 ?_; refine X4 ?_
   refine X0 ?_; refine JR ?_; refine Zo ?_; refine Zp ?_; refine Z1 ?_; refine Zy ?_; refine ZI ?_; refine ZC ?_; refine Zw ?_; refine Za ?_; refine Z1 ?_; refine Zo ?_; refine Zp ?_; refine Z1 ?_; refine Zy ?_
   refine ZI ?_; refine ZC ?_; refine Zw ?_; refine Za ?_; refine Z7 ?_; refine JD ?_; refine JT ?_; refine X0 ?_; refine JR ?_; refine Z0 ?_; refine JD ?_
   (show AWP Try.prog E _ _ _; refine X1 ?_; exact (show Xj _ _ _ _ _ from ⟨_, St.le_refl _, ⟨rfl, trivial⟩, X2 _⟩))
  have d2' : ¬ (20 : Int) < (props.map Xi).length := by omega
  rw [decide_eq_true ⟨by omega, by omega⟩, Bool.true_and] at hg
  refine X0 ?_; refine X0 ?_; refine JR ?_; refine Z1 ?_; refine Zo ?_; refine Zp ?_; refine Zw ?_; refine Ze ?_; refine JD ?_; refine JT ?_; refine X3 ?_; refine X0 ?_; refine X4 ?_
  refine X0 ?_; refine JR ?_; refine Zo ?_; refine Zp ?_; refine Z1 ?_; refine Zy ?_; refine ZI ?_; refine ZC ?_; refine Zw ?_; refine Za ?_; refine Z1 ?_; refine Zo ?_; refine Zp ?_; refine Z1 ?_; refine Zy ?_
  refine ZI ?_; refine ZC ?_; refine Zw ?_; refine Za ?_; refine Z7 ?_; refine JD ?_; refine JF ?_; refine X3 ?_; refine JR ?_; refine Z1 ?_; refine Zf ?_; refine Z0 ?_; refine JD ?_
  exact ⟨i + 1, ⟨by omega, hg⟩, by omega, X8 rfl JM ⟨rfl, trivial⟩⟩
 rw [List.drop_of_length_le (by omega), List.all_nil] at hg
 subst hg
 rw [Bool.true_and]
 have hn : ¬ (i : Int) < (ns.map Xd).length := by omega
 refine X0 ?_; refine X0 ?_; refine JR ?_; refine Z1 ?_; refine Zo ?_; refine Zp ?_; refine Zw ?_; refine Ze ?_; refine JD ?_; refine JF ?_; refine Xz ?_; refine X0 ?_; refine X0 ?_; refine JR ?_
 refine Z0 ?_; refine JD ?_; refine X4 ?_
 clear hn hFN hi hil
 refine XD (fun i : Nat => i ≤ es.length ∧ (es.drop i).all X0K = FE) (fun i => ⟨55, [(1, .ptr 100 0), (4, ai i)], [(100, .box [.d (.sl 3 (ns.map Xd)), .d (.sl 5 (es.map Xl)), ai nn, ai ne])]⟩) (fun i => es.length - i) 0 ⟨Nat.zero_le _, by simpa using hFE⟩
  (X8 rfl JM ⟨rfl, trivial⟩) ?_
 clear i
 rintro i ⟨hi, hg⟩
 by_cases hil : i < es.length
 case neg =>
  rw [List.drop_of_length_le (by omega), List.all_nil] at hg
  subst hg
  have hn : ¬ (i : Int) < (es.map Xl).length := by omega
  refine X0 ?_; refine X0 ?_; refine JR ?_; refine Z1 ?_; refine Zo ?_; refine Zp ?_; refine Zw ?_; refine Ze ?_; refine JD ?_; refine JF ?_; refine Xz ?_; refine X0 ?_; refine JR ?_; refine Z0 ?_
  refine JD ?_
  (show AWP Try.prog E _ _ _; refine X1 ?_; exact (show Xj _ _ _ _ _ from ⟨_, St.le_refl _, ⟨rfl, trivial⟩, X2 _⟩))
 have hn : (i : Int) < (es.map Xl).length := by omega
 obtain ⟨x, hx⟩ := Xs (l := es) hil
 have hxc : (es.map Xl)[i]? = some (Xl x) := Xw hx
 rw [X37 hx] at hg
 obtain ⟨xid, src, dst, typ, props⟩ := x
 have hlm2 : (props.map Xi).length = props.length := by simp
 simp only [Xl] at hxc
 unfold X0K at hg
 simp only at hg
 clear hx hFE
 by_cases d2 : 20 < props.length
 ·have d2' : (20 : Int) < (props.map Xi).length := by omega
  obtain rfl : FE = false := by rw [← hg, decide_eq_false (fun h => by omega)]; rfl
  clear hg
  refine X0 ?_; refine X0 ?_; refine JR ?_; refine Z1 ?_; refine Zo ?_; refine Zp ?_; refine Zw ?_; refine Ze ?_; refine JD ?_; refine JT ?_; refine X3 ?_; refine X0 ?_; refine X4 ?_
  refine X0 ?_; refine JR ?_; refine Zo ?_; refine Zp ?_; refine Z1 ?_; refine Zy ?_; refine ZI ?_; refine ZC ?_; refine Zw ?_; refine Za ?_; refine JD ?_; refine JT ?_; refine X0 ?_; refine JR ?_; refine Z0 ?_
  refine JD ?_
  (show AWP Try.prog E _ _ _; refine X1 ?_; exact (show Xj _ _ _ _ _ from ⟨_, St.le_refl _, ⟨rfl, trivial⟩, X2 _⟩))
 have d2' : ¬ (20 : Int) < (props.map Xi).length := by omega
 rw [decide_eq_true (by omega), Bool.true_and] at hg
 refine X0 ?_; refine X0 ?_; refine JR ?_; refine Z1 ?_; refine Zo ?_; refine Zp ?_; refine Zw ?_; refine Ze ?_; refine JD ?_; refine JT ?_; refine X3 ?_; refine X0 ?_; refine X4 ?_
 refine X0 ?_; refine JR ?_; refine Zo ?_; refine Zp ?_; refine Z1 ?_; refine Zy ?_; refine ZI ?_; refine ZC ?_; refine Zw ?_; refine Za ?_; refine JD ?_; refine JF ?_; refine X3 ?_; refine JR ?_; refine Z1 ?_
 refine Zf ?_; refine Z0 ?_; refine JD ?_
 exact ⟨i + 1, ⟨by omega, hg⟩, by omega, X8 rfl JM ⟨rfl, trivial⟩⟩
end Go.Fw
namespace Go.Fw
open Go
set_option linter.unusedVariables false
set_option linter.unusedSimpArgs false
theorem X3d : ∀ s t u : List UInt8, Op.bytesLess s t = true → Op.bytesLess t u = true → Op.bytesLess s u = true
 | _, [], _, h, _ => by simp [Op.bytesLess] at h
 | _, _ :: _, [], _, h => by simp [Op.bytesLess] at h
 | [], _ :: _, _ :: _, _, _ => by simp [Op.bytesLess]
 | a :: s, b :: t, c :: u, h1, h2 => by
  have ih := X3d s t u
  simp only [Op.bytesLess, Bool.or_eq_true, decide_eq_true_eq, Bool.and_eq_true, beq_iff_eq] at h1 h2 ⊢
  rcases h1 with h1 | ⟨rfl, h1⟩ <;> rcases h2 with h2 | ⟨rfl, h2⟩
  ·exact .inl (UInt8.lt_trans h1 h2)
  ·exact .inl h1
  ·exact .inl h2
  ·exact .inr ⟨rfl, ih h1 h2⟩
def VQ {α : Type} (C : α → α → Int) : Prop := ∀ a b c, C a b ≤ 0 → C b c ≤ 0 → C a c ≤ 0 ∧ (C a c = 0 → C a b = 0 ∧ C b c = 0)
def UT (a b : Int) : Int := if a < b then -1 else if b < a then 1 else 0
def YB {α : Type} (C1 C2 : α → α → Int) (a b : α) : Int := if C1 a b ≠ 0 then C1 a b else C2 a b
theorem X4e {α : Type} (f : α → Int) : VQ fun a b => UT (f a) (f b) := by
 intro a b c
 simp only [UT]
 intro h1 h2
 refine ⟨?_, fun h3 => ⟨?_, ?_⟩⟩ <;> repeat' split
 all_goals (repeat' (split at *)) <;> omega
theorem X5o {s t : List UInt8} : Xy s t ≤ 0 ↔ Op.bytesLess s t = true ∨ s = t := by
 unfold Xy
 by_cases h : Op.bytesLess s t = true
 ·rw [if_pos h]; simp [h]
 ·rw [if_neg h]
  by_cases q : s = t
  ·rw [if_pos q]; simp [q]
  ·rw [if_neg q]; simp [h, q]
theorem X6T {s t : List UInt8} : Xy s t = 0 ↔ s = t := by
 unfold Xy
 by_cases h : Op.bytesLess s t = true
 ·rw [if_pos h]
  constructor
  ·intro q; simp at q
  ·rintro rfl; rw [X2N] at h; simp at h
 ·rw [if_neg h]
  by_cases q : s = t
  ·simp [q]
  ·rw [if_neg q]; simp [q]
theorem X0I {α : Type} (f : α → List UInt8) : VQ fun a b => Xy (f a) (f b) := by
 intro a b c
 simp only [X5o, X6T]
 rintro (h1 | h1) (h2 | h2)
 ·refine ⟨.inl (X3d _ _ _ h1 h2), fun h3 => ?_⟩
  rw [h3] at h1
  have := X4z _ _ h1
  rw [h2] at this
  simp at this
 ·rw [← h2]
  exact ⟨.inl h1, fun h3 => ⟨h3, rfl⟩⟩
 ·rw [h1]
  exact ⟨.inl h2, fun h3 => ⟨rfl, h3⟩⟩
 ·rw [h1, h2]
  exact ⟨.inr rfl, fun _ => ⟨rfl, rfl⟩⟩
theorem VT {α : Type} {C1 C2 : α → α → Int} (g1 : VQ C1) (g2 : VQ C2) : VQ (YB C1 C2) := by
 intro a b c h1 h2
 have f1 : C1 a b ≤ 0 := by
  unfold YB at h1
  by_cases q : C1 a b ≠ 0
  ·rw [if_pos q] at h1; exact h1
  ·omega
 have f2 : C1 b c ≤ 0 := by
  unfold YB at h2
  by_cases q : C1 b c ≠ 0
  ·rw [if_pos q] at h2; exact h2
  ·omega
 obtain ⟨f3, f4⟩ := g1 a b c f1 f2
 by_cases q : C1 a c ≠ 0
 ·have e : YB C1 C2 a c = C1 a c := by unfold YB; rw [if_pos q]
  rw [e]
  exact ⟨f3, fun h => absurd h q⟩
 ·obtain ⟨k1, k2⟩ := f4 (by omega)
  have e1 : YB C1 C2 a b = C2 a b := by unfold YB; rw [if_neg (by omega)]
  have e2 : YB C1 C2 b c = C2 b c := by unfold YB; rw [if_neg (by omega)]
  have e3 : YB C1 C2 a c = C2 a c := by unfold YB; rw [if_neg (by omega)]
  rw [e1] at h1 ⊢
  rw [e2] at h2 ⊢
  rw [e3]
  exact g2 a b c h1 h2
def X0T : Rul → Rul → Int := YB (fun a b => UT a.kind b.kind) (YB (fun a b => Xy a.name b.name) (YB (fun a b => Xy a.key b.key) (YB (fun a b => UT a.n b.n) (YB (fun a b => Xy a.src b.src) fun a b => Xy a.dst b.dst))))
theorem X3c {α : Type} (a b : Int) (z : Int) : (if UT a b ≠ 0 then UT a b else z) = if a < b then -1 else if b < a then 1 else z := by
 unfold UT
 by_cases h : a < b
 ·simp [h]
 ·by_cases q : b < a <;> simp [h, q]
theorem X5Z (a b : Rul) : XZ a b = X0T a b := by
 unfold X0T YB XZ
 simp only
 rw [X3c (α := Unit) a.kind b.kind, X3c (α := Unit) a.n b.n]
theorem X7N {a b c : Rul} (h1 : XZ a b < 0) (h2 : XZ b c < 0) : XZ a c < 0 := by
 have g : VQ X0T := VT (X4e _) (VT (X0I _) (VT (X0I _) (VT (X4e _) (VT (X0I _) (X0I _)))))
 rw [X5Z] at *
 obtain ⟨h3, h4⟩ := g a b c (by omega) (by omega)
 by_cases q : X0T a c = 0
 ·have := (h4 q).1; omega
 ·omega
def YG (s : List Rul) (k : Nat) : List Rul := s.take k ++ s.drop (k + 1)
theorem X2J : ∀ (s : List Rul) (k : Nat) (p : Option Rul), Ym p s = true → Ym p (YG s k) = true
 | [], k, p, h => by simp [YG, Ym]
 | r :: t, 0, p, h => by
  unfold YG
  rw [List.take_zero, List.nil_append, Nat.zero_add, List.drop_succ_cons, List.drop_zero]
  rw [Ym] at h
  simp only [Bool.and_eq_true, decide_eq_true_eq] at h
  obtain ⟨⟨h1, h2⟩, h3⟩ := h
  cases t with
  | nil => rfl
  | cons x t =>
   rw [Ym] at h3 ⊢
   simp only [Bool.and_eq_true, decide_eq_true_eq] at h3 ⊢
   obtain ⟨⟨k1, k2⟩, k3⟩ := h3
   exact ⟨⟨k1, fun q hq => X7N (h2 q hq) (k2 r rfl)⟩, k3⟩
 | r :: t, k + 1, p, h => by
  have e : YG (r :: t) (k + 1) = r :: YG t k := rfl
  rw [e]
  rw [Ym] at h ⊢
  simp only [Bool.and_eq_true] at h ⊢
  exact ⟨h.1, X2J t k (some r) h.2⟩
theorem X7p {s : List Rul} {k : Nat} (h : Y1 s = true) : Y1 (YG s k) = true := by
 unfold Y1 at *
 simp only [Bool.and_eq_true, decide_eq_true_eq] at h ⊢
 refine ⟨X2J s k none h.1, ?_⟩
 unfold YG
 rw [List.length_append, List.length_take, List.length_drop]
 omega
def Vq (k : Int) (v : Vio) : Vio := if k < v.rule then ⟨v.rule - 1, v.a, v.b⟩ else v
def XT (k : Int) (l : List Vio) : List Vio := (l.filter fun v => decide (v.rule ≠ k)).map (Vq k)
def Yo (k : Int) (l : List Vio) : Nat := l.countP fun v => decide (v.rule = k)
theorem X0X (k : Int) (l m : List Vio) : XT k (l ++ m) = XT k l ++ XT k m := by unfold XT; rw [List.filter_append, List.map_append]
theorem X4W (k : Int) (i : Nat) (l : List (Int × Int)) (h : (i : Int) = k) : XT k (Yc i l) = [] := by
 unfold XT Yc
 simp [List.filter_map, Function.comp_def, h]
theorem X6z (k : Int) (i : Nat) (l : List (Int × Int)) (h : (i : Int) < k) : XT k (Yc i l) = Yc i l := by
 unfold XT Yc
 rw [List.filter_eq_self.2 (by intro v hv; rw [List.mem_map] at hv; obtain ⟨p, _, rfl⟩ := hv; simp; omega), List.map_map]
 refine List.map_congr_left fun p _ => ?_
 simp only [Function.comp_apply, Vq]
 rw [if_neg (by omega)]
theorem X5w (k : Int) (i : Nat) (l : List (Int × Int)) (h : k < ((i + 1 : Nat) : Int)) : XT k (Yc (i + 1) l) = Yc i l := by
 unfold XT Yc
 rw [List.filter_eq_self.2 (by intro v hv; rw [List.mem_map] at hv; obtain ⟨p, _, rfl⟩ := hv; simp; omega), List.map_map]
 refine List.map_congr_left fun p _ => ?_
 simp only [Function.comp_apply, Vq]
 rw [if_pos (by omega)]
 congr 1
 omega
theorem X3Y (f : Rul → List (Int × Int)) (k : Int) : ∀ (i : Nat) (s : List Rul), k < ((i + 1 : Nat) : Int) → XT k (Xv f (i + 1) s) = Xv f i s
 | _, [], _ => rfl
 | i, r :: s, h => by rw [Xv, Xv, X0X, X5w k i _ h, X3Y f k (i + 1) s (by omega)]
theorem X3j (f : Rul → List (Int × Int)) : ∀ (s : List Rul) (i k : Nat), k < s.length → XT ((i + k : Nat) : Int) (Xv f i s) = Xv f i (YG s k)
 | [], _, _, h => by simp at h
 | r :: s, i, 0, _ => by
  rw [Xv, X0X, X4W _ i _ (by simp), List.nil_append]
  exact X3Y f _ i s (by omega)
 | r :: s, i, k + 1, h => by
  have e : YG (r :: s) (k + 1) = r :: YG s k := rfl
  rw [e, Xv, Xv, X0X, X6z _ i _ (by omega)]
  have := X3j f s (i + 1) k (by simpa using h)
  rw [show i + 1 + k = i + (k + 1) by omega] at this
  rw [this]
theorem X0O (k : Int) (l m : List Vio) : Yo k (l ++ m) = Yo k l + Yo k m := by unfold Yo; rw [List.countP_append]
theorem X4A (k : Int) (i : Nat) (l : List (Int × Int)) (h : (i : Int) ≠ k) : Yo k (Yc i l) = 0 := by
 unfold Yo Yc
 rw [List.countP_eq_zero]
 intro v hv
 rw [List.mem_map] at hv
 obtain ⟨p, _, rfl⟩ := hv
 simpa using h
theorem X8Q (k : Int) (i : Nat) (l : List (Int × Int)) (h : (i : Int) = k) : Yo k (Yc i l) = l.length := by
 unfold Yo Yc
 rw [List.countP_eq_length.2 (by intro v hv; rw [List.mem_map] at hv; obtain ⟨p, _, rfl⟩ := hv; simpa using h), List.length_map]
theorem X2y (f : Rul → List (Int × Int)) (k : Int) : ∀ (i : Nat) (s : List Rul), k < (i : Int) → Yo k (Xv f i s) = 0
 | _, [], _ => rfl
 | i, r :: s, h => by rw [Xv, X0O, X4A k i _ (by omega), X2y f k (i + 1) s (by omega)]
theorem X2A (f : Rul → List (Int × Int)) : ∀ (s : List Rul) (i k : Nat) (r : Rul), s[k]? = some r → Yo ((i + k : Nat) : Int) (Xv f i s) = (f r).length
 | [], _, _, _, h => by simp at h
 | x :: s, i, 0, r, h => by
  simp only [List.getElem?_cons_zero, Option.some.injEq] at h
  subst h
  rw [Xv, X0O, X8Q _ i _ (by simp), X2y f _ (i + 1) s (by omega)]
  rfl
 | x :: s, i, k + 1, r, h => by
  rw [Xv, X0O, X4A _ i _ (by omega), Nat.zero_add]
  have := X2A f s (i + 1) k r (by simpa using h)
  rw [show i + 1 + k = i + (k + 1) by omega] at this
  exact this
theorem X7v {s : List Rul} {g : Gra} {k : Nat} (h : Y1 s = true) (hk : k < s.length) : XY (YG s k) g = XT (k : Nat) (XY s g) := by
 rw [Vj h, Vj (X7p h)]
 have := X3j (fun r => ofS r g) s 0 k hk
 rw [Nat.zero_add] at this
 exact this.symm
theorem X8z {s : List Rul} {g : Gra} {k : Nat} {r : Rul} (h : Y1 s = true) (hk : s[k]? = some r) : (ofS r g).length = Yo (k : Nat) (XY s g) := by
 rw [Vj h]
 have := X2A (fun r => ofS r g) s 0 k r hk
 rw [Nat.zero_add] at this
 exact this.symm
theorem X6N {k : Int} {l : List Vio} {i : Nat} {v : Vio} (h : l[i]? = some v) : XT k (l.take (i + 1)) = XT k (l.take i) ++ if v.rule = k then [] else [Vq k v] := by
 rw [VL h, X0X]
 congr 1
 unfold XT
 by_cases q : v.rule = k <;> simp [q]
theorem X8b {k : Int} {l : List Vio} {i : Nat} {v : Vio} (h : l[i]? = some v) : Yo k (l.take (i + 1)) = Yo k (l.take i) + if v.rule = k then 1 else 0 := by
 rw [VL h, X0O]
 congr 1
 unfold Yo
 by_cases q : v.rule = k <;> simp [q]
theorem X4n (k : Int) (l : List Vio) : (XT k l).length ≤ l.length := by
 unfold XT
 rw [List.length_map]
 exact List.length_filter_le _ _
end Go.Fw
namespace Go.Fw
open Go Go.Proofs
set_option maxRecDepth 100000
set_option linter.unusedVariables false
set_option linter.unusedSimpArgs false
theorem X7M (s : List Rul) (q8 : UInt8) (g : Gra) (hg : GraHold g) (hs : s.length ≤ 9223372036854775807) : Con Try.prog 3 [] [.d (.sl 6 (s.map Xe)), au8 q8.toNat, Xq g] [] (ab true) := by
 refine Xf (xs := [ab true]) Try.func3 rfl Try.ntmps3 rfl rfl rfl (fun E => ?_)
 have ha := X96
 have hsm : (s.map Xe).length = s.length := by simp
 have hfw := X7w g hg
 by_cases q1 : X01 g = true
 case neg =>
  have q1 : X01 g = false := by simpa using q1
  rw [q1] at hfw
  clear hg
  obtain ⟨ns, es, nn, ne⟩ := g
  simp only [Xq] at *
  refine X0 ?_; refine JR ?_; refine Zn (γ := 100) ?_; refine Z0 ?_; refine JD ?_; refine X0 ?_; refine X0 ?_; refine JR ?_; refine ZD ?_; refine Zc (hcon := hfw) ?_; refine Zd ?_; refine Z1 ?_; refine Z5 ?_
  refine Z5 ?_; refine Z5 ?_; refine Z4 ?_; refine Z1 ?_; refine Z5 ?_; refine Z5 ?_; refine Z5 ?_; refine Z4 ?_; refine Z1 ?_; refine Z5 ?_; refine Z5 ?_; refine Z5 ?_; refine Z4 ?_; refine JD ?_; refine JT ?_
  refine X0 ?_; refine JR ?_; refine Zc (hcon := ha) ?_; refine Z0 ?_; refine JD ?_
  (show AWP Try.prog E _ _ _; refine X1 ?_; exact (show Xj _ _ _ _ _ from ⟨_, St.le_refl _, ⟨rfl, trivial⟩, X2 _⟩))
 rw [q1] at hfw
 by_cases c1 : 60 < s.length
 ·have c1' : (60 : Int) < (s.map Xe).length := by omega
  clear hg q1
  obtain ⟨ns, es, nn, ne⟩ := g
  simp only [Xq] at *
  refine X0 ?_; refine JR ?_; refine Zn (γ := 100) ?_; refine Z0 ?_; refine JD ?_; refine X0 ?_; refine X0 ?_; refine JR ?_; refine ZD ?_; refine Zc (hcon := hfw) ?_; refine Zd ?_; refine Z1 ?_; refine Z1 ?_
  refine Zw ?_; refine Za ?_; refine Z7 ?_; refine Z1 ?_; refine Z5 ?_; refine Z5 ?_; refine Z5 ?_; refine Z4 ?_; refine Z1 ?_; refine Z5 ?_; refine Z5 ?_; refine Z5 ?_; refine Z4 ?_; refine JD ?_; refine JT ?_
  refine X0 ?_; refine JR ?_; refine Zc (hcon := ha) ?_; refine Z0 ?_; refine JD ?_
  (show AWP Try.prog E _ _ _; refine X1 ?_; exact (show Xj _ _ _ _ _ from ⟨_, St.le_refl _, ⟨rfl, trivial⟩, X2 _⟩))
 have c1' : ¬ (60 : Int) < (s.map Xe).length := by omega
 by_cases c2 : s.length = 0
 ·have c2' : ((s.map Xe).length : Int) = 0 := by omega
  clear hg q1
  obtain ⟨ns, es, nn, ne⟩ := g
  simp only [Xq] at *
  refine X0 ?_; refine JR ?_; refine Zn (γ := 100) ?_; refine Z0 ?_; refine JD ?_; refine X0 ?_; refine X0 ?_; refine JR ?_; refine ZD ?_; refine Zc (hcon := hfw) ?_; refine Zd ?_; refine Z1 ?_; refine Z1 ?_
  refine Zw ?_; refine Za ?_; refine Z7 ?_; refine Z1 ?_; refine Z1 ?_; refine Zw ?_; refine Zi ?_; refine Z7 ?_; refine Z1 ?_; refine Z5 ?_; refine Z5 ?_; refine Z5 ?_; refine Z4 ?_; refine JD ?_; refine JT ?_
  refine X0 ?_; refine JR ?_; refine Zc (hcon := ha) ?_; refine Z0 ?_; refine JD ?_
  (show AWP Try.prog E _ _ _; refine X1 ?_; exact (show Xj _ _ _ _ _ from ⟨_, St.le_refl _, ⟨rfl, trivial⟩, X2 _⟩))
 have c2' : ¬ ((s.map Xe).length : Int) = 0 := by omega
 have hv := X5t s hs
 by_cases q2 : Y1 s = true
 case neg =>
  have q2 : Y1 s = false := by simpa using q2
  rw [q2] at hv
  clear hg q1
  obtain ⟨ns, es, nn, ne⟩ := g
  simp only [Xq] at *
  refine X0 ?_; refine JR ?_; refine Zn (γ := 100) ?_; refine Z0 ?_; refine JD ?_; refine X0 ?_; refine X0 ?_; refine JR ?_; refine ZD ?_; refine Zc (hcon := hfw) ?_; refine Zd ?_; refine Z1 ?_; refine Z1 ?_
  refine Zw ?_; refine Za ?_; refine Z7 ?_; refine Z1 ?_; refine Z1 ?_; refine Zw ?_; refine Zi ?_; refine Z7 ?_; refine Z1 ?_; refine Z1 ?_; refine Zc (hcon := hv) ?_; refine Zd ?_; refine Z7 ?_; refine JD ?_
  refine JT ?_; refine X0 ?_; refine JR ?_; refine Zc (hcon := ha) ?_; refine Z0 ?_; refine JD ?_
  (show AWP Try.prog E _ _ _; refine X1 ?_; exact (show Xj _ _ _ _ _ from ⟨_, St.le_refl _, ⟨rfl, trivial⟩, X2 _⟩))
 rw [q2] at hv
 obtain ⟨k, hk⟩ : ∃ k : Nat, k = q8.toNat % s.length := ⟨_, rfl⟩
 have hkl : k < s.length := by rw [hk]; exact Nat.mod_lt _ (by omega)
 have hkq : (q8.toNat : Int) % ((s.map Xe).length : Nat) = ((k : Nat) : Int) := by rw [hsm, hk]; simp
 have hk1 : k + 1 ≤ (s.map Xe).length := by omega
 have hk0 : k ≤ (s.map Xe).length := by omega
 obtain ⟨r, hr⟩ := Xs (l := s) hkl
 have hrc : (s.map Xe)[k]? = some (Xe r) := Xw hr
 have hless : (YG s k).map Xe = (s.map Xe).take k ++ (s.map Xe).drop (k + 1) := by unfold YG; rw [List.map_append, List.map_take, List.map_drop]
 have h1 := X18 s g hg hs
 have h2 := X18 (YG s k) g hg (by unfold YG; rw [List.length_append, List.length_take, List.length_drop]; omega)
 rw [hless] at h2
 have h4 := X0k r g hg
 have e2 := X7v (g := g) q2 hkl
 have e4 := X8z (g := g) q2 hr
 rw [e2] at h2
 have hlen := X2j (s := s) (g := g)
 have hol : ((ofS r g).map Xk).length = (ofS r g).length := by simp
 rw [e4] at hol
 have hrule : ∀ v ∈ XY s g, v.rule ≤ 60 := fun v hv' => by
  rw [Vj q2] at hv'
  obtain ⟨j, x, ej, hj⟩ := X1x 0 s v hv'
  have := (List.getElem?_eq_some_iff.1 hj).1
  omega
 generalize ofS r g = O at *
 generalize hL : XY s g = L at *
 have h3 := X5R (XT (k : Nat) L) (by have := X4n (k : Nat) L; omega)
 have hLm : (L.map Xt).length = L.length := by simp
 clear hg q1 e2 e4 hL hless hr q2 hk
 obtain ⟨ns, es, nn, ne⟩ := g
 obtain ⟨rk, rn, rname, rkey, rsrc, rdst⟩ := r
 simp only [Xq, XA, X1c, Xe] at *
 have hroom1 : ((s.map Xe).take k).length ≤ 60 := by rw [List.length_take]; omega
 have hroom2 : ((s.map Xe).drop (k + 1)).length ≤ 60 := by rw [List.length_drop]; omega
 refine X0 ?_; refine JR ?_; refine Zn (γ := 100) ?_; refine Z0 ?_; refine JD ?_; refine X0 ?_; refine X0 ?_; refine JR ?_; refine ZD ?_; refine Zc (hcon := hfw) ?_; refine Zd ?_; refine Z1 ?_; refine Z1 ?_
 refine Zw ?_; refine Za ?_; refine Z7 ?_; refine Z1 ?_; refine Z1 ?_; refine Zw ?_; refine Zi ?_; refine Z7 ?_; refine Z1 ?_; refine Z1 ?_; refine Zc (hcon := hv) ?_; refine Zd ?_; refine Z7 ?_; refine JD ?_
 refine JF ?_; refine X3 ?_; refine X0 ?_; refine JR ?_; refine Z1 ?_; refine ZZ ?_; refine Z1 ?_; refine Zw ?_
 refine Z00 (op := .rem) (r' := .int .i64 (k : Nat)) (u := .int .i64 q8.toNat) (v := .int .i64 ((s.map Xe).length : Nat)) ?_ (hr' := by exact congrArg (Value.int .i64) hkq); refine Z0 ?_; refine JD ?_
 refine X0 ?_
 have hk1' : k + 1 ≤ (s.map Xe).length := hk1
 have hsa : ((s.map Xe).take k).drop 0 = (s.map Xe).take k := List.drop_zero
 have hsb : ((s.map Xe).take (s.map Xe).length).drop (k + 1) = (s.map Xe).drop (k + 1) := by rw [List.take_length]
 refine JR ?_; refine ZN (γ := 130) ?_; refine Z1 ?_; refine Z1 ?_; refine ZW (lb := 0) (hb := k) (ys := (s.map Xe).take k) ?_ (hys := by exact hsa); refine ZG ?_; refine Z1 ?_; refine Z1 ?_; refine Zf ?_
 refine ZW (lb := (k + 1)) (hb := (s.map Xe).length) (ys := (s.map Xe).drop (k + 1)) ?_ (hys := by exact hsb); refine ZG ?_; refine Z0 ?_
 refine .done (fun _ => by kernel_rfl) ?_
 refine X0 ?_
 refine XH (U0 130 rfl) ?_
 refine XH (U3 8 130 rfl rfl (by simp)) ?_
 refine JR ?_; refine Z1 ?_; refine ZD ?_; refine Zc (hcon := h1) ?_; refine Z0 ?_; refine JD ?_; refine X0 ?_; refine JR ?_; refine Z0 ?_; refine JD ?_; refine X0 ?_; refine JR ?_; refine Z0 ?_; refine JD ?_
 refine X0 ?_; refine X0 ?_; refine JR ?_; refine Z0 ?_; refine JD ?_; refine X4 ?_
 clear hfw hv h1
 refine XH (Ut 10 131 3 rfl rfl rfl) ?_
 refine XD (fun i : Nat => i ≤ L.length) (fun i => ⟨98, [(0, .d (.sl 6 (s.map Xe))), (5, .ptr 100 0), (7, ai (k : Nat)), (8, .d (.sl 6 ((s.map Xe).take k ++ (s.map Xe).drop (k + 1)))), (9, .d (.sl 3 (L.map Xt))), (10, .own 131 ((XT (k : Nat) (L.take i)).map Xt).length), (11, ai (Yo (k : Nat) (L.take i) : Nat)), (12, ai i)], [(100, .box [.d (.sl 3 (ns.map Xd)), .d (.sl 5 (es.map Xl)), ai nn, ai ne]), (131, .row 3 ((XT (k : Nat) (L.take i)).map Xt))]⟩) (fun i => L.length - i) 0 (Nat.zero_le _)
  (X8 rfl JM ⟨rfl, rfl, trivial⟩) ?_
 intro i hi
 by_cases hil : i < L.length
 case neg =>
  obtain rfl : i = L.length := by omega
  have hn : ¬ ((L.length : Nat) : Int) < (L.map Xt).length := by omega
  rw [List.take_length]
  refine X0 ?_; refine X0 ?_; refine JR ?_; refine Z1 ?_; refine Z1 ?_; refine Zw ?_; refine Ze ?_; refine JD ?_; refine JF ?_; refine Xz ?_; refine X0 ?_
  refine XH (U0 131 rfl) ?_
  refine XH (U3 10 131 rfl rfl rfl) ?_
  have hol' : (((O.map Xk).length : Nat) : Int) = (Yo (k : Nat) L : Nat) := by omega
  refine JR ?_; refine Z1 ?_; refine ZD ?_; refine Zc (hcon := h2) ?_; refine Z1 ?_; refine Zc (hcon := h3) ?_; refine Z1 ?_; refine Z1 ?_; refine Z1 ?_; refine Zy ?_; refine Zz ?_; refine ZD ?_; refine Zc (hcon := h4) ?_
  refine Zw ?_; refine Z1 ?_; refine Zi ?_; refine Z4 ?_; refine Z1 ?_; refine Zc (hcon := ha) ?_; refine Z4 ?_; refine Z0 ?_
  refine .done (fun _ => by kernel_rfl) ?_
  skip
  (show AWP Try.prog E _ _ _; refine X1 ?_; exact (show Xj _ _ _ _ _ from ⟨_, St.le_refl _, ⟨rfl, trivial⟩, X2 _⟩))
 have hn : (i : Int) < (L.map Xt).length := by omega
 obtain ⟨v, hv⟩ := Xs (l := L) hil
 have hvc : (L.map Xt)[i]? = some (Xt v) := Xw hv
 have hd := X6N (k := (k : Nat)) hv
 have hm := X8b (k := (k : Nat)) hv
 have hdl := X4n (k : Nat) (L.take i)
 have hml : Yo (k : Nat) (L.take i) ≤ i := by
  have := List.countP_le_length (p := fun v : Vio => decide (v.rule = (k : Nat))) (l := L.take i)
  rw [List.length_take] at this
  unfold Yo
  omega
 rw [List.length_take] at hdl
 have hroom : ((XT (k : Nat) (L.take i)).map Xt).length ≤ 160000000 := by rw [List.length_map]; omega
 have hvr := hrule v (List.mem_of_getElem? hv)
 clear h2 h3 h4 ha hv hrc hol hrule
 obtain ⟨vr, va, vb⟩ := v
 simp only [Xt] at hvc hd hm hvr
 by_cases d1 : vr = (k : Nat)
 ·rw [if_pos d1] at hd hm
  rw [List.append_nil] at hd
  refine X0 ?_; refine X0 ?_; refine JR ?_; refine Z1 ?_; refine Z1 ?_; refine Zw ?_; refine Ze ?_; refine JD ?_; refine JT ?_; refine X3 ?_; refine X0 ?_; refine X4 ?_; refine X0 ?_
  refine JR ?_; refine Z1 ?_; refine Z1 ?_; refine Zy ?_; refine Zz ?_; refine Zh (γ := 101) ?_; refine Zk ?_; refine JD ?_; refine X0 ?_; refine X0 ?_; refine JR ?_; refine Zo ?_; refine Zp ?_; refine Z1 ?_
  refine Zi ?_; refine JD ?_; refine JT ?_; refine X0 ?_; refine JR ?_; refine Z1 ?_; refine Zf ?_; refine Z0 ?_; refine JD ?_; refine Xz ?_; refine JR ?_; refine Z1 ?_; refine Zf ?_; refine Z0 ?_; refine JD ?_
  refine ⟨i + 1, hil, by omega, ?_⟩
  dsimp only
  rw [hd, hm]
  exact X8 rfl JM ⟨rfl, rfl, trivial⟩
 rw [if_neg d1] at hd hm
 rw [Nat.add_zero] at hm
 by_cases d2 : ((k : Nat) : Int) < vr
 ·have hdw : Vq (k : Nat) ⟨vr, va, vb⟩ = ⟨vr - 1, va, vb⟩ := if_pos d2
  rw [hdw] at hd
  have happ : (XT (k : Nat) (L.take (i + 1))).map Xt = (XT (k : Nat) (L.take i)).map Xt ++ [[.v (.int .i64 (vr - 1)), .v (.int .i64 va), .v (.int .i64 vb)]] := by rw [hd, List.map_append]; rfl
  refine X0 ?_; refine X0 ?_; refine JR ?_; refine Z1 ?_; refine Z1 ?_; refine Zw ?_; refine Ze ?_; refine JD ?_; refine JT ?_; refine X3 ?_; refine X0 ?_; refine X4 ?_; refine X0 ?_
  refine JR ?_; refine Z1 ?_; refine Z1 ?_; refine Zy ?_; refine Zz ?_; refine Zh (γ := 101) ?_; refine Zk ?_; refine JD ?_; refine X0 ?_; refine X0 ?_; refine JR ?_; refine Zo ?_; refine Zp ?_; refine Z1 ?_
  refine Zi ?_; refine JD ?_; refine JF ?_; refine X3 ?_; refine X0 ?_; refine X0 ?_; refine JR ?_; refine Zo ?_; refine Zp ?_; refine Z1 ?_; refine Za ?_; refine JD ?_; refine JT ?_; refine JR ?_
  refine Zo ?_; refine Zp ?_; refine Z01 ?_; refine Zo ?_; refine Zk ?_; refine JD ?_; refine JR ?_; refine Z1 ?_; refine ZD ?_; refine ZA ?_; refine ZG ?_; refine Z0 ?_; refine JD ?_; refine JR ?_; refine Z1 ?_
  refine Zf ?_; refine Z0 ?_; refine JD ?_
  refine ⟨i + 1, hil, by omega, ?_⟩
  dsimp only
  rw [happ, hm]
  exact X8 rfl ⟨JL, JL, JL, JL, JL, AVal.le_of_eq (by refine Eq.trans (b := AVal.own 131 (_ + _)) rfl ?_; simp only [List.length_append, List.length_map, List.length_cons, List.length_nil]), JL, JL, trivial⟩ ⟨rfl, rfl, trivial⟩
 ·have hdw : Vq (k : Nat) ⟨vr, va, vb⟩ = ⟨vr, va, vb⟩ := if_neg d2
  rw [hdw] at hd
  have happ : (XT (k : Nat) (L.take (i + 1))).map Xt = (XT (k : Nat) (L.take i)).map Xt ++ [[.v (.int .i64 vr), .v (.int .i64 va), .v (.int .i64 vb)]] := by rw [hd, List.map_append]; rfl
  refine X0 ?_; refine X0 ?_; refine JR ?_; refine Z1 ?_; refine Z1 ?_; refine Zw ?_; refine Ze ?_; refine JD ?_; refine JT ?_; refine X3 ?_; refine X0 ?_; refine X4 ?_; refine X0 ?_
  refine JR ?_; refine Z1 ?_; refine Z1 ?_; refine Zy ?_; refine Zz ?_; refine Zh (γ := 101) ?_; refine Zk ?_; refine JD ?_; refine X0 ?_; refine X0 ?_; refine JR ?_; refine Zo ?_; refine Zp ?_; refine Z1 ?_
  refine Zi ?_; refine JD ?_; refine JF ?_; refine X3 ?_; refine X0 ?_; refine X0 ?_; refine JR ?_; refine Zo ?_; refine Zp ?_; refine Z1 ?_; refine Za ?_; refine JD ?_; refine JF ?_; refine X3 ?_
  refine JR ?_; refine Z1 ?_; refine ZD ?_; refine ZA ?_; refine ZG ?_; refine Z0 ?_; refine JD ?_; refine JR ?_; refine Z1 ?_; refine Zf ?_; refine Z0 ?_; refine JD ?_
  refine ⟨i + 1, hil, by omega, ?_⟩
  dsimp only
  rw [happ, hm]
  exact X8 rfl ⟨JL, JL, JL, JL, JL, AVal.le_of_eq (by refine Eq.trans (b := AVal.own 131 (_ + _)) rfl ?_; simp only [List.length_append, List.length_map, List.length_cons, List.length_nil]), JL, JL, trivial⟩ ⟨rfl, rfl, trivial⟩
end Go.Fw
namespace Go.Fw
open Go Go.Proofs
set_option linter.unusedVariables false
theorem Ue : Try.prog.cellsOf 3 = 1 := by kernel_rfl
theorem UM : Try.prog.cellsOf 9 = 1 := by kernel_rfl
theorem X6Y : Try.prog.cellsOf 57 = 1 := by kernel_rfl
theorem X2g : Try.prog.cellsOf 59 = 5 := by kernel_rfl
theorem X2O : Try.prog.cellsOf 38 = 6 := by kernel_rfl
def X6W (r : Rul) : List D := [.v (.int .i64 r.kind), .v (.int .i64 r.n), .v (.string (X5 r.name)), .v (.string (X5 r.key)), .v (.string (X5 r.src)), .v (.string (X5 r.dst))]
section
variable {H : Type} {enc : TypeId × Value → H} {W : World}
theorem X2u : ∀ n, OpensN enc Try.prog W n 59 UD Y9
 | 0 => ⟨fun cs x hx => by simp [DataW.trod] at hx⟩
 | n + 1 =>
  (X8D Try.underlying59 X2g (fun m hm =>
   VW rfl Ue ((Ua Try.underlying3).at m) (VW rfl Ue ((Ua Try.underlying3).at m) (VW rfl Ue ((Ua Try.underlying3).at m)
    (VW rfl UM ((UO Try.underlying9).at m)
     (VW rfl X6Y (VJ (p := UD) (f := Y9) Try.underlying57 X2g (by decide) (fun m' hm' => X2u m')) X5I)))))).to
   (fun r => .mk r.1 r.2.1 r.2.2.1 r.2.2.2.1 r.2.2.2.2.1) fun r h => ⟨by rw [UD]; exact ⟨h.2.2.2.1, h.2.2.2.2.1.2, X3e h.2.2.2.2.1.1⟩, by rw [Y9, X0N]; rfl⟩
termination_by n => n
decreasing_by omega
theorem X4P : Opens enc Try.prog W 59 UD Y9 := VM X2u
theorem X5V : Opens enc Try.prog W 38 (fun _ : Rul => True) X6W :=
 (X05 Try.underlying38 X2O
  (Yd rfl Ue (Ua Try.underlying3) (Yd rfl Ue (Ua Try.underlying3)
   (Yd rfl UM (UO Try.underlying9) (Yd rfl UM (UO Try.underlying9) (Yd rfl UM (UO Try.underlying9) (Yd rfl UM (UO Try.underlying9) VX))))))).to
  (fun r => ⟨r.1, r.2.1, r.2.2.1, r.2.2.2.1, r.2.2.2.2.1, r.2.2.2.2.2.1⟩) fun r h => ⟨trivial, rfl⟩
end
end Go.Fw
namespace Go.Fw
open Go Go.Proofs
set_option linter.unusedVariables false
theorem X7e : Try.prog.cellsOf 40 = 1 := by kernel_rfl
theorem X3F : Try.prog.cellsOf 41 = 1 := by kernel_rfl
theorem X7E : Try.prog.cellsOf 23 = 1 := by kernel_rfl
theorem X6j : Try.prog.cellsOf 24 = 1 := by kernel_rfl
theorem X2q : Try.prog.cellsOf 61 = 6 := by kernel_rfl
theorem X2B : Try.prog.cellsOf 43 = 3 := by kernel_rfl
theorem X4F : Try.prog.cellsOf 45 = 5 := by kernel_rfl
theorem X7F : Try.prog.cellsOf 26 = 4 := by kernel_rfl
def X4C (g : Gra) : List D := [.sl 3 (g.nodes.map Xd), .sl 5 (g.edges.map Xl), .v (.int .i64 g.nn), .v (.int .i64 g.ne)]
theorem X8X (g : Gra) : Xq g = .agg ((X4C g).map .d) := rfl
section
variable {H : Type} {enc : TypeId × Value → H} {W : World}
theorem X57 : Opens enc Try.prog W 61 X07 Xi :=
 (X05 Try.underlying61 X2q
  (Yd rfl UM (UO Try.underlying9) (Yd rfl X2g X4P VX))).to
  (fun r => ⟨r.1, r.2.1⟩) fun r h => ⟨⟨h.1, h.2.1⟩, by
   obtain ⟨k, v, u⟩ := r
   cases v
   simp [Xi, Y9]⟩
theorem X3a : Opens enc Try.prog W 41 (fun l : List Prp => (∀ c ∈ l, X07 c) ∧ l.length ≤ 9223372036854775807) (fun l => [.sl 6 (l.map Xi)]) :=
 VM fun n => VJ Try.underlying41 X2q (by decide) fun m _ => X57.at m
theorem X59 : Opens enc Try.prog W 40 (fun l : List (List UInt8) => (∀ c ∈ l, c.length ≤ 9223372036854775807) ∧ l.length ≤ 9223372036854775807) (fun l => [.sl 1 (l.map Xo)]) :=
 VM fun n => VJ Try.underlying40 UM (by decide) fun m _ => (UO Try.underlying9).at m
theorem X5P : Opens enc Try.prog W 43 X1I Xd :=
 (X05 Try.underlying43 X2B
  (Yd rfl Ue (Ua Try.underlying3) (Yd rfl X7e X59 (Yd rfl X3F X3a VX)))).to
  (fun r => ⟨r.1, r.2.1, r.2.2.1⟩) fun r h => ⟨⟨h.2.1.2, h.2.1.1, h.2.2.1.2, h.2.2.1.1⟩, rfl⟩
theorem X6k : Opens enc Try.prog W 45 X1s Xl :=
 (X05 Try.underlying45 X4F
  (Yd rfl Ue (Ua Try.underlying3) (Yd rfl Ue (Ua Try.underlying3) (Yd rfl Ue (Ua Try.underlying3)
   (Yd rfl UM (UO Try.underlying9) (Yd rfl X3F X3a VX)))))).to
  (fun r => ⟨r.1, r.2.1, r.2.2.1, r.2.2.2.1, r.2.2.2.2.1⟩) fun r h => ⟨⟨h.2.2.2.1, h.2.2.2.2.1.2, h.2.2.2.2.1.1⟩, rfl⟩
theorem X52 : Opens enc Try.prog W 23 (fun l : List Nod => (∀ c ∈ l, X1I c) ∧ l.length ≤ 9223372036854775807) (fun l => [.sl 3 (l.map Xd)]) :=
 VM fun n => VJ Try.underlying23 X2B (by decide) fun m _ => X5P.at m
theorem X7H : Opens enc Try.prog W 24 (fun l : List Edg => (∀ c ∈ l, X1s c) ∧ l.length ≤ 9223372036854775807) (fun l => [.sl 5 (l.map Xl)]) :=
 VM fun n => VJ Try.underlying24 X4F (by decide) fun m _ => X6k.at m
theorem X5e : Opens enc Try.prog W 26 GraHold X4C :=
 (X05 Try.underlying26 X7F
  (Yd rfl X7E X52 (Yd rfl X6j X7H (Yd rfl Ue (Ua Try.underlying3) (Yd rfl Ue (Ua Try.underlying3) VX))))).to
  (fun r => ⟨r.1, r.2.1, r.2.2.1, r.2.2.2.1⟩) fun r h => ⟨⟨h.1.2, h.2.1.2, h.1.1, h.2.1.1⟩, rfl⟩
theorem X6f : Opens enc Try.prog W 38 (fun _ : Rul => True) Xe := X5V
theorem X88 : Opens enc Try.prog W 22 (fun l : List Rul => (∀ c ∈ l, True) ∧ l.length ≤ 9223372036854775807) (fun l => [.sl 6 (l.map Xe)]) :=
 VM fun n => VJ Try.underlying22 X2O (by decide) fun m _ => X6f.at m
end
end Go.Fw
