/- What properties weigh (the reference's). -/
import Derived.Test.YtonekjkmnhfjmaaGreatDoorM20
import Derived.Test.YtonekjkmnhfjmaaGreatDoorM25
import Derived.Test.YtonekjkmnhfjmaaGreatDoorM26
set_option maxHeartbeats 32000000
namespace Go.Fw
open Go Go.Proofs
set_option maxRecDepth 100000
set_option linter.unusedVariables false
set_option linter.unusedSimpArgs false
def YK : List Prp → Int → Int
 | [], left => left
 | p :: r, left => if left < 0 then left else YK r (YM 12 p.v (left - (p.key.length / 50 : Nat)))
theorem Xa3 {l : List Prp} {left : Int} (h : left < 0) : YK l left = left := by
 cases l with
 | nil => rfl
 | cons x r => rw [YK, if_pos h]
theorem Xg9 {l : List Prp} {i : Nat} {x : Prp} {left : Int} (h : l[i]? = some x) (h0 : ¬ left < 0) : YK (l.drop i) left = YK (l.drop (i + 1)) (YM 12 x.v (left - (x.key.length / 50 : Nat))) := by
 rw [List.drop_eq_getElem_cons (List.getElem?_eq_some_iff.1 h).1, (List.getElem?_eq_some_iff.1 h).2, YK, if_neg h0]
theorem X8Q (l : List Prp) (left : Int) (h0 : left ≤ 1000000) (hl : l.length ≤ 9223372036854775807) (hok : ∀ p ∈ l, X0E p) : Con Tryz.prog 75 [] [.d (.sl 6 (l.map X6)), ai left] [] (ai (YK l left)) := by
 refine Xc (xs := [ai (YK l left)]) Tryz.func75 rfl Tryz.ntmps75 rfl rfl rfl (fun E => ?_)
 have hlm : (l.map X6).length = l.length := by simp
 generalize hG : YK l left = G
 refine Qac ?_
 refine Xz (ι := Nat × Int) (fun q => q.1 ≤ l.length ∧ q.2 ≤ 1000000 ∧ YK (l.drop q.1) q.2 = G) (fun q => ⟨32, [(0, .d (.sl 6 (l.map X6))), (1, ai q.2), (5, ai q.1)], []⟩) (fun q => l.length - q.1) (0, left) ⟨Nat.zero_le _, h0, by simpa using hG⟩
  (X7 rfl JM trivial) ?_
 rintro ⟨i, cur⟩ ⟨hi, c2, hg⟩
 simp only at hi c2 hg
 by_cases hil : i < l.length
 case neg =>
  obtain rfl : i = l.length := by omega
  rw [List.drop_length, YK] at hg
  subst hg
  have hn : ¬ ((l.length : Nat) : Int) < (l.map X6).length := by omega
  refine Qva ?_; refine QAe ?_; exact QNa
 have hn : (i : Int) < (l.map X6).length := by omega
 by_cases hneg : cur < 0
 ·rw [Xa3 hneg] at hg
  subst hg
  have hpos : ¬ 0 ≤ cur := by omega
  refine QEe ?_; refine QMa ?_; exact QNa
 have hpos : 0 ≤ cur := by omega
 obtain ⟨x, hx⟩ := Xu (l := l) hil
 have hxc : (l.map X6)[i]? = some (X6 x) := XD hx
 obtain ⟨o1, o2⟩ := hok x (List.mem_of_getElem? hx)
 rw [Xg9 hx hneg] at hg
 obtain ⟨key, v⟩ := x
 simp only at o1 o2 hg
 have hsz : (X5 key).size = key.length := rfl
 have hcall := X5w v o2 12 (cur - (key.length / 50 : Nat)) (by omega) (by omega) (by omega)
 have hlow := X7h v 12 (cur - (key.length / 50 : Nat)) o2 (by omega) (by omega)
 generalize YM 12 v (cur - (key.length / 50 : Nat)) = z at *
 obtain ⟨xk, xn, xd, xs, xl⟩ := v
 simp only [XG, X6, Y1] at hcall hxc
 clear hx
 refine QEe ?_; refine Qxa ?_; refine QKd ?_; refine Zj ?_; refine ZN ?_; refine ZK ?_; refine Qf ?_; refine Qgc ?_; refine Zc ?_; (refine Z7 (op := .quo) (r' := nj ((X5 key).size / 50)) (u := nj (X5 key).size) (v := nj 50) ?_ (hr := by exact Vz (by omega) (by rw [Y4]; omega))); refine ZR ?_; refine Z9 (hcon := hcall) ?_; refine QTc ?_; exact ⟨(i + 1, z), ⟨by show i + 1 ≤ l.length; omega, hlow.2, hg⟩, by show l.length - (i + 1) < l.length - i; omega, X7 rfl JM trivial⟩
def Vc : List (List UInt8) → Int → Int
 | [], left => left
 | p :: r, left => if left < 0 then left else Vc r (left - (p.length / 50 : Nat))
theorem XfQ {l : List (List UInt8)} {left : Int} (h : left < 0) : Vc l left = left := by
 cases l with
 | nil => rfl
 | cons x r => rw [Vc, if_pos h]
theorem XhJ {l : List (List UInt8)} {i : Nat} {x : List UInt8} {left : Int} (h : l[i]? = some x) (h0 : ¬ left < 0) : Vc (l.drop i) left = Vc (l.drop (i + 1)) (left - (x.length / 50 : Nat)) := by
 rw [List.drop_eq_getElem_cons (List.getElem?_eq_some_iff.1 h).1, (List.getElem?_eq_some_iff.1 h).2, Vc, if_neg h0]
theorem X4H : ∀ (l : List (List UInt8)) (left : Int), Vc l left ≤ left
 | [], left => Int.le_refl _
 | p :: r, left => by
  rw [Vc]
  split
  ·exact Int.le_refl _
  ·have := X4H r (left - (p.length / 50 : Nat))
   omega
theorem X3Y : ∀ (l : List Prp) (left : Int), left ≤ 1000000 → (∀ p ∈ l, X0E p) → YK l left ≤ 1000000
 | [], left, h, _ => h
 | p :: r, left, h, ho => by
  rw [YK]
  split
  ·exact h
  ·have hp := ho p (by simp)
   have h1 := hp.1
   exact X3Y r _ (X7h p.v 12 _ hp.2 (by omega) (by omega)).2 fun q hq => ho q (by simp [hq])
def UB : List Nod → Int → Int
 | [], left => left
 | n :: r, left => if left < 0 then left else UB r (Vc n.labels (YK n.props (left - n.labels.length)))
def VE : List Edg → Int → Int
 | [], left => left
 | n :: r, left => if left < 0 then left else VE r (YK n.props (left - (n.typ.length / 50 : Nat)))
theorem X87 {l : List Nod} {left : Int} (h : left < 0) : UB l left = left := by
 cases l with
 | nil => rfl
 | cons x r => rw [UB, if_pos h]
theorem Xh2 {l : List Nod} {i : Nat} {x : Nod} {left : Int} (h : l[i]? = some x) (h0 : ¬ left < 0) : UB (l.drop i) left = UB (l.drop (i + 1)) (Vc x.labels (YK x.props (left - x.labels.length))) := by
 rw [List.drop_eq_getElem_cons (List.getElem?_eq_some_iff.1 h).1, (List.getElem?_eq_some_iff.1 h).2, UB, if_neg h0]
theorem X6W {l : List Edg} {left : Int} (h : left < 0) : VE l left = left := by
 cases l with
 | nil => rfl
 | cons x r => rw [VE, if_pos h]
theorem XcB {l : List Edg} {i : Nat} {x : Edg} {left : Int} (h : l[i]? = some x) (h0 : ¬ left < 0) : VE (l.drop i) left = VE (l.drop (i + 1)) (YK x.props (left - (x.typ.length / 50 : Nat))) := by
 rw [List.drop_eq_getElem_cons (List.getElem?_eq_some_iff.1 h).1, (List.getElem?_eq_some_iff.1 h).2, VE, if_neg h0]
def X1i (g : Gra) (a b : Int) : Bool := if a < g.nodes.length ∨ b < g.edges.length then false else decide (0 ≤ VE g.edges (UB g.nodes 2000))
theorem X9y : ∀ (l : List Nod) (left : Int), left ≤ 1000000 → (∀ n ∈ l, X2K n) → UB l left ≤ 1000000
 | [], left, h, _ => h
 | n :: r, left, h, ho => by
  rw [UB]
  split
  ·exact h
  ·have h1 := X3Y n.props (left - n.labels.length) (by omega) (ho n (by simp)).2.2.2
   have h2 := X4H n.labels (YK n.props (left - n.labels.length))
   exact X9y r _ (by omega) fun q hq => ho q (by simp [hq])
theorem Xch (g : Gra) (a b : Int) (hg : GraHold g) : Con Tryz.prog 42 [] [Xl g, ai a, ai b] [] (ab (X1i g a b)) := by
 refine Xc (xs := [ab (X1i g a b)]) Tryz.func42 rfl Tryz.ntmps42 rfl rfl rfl (fun E => ?_)
 obtain ⟨ns, es, nn, ne⟩ := g
 have hln : (ns.map X9).length = ns.length := by simp
 have hle : (es.map Xe).length = es.length := by simp
 have hnl := hg.nl
 have hel := hg.el
 have hno := hg.nodes
 have hed := hg.edges
 clear hg
 simp only at hnl hel hno hed
 unfold X1i Xl
 simp only
 by_cases h1 : a < ns.length
 ·have h1' : a < (ns.map X9).length := by omega
  rw [if_pos (.inl h1)]
  refine Qtb ?_; refine Qib ?_; refine Zs ?_; refine Qw ?_; refine Qk ?_; exact QA
 have h1' : ¬ a < (ns.map X9).length := by omega
 by_cases h2 : b < es.length
 ·have h2' : b < (es.map Xe).length := by omega
  rw [if_pos (.inr h2)]
  refine Qtb ?_; refine Qib ?_; refine Zs ?_; refine QZa ?_; refine Qib ?_; refine Zs ?_; exact QF
 have h2' : ¬ b < (es.map Xe).length := by omega
 rw [if_neg (fun h => h.elim h1 h2)]
 have hG1 := X9y ns 2000 (by omega) hno
 generalize hG : UB ns 2000 = G at *
 generalize hF : VE es G = F
 refine Qtb ?_; refine Qib ?_; refine Zs ?_; refine QZa ?_; refine Qib ?_; refine Zs ?_; refine QI ?_; refine Qc ?_; refine Qca ?_; refine Qb ?_
 refine X8j ⟨98, [(3, .ptr 100 0), (7, ai G)], [(100, .box [.d (.sl 3 (ns.map X9)), .d (.sl 5 (es.map Xe)), ai nn, ai ne])]⟩ ?_ ?_
 ·refine X4 ?_
  refine Xz (ι := Nat × Int) (fun q => q.1 ≤ ns.length ∧ q.2 ≤ 1000000 ∧ UB (ns.drop q.1) q.2 = G) (fun q => ⟨98, [(3, .ptr 100 0), (7, ai q.2), (8, ai q.1)], [(100, .box [.d (.sl 3 (ns.map X9)), .d (.sl 5 (es.map Xe)), ai nn, ai ne])]⟩) (fun q => ns.length - q.1) (0, 2000) ⟨Nat.zero_le _, by show (2000 : Int) ≤ _; omega, by simpa using hG⟩
   (X7 rfl JM ⟨rfl, trivial⟩) ?_
  rintro ⟨i, cur⟩ ⟨hi, hc2, hg⟩
  simp only at hi hc2 hg
  by_cases hil : i < ns.length
  case neg =>
   obtain rfl : i = ns.length := by omega
   rw [List.drop_length, UB] at hg
   subst hg
   have hn : ¬ ((ns.length : Nat) : Int) < (ns.map X9).length := by rw [List.length_map]; omega
   refine Qze ?_; refine Qbc ?_; refine Qr ?_; exact Qff
  have hn : (i : Int) < (ns.map X9).length := by rw [List.length_map]; omega
  by_cases hneg : cur < 0
  ·rw [X87 hneg] at hg
   subst hg
   have hpos : ¬ 0 ≤ cur := by omega
   refine QBe ?_; exact Qff
  have hpos : 0 ≤ cur := by omega
  obtain ⟨x, hx⟩ := Xu (l := ns) hil
  have hxc : (ns.map X9)[i]? = some (X9 x) := XD hx
  rw [Xh2 hx hneg] at hg
  have hh := hno x (List.mem_of_getElem? hx)
  obtain ⟨id, labels, props⟩ := x
  obtain ⟨hll, hlo, hpl, hpo⟩ := hh
  simp only [X9] at hll hlo hpl hpo hxc hg
  clear hx
  have hlm : (labels.map Xb).length = labels.length := by simp
  have hcall := X8Q props (cur - labels.length) (by omega) hpl hpo
  have hz1 := X3Y props (cur - labels.length) (by omega) hpo
  have hcur : cur - ((labels.map Xb).length : Int) = cur - labels.length := by rw [hlm]
  generalize hz : YK props (cur - labels.length) = z at *
  have hw1 := X4H labels z
  generalize hW : Vc labels z = W at *
  refine QBe ?_; refine Qxa ?_; refine QUa ?_; refine Qic ?_; refine Zw (γ := 101) ?_; refine Qlb ?_; refine QUa ?_; refine QZa ?_; refine Zd ?_
  (refine Z4 (op := .sub) (r' := .int .i64 (cur - labels.length)) (u := .int .i64 cur) (v := .int .i64 ((labels.map Xb).length : Int)) ?_ (hr' := by exact congrArg (Value.int .i64) hcur) (hr := by exact XU (by unfold Xw; omega)))
  refine Z9 (hcon := hcall) ?_; refine Qb ?_; refine Qc ?_
  show AWP Tryz.prog E _ _ _
  refine Xf4 ⟨98, [(3, .ptr 100 0), (7, ai W), (8, ai i)], [(100, .box [.d (.sl 3 (ns.map X9)), .d (.sl 5 (es.map Xe)), ai nn, ai ne])]⟩ ?_ ?_
  ·refine X4 ?_
   refine Xz (ι := Nat × Int) (fun q => q.1 ≤ labels.length ∧ q.2 ≤ 1000000 ∧ Vc (labels.drop q.1) q.2 = W) (fun q => ⟨98, [(3, .ptr 100 0), (7, ai q.2), (8, ai i), (9, .ptr 101 0), (10, ai q.1)], [(100, .box [.d (.sl 3 (ns.map X9)), .d (.sl 5 (es.map Xe)), ai nn, ai ne]), (101, .box [ai id, .d (.sl 1 (labels.map Xb)), .d (.sl 6 (props.map X6))])]⟩) (fun q => labels.length - q.1) (0, z) ⟨Nat.zero_le _, hz1, by simpa using hW⟩
    (X7 rfl JM ⟨rfl, rfl, trivial⟩) ?_
   rintro ⟨k, cur2⟩ ⟨hk, hc3, hg2⟩
   simp only at hk hc3 hg2
   by_cases hkl : k < labels.length
   case neg =>
    obtain rfl : k = labels.length := by omega
    rw [List.drop_length, Vc] at hg2
    subst hg2
    have hn : ¬ ((labels.length : Nat) : Int) < (labels.map Xb).length := by rw [List.length_map]; omega
    refine Qze ?_; refine Qbc ?_; refine Qr ?_; exact Qff
   have hn : (k : Int) < (labels.map Xb).length := by rw [List.length_map]; omega
   by_cases hneg2 : cur2 < 0
   ·rw [XfQ hneg2] at hg2
    subst hg2
    have hpos2 : ¬ 0 ≤ cur2 := by omega
    refine QBe ?_; exact Qff
   have hpos2 : 0 ≤ cur2 := by omega
   obtain ⟨x, hx⟩ := Xu (l := labels) hkl
   have hxc : (labels.map Xb)[k]? = some (Xb x) := XD hx
   rw [XhJ hx hneg2] at hg2
   have hxl := hlo x (List.mem_of_getElem? hx)
   have hsz : (X5 x).size = x.length := rfl
   clear hx
   refine QBe ?_; refine Qxa ?_; refine JR ?_; refine QZa ?_; refine QXc ?_; refine Zc ?_; (refine Z7 (op := .quo) (r' := nj ((X5 x).size / 50)) (u := nj (X5 x).size) (v := nj 50) ?_ (hr := by exact Vz (by omega) (by rw [Y4]; omega))); refine ZR ?_; refine QTc ?_; exact ⟨(k + 1, cur2 - (x.length / 50 : Nat)), ⟨by show k + 1 ≤ labels.length; omega, by show cur2 - _ ≤ _; omega, hg2⟩, by show labels.length - (k + 1) < labels.length - k; omega, X7 rfl JM ⟨rfl, rfl, trivial⟩⟩
  intro T hT
  show AWP Tryz.prog E _ _ _
  refine Xm hT ?_
  clear hT T
  refine QBa ?_; exact ⟨(i + 1, W), ⟨by show i + 1 ≤ ns.length; omega, by show W ≤ 1000000; omega, hg⟩, by show ns.length - (i + 1) < ns.length - i; omega, X7 rfl JM ⟨rfl, trivial⟩⟩
 refine Qua ?_
 refine Xz (ι := Nat × Int) (fun q => q.1 ≤ es.length ∧ q.2 ≤ 1000000 ∧ VE (es.drop q.1) q.2 = F) (fun q => ⟨98, [(3, .ptr 100 0), (7, ai q.2), (11, ai q.1)], [(100, .box [.d (.sl 3 (ns.map X9)), .d (.sl 5 (es.map Xe)), ai nn, ai ne])]⟩) (fun q => es.length - q.1) (0, G) ⟨Nat.zero_le _, hG1, by simpa using hF⟩
  (X7 rfl JM ⟨rfl, trivial⟩) ?_
 rintro ⟨i, cur⟩ ⟨hi, hc2, hg⟩
 simp only at hi hc2 hg
 by_cases hil : i < es.length
 case neg =>
  obtain rfl : i = es.length := by omega
  rw [List.drop_length, VE] at hg
  subst hg
  have hn : ¬ ((es.length : Nat) : Int) < (es.map Xe).length := by rw [List.length_map]; omega
  refine Qze ?_; refine QAe ?_; refine Z2 ?_; exact QNa
 have hn : (i : Int) < (es.map Xe).length := by rw [List.length_map]; omega
 by_cases hneg : cur < 0
 ·rw [X6W hneg] at hg
  subst hg
  have hpos : ¬ 0 ≤ cur := by omega
  refine QBe ?_; refine QMa ?_; refine Z2 ?_; exact QNa
 have hpos : 0 ≤ cur := by omega
 obtain ⟨x, hx⟩ := Xu (l := es) hil
 have hxc : (es.map Xe)[i]? = some (Xe x) := XD hx
 rw [XcB hx hneg] at hg
 have hh := hed x (List.mem_of_getElem? hx)
 obtain ⟨id, src, dst, typ, props⟩ := x
 obtain ⟨hll, hpl, hpo⟩ := hh
 simp only [Xe] at hll hpl hpo hxc hg
 clear hx
 have hsz : (X5 typ).size = typ.length := rfl
 have hcall := X8Q props (cur - (typ.length / 50 : Nat)) (by omega) hpl hpo
 have hz1 := X3Y props (cur - (typ.length / 50 : Nat)) (by omega) hpo
 generalize hz : YK props (cur - (typ.length / 50 : Nat)) = z at *
 refine QBe ?_; refine Qxa ?_; refine QCe ?_; refine Qgc ?_; refine QZa ?_; refine Qgc ?_; refine Zc ?_; (refine Z7 (op := .quo) (r' := nj ((X5 typ).size / 50)) (u := nj (X5 typ).size) (v := nj 50) ?_ (hr := by exact Vz (by omega) (by rw [Y4]; omega))); refine ZR ?_; refine Z9 (hcon := hcall) ?_; refine QTc ?_; exact ⟨(i + 1, z), ⟨by show i + 1 ≤ es.length; omega, by show z ≤ 1000000; omega, hg⟩, by show es.length - (i + 1) < es.length - i; omega, X7 rfl JM ⟨rfl, trivial⟩⟩
open Go
structure KOrd {κ : Type} (lt : κ → κ → Bool) : Prop where
 irr : ∀ a, lt a a = false
 tr : ∀ a b c, lt a b = true → lt b c = true → lt a c = true
 tri : ∀ a b, lt a b = false → lt b a = false → a = b
section
variable {α κ : Type} {lt : κ → κ → Bool} {key : α → κ}
def Y0 (lt : κ → κ → Bool) (key : α → κ) (l : List α) : Prop := l.Pairwise fun a b => lt (key a) (key b) = true
def Xf (lt : κ → κ → Bool) (key : α → κ) (l : List α) (k : κ) : Nat := (l.takeWhile fun x => lt (key x) k).length
theorem X69 {p : α → Bool} : ∀ {l : List α} {x : α}, x ∈ l.takeWhile p → p x = true
 | y :: l, x, h => by
  cases hp : p y with
  | true =>
   rw [List.takeWhile_cons_of_pos hp] at h
   rcases List.mem_cons.1 h with rfl | h
   ·exact hp
   ·exact X69 h
  | false => rw [List.takeWhile_cons_of_neg (by simp [hp])] at h; simp at h
 | [], x, h => by simp at h
theorem X4M {p : α → Bool} : ∀ l : List α, l.takeWhile p = l.take (l.takeWhile p).length ∧ l.dropWhile p = l.drop (l.takeWhile p).length
 | [] => ⟨rfl, rfl⟩
 | x :: l => by
  cases h : p x with
  | true =>
   rw [List.takeWhile_cons_of_pos h, List.dropWhile_cons_of_pos h]
   obtain ⟨h1, h2⟩ := X4M (p := p) l
   exact ⟨by rw [List.length_cons, List.take_succ_cons, ← h1], by rw [List.length_cons, List.drop_succ_cons, ← h2]⟩
  | false =>
   rw [List.takeWhile_cons_of_neg (by simp [h]), List.dropWhile_cons_of_neg (by simp [h])]
   exact ⟨rfl, rfl⟩
theorem X3r (l : List α) (k : κ) : Xf lt key l k ≤ l.length := by
 unfold Xf
 have := (X4M (p := fun x => lt (key x) k) l).1
 have := congrArg List.length this
 rw [List.length_take] at this
 omega
theorem X6K (l : List α) (k : κ) : (l.takeWhile fun x => lt (key x) k) = l.take (Xf lt key l k) := (X4M l).1
theorem X4J (l : List α) (k : κ) : (l.dropWhile fun x => lt (key x) k) = l.drop (Xf lt key l k) := (X4M l).2
theorem X5o {l : List α} {k : κ} : ∀ x ∈ l.take (Xf lt key l k), lt (key x) k = true := by
 intro x hx
 rw [← X6K] at hx
 exact X69 (p := fun x => lt (key x) k) hx
theorem X50 {l : List α} {k : κ} {x : α} (h : l[Xf lt key l k]? = some x) : lt (key x) k = false := by
 have h1 : (l.dropWhile fun x => lt (key x) k).head? = some x := by
  rw [X4J, List.head?_drop]; exact h
 have := List.head?_dropWhile_not (fun x => lt (key x) k) l
 rw [h1] at this
 simpa using this
theorem Xfy (ho : KOrd lt) {l : List α} {k : κ} (hs : Y0 lt key l) : ∀ x ∈ l.drop (Xf lt key l k), lt (key x) k = false := by
 intro x hx
 obtain ⟨j, hj⟩ := List.getElem?_of_mem hx
 rw [List.getElem?_drop] at hj
 cases j with
 | zero => exact X50 (by simpa using hj)
 | succ j =>
  have hlt : Xf lt key l k + (j + 1) < l.length := (List.getElem?_eq_some_iff.1 hj).1
  have h0 : l[Xf lt key l k]? = some l[Xf lt key l k] := List.getElem?_eq_getElem (by omega)
  have h1 := X50 h0
  have h2 := (List.pairwise_iff_getElem.1 hs) (Xf lt key l k) (Xf lt key l k + (j + 1)) (by omega) hlt (by omega)
  rw [List.getElem?_eq_getElem hlt] at hj
  simp only [Option.some.injEq] at hj
  rw [hj] at h2
  by_cases q : lt (key x) k = true
  ·rw [ho.tr _ _ _ h2 q] at h1; cases h1
  ·simpa using q
theorem X68 {p : α → Bool} : ∀ {l : List α}, (∀ x ∈ l, p x = true) → l.filter p = l := fun h => List.filter_eq_self.2 h
variable [DecidableEq κ]
def Xn (key : α → κ) (l : List α) (k : κ) : Bool := l.any fun x => decide (key x = k)
def Yh (lt : κ → κ → Bool) (key : α → κ) (l : List α) (k : κ) (ns : List α) : List α := (l.takeWhile fun x => lt (key x) k) ++ ns ++ (l.dropWhile fun x => lt (key x) k).filter fun x => !decide (key x = k)
def Yx (key : α → κ) (l : List α) (k : κ) : List α := l.filter fun x => !decide (key x = k)
theorem UC (ho : KOrd lt) {l : List α} {k : κ} (hs : Y0 lt key l) : Xn key l k = decide (∃ x, l[Xf lt key l k]? = some x ∧ key x = k) := by
 rw [Bool.eq_iff_iff]
 unfold Xn
 simp only [List.any_eq_true, decide_eq_true_eq]
 constructor
 ·rintro ⟨x, hx, e⟩
  rw [← List.take_append_drop (Xf lt key l k) l] at hx
  rcases List.mem_append.1 hx with hx | hx
  ·have := X5o x hx
   rw [e, ho.irr] at this; cases this
  ·obtain ⟨j, hj⟩ := List.getElem?_of_mem hx
   rw [List.getElem?_drop] at hj
   cases j with
   | zero => exact ⟨x, by simpa using hj, e⟩
   | succ j =>
    exfalso
    have hlt : Xf lt key l k + (j + 1) < l.length := (List.getElem?_eq_some_iff.1 hj).1
    have h0 : l[Xf lt key l k]? = some l[Xf lt key l k] := List.getElem?_eq_getElem (by omega)
    have h1 := X50 h0
    have h2 := (List.pairwise_iff_getElem.1 hs) (Xf lt key l k) (Xf lt key l k + (j + 1)) (by omega) hlt (by omega)
    rw [List.getElem?_eq_getElem hlt] at hj
    simp only [Option.some.injEq] at hj
    rw [hj, e] at h2
    rw [h2] at h1; cases h1
 ·rintro ⟨x, hx, e⟩
  exact ⟨x, List.mem_of_getElem? hx, e⟩
theorem X28 {l : List α} {k : κ} {ns : List α} (hn : Xn key l k = false) : Yh lt key l k ns = l.take (Xf lt key l k) ++ ns ++ l.drop (Xf lt key l k) := by
 unfold Yh
 rw [X6K, X4J, X68]
 intro x hx
 have := (List.any_eq_false.1 hn) x (List.mem_of_mem_drop hx)
 simpa using this
theorem X7O (ho : KOrd lt) {l : List α} {k : κ} {x : α} (hs : Y0 lt key l) (hx : l[Xf lt key l k]? = some x) (e : key x = k) : (l.drop (Xf lt key l k)).filter (fun x => !decide (key x = k)) = l.drop (Xf lt key l k + 1) := by
 have hlt : Xf lt key l k < l.length := (List.getElem?_eq_some_iff.1 hx).1
 rw [List.drop_eq_getElem_cons hlt]
 have hx' : l[Xf lt key l k] = x := by rw [List.getElem?_eq_getElem hlt] at hx; simpa using hx
 rw [hx', List.filter_cons_of_neg (by simp [e]), X68]
 intro y hy
 obtain ⟨j, hj⟩ := List.getElem?_of_mem hy
 rw [List.getElem?_drop] at hj
 have hlt2 : Xf lt key l k + 1 + j < l.length := (List.getElem?_eq_some_iff.1 hj).1
 have h2 := (List.pairwise_iff_getElem.1 hs) (Xf lt key l k) (Xf lt key l k + 1 + j) hlt hlt2 (by omega)
 rw [List.getElem?_eq_getElem hlt2] at hj
 simp only [Option.some.injEq] at hj
 rw [hj, hx', e] at h2
 simp only [Bool.not_eq_true', decide_eq_false_iff_not]
 intro q
 rw [q, ho.irr] at h2; cases h2
theorem X2L (ho : KOrd lt) {l : List α} {k : κ} {ns : List α} {x : α} (hs : Y0 lt key l) (hx : l[Xf lt key l k]? = some x) (e : key x = k) : Yh lt key l k ns = l.take (Xf lt key l k) ++ ns ++ l.drop (Xf lt key l k + 1) := by
 unfold Yh
 rw [X6K, X4J, X7O ho hs hx e]
theorem X6y (ho : KOrd lt) {l : List α} {k : κ} {x : α} (hs : Y0 lt key l) (hx : l[Xf lt key l k]? = some x) (e : key x = k) : Yx key l k = l.take (Xf lt key l k) ++ l.drop (Xf lt key l k + 1) := by
 unfold Yx
 conv => lhs; rw [← List.take_append_drop (Xf lt key l k) l]
 rw [List.filter_append, X7O ho hs hx e, X68]
 intro y hy
 have := X5o y hy
 simp only [Bool.not_eq_true', decide_eq_false_iff_not]
 intro q
 rw [q, ho.irr] at this; cases this
theorem X4I {l : List α} {k : κ} {ns : List α} {x : α} (h : x ∈ Yh lt key l k ns) : x ∈ ns ∨ x ∈ l := by
 unfold Yh at h
 rcases List.mem_append.1 h with h | h
 ·rcases List.mem_append.1 h with h | h
  ·exact .inr ((List.takeWhile_sublist _).subset h)
  ·exact .inl h
 ·exact .inr ((List.dropWhile_sublist _).subset ((List.mem_filter.1 h).1))
theorem X52 (ho : KOrd lt) {l : List α} {k : κ} {ns : List α} (hs : Y0 lt key l) (hn : ns = [] ∨ ∃ n, ns = [n] ∧ key n = k) : Y0 lt key (Yh lt key l k ns) := by
 unfold Yh Y0
 have h1 : Y0 lt key (l.takeWhile fun x => lt (key x) k) := hs.sublist (List.takeWhile_sublist _)
 have h2 : Y0 lt key ((l.dropWhile fun x => lt (key x) k).filter fun x => !decide (key x = k)) := (hs.sublist (List.dropWhile_sublist _)).sublist List.filter_sublist
 have hA : ∀ a ∈ (l.takeWhile fun x => lt (key x) k), lt (key a) k = true := fun a ha => X69 (p := fun x => lt (key x) k) ha
 have hB : ∀ b ∈ ((l.dropWhile fun x => lt (key x) k).filter fun x => !decide (key x = k)), lt k (key b) = true := by
  intro b hb
  rw [X4J] at hb
  have q1 := Xfy ho hs b ((List.mem_filter.1 hb).1)
  have q2 : key b ≠ k := by simpa using (List.mem_filter.1 hb).2
  by_cases q : lt k (key b) = true
  ·exact q
  ·exact absurd (ho.tri _ _ q1 (by simpa using q)) q2
 have hAB : ∀ a ∈ (l.takeWhile fun x => lt (key x) k), ∀ b ∈ ((l.dropWhile fun x => lt (key x) k).filter fun x => !decide (key x = k)), lt (key a) (key b) = true := fun a ha b hb => ho.tr _ _ _ (hA a ha) (hB b hb)
 rcases hn with rfl | ⟨n, rfl, e⟩
 ·rw [List.append_nil]
  exact List.pairwise_append.2 ⟨h1, h2, hAB⟩
 ·refine List.pairwise_append.2 ⟨List.pairwise_append.2 ⟨h1, List.pairwise_singleton _ _, fun a ha b hb => ?_⟩, h2, fun a ha b hb => ?_⟩
  ·obtain rfl := List.mem_singleton.1 hb
   rw [e]; exact hA a ha
  ·rcases List.mem_append.1 ha with ha | ha
   ·exact hAB a ha b hb
   ·obtain rfl := List.mem_singleton.1 ha
    rw [e]; exact hB b hb
theorem X6J {l : List α} {k : κ} (hs : Y0 lt key l) : Y0 lt key (Yx key l k) := hs.sublist List.filter_sublist
theorem X78 {l : List α} {k : κ} {x : α} (h : x ∈ Yx key l k) : x ∈ l ∧ key x ≠ k := by
 obtain ⟨h1, h2⟩ := List.mem_filter.1 h
 exact ⟨h1, by simpa using h2⟩
end
def ltI (a b : Int) : Bool := decide (a < b)
theorem YB : KOrd ltI := ⟨fun a => by simp [ltI], fun a b c h1 h2 => by simp only [ltI, decide_eq_true_eq] at *; omega, fun a b h1 h2 => by simp only [ltI, decide_eq_false_iff_not] at *; omega⟩
abbrev ltS : List UInt8 → List UInt8 → Bool := Op.bytesLess
theorem X6Q : ∀ s t u : List UInt8, Op.bytesLess s t = true → Op.bytesLess t u = true → Op.bytesLess s u = true
 | _, [], _, h, _ => by simp [Op.bytesLess] at h
 | _, _ :: _, [], _, h => by simp [Op.bytesLess] at h
 | [], _ :: _, _ :: _, _, _ => by simp [Op.bytesLess]
 | a :: s, b :: t, c :: u, h1, h2 => by
  have ih := X6Q s t u
  simp only [Op.bytesLess, Bool.or_eq_true, decide_eq_true_eq, Bool.and_eq_true, beq_iff_eq] at h1 h2 ⊢
  rcases h1 with h1 | ⟨rfl, h1⟩ <;> rcases h2 with h2 | ⟨rfl, h2⟩
  ·exact .inl (UInt8.lt_trans h1 h2)
  ·exact .inl h1
  ·exact .inl h2
  ·exact .inr ⟨rfl, ih h1 h2⟩
theorem V6 : KOrd ltS := ⟨X3x, X6Q, X6m⟩
abbrev XC (s : List UInt8) : List UInt8 := s
theorem X6H : ∀ l : List (List UInt8), Yz l = true ↔ Y0 ltS XC l
 | [] => by simp [Yz, Y0]
 | [a] => by simp [Yz, Y0]
 | a :: b :: r => by
  have ih := X6H (b :: r)
  rw [Yz, Bool.and_eq_true, ih]
  unfold Y0
  rw [List.pairwise_cons (a := a)]
  constructor
  ·rintro ⟨h1, h2⟩
   refine ⟨fun c hc => ?_, h2⟩
   have hab : ltS a b = true := by
    simp only [Bool.not_eq_true', Bool.or_eq_false_iff, decide_eq_false_iff_not] at h1
    by_cases q : ltS a b = true
    ·exact q
    ·exact absurd (X6m b a h1.1 (by simpa using q)) h1.2
   rcases List.mem_cons.1 hc with rfl | hc
   ·exact hab
   ·exact X6Q _ _ _ hab ((List.pairwise_cons.1 h2).1 c hc)
  ·rintro ⟨h1, h2⟩
   refine ⟨?_, h2⟩
   have hab := h1 b (by simp)
   simp only [Bool.not_eq_true', Bool.or_eq_false_iff, decide_eq_false_iff_not]
   refine ⟨Xa7 _ _ hab, fun e => ?_⟩
   rw [e] at hab
   rw [show ltS a a = false from X3x a] at hab; cases hab
structure PV (ls : List (List UInt8)) (ps : List Prp) : Prop where
 ll : ls.length ≤ 8
 pl : ps.length ≤ 16
 ln : ∀ s ∈ ls, XP s = true
 pn : ∀ p ∈ ps, XP p.key = true
 lr : Y0 ltS XC ls
 pr : Y0 ltS Prp.key ps
 pv : ∀ p ∈ ps, Yd p.v = true
theorem Xf1 {ps : List Prp} : Y0 ltS XC (ps.map Prp.key) ↔ Y0 ltS Prp.key ps := by
 unfold Y0
 rw [List.pairwise_map]
theorem X8z {ls : List (List UInt8)} {ps : List Prp} : U5 ls ps = 0 ↔ PV ls ps := by
 unfold U5
 have e1 : Yz ls = true ↔ Y0 ltS XC ls := X6H ls
 have e2 : Yz (ps.map Prp.key) = true ↔ Y0 ltS Prp.key ps := (X6H _).trans Xf1
 constructor
 ·intro h
  by_cases c1 : 8 < ls.length ∨ 16 < ps.length
  ·rw [if_pos c1] at h; simp at h
  rw [if_neg c1] at h
  by_cases c2 : ls.all XP = false ∨ (ps.map Prp.key).all XP = false
  ·rw [if_pos c2] at h; simp at h
  rw [if_neg c2] at h
  by_cases c3 : Yz ls = false ∨ Yz (ps.map Prp.key) = false
  ·rw [if_pos c3] at h; simp at h
  rw [if_neg c3] at h
  by_cases c4 : (ps.map Prp.v).all Yd = false
  ·rw [if_pos c4] at h; simp at h
  simp only [not_or, Bool.not_eq_false] at c2 c3 c4
  refine ⟨by omega, by omega, List.all_eq_true.1 c2.1, fun p hp => List.all_eq_true.1 c2.2 _ (List.mem_map_of_mem hp), e1.1 c3.1, e2.1 c3.2, fun p hp => List.all_eq_true.1 c4 _ (List.mem_map_of_mem hp)⟩
 ·intro h
  have a1 : ls.all XP = true := List.all_eq_true.2 h.ln
  have a2 : (ps.map Prp.key).all XP = true := List.all_eq_true.2 fun s hs => by
   obtain ⟨p, hp, rfl⟩ := List.mem_map.1 hs
   exact h.pn p hp
  have a3 : (ps.map Prp.v).all Yd = true := List.all_eq_true.2 fun s hs => by
   obtain ⟨p, hp, rfl⟩ := List.mem_map.1 hs
   exact h.pv p hp
  have h1 := h.ll
  have h2 := h.pl
  rw [if_neg (by omega), if_neg (by simp [a1, a2]), if_neg (by simp [e1.2 h.lr, e2.2 h.pr]), if_neg (by simp [a3])]
structure GV (g : Gra) : Prop where
 nl : g.nodes.length ≤ 2000
 el : g.edges.length ≤ 4000
 nn : 1 ≤ g.nn ∧ g.nn ≤ 1000001
 ne : 1 ≤ g.ne ∧ g.ne ≤ 1000001
 nodes : ∀ n ∈ g.nodes, 1 ≤ n.id ∧ n.id < g.nn ∧ PV n.labels n.props
 ns : Y0 ltI Nod.id g.nodes
 edges : ∀ e ∈ g.edges, 1 ≤ e.id ∧ e.id < g.ne ∧ Ye g.nodes e.src = true ∧ Ye g.nodes e.dst = true ∧ XP e.typ = true ∧ PV [] e.props
 es : Y0 ltI Edg.id g.edges
theorem X7p {nn : Int} : ∀ (l : List Nod) (p : Option Nod), U7 nn p l = 0 ↔ (∀ n ∈ l, 1 ≤ n.id ∧ n.id < nn ∧ PV n.labels n.props) ∧ Y0 ltI Nod.id l ∧ ∀ q, p = some q → ∀ n ∈ l, q.id < n.id
 | [], p => by simp [U7, Y0]
 | x :: r, p => by
  have ih := X7p (nn := nn) r (some x)
  have h0 : US nn p x = 0 ↔ (∀ q, p = some q → q.id < x.id) ∧ 1 ≤ x.id ∧ x.id < nn ∧ PV x.labels x.props := by
   unfold US
   rw [← X8z]
   by_cases c1 : ∃ q, p = some q ∧ x.id ≤ q.id
   ·rw [if_pos c1]
    obtain ⟨q, hq, hle⟩ := c1
    constructor
    ·intro h; omega
    ·rintro ⟨h, _⟩; have := h q hq; omega
   ·rw [if_neg c1]
    have c1' : ∀ q, p = some q → q.id < x.id := fun q hq => Int.lt_of_not_ge fun hc => c1 ⟨q, hq, hc⟩
    by_cases c2 : x.id < 1 ∨ nn ≤ x.id
    ·rw [if_pos c2]
     constructor
     ·intro h; omega
     ·rintro ⟨_, h1, h2, _⟩; omega
    ·rw [if_neg c2]
     exact ⟨fun h => ⟨c1', by omega, by omega, h⟩, fun h => h.2.2.2⟩
  rw [U7]
  by_cases h1 : US nn p x = 0
  ·rw [if_neg (by rw [h1]; simp), ih]
   obtain ⟨k1, k2⟩ := h0.1 h1
   constructor
   ·rintro ⟨q1, q2, q3⟩
    refine ⟨fun n hn => ?_, List.pairwise_cons.2 ⟨fun n hn => by simpa [ltI] using q3 x rfl n hn, q2⟩, fun q hq n hn => ?_⟩
    ·rcases List.mem_cons.1 hn with rfl | hn
     ·exact k2
     ·exact q1 n hn
    ·rcases List.mem_cons.1 hn with rfl | hn
     ·exact k1 q hq
     ·exact Int.lt_trans (k1 q hq) (q3 x rfl n hn)
   ·rintro ⟨q1, q2, q3⟩
    obtain ⟨q4, q5⟩ := List.pairwise_cons.1 q2
    refine ⟨fun n hn => q1 n (List.mem_cons_of_mem _ hn), q5, fun q hq n hn => ?_⟩
    cases hq
    simpa [ltI] using q4 n hn
  ·rw [if_pos h1]
   constructor
   ·intro h; exact absurd h h1
   ·rintro ⟨q1, q2, q3⟩
    exact absurd (h0.2 ⟨fun q hq => q3 q hq x (by simp), q1 x (by simp)⟩) h1
theorem X5B {ns : List Nod} {ne : Int} : ∀ (l : List Edg) (p : Option Edg), UY ns ne p l = 0 ↔ (∀ e ∈ l, 1 ≤ e.id ∧ e.id < ne ∧ Ye ns e.src = true ∧ Ye ns e.dst = true ∧ XP e.typ = true ∧ PV [] e.props) ∧ Y0 ltI Edg.id l ∧ ∀ q, p = some q → ∀ n ∈ l, q.id < n.id
 | [], p => by simp [UY, Y0]
 | x :: r, p => by
  have ih := X5B (ns := ns) (ne := ne) r (some x)
  have h0 : Vg ns ne p x = 0 ↔ (∀ q, p = some q → q.id < x.id) ∧ 1 ≤ x.id ∧ x.id < ne ∧ Ye ns x.src = true ∧ Ye ns x.dst = true ∧ XP x.typ = true ∧ PV [] x.props := by
   unfold Vg
   rw [← X8z]
   by_cases c1 : ∃ q, p = some q ∧ x.id ≤ q.id
   ·rw [if_pos c1]
    obtain ⟨q, hq, hle⟩ := c1
    constructor
    ·intro h; omega
    ·rintro ⟨h, _⟩; have := h q hq; omega
   ·rw [if_neg c1]
    have c1' : ∀ q, p = some q → q.id < x.id := fun q hq => Int.lt_of_not_ge fun hc => c1 ⟨q, hq, hc⟩
    by_cases c2 : x.id < 1 ∨ ne ≤ x.id
    ·rw [if_pos c2]
     constructor
     ·intro h; omega
     ·rintro ⟨_, h1, h2, _⟩; omega
    ·rw [if_neg c2]
     by_cases c3 : Ye ns x.src = false ∨ Ye ns x.dst = false
     ·rw [if_pos c3]
      constructor
      ·intro h; omega
      ·rintro ⟨_, _, _, h1, h2, _⟩; rw [h1, h2] at c3; simp at c3
     ·rw [if_neg c3]
      simp only [not_or, Bool.not_eq_false] at c3
      by_cases c4 : XP x.typ = false
      ·rw [if_pos c4]
       constructor
       ·intro h; omega
       ·rintro ⟨_, _, _, _, _, h1, _⟩; rw [h1] at c4; simp at c4
      ·rw [if_neg c4]
       exact ⟨fun h => ⟨c1', by omega, by omega, c3.1, c3.2, by simpa using c4, h⟩, fun h => h.2.2.2.2.2.2⟩
  rw [UY]
  by_cases h1 : Vg ns ne p x = 0
  ·rw [if_neg (by rw [h1]; simp), ih]
   obtain ⟨k1, k2⟩ := h0.1 h1
   constructor
   ·rintro ⟨q1, q2, q3⟩
    refine ⟨fun n hn => ?_, List.pairwise_cons.2 ⟨fun n hn => by simpa [ltI] using q3 x rfl n hn, q2⟩, fun q hq n hn => ?_⟩
    ·rcases List.mem_cons.1 hn with rfl | hn
     ·exact k2
     ·exact q1 n hn
    ·rcases List.mem_cons.1 hn with rfl | hn
     ·exact k1 q hq
     ·exact Int.lt_trans (k1 q hq) (q3 x rfl n hn)
   ·rintro ⟨q1, q2, q3⟩
    obtain ⟨q4, q5⟩ := List.pairwise_cons.1 q2
    refine ⟨fun n hn => q1 n (List.mem_cons_of_mem _ hn), q5, fun q hq n hn => ?_⟩
    cases hq
    simpa [ltI] using q4 n hn
  ·rw [if_pos h1]
   constructor
   ·intro h; exact absurd h h1
   ·rintro ⟨q1, q2, q3⟩
    exact absurd (h0.2 ⟨fun q hq => q3 q hq x (by simp), q1 x (by simp)⟩) h1
theorem X2P {g : Gra} : Yj g = 0 ↔ GV g := by
 unfold Yj
 constructor
 ·intro h
  by_cases c1 : 2000 < g.nodes.length ∨ 4000 < g.edges.length
  ·rw [if_pos c1] at h; simp at h
  rw [if_neg c1] at h
  by_cases c2 : g.nn < 1 ∨ 1000001 < g.nn ∨ g.ne < 1 ∨ 1000001 < g.ne
  ·rw [if_pos c2] at h; simp at h
  rw [if_neg c2] at h
  by_cases c3 : U7 g.nn none g.nodes ≠ 0
  ·rw [if_pos c3] at h; exact absurd h c3
  rw [if_neg c3] at h
  obtain ⟨n1, n2, _⟩ := (X7p g.nodes none).1 (by simpa using c3)
  obtain ⟨e1, e2, _⟩ := (X5B g.edges none).1 h
  exact ⟨by omega, by omega, by omega, by omega, n1, n2, e1, e2⟩
 ·intro h
  have h1 := h.nl; have h2 := h.el; have h3 := h.nn; have h4 := h.ne
  have hn : U7 g.nn none g.nodes = 0 := (X7p _ _).2 ⟨h.nodes, h.ns, by simp⟩
  have he : UY g.nodes g.ne none g.edges = 0 := (X5B _ _).2 ⟨h.edges, h.es, by simp⟩
  rw [if_neg (by omega), if_neg (by omega), if_neg (by rw [hn]; simp), he]
end Go.Fw
