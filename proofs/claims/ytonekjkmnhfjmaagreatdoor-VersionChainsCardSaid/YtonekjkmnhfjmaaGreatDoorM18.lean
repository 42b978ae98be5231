/- The null value: the program's test. -/
import Derived.Test.YtonekjkmnhfjmaaGreatDoorM17
set_option maxHeartbeats 8000000
namespace Go.Fw
open Go Go.Proofs
set_option maxRecDepth 100000
set_option linter.unusedVariables false
set_option linter.unusedSimpArgs false
def XW (x y : Int) : Int := if x < y then -1 else if y < x then 1 else 0
theorem X8D (x : Int) : Con Tryz.prog 222 [] [ai x] [] (ab false) := by
 refine Xc (xs := [ab false]) Tryz.func222 rfl Tryz.ntmps222 rfl rfl rfl (fun E => ?_)
 refine QHa ?_; refine Zv ?_; refine Qb ?_; exact X1 ⟨_, XF 2 (y := ab false) (AVal.le_of_eq (by refine Eq.trans (b := ab (decide (x ≠ x))) rfl ?_; exact congrArg ab (by simp))), ⟨rfl, trivial⟩, X3 _⟩
theorem X2X (s : List UInt8) : Con Tryz.prog 307 [] [.d (.v (.string (X5 s)))] [] (ab false) := by
 refine Xc (xs := [ab false]) Tryz.func307 rfl Tryz.ntmps307 rfl rfl rfl (fun E => ?_)
 refine QHa ?_; refine ZM ?_; refine Qb ?_; exact X1 ⟨_, XF 2 (y := ab false) (AVal.le_of_eq (by refine Eq.trans (b := ab (decide (s ≠ s))) rfl ?_; exact congrArg ab (by simp))), ⟨rfl, trivial⟩, X3 _⟩
theorem X3j (x y : Int) : Con Tryz.prog 159 [] [ai x, ai y] [] (ai (XW x y)) := by
 refine Xc (xs := [ai (XW x y)]) Tryz.func159 rfl Tryz.ntmps159 rfl rfl rfl (fun E => ?_)
 have n1 := X8D x
 have n2 := X8D y
 by_cases h1 : x < y
 ·rw [show XW x y = -1 by simp [XW, h1]]
  refine QNc ?_; refine QOc ?_; exact QA
 by_cases h2 : y < x
 ·rw [show XW x y = 1 by simp [XW, h1, h2]]
  refine QNc ?_; refine QOc ?_; refine QPc ?_; refine Zs ?_; exact QA
 rw [show XW x y = 0 by simp [XW, h1, h2]]
 refine QNc ?_; exact QRc
theorem X6Z : ∀ s : List UInt8, Op.bytesLess s s = false
 | [] => rfl
 | b :: s => by simp [Op.bytesLess, X6Z s]
theorem Xcn {t : TypeId} {x y : Operand} {s : List UInt8} (w : World) : (do eqGuard .lss t x y (.string (X5 s)) (.string (X5 s)); binOp .lss t (.string (X5 s)) (.string (X5 s)) : Sem Value).run Tryz.prog w = .ok (.bool false) w := by
 simp [go_sem, binOp, Op.stringOp, X0h, X6Z]
theorem Xf0 {t : TypeId} {x y : Operand} {s : List UInt8} (w : World) : (do eqGuard .gtr t x y (.string (X5 s)) (.string (X5 s)); binOp .gtr t (.string (X5 s)) (.string (X5 s)) : Sem Value).run Tryz.prog w = .ok (.bool false) w := by
 simp [go_sem, binOp, Op.stringOp, X0h, X6Z]
theorem Xe2 (s : List UInt8) : Con Tryz.prog 255 [] [.d (.v (.string (X5 s))), .d (.v (.string (X5 s)))] [] (ai 0) := by
 refine Xc (xs := [ai 0]) Tryz.func255 rfl Tryz.ntmps255 rfl rfl rfl (fun E => ?_)
 have n1 := X2X s
 refine Qe ?_; refine Z9 (hcon := n1) ?_; refine QQ ?_; refine Z9 (hcon := n1) ?_; refine Qba ?_; refine QH ?_; refine Qt ?_; refine QPc ?_; refine Z7 (op := .lss) (r' := .bool false) (u := .string (X5 s)) (v := .string (X5 s)) ?_ (hr := by exact Xcn); refine QPc ?_; refine Z7 (op := .gtr) (r' := .bool false) (u := .string (X5 s)) (v := .string (X5 s)) ?_ (hr := by exact Xf0); exact QQc
abbrev cI (n : Int) : List D := [.v (.int .i64 n)]
def orI : List Int → Int
 | [] => 0
 | x :: r => if x ≠ 0 then x else orI r
theorem XhV {l : List Int} {i : Nat} {x : Int} (h : l[i]? = some x) : orI (l.drop i) = if x ≠ 0 then x else orI (l.drop (i + 1)) := by
 rw [List.drop_eq_getElem_cons (List.getElem?_eq_some_iff.1 h).1, (List.getElem?_eq_some_iff.1 h).2, orI]
theorem XfP (l : List Int) (hl : l.length ≤ 1000) : Con Tryz.prog 254 [] [.d (.sl 1 (l.map cI))] [] (ai (orI l)) := by
 refine Xc (xs := [ai (orI l)]) Tryz.func254 rfl Tryz.ntmps254 rfl rfl rfl (fun E => ?_)
 have hlm : (l.map cI).length = l.length := by simp
 refine Qc ?_; refine Qu ?_; refine Qjb ?_
 generalize hG : orI l = G
 refine Xz (fun i : Nat => i ≤ l.length ∧ orI (l.drop i) = G) (fun i => ⟨18, [(3, ai 0), (6, .d (.sl 1 (l.map cI))), (7, ai (l.map cI).length), (8, ai i)], []⟩) (fun i => l.length - i) 0 ⟨by omega, hG⟩
  (X7 rfl ⟨JL, JL, JL, JL, trivial⟩ trivial) ?_
 rintro i ⟨hi, hg⟩
 by_cases hil : i < l.length
 case neg =>
  obtain rfl : i = l.length := by omega
  rw [List.drop_length, orI] at hg
  subst hg
  have hn : ¬ ((l.length : Nat) : Int) < (l.map cI).length := by omega
  refine QM ?_; refine Qd ?_; exact QNa
 have hn : (i : Int) < (l.map cI).length := by omega
 obtain ⟨x, hx⟩ := Xu (l := l) hil
 have hxm : (l.map cI)[i]? = some (cI x) := XD hx
 rw [XhV hx] at hg
 by_cases h0 : x = 0
 ·rw [if_neg (by simpa using h0)] at hg
  refine QVb ?_; refine Qnb ?_; refine QR ?_; refine QSc ?_; refine QV ?_; exact ⟨i + 1, ⟨by omega, hg⟩, by omega, X7 rfl ⟨JL, JL, JL, JL, trivial⟩ trivial⟩
 ·rw [if_pos h0] at hg
  subst hg
  refine QVb ?_; refine Qnb ?_; refine QR ?_; refine Zv ?_; refine QIa ?_; exact QNa
def Uq (k : Int) : Int := if k = 3 then 2 else if k = 7 then 9 else k
theorem X5M (k n d : Int) (s : List UInt8) (l : List Val) : Con Tryz.prog 333 [] [XG (.mk k n d s l)] [] (ai (Uq k)) := by
 refine Xc (xs := [ai (Uq k)]) Tryz.func333 rfl Tryz.ntmps333 rfl rfl rfl (fun E => ?_)
 simp only [XG]
 by_cases h3 : k = 3
 ·subst h3
  refine Qtb ?_; refine QFb ?_; exact Qz
 by_cases h7 : k = 7
 ·subst h7
  refine Qtb ?_; refine QHb ?_; exact Qz
 rw [show Uq k = k by simp [Uq, h3, h7]]
 refine Qtb ?_; refine QNb ?_; refine X2 ?_; refine QUa ?_; exact QNa
open Go
abbrev Yr (x : Nat) : List D := [.v (.int .i64 (x : Int))]
abbrev Uk (l : List Nat) : D := .sl 1 (l.map Yr)
def Um : List Nat → Nat
 | [] => 0
 | x :: r => x + 1000 * Um r
def Ug : Nat → Nat → List Nat
 | 0, _ => []
 | n + 1, v => v % 1000 :: Ug n (v / 1000)
def Vw (l : List Nat) : Prop := ∀ d ∈ l, d < 1000
theorem X3o {l : List Nat} (h : Vw l) {k x : Nat} (hx : l[k]? = some x) : x < 1000 := h x (List.mem_of_getElem? hx)
theorem X5d : ∀ n v, (Ug n v).length = n
 | 0, _ => rfl
 | n + 1, v => by rw [Ug, List.length_cons, X5d n]
theorem X7r : ∀ n v, Vw (Ug n v)
 | 0, _ => fun d h => by simp [Ug] at h
 | n + 1, v => fun d h => by
  rw [Ug] at h
  rcases List.mem_cons.1 h with rfl | h
  ·exact Nat.mod_lt _ (by omega)
  ·exact X7r n _ d h
theorem X7G : ∀ l : List Nat, Vw l → Ug l.length (Um l) = l
 | [], _ => rfl
 | x :: r, h => by
  have hx := h x (by simp)
  rw [List.length_cons, Ug, Um, show (x + 1000 * Um r) % 1000 = x by omega, show (x + 1000 * Um r) / 1000 = Um r by omega, X7G r fun d hd => h d (by simp [hd])]
theorem X7u : ∀ (l : List Nat) (k x y : Nat), l[k]? = some x → Um (l.set k y) + x * 1000 ^ k = Um l + y * 1000 ^ k
 | [], k, x, y, h => by simp at h
 | z :: r, 0, x, y, h => by
  simp at h
  subst h
  simp only [List.set_cons_zero, Um, Nat.pow_zero, Nat.mul_one]
  omega
 | z :: r, k + 1, x, y, h => by
  have ih := X7u r k x y (by simpa using h)
  simp only [List.set_cons_succ, Um, Nat.pow_succ, ← Nat.mul_assoc]
  omega
theorem X9B : ∀ n, Um (List.replicate n 0) = 0
 | 0 => rfl
 | n + 1 => by rw [List.replicate_succ, Um, X9B n]
theorem X75 (n : Nat) : Vw (List.replicate n 0) := fun d h => by
 have := (List.mem_replicate.1 h).2
 omega
theorem X98 {l : List Nat} (h : Vw l) (k : Nat) {y : Nat} (hy : y < 1000) : Vw (l.set k y) := fun d hd => by
 rcases List.mem_or_eq_of_mem_set hd with h1 | rfl
 ·exact h d h1
 ·exact hy
theorem Xhr {l : List Nat} {k x V d c carry : Nat} (hV : Um l + (d * c + carry) * 1000 ^ k = V) (hx : l[k]? = some x) :
  Um (l.set k ((carry + x + d * (c % 1000)) % 1000)) + (d * (c / 1000) + (carry + x + d * (c % 1000)) / 1000) * 1000 ^ (k + 1) = V := by
 have h1 := X7u l k x ((carry + x + d * (c % 1000)) % 1000) hx
 have ht := Nat.mod_add_div (carry + x + d * (c % 1000)) 1000
 have e1 : d * c = d * (c % 1000) + 1000 * (d * (c / 1000)) := by
  have hc := Nat.mod_add_div c 1000
  calc d * c = d * (c % 1000 + 1000 * (c / 1000)) := by rw [hc]
   _ = _ := by rw [Nat.mul_add, Nat.mul_left_comm]
 rw [e1] at hV
 rw [Nat.pow_succ]
 generalize Um (l.set k ((carry + x + d * (c % 1000)) % 1000)) = A at *
 generalize d * (c % 1000) = u at *
 generalize d * (c / 1000) = w at *
 generalize (carry + x + u) / 1000 = q at *
 generalize (carry + x + u) % 1000 = r at *
 generalize 1000 ^ k = p at *
 have e2 : (r + 1000 * q) * p = (carry + x + u) * p := by rw [ht]
 have e3 : (w + q) * (p * 1000) = 1000 * (w * p) + 1000 * (q * p) := by rw [← Nat.mul_assoc, Nat.mul_comm, Nat.add_mul, Nat.mul_add]
 rw [e3]
 simp only [Nat.add_mul, Nat.mul_assoc] at *
 omega
theorem Xgk {A A' a b i V : Nat} (hV : A + a * b * 1000 ^ i = V) (h : A' = A + a % 1000 * b * 1000 ^ i) : A' + a / 1000 * b * 1000 ^ (i + 1) = V := by
 have e1 : a * b = a % 1000 * b + 1000 * (a / 1000 * b) := by
  have hc := Nat.mod_add_div a 1000
  calc a * b = (a % 1000 + 1000 * (a / 1000)) * b := by rw [hc]
   _ = _ := by rw [Nat.add_mul, Nat.mul_assoc]
 rw [e1] at hV
 rw [Nat.pow_succ]
 generalize a % 1000 * b = u at *
 generalize a / 1000 * b = w at *
 generalize 1000 ^ i = p at *
 have e3 : w * (p * 1000) = 1000 * (w * p) := by rw [← Nat.mul_assoc, Nat.mul_comm]
 rw [e3]
 simp only [Nat.add_mul, Nat.mul_assoc] at *
 omega
theorem X5F {k m : Nat} (h : 1000 ^ k ≤ 1000 ^ m) : k ≤ m := (Nat.pow_le_pow_iff_right (by decide)).1 h
theorem Xcl {a i a0 : Nat} (h : a * 1000 ^ i ≤ a0) (ha : 0 < a) (h0 : a0 ≤ 1000000000000000) : i ≤ 5 := by
 refine X5F (Nat.le_trans ?_ (Nat.le_trans h h0))
 exact Nat.le_mul_of_pos_left _ ha
theorem XeS {c k b i : Nat} (h : c * 1000 ^ k ≤ b * 1000 ^ i) (hc : 0 < c) (hb : b ≤ 1000000000000000) (hi : i ≤ 5) : k ≤ 10 := by
 have h1 : 1000 ^ k ≤ c * 1000 ^ k := Nat.le_mul_of_pos_left _ hc
 have h2 : b * 1000 ^ i ≤ 1000 ^ 5 * 1000 ^ 5 := Nat.mul_le_mul hb (Nat.pow_le_pow_right (by decide) hi)
 exact X5F (Nat.le_trans h1 (Nat.le_trans h h2))
theorem XbW {A u carry k V W : Nat} (h : A + (u + carry) * 1000 ^ k = V) (hV : V ≤ W) (hW : W ≤ 1000 ^ 10) (hc : 0 < carry) : k ≤ 10 := by
 have h1 : 1000 ^ k ≤ (u + carry) * 1000 ^ k := Nat.le_mul_of_pos_left _ (by omega)
 exact X5F (Nat.le_trans h1 (by omega))
theorem X9a {c k X : Nat} (h : c * 1000 ^ k ≤ X) : c / 1000 * 1000 ^ (k + 1) ≤ X := by
 refine Nat.le_trans ?_ h
 rw [Nat.pow_succ, Nat.mul_comm (1000 ^ k), ← Nat.mul_assoc]
 exact Nat.mul_le_mul_right _ (Nat.div_mul_le_self c 1000)
theorem Xgf {a b a0 : Nat} (ha : a ≤ 1000000000000000) (hb : b ≤ 1000000000000000) : a * b ≤ 1000 ^ 10 := by
 have h : a * b ≤ 1000000000000000 * 1000000000000000 := Nat.mul_le_mul ha hb
 exact h
theorem Xen {A a b i V : Nat} (h : A + a * b * 1000 ^ i = V) : A + a % 1000 * b * 1000 ^ i ≤ V := by
 rw [← h]
 exact Nat.add_le_add_left (Nat.mul_le_mul_right _ (Nat.mul_le_mul_right _ (Nat.mod_le _ _))) _
def UR (x y : List Nat) : Nat → List Nat × Nat
 | 0 => (List.replicate x.length 0, 0)
 | k + 1 => let p := UR x y k; let t := p.2 + (x[k]?).getD 0 + (y[k]?).getD 0; (p.1.set k (t % 1000), t / 1000)
theorem X9T (x y : List Nat) : ∀ k, (UR x y k).1.length = x.length
 | 0 => by simp [UR]
 | k + 1 => by simp only [UR, List.length_set]; exact X9T x y k
theorem X96 {x y : List Nat} (hx : Vw x) (hy : Vw y) : ∀ k, (UR x y k).2 ≤ 1
 | 0 => by simp [UR]
 | k + 1 => by
  have ih := X96 hx hy k
  have h1 : (x[k]?).getD 0 < 1000 := by
   cases h : x[k]? with
   | none => simp
   | some a => exact X3o hx h
  have h2 : (y[k]?).getD 0 < 1000 := by
   cases h : y[k]? with
   | none => simp
   | some a => exact X3o hy h
  simp only [UR]
  omega
def VR (x y : List Nat) : List Nat := (UR x y x.length).1
theorem XaL {l : List Nat} {k y : Nat} (h : k < l.length) : List.take k (l.map Yr) ++ [Yr y] ++ List.drop (k + 1) (l.map Yr) = (l.set k y).map Yr := by
 rw [List.set_eq_take_append_cons_drop, if_pos h]; simp
theorem Xcw (n : Nat) : List.replicate n (Yr 0) = (List.replicate n 0).map Yr := by simp
theorem X7Z (x y : List Nat) (hx : Vw x) (hy : Vw y) (hl : y.length = x.length) (hn : x.length ≤ 1000) : Con Tryz.prog 302 [] [.d (Uk x), .d (Uk y)] [] (.d (Uk (VR x y))) := by
 have hlx : (x.map Yr).length = x.length := by simp
 have own : Con Tryz.prog 302 [] [.d (Uk x), .d (Uk y)] [(130, .row 1 ((VR x y).map Yr))] (.own 130 ((VR x y).map Yr).length) := by
  refine Xc (xs := [.own 130 ((VR x y).map Yr).length]) Tryz.func302 rfl Tryz.ntmps302 rfl rfl rfl (fun E => ?_)
  refine Qe ?_; refine Zd ?_; refine Ze (γ := 130) ?_; refine Qb ?_; refine Qac ?_
  refine Xz (fun k : Nat => k ≤ x.length) (fun k => ⟨36, [(0, .d (Uk x)), (1, .d (Uk y)), (5, .own 130 (x.map Yr).length), (6, ai (UR x y k).2), (7, ai k)], [(130, .row 1 ((UR x y k).1.map Yr))]⟩) (fun k => x.length - k) 0 (by omega)
   (X7 rfl ⟨JL, JL, JL, JL, JL, trivial⟩ ⟨?_, trivial⟩) ?_
  ·refine congrArg (AObj.row 1) ?_; refine Eq.trans (b := List.replicate (x.map Yr).length (Yr 0)) rfl ?_; rw [hlx]; exact Xcw x.length
  intro k hk
  have hpl := X9T x y k
  have hpm : ((UR x y k).1.map Yr).length = x.length := by rw [List.length_map, hpl]
  by_cases hkx : k < x.length
  case neg =>
   obtain rfl : k = x.length := by omega
   refine Qlc ?_; refine QJa ?_; exact X1 ⟨_, XF 4 (y := .own 130 ((VR x y).map Yr).length) (AVal.le_of_eq (by refine Eq.trans (b := .own 130 (x.map Yr).length) rfl ?_; congr 1; rw [hlx]; exact hpm.symm)), ⟨rfl, trivial⟩, XZ ⟨rfl, trivial⟩⟩
  obtain ⟨a, ha⟩ := Xu (l := x) hkx
  obtain ⟨b, hb⟩ := Xu (l := y) (k := k) (by omega)
  have hc := X96 hx hy k
  have ha1 := X3o hx ha
  have hb1 := X3o hy hb
  have hsucc : UR x y (k + 1) = ((UR x y k).1.set k (((UR x y k).2 + a + b) % 1000), ((UR x y k).2 + a + b) / 1000) := by
   simp only [UR, ha, hb, Option.getD_some]
  generalize UR x y k = p at *
  obtain ⟨l, c⟩ := p
  simp only at hpl hpm hc hsucc
  refine Qnc ?_; refine Qf ?_; refine Qnb ?_; (refine Z7 (op := .add) (r' := nj (c + a)) (u := nj c) (v := nj a) ?_ (hr := by exact UF (by rw [Y4]; omega))); refine Qf ?_; refine Qnb ?_; (refine Z7 (op := .add) (r' := nj (c + a + b)) (u := nj (c + a)) (v := nj b) ?_ (hr := by exact UF (by rw [Y4]; omega))); refine QQ ?_; refine Qf ?_; refine Z7 (op := .rem) (r' := nj ((c + a + b) % 1000)) (u := nj (c + a + b)) (v := nj 1000) ?_ (hr := by exact Ul (by omega)); refine ZO ?_; refine ZP ?_; refine JD ?_; refine QAa ?_; (refine Z7 (op := .quo) (r' := nj ((c + a + b) / 1000)) (u := nj (c + a + b)) (v := nj 1000) ?_ (hr := by exact Vz (by omega) (by rw [Y4]; omega))); refine QTc ?_
  refine ⟨k + 1, by omega, by omega, ?_⟩
  dsimp only
  rw [hsucc]
  refine X7 rfl ⟨JL, JL, JL, JL, JL, trivial⟩ ⟨?_, trivial⟩
  exact congrArg (AObj.row 1) (XaL (by omega))
 exact own.data (by simp)
theorem XaK (a0 b : Nat) (ha0 : a0 ≤ 1000000000000000) (hb : b ≤ 1000000000000000) : Con Tryz.prog 246 [] [ai a0, ai b] [] (.d (Uk (Ug 14 (a0 * b)))) := by
 have own : Con Tryz.prog 246 [] [ai a0, ai b] [(130, .row 1 ((Ug 14 (a0 * b)).map Yr))] (.own 130 ((Ug 14 (a0 * b)).map Yr).length) := by
  refine Xc (xs := [.own 130 ((Ug 14 (a0 * b)).map Yr).length]) Tryz.func246 rfl Tryz.ntmps246 rfl rfl rfl (fun E => ?_)
  refine Qc ?_; refine Qa ?_; refine Ze (γ := 130) ?_; refine Qb ?_; refine Qua ?_
  refine Xz (ι := List Nat × Nat × Nat) (fun s => s.1.length = 14 ∧ Vw s.1 ∧ Um s.1 + s.2.1 * b * 1000 ^ s.2.2 = a0 * b ∧ s.2.1 * 1000 ^ s.2.2 ≤ a0)
   (fun s => ⟨51, [(0, ai s.2.1), (1, ai b), (5, .own 130 14), (6, ai s.2.2)], [(130, .row 1 (s.1.map Yr))]⟩) (fun s => s.2.1) (List.replicate 14 0, a0, 0)
   ⟨rfl, X75 14, by rw [X9B]; simp, by simp⟩
   (X7 rfl ⟨JL, JL, JL, JL, trivial⟩ ⟨rfl, trivial⟩) ?_
  rintro ⟨l, a, i⟩ ⟨hl, hlow, hV, hai⟩
  simp only at hl hlow hV hai
  by_cases ha : 0 < a
  case neg =>
   obtain rfl : a = 0 := by omega
   have hfin : Ug 14 (a0 * b) = l := by
    rw [← hV, Nat.zero_mul, Nat.zero_mul, Nat.add_zero, ← hl]
    exact X7G l hlow
   rw [hfin]
   refine QQa ?_; refine QMa ?_; refine Qb ?_; exact X1 ⟨_, XF 4 (y := .own 130 (l.map Yr).length) (AVal.le_of_eq (by refine Eq.trans (b := .own 130 14) rfl ?_; rw [List.length_map, hl])), ⟨rfl, trivial⟩, XZ ⟨rfl, trivial⟩⟩
  have hi5 := Xcl hai ha ha0
  have haa : a ≤ 1000000000000000 := Nat.le_trans (Nat.le_mul_of_pos_right _ (Nat.pow_pos (by decide))) (Nat.le_trans hai ha0)
  have hVle := Xen hV
  have hW := Xgf (a0 := a0) ha0 hb
  refine QQa ?_; refine Qxa ?_; refine Qd ?_; refine Z7 (op := .rem) (r' := nj (a % 1000)) (u := nj a) (v := nj 1000) ?_ (hr := by exact Ul (by omega)); refine QQ ?_; (refine Z7 (op := .quo) (r' := nj (a / 1000)) (u := nj a) (v := nj 1000) ?_ (hr := by exact Vz (by omega) (by rw [Y4]; omega))); refine QQ ?_; refine Qb ?_; refine Qe ?_; refine Qb ?_; refine X4 ?_
  generalize hd : a % 1000 = dg at *
  have hdg : dg < 1000 := by omega
  generalize hV2 : Um l + dg * b * 1000 ^ i = V at *
  refine Xz (ι := List Nat × Nat × Nat × Nat) (fun s => s.1.length = 14 ∧ Vw s.1 ∧ Um s.1 + (dg * s.2.1 + s.2.2.1) * 1000 ^ s.2.2.2 = V ∧ s.2.1 * 1000 ^ s.2.2.2 ≤ b * 1000 ^ i ∧ s.2.2.1 ≤ 999 ∧ s.2.1 ≤ b)
   (fun s => ⟨51, [(0, ai (a / 1000 : Nat)), (1, ai b), (5, .own 130 14), (6, ai i), (7, ai dg), (8, ai s.2.1), (9, ai s.2.2.1), (10, ai s.2.2.2)], [(130, .row 1 (s.1.map Yr))]⟩) (fun s => 20 - s.2.2.2) (l, b, 0, i)
   ⟨hl, hlow, by simpa using hV2, Nat.le_refl _, by simp, Nat.le_refl _⟩
   (X7 rfl ⟨JL, JL, JL, JL, JL, JL, JL, JL, trivial⟩ ⟨rfl, trivial⟩) ?_
  rintro ⟨l2, c, carry, k⟩ ⟨hl2, hlow2, hV3, hck, hcar, hcb⟩
  simp only at hl2 hlow2 hV3 hck hcar hcb
  by_cases hgo : 0 < c ∨ 0 < carry
  case neg =>
   obtain rfl : c = 0 := by omega
   obtain rfl : carry = 0 := by omega
   have hVe : Um l2 = Um l + a % 1000 * b * 1000 ^ i := by
    rw [hd, hV2, ← hV3]; simp
   have hnew := Xgk hV hVe
   have hai2 := X9a hai
   refine QQa ?_; refine Qf ?_; refine QD ?_; refine Qwa ?_; refine QBa ?_; exact ⟨(l2, a / 1000, i + 1), ⟨hl2, hlow2, hnew, hai2⟩, by show a / 1000 < a; omega, X7 rfl ⟨JL, JL, JL, JL, trivial⟩ ⟨rfl, trivial⟩⟩
  have hk : k ≤ 10 := by
   rcases hgo with h | h
   ·exact XeS hck h hb hi5
   ·exact XbW hV3 hVle hW h
  obtain ⟨x, hx⟩ := Xu (l := l2) (k := k) (by omega)
  have hx1 := X3o hlow2 hx
  have hstep := Xhr hV3 hx
  have hck2 := X9a hck
  have hm : dg * (c % 1000) ≤ 998001 := Nat.mul_le_mul (show dg ≤ 999 by omega) (show c % 1000 ≤ 999 by omega)
  have hxm : (l2.map Yr)[k]? = some (Yr x) := XD hx
  have hs := XaL (l := l2) (k := k) (y := (carry + x + dg * (c % 1000)) % 1000) (by omega)
  have hlen : (l2.map Yr).length = 14 := by rw [List.length_map, hl2]
  by_cases hc0 : 0 < c
  ·refine QQa ?_; refine Qi ?_; refine Zn ?_; refine Qxa ?_; refine QUc ?_; refine ZO ?_; refine ZQ ?_; (refine Z7 (op := .add) (r' := nj (carry + x)) (u := nj carry) (v := nj x) ?_ (hr := by exact UF (by rw [Y4]; omega))); refine Qf ?_; refine Z7 (op := .rem) (r' := nj (c % 1000)) (u := nj c) (v := nj 1000) ?_ (hr := by exact Ul (by omega))
   (refine Z7 (op := .mul) (r' := nj (dg * (c % 1000))) (u := nj dg) (v := nj (c % 1000)) ?_ (hr := by exact X8g (by rw [Y4]; omega)))
   (refine Z7 (op := .add) (r' := nj (carry + x + dg * (c % 1000))) (u := nj (carry + x)) (v := nj (dg * (c % 1000))) ?_ (hr := by exact UF (by rw [Y4]; omega))); refine QQ ?_; (refine Z7 (op := .quo) (r' := nj (c / 1000)) (u := nj c) (v := nj 1000) ?_ (hr := by exact Vz (by omega) (by rw [Y4]; omega))); refine QQ ?_; refine Qf ?_; refine QVc ?_; refine ZO ?_; refine ZP ?_; refine JD ?_; refine QAa ?_; (refine Z7 (op := .quo) (r' := nj ((carry + x + dg * (c % 1000)) / 1000)) (u := nj (carry + x + dg * (c % 1000))) (v := nj 1000) ?_ (hr := by exact Vz (by omega) (by rw [Y4]; omega))); refine QTc ?_; exact QWc
  ·have hcar0 : 0 < carry := by omega
   refine QQa ?_; refine Qf ?_; refine QD ?_; refine Qxa ?_; refine QUc ?_; refine ZO ?_; refine ZQ ?_; (refine Z7 (op := .add) (r' := nj (carry + x)) (u := nj carry) (v := nj x) ?_ (hr := by exact UF (by rw [Y4]; omega))); refine Qf ?_; refine Z7 (op := .rem) (r' := nj (c % 1000)) (u := nj c) (v := nj 1000) ?_ (hr := by exact Ul (by omega))
   (refine Z7 (op := .mul) (r' := nj (dg * (c % 1000))) (u := nj dg) (v := nj (c % 1000)) ?_ (hr := by exact X8g (by rw [Y4]; omega)))
   (refine Z7 (op := .add) (r' := nj (carry + x + dg * (c % 1000))) (u := nj (carry + x)) (v := nj (dg * (c % 1000))) ?_ (hr := by exact UF (by rw [Y4]; omega))); refine QQ ?_; (refine Z7 (op := .quo) (r' := nj (c / 1000)) (u := nj c) (v := nj 1000) ?_ (hr := by exact Vz (by omega) (by rw [Y4]; omega))); refine QQ ?_; refine Qf ?_; refine QVc ?_; refine ZO ?_; refine ZP ?_; refine JD ?_; refine QAa ?_; (refine Z7 (op := .quo) (r' := nj ((carry + x + dg * (c % 1000)) / 1000)) (u := nj (carry + x + dg * (c % 1000))) (v := nj 1000) ?_ (hr := by exact Vz (by omega) (by rw [Y4]; omega))); refine QTc ?_; exact QWc
 exact own.data (by simp)
def Vi (n : Int) : Int := if n < 0 then -1 else if 0 < n then 1 else 0
theorem X8I (n : Int) : Con Tryz.prog 245 [] [ai n] [] (ai (Vi n)) := by
 refine Xc (xs := [ai (Vi n)]) Tryz.func245 rfl Tryz.ntmps245 rfl rfl rfl (fun E => ?_)
 by_cases h1 : n < 0
 ·rw [show Vi n = -1 by simp [Vi, h1]]
  refine Qu ?_; refine Z8 ?_; exact QA
 by_cases h2 : 0 < n
 ·rw [show Vi n = 1 by simp [Vi, h1, h2]]
  refine Qu ?_; refine Z8 ?_; refine QH ?_; refine QQa ?_; exact QA
 ·rw [show Vi n = 0 by simp [Vi, h1, h2]]
  refine Qu ?_; refine Z8 ?_; refine QH ?_; refine QQa ?_; exact QQc
theorem Xf9 (x : List Nat) (hx : x.length ≤ 1000) : Con Tryz.prog 303 [] [.d (Uk x), .d (Uk x)] [] (ai 0) := by
 refine Xc (xs := [ai 0]) Tryz.func303 rfl Tryz.ntmps303 rfl rfl rfl (fun E => ?_)
 have hlx : (x.map Yr).length = x.length := by simp
 refine Qu ?_; refine Zd ?_; refine ZR ?_; refine Qb ?_; refine X4 ?_
 refine Xz (fun i : Nat => i ≤ x.length) (fun i => ⟨31, [(0, .d (Uk x)), (1, .d (Uk x)), (5, ai ((i : Int) - 1))], []⟩) (fun i => i) x.length (Nat.le_refl _)
  (X7 rfl ⟨JL, JL, JL, trivial⟩ trivial) ?_
 intro i hi
 cases i with
 | zero =>
  refine Qt ?_; refine Z2 ?_; refine Qwa ?_; exact Qz
 | succ j =>
  have e : (((j + 1 : Nat) : Int) - 1) = (j : Int) := by omega
  rw [e]
  obtain ⟨a, ha⟩ := Xu (l := x) (k := j) (by omega)
  have hxm : (x.map Yr)[j]? = some (Yr a) := XD ha
  refine Qt ?_; refine Z2 ?_; refine Qxa ?_; refine Qva ?_; refine Qnb ?_; refine Qf ?_; refine Qnb ?_; refine Z8 ?_; refine QH ?_; refine Qd ?_; refine QXc ?_; refine Qf ?_; refine Qnb ?_; refine Zs ?_; refine QH ?_; refine QAa ?_; refine ZR ?_; refine Qb ?_; exact ⟨j, by omega, by omega, X7 rfl ⟨JL, JL, JL, trivial⟩ trivial⟩
abbrev X15 : List Nat := List.replicate 14 0
def X1J (s : Int) (x : List Nat) : List Nat := if s = 0 then VR x x else VR X15 X15
theorem Xaq (s : Int) (hs : s = 0 ∨ s = 1 ∨ s = -1) (x : List Nat) (hx : Vw x) (hl : x.length = 14) : Con Tryz.prog 244 [] [ai s, .d (Uk x), ai (-s), .d (Uk x)] [] (.tup [ai 0, .d (Uk (X1J s x))]) := by
 refine Xc (xs := [ai 0, .d (Uk (X1J s x))]) Tryz.func244 rfl Tryz.ntmps244 rfl rfl rfl (fun E => ?_)
 have hp := X7Z x x hx hx rfl (by omega)
 have hz := X7Z X15 X15 (X75 14) (X75 14) rfl (by decide)
 have ho := Xf9 x (by omega)
 by_cases h0 : s = 0
 ·subst h0
  rw [show X1J 0 x = VR x x from if_pos rfl]
  generalize VR x x = y at *
  refine Qa ?_; refine QKa ?_; refine Qva ?_; refine Zl ?_; refine Qi ?_; refine Zn ?_; refine QIa ?_; refine Qf ?_; refine Z9 (hcon := hp) ?_; exact QYc
 have hs2 : X1J s x = VR X15 X15 := if_neg h0
 rw [hs2]
 clear hs2
 generalize VR X15 X15 = y at *
 by_cases h1 : s = 1
 ·subst h1
  refine Qa ?_; refine QKa ?_; refine Qva ?_; refine Zl ?_; refine Qf ?_; refine Zl ?_; refine QI ?_; refine Qt ?_; refine Qec ?_; refine Z1 ?_; refine Z9 (hcon := ho) ?_; refine Qba ?_; refine Zl ?_; refine Qx ?_; refine Qa ?_; refine ZS ?_; refine ZS ?_; refine Z9 (hcon := hz) ?_; exact QYc
 ·obtain rfl : s = -1 := by omega
  refine Qa ?_; refine QKa ?_; refine Qva ?_; refine Zl ?_; refine Qf ?_; refine Zl ?_; refine QI ?_; refine Qt ?_; refine Qec ?_; refine Z1 ?_; refine Z9 (hcon := ho) ?_; refine Qba ?_; refine Zl ?_; refine Qx ?_; refine Qa ?_; refine ZS ?_; refine ZS ?_; refine Z9 (hcon := hz) ?_; exact QYc
theorem Xg1 (n : Int) : Vi n = 0 ∨ Vi n = 1 ∨ Vi n = -1 := by
 unfold Vi
 split
 ·exact .inr (.inr rfl)
 ·split
  ·exact .inr (.inl rfl)
  ·exact .inl rfl
theorem XcL (n d : Int) : Con Tryz.prog 185 [] [X1X n d, X1X n d] [] (ai 0) := by
 refine Xc (xs := [ai 0]) Tryz.func185 rfl Tryz.ntmps185 rfl rfl rfl (fun E => ?_)
 have hv := X8y n d
 cases hb : Vu n d with
 | true =>
  rw [hb] at hv
  simp [Vu] at hb
  obtain ⟨D, rfl⟩ : ∃ D : Nat, d = D := ⟨d.toNat, by omega⟩
  have hsz := X6p n (by omega)
  have hsg := X8I n
  have hr := Xg1 n
  have ht := XaK n.natAbs D (by omega) (by omega)
  have hsum := Xaq (Vi n) hr (Ug 14 (n.natAbs * D)) (X7r _ _) (X5d _ _)
  generalize Vi n = s at *
  generalize Ug 14 (n.natAbs * D) = x at *
  generalize X1J s x = y at *
  generalize n.natAbs = N at *
  have hr1 : -1 ≤ s ∧ s ≤ 1 := by omega
  clear hr hb
  refine Qad ?_; refine Qbd ?_; refine Z9 (hcon := hv) ?_; refine QYb ?_; refine Qbd ?_; refine Z9 (hcon := hv) ?_; refine QYb ?_; refine QUa ?_; refine Z9 (hcon := hsg) ?_; refine Qcd ?_; refine QTa ?_; refine Z9 (hcon := hsg) ?_; refine Zu ?_; refine Qcd ?_; refine Z9 (hcon := hsum) ?_; refine Qed ?_; exact QNa
 | false =>
  rw [hb] at hv
  clear hb
  have hsz : Con Tryz.prog 247 [] [ai 0] [] (ai 0) := X6p 0 (by omega)
  have hsg : Con Tryz.prog 245 [] [ai 0] [] (ai 0) := X8I 0
  have ht : Con Tryz.prog 246 [] [ai 0, ai 1] [] (.d (Uk (Ug 14 (0 * 1)))) := XaK 0 1 (by omega) (by omega)
  have hsum : Con Tryz.prog 244 [] [ai 0, .d (Uk (Ug 14 (0 * 1))), ai 0, .d (Uk (Ug 14 (0 * 1)))] [] (.tup [ai 0, .d (Uk (X1J 0 (Ug 14 (0 * 1))))]) := Xaq 0 (.inl rfl) (Ug 14 (0 * 1)) (X7r _ _) (X5d _ _)
  generalize Ug 14 (0 * 1) = x at *
  generalize X1J 0 x = y at *
  refine Qad ?_; refine Qfd ?_; refine Qx ?_; refine JR ?_; refine Zx ?_; refine Qlb ?_; refine Qfd ?_; refine Qx ?_; refine JR ?_; refine Zx ?_; refine Qlb ?_; refine QUa ?_; refine Z9 (hcon := hsg) ?_; refine Qcd ?_; refine QTa ?_; refine Z9 (hcon := hsg) ?_; refine Zu ?_; refine Qcd ?_; refine Z9 (hcon := hsum) ?_; refine Qed ?_; exact QNa
theorem X2W (n : Int) : Con Tryz.prog 182 [] [ai n, ai n] [] (ai 0) := by
 refine Xc (xs := [ai 0]) Tryz.func182 rfl Tryz.ntmps182 rfl rfl rfl (fun E => ?_)
 have h : ¬ n < n := by omega
 refine Qc ?_; exact QRc
theorem X5t : ∀ s : List UInt8, Op.bytesLess s s = false
 | [] => rfl
 | b :: s => by simp [Op.bytesLess, X5t s]
theorem XgD {t : TypeId} {x y : Operand} {s : List UInt8} (w : World) : (do eqGuard .lss t x y (.string (X5 s)) (.string (X5 s)); binOp .lss t (.string (X5 s)) (.string (X5 s)) : Sem Value).run Tryz.prog w = .ok (.bool false) w := by
 simp [go_sem, X0h, X5t]
theorem XhR {t : TypeId} {x y : Operand} {s : List UInt8} (w : World) : (do eqGuard .gtr t x y (.string (X5 s)) (.string (X5 s)); binOp .gtr t (.string (X5 s)) (.string (X5 s)) : Sem Value).run Tryz.prog w = .ok (.bool false) w := by
 simp [go_sem, binOp, Op.stringOp, X0h, X5t]
theorem Xg4 (s : List UInt8) : Con Tryz.prog 241 [] [Uo s, Uo s] [] (ai 0) := by
 refine Xc (xs := [ai 0]) Tryz.func241 rfl Tryz.ntmps241 rfl rfl rfl (fun E => ?_)
 refine Qc ?_; refine Qva ?_; refine Z7 (op := .lss) (r' := .bool false) (u := .string (X5 s)) (v := .string (X5 s)) ?_ (hr := by exact XgD); refine QPc ?_; refine Z7 (op := .gtr) (r' := .bool false) (u := .string (X5 s)) (v := .string (X5 s)) ?_ (hr := by exact XhR); exact QQc
def V2 (k : Int) : Int := if k = 0 then 0 else if k = 1 then 1 else if k = 2 ∨ k = 3 then 2 else if k = 4 then 3 else if k = 5 then 4 else if k = 6 then 5 else if k = 8 then 6 else 7
theorem X7f (k : Int) : Con Tryz.prog 183 [] [ai k] [] (ai (V2 k)) := by
 refine Xc (xs := [ai (V2 k)]) Tryz.func183 rfl Tryz.ntmps183 rfl rfl rfl (fun E => ?_)
 by_cases h0 : k = 0
 ·subst h0
  refine Qu ?_; refine QFb ?_; exact Qz
 by_cases h1 : k = 1
 ·subst h1
  refine Qu ?_; refine QHb ?_; exact Qz
 by_cases h2 : k = 2
 ·subst h2
  refine Qu ?_; refine QNb ?_; refine Qea ?_; exact Qz
 by_cases h3 : k = 3
 ·subst h3
  refine Qu ?_; refine QNb ?_; refine Qla ?_; exact Qz
 by_cases h4 : k = 4
 ·subst h4
  refine Qu ?_; refine QNb ?_; refine Qma ?_; refine Qia ?_; exact Qz
 by_cases h5 : k = 5
 ·subst h5
  refine Qu ?_; refine QNb ?_; refine Qma ?_; refine QGb ?_; exact Qz
 by_cases h6 : k = 6
 ·subst h6
  refine Qu ?_; refine QNb ?_; refine Qma ?_; refine QMb ?_; refine Qia ?_; exact Qz
 by_cases h8 : k = 8
 ·subst h8
  refine Qu ?_; refine QNb ?_; refine Qma ?_; refine QMb ?_; refine QGb ?_; exact Qz
 rw [show V2 k = 7 by simp [V2, *]]
 refine Qu ?_; refine QNb ?_; refine Qma ?_; refine QMb ?_; refine QMb ?_; refine X2 ?_; exact Qz
end Go.Fw
