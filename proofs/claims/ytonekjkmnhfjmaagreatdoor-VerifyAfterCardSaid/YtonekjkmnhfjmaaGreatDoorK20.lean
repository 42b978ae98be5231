/- The null value: the program's test. -/
import Derived.Test.YtonekjkmnhfjmaaGreatDoorK15
import Derived.Test.YtonekjkmnhfjmaaGreatDoorK19
set_option maxHeartbeats 8000000
namespace Go.Fw
open Go Go.Proofs
set_option maxRecDepth 100000
set_option linter.unusedVariables false
set_option linter.unusedSimpArgs false
def XL (x y : Int) : Int := if x < y then -1 else if y < x then 1 else 0
theorem X8o (x : Int) : Con Tryz.prog 222 [] [ai x] [] (ab false) := by
 refine Xc (xs := [ab false]) Tryz.func222 rfl Tryz.ntmps222 rfl rfl rfl (fun E => ?_)
 refine Qf ?_; refine ZH ?_; refine Qb ?_; exact X1 ⟨_, Xr 2 (y := ab false) (AVal.le_of_eq (by refine Eq.trans (b := ab (decide (x ≠ x))) rfl ?_; exact congrArg ab (by simp))), ⟨rfl, trivial⟩, X3 _⟩
theorem X2Q (s : List UInt8) : Con Tryz.prog 307 [] [.d (.v (.string (X5 s)))] [] (ab false) := by
 refine Xc (xs := [ab false]) Tryz.func307 rfl Tryz.ntmps307 rfl rfl rfl (fun E => ?_)
 refine Qf ?_; refine ZY ?_; refine Qb ?_; exact X1 ⟨_, Xr 2 (y := ab false) (AVal.le_of_eq (by refine Eq.trans (b := ab (decide (s ≠ s))) rfl ?_; exact congrArg ab (by simp))), ⟨rfl, trivial⟩, X3 _⟩
theorem X1G (x y : Int) : Con Tryz.prog 159 [] [ai x, ai y] [] (ai (XL x y)) := by
 refine Xc (xs := [ai (XL x y)]) Tryz.func159 rfl Tryz.ntmps159 rfl rfl rfl (fun E => ?_)
 have n1 := X8o x
 have n2 := X8o y
 by_cases h1 : x < y
 ·rw [show XL x y = -1 by simp [XL, h1]]
  refine QKd ?_; refine Ql ?_; refine Zq ?_; exact QZ
 by_cases h2 : y < x
 ·rw [show XL x y = 1 by simp [XL, h1, h2]]
  refine QKd ?_; refine Ql ?_; refine Zq ?_; refine QLd ?_; refine Zb ?_; exact QZ
 rw [show XL x y = 0 by simp [XL, h1, h2]]
 refine QKd ?_; exact QNd
theorem X7a : ∀ s : List UInt8, Op.bytesLess s s = false
 | [] => rfl
 | b :: s => by simp [Op.bytesLess, X7a s]
theorem XhC {t : TypeId} {x y : Operand} {s : List UInt8} (w : World) : (do eqGuard .lss t x y (.string (X5 s)) (.string (X5 s)); binOp .lss t (.string (X5 s)) (.string (X5 s)) : Sem Value).run Tryz.prog w = .ok (.bool false) w := by
 simp [go_sem, binOp, Op.stringOp, X0q, X7a]
theorem XfV {t : TypeId} {x y : Operand} {s : List UInt8} (w : World) : (do eqGuard .gtr t x y (.string (X5 s)) (.string (X5 s)); binOp .gtr t (.string (X5 s)) (.string (X5 s)) : Sem Value).run Tryz.prog w = .ok (.bool false) w := by
 simp [go_sem, binOp, Op.stringOp, X0q, X7a]
theorem XdN (s : List UInt8) : Con Tryz.prog 255 [] [.d (.v (.string (X5 s))), .d (.v (.string (X5 s)))] [] (ai 0) := by
 refine Xc (xs := [ai 0]) Tryz.func255 rfl Tryz.ntmps255 rfl rfl rfl (fun E => ?_)
 have n1 := X2Q s
 refine QB ?_; refine Zr (hcon := n1) ?_; refine QC ?_; refine Zr (hcon := n1) ?_; refine Qi ?_; refine Qj ?_; refine Qh ?_; refine QLd ?_; refine Zp (op := .lss) (r' := .bool false) (u := .string (X5 s)) (v := .string (X5 s)) ?_ (hr := by exact XhC); refine QLd ?_; refine Zp (op := .gtr) (r' := .bool false) (u := .string (X5 s)) (v := .string (X5 s)) ?_ (hr := by exact XfV); exact QMd
abbrev cI (n : Int) : List D := [.v (.int .i64 n)]
def orI : List Int → Int
 | [] => 0
 | x :: r => if x ≠ 0 then x else orI r
theorem XdJ {l : List Int} {i : Nat} {x : Int} (h : l[i]? = some x) : orI (l.drop i) = if x ≠ 0 then x else orI (l.drop (i + 1)) := by
 rw [List.drop_eq_getElem_cons (List.getElem?_eq_some_iff.1 h).1, (List.getElem?_eq_some_iff.1 h).2, orI]
theorem XbB (l : List Int) (hl : l.length ≤ 1000) : Con Tryz.prog 254 [] [.d (.sl 1 (l.map cI))] [] (ai (orI l)) := by
 refine Xc (xs := [ai (orI l)]) Tryz.func254 rfl Tryz.ntmps254 rfl rfl rfl (fun E => ?_)
 have hlm : (l.map cI).length = l.length := by simp
 refine Qc ?_; refine QU ?_; refine Qcc ?_
 generalize hG : orI l = G
 refine Xz (fun i : Nat => i ≤ l.length ∧ orI (l.drop i) = G) (fun i => ⟨18, [(3, ai 0), (6, .d (.sl 1 (l.map cI))), (7, ai (l.map cI).length), (8, ai i)], []⟩) (fun i => l.length - i) 0 ⟨by omega, hG⟩
  (X6 rfl ⟨JL, JL, JL, JL, trivial⟩ trivial) ?_
 rintro i ⟨hi, hg⟩
 by_cases hil : i < l.length
 case neg =>
  obtain rfl : i = l.length := by omega
  rw [List.drop_length, orI] at hg
  subst hg
  have hn : ¬ ((l.length : Nat) : Int) < (l.map cI).length := by omega
  refine Qka ?_; refine Qd ?_; exact QCb
 have hn : (i : Int) < (l.map cI).length := by omega
 obtain ⟨x, hx⟩ := Xs (l := l) hil
 have hxm : (l.map cI)[i]? = some (cI x) := Xx hx
 rw [XdJ hx] at hg
 by_cases h0 : x = 0
 ·rw [if_neg (by simpa using h0)] at hg
  refine QRc ?_; refine Qhc ?_; refine QD ?_; refine QOd ?_; refine Qsa ?_; exact ⟨i + 1, ⟨by omega, hg⟩, by omega, X6 rfl ⟨JL, JL, JL, JL, trivial⟩ trivial⟩
 ·rw [if_pos h0] at hg
  subst hg
  refine QRc ?_; refine Qhc ?_; refine QD ?_; refine ZH ?_; exact QXb
def UL (k : Int) : Int := if k = 3 then 2 else if k = 7 then 9 else k
theorem X7v (k n d : Int) (s : List UInt8) (l : List Val) : Con Tryz.prog 333 [] [Xm (.mk k n d s l)] [] (ai (UL k)) := by
 refine Xc (xs := [ai (UL k)]) Tryz.func333 rfl Tryz.ntmps333 rfl rfl rfl (fun E => ?_)
 simp only [Xm]
 by_cases h3 : k = 3
 ·subst h3
  refine Qnc ?_; refine Qzc ?_; exact QY
 by_cases h7 : k = 7
 ·subst h7
  refine Qnc ?_; refine QBc ?_; exact QY
 rw [show UL k = k by simp [UL, h3, h7]]
 refine Qnc ?_; refine QGc ?_; refine X2 ?_; refine QJb ?_; exact QCb
open Go
abbrev XZ (x : Nat) : List D := [.v (.int .i64 (x : Int))]
abbrev Yn (l : List Nat) : D := .sl 1 (l.map XZ)
def Ux : List Nat → Nat
 | [] => 0
 | x :: r => x + 1000 * Ux r
def Yx : Nat → Nat → List Nat
 | 0, _ => []
 | n + 1, v => v % 1000 :: Yx n (v / 1000)
def V3 (l : List Nat) : Prop := ∀ d ∈ l, d < 1000
theorem X1B {l : List Nat} (h : V3 l) {k x : Nat} (hx : l[k]? = some x) : x < 1000 := h x (List.mem_of_getElem? hx)
theorem X0S : ∀ n v, (Yx n v).length = n
 | 0, _ => rfl
 | n + 1, v => by rw [Yx, List.length_cons, X0S n]
theorem X3s : ∀ n v, V3 (Yx n v)
 | 0, _ => fun d h => by simp [Yx] at h
 | n + 1, v => fun d h => by
  rw [Yx] at h
  rcases List.mem_cons.1 h with rfl | h
  ·exact Nat.mod_lt _ (by omega)
  ·exact X3s n _ d h
theorem X95 : ∀ l : List Nat, V3 l → Yx l.length (Ux l) = l
 | [], _ => rfl
 | x :: r, h => by
  have hx := h x (by simp)
  rw [List.length_cons, Yx, Ux, show (x + 1000 * Ux r) % 1000 = x by omega, show (x + 1000 * Ux r) / 1000 = Ux r by omega, X95 r fun d hd => h d (by simp [hd])]
theorem X7X : ∀ (l : List Nat) (k x y : Nat), l[k]? = some x → Ux (l.set k y) + x * 1000 ^ k = Ux l + y * 1000 ^ k
 | [], k, x, y, h => by simp at h
 | z :: r, 0, x, y, h => by
  simp at h
  subst h
  simp only [List.set_cons_zero, Ux, Nat.pow_zero, Nat.mul_one]
  omega
 | z :: r, k + 1, x, y, h => by
  have ih := X7X r k x y (by simpa using h)
  simp only [List.set_cons_succ, Ux, Nat.pow_succ, ← Nat.mul_assoc]
  omega
theorem X93 : ∀ n, Ux (List.replicate n 0) = 0
 | 0 => rfl
 | n + 1 => by rw [List.replicate_succ, Ux, X93 n]
theorem X3b (n : Nat) : V3 (List.replicate n 0) := fun d h => by
 have := (List.mem_replicate.1 h).2
 omega
theorem Xau {l : List Nat} (h : V3 l) (k : Nat) {y : Nat} (hy : y < 1000) : V3 (l.set k y) := fun d hd => by
 rcases List.mem_or_eq_of_mem_set hd with h1 | rfl
 ·exact h d h1
 ·exact hy
theorem Xfy {l : List Nat} {k x V d c carry : Nat} (hV : Ux l + (d * c + carry) * 1000 ^ k = V) (hx : l[k]? = some x) :
  Ux (l.set k ((carry + x + d * (c % 1000)) % 1000)) + (d * (c / 1000) + (carry + x + d * (c % 1000)) / 1000) * 1000 ^ (k + 1) = V := by
 have h1 := X7X l k x ((carry + x + d * (c % 1000)) % 1000) hx
 have ht := Nat.mod_add_div (carry + x + d * (c % 1000)) 1000
 have e1 : d * c = d * (c % 1000) + 1000 * (d * (c / 1000)) := by
  have hc := Nat.mod_add_div c 1000
  calc d * c = d * (c % 1000 + 1000 * (c / 1000)) := by rw [hc]
   _ = _ := by rw [Nat.mul_add, Nat.mul_left_comm]
 rw [e1] at hV
 rw [Nat.pow_succ]
 generalize Ux (l.set k ((carry + x + d * (c % 1000)) % 1000)) = A at *
 generalize d * (c % 1000) = u at *
 generalize d * (c / 1000) = w at *
 generalize (carry + x + u) / 1000 = q at *
 generalize (carry + x + u) % 1000 = r at *
 generalize 1000 ^ k = p at *
 have e2 : (r + 1000 * q) * p = (carry + x + u) * p := by rw [ht]
 have e3 : (w + q) * (p * 1000) = 1000 * (w * p) + 1000 * (q * p) := by rw [← Nat.mul_assoc, Nat.mul_comm, Nat.add_mul, Nat.mul_add]
 rw [e3]
 simp only [Nat.add_mul, Nat.mul_assoc] at *
 omega
theorem XgV {A A' a b i V : Nat} (hV : A + a * b * 1000 ^ i = V) (h : A' = A + a % 1000 * b * 1000 ^ i) : A' + a / 1000 * b * 1000 ^ (i + 1) = V := by
 have e1 : a * b = a % 1000 * b + 1000 * (a / 1000 * b) := by
  have hc := Nat.mod_add_div a 1000
  calc a * b = (a % 1000 + 1000 * (a / 1000)) * b := by rw [hc]
   _ = _ := by rw [Nat.add_mul, Nat.mul_assoc]
 rw [e1] at hV
 rw [Nat.pow_succ]
 generalize a % 1000 * b = u at *
 generalize a / 1000 * b = w at *
 generalize 1000 ^ i = p at *
 have e3 : w * (p * 1000) = 1000 * (w * p) := by rw [← Nat.mul_assoc, Nat.mul_comm]
 rw [e3]
 simp only [Nat.add_mul, Nat.mul_assoc] at *
 omega
theorem X7k {k m : Nat} (h : 1000 ^ k ≤ 1000 ^ m) : k ≤ m := (Nat.pow_le_pow_iff_right (by decide)).1 h
theorem XcE {a i a0 : Nat} (h : a * 1000 ^ i ≤ a0) (ha : 0 < a) (h0 : a0 ≤ 1000000000000000) : i ≤ 5 := by
 refine X7k (Nat.le_trans ?_ (Nat.le_trans h h0))
 exact Nat.le_mul_of_pos_left _ ha
theorem XcZ {c k b i : Nat} (h : c * 1000 ^ k ≤ b * 1000 ^ i) (hc : 0 < c) (hb : b ≤ 1000000000000000) (hi : i ≤ 5) : k ≤ 10 := by
 have h1 : 1000 ^ k ≤ c * 1000 ^ k := Nat.le_mul_of_pos_left _ hc
 have h2 : b * 1000 ^ i ≤ 1000 ^ 5 * 1000 ^ 5 := Nat.mul_le_mul hb (Nat.pow_le_pow_right (by decide) hi)
 exact X7k (Nat.le_trans h1 (Nat.le_trans h h2))
theorem XgE {A u carry k V W : Nat} (h : A + (u + carry) * 1000 ^ k = V) (hV : V ≤ W) (hW : W ≤ 1000 ^ 10) (hc : 0 < carry) : k ≤ 10 := by
 have h1 : 1000 ^ k ≤ (u + carry) * 1000 ^ k := Nat.le_mul_of_pos_left _ (by omega)
 exact X7k (Nat.le_trans h1 (by omega))
theorem X8z {c k X : Nat} (h : c * 1000 ^ k ≤ X) : c / 1000 * 1000 ^ (k + 1) ≤ X := by
 refine Nat.le_trans ?_ h
 rw [Nat.pow_succ, Nat.mul_comm (1000 ^ k), ← Nat.mul_assoc]
 exact Nat.mul_le_mul_right _ (Nat.div_mul_le_self c 1000)
theorem Xeb {a b a0 : Nat} (ha : a ≤ 1000000000000000) (hb : b ≤ 1000000000000000) : a * b ≤ 1000 ^ 10 := by
 have h : a * b ≤ 1000000000000000 * 1000000000000000 := Nat.mul_le_mul ha hb
 exact h
theorem Xd2 {A a b i V : Nat} (h : A + a * b * 1000 ^ i = V) : A + a % 1000 * b * 1000 ^ i ≤ V := by
 rw [← h]
 exact Nat.add_le_add_left (Nat.mul_le_mul_right _ (Nat.mul_le_mul_right _ (Nat.mod_le _ _))) _
def V8 (x y : List Nat) : Nat → List Nat × Nat
 | 0 => (List.replicate x.length 0, 0)
 | k + 1 => let p := V8 x y k; let t := p.2 + (x[k]?).getD 0 + (y[k]?).getD 0; (p.1.set k (t % 1000), t / 1000)
theorem Xbt (x y : List Nat) : ∀ k, (V8 x y k).1.length = x.length
 | 0 => by simp [V8]
 | k + 1 => by simp only [V8, List.length_set]; exact Xbt x y k
theorem Xay {x y : List Nat} (hx : V3 x) (hy : V3 y) : ∀ k, (V8 x y k).2 ≤ 1
 | 0 => by simp [V8]
 | k + 1 => by
  have ih := Xay hx hy k
  have h1 : (x[k]?).getD 0 < 1000 := by
   cases h : x[k]? with
   | none => simp
   | some a => exact X1B hx h
  have h2 : (y[k]?).getD 0 < 1000 := by
   cases h : y[k]? with
   | none => simp
   | some a => exact X1B hy h
  simp only [V8]
  omega
def UJ (x y : List Nat) : List Nat := (V8 x y x.length).1
theorem X54 {l : List Nat} {k y : Nat} (h : k < l.length) : List.take k (l.map XZ) ++ [XZ y] ++ List.drop (k + 1) (l.map XZ) = (l.set k y).map XZ := by
 rw [List.set_eq_take_append_cons_drop, if_pos h]; simp
theorem X8c (n : Nat) : List.replicate n (XZ 0) = (List.replicate n 0).map XZ := by simp
theorem X52 (x y : List Nat) (hx : V3 x) (hy : V3 y) (hl : y.length = x.length) (hn : x.length ≤ 1000) : Con Tryz.prog 302 [] [.d (Yn x), .d (Yn y)] [] (.d (Yn (UJ x y))) := by
 have hlx : (x.map XZ).length = x.length := by simp
 have own : Con Tryz.prog 302 [] [.d (Yn x), .d (Yn y)] [(130, .row 1 ((UJ x y).map XZ))] (.own 130 ((UJ x y).map XZ).length) := by
  refine Xc (xs := [.own 130 ((UJ x y).map XZ).length]) Tryz.func302 rfl Tryz.ntmps302 rfl rfl rfl (fun E => ?_)
  refine QB ?_; refine Z3 ?_; refine Zv (γ := 130) ?_; refine Qb ?_; refine QXc ?_
  refine Xz (fun k : Nat => k ≤ x.length) (fun k => ⟨36, [(0, .d (Yn x)), (1, .d (Yn y)), (5, .own 130 (x.map XZ).length), (6, ai (V8 x y k).2), (7, ai k)], [(130, .row 1 ((V8 x y k).1.map XZ))]⟩) (fun k => x.length - k) 0 (by omega)
   (X6 rfl ⟨JL, JL, JL, JL, JL, trivial⟩ ⟨?_, trivial⟩) ?_
  ·refine congrArg (AObj.row 1) ?_; refine Eq.trans (b := List.replicate (x.map XZ).length (XZ 0)) rfl ?_; rw [hlx]; exact X8c x.length
  intro k hk
  have hpl := Xbt x y k
  have hpm : ((V8 x y k).1.map XZ).length = x.length := by rw [List.length_map, hpl]
  by_cases hkx : k < x.length
  case neg =>
   obtain rfl : k = x.length := by omega
   refine Qgd ?_; refine Qzb ?_; exact X1 ⟨_, Xr 4 (y := .own 130 ((UJ x y).map XZ).length) (AVal.le_of_eq (by refine Eq.trans (b := .own 130 (x.map XZ).length) rfl ?_; congr 1; rw [hlx]; exact hpm.symm)), ⟨rfl, trivial⟩, XX ⟨rfl, trivial⟩⟩
  obtain ⟨a, ha⟩ := Xs (l := x) hkx
  obtain ⟨b, hb⟩ := Xs (l := y) (k := k) (by omega)
  have hc := Xay hx hy k
  have ha1 := X1B hx ha
  have hb1 := X1B hy hb
  have hsucc : V8 x y (k + 1) = ((V8 x y k).1.set k (((V8 x y k).2 + a + b) % 1000), ((V8 x y k).2 + a + b) / 1000) := by
   simp only [V8, ha, hb, Option.getD_some]
  generalize V8 x y k = p at *
  obtain ⟨l, c⟩ := p
  simp only at hpl hpm hc hsucc
  refine QZc ?_; refine Qr ?_; refine Qhc ?_; (refine Zp (op := .add) (r' := nj (c + a)) (u := nj c) (v := nj a) ?_ (hr := by exact V1 (by rw [Yg]; omega))); refine Qq ?_; refine Qhc ?_; (refine Zp (op := .add) (r' := nj (c + a + b)) (u := nj (c + a)) (v := nj b) ?_ (hr := by exact V1 (by rw [Yg]; omega))); refine QPd ?_; refine Zp (op := .rem) (r' := nj ((c + a + b) % 1000)) (u := nj (c + a + b)) (v := nj 1000) ?_ (hr := by exact UC (by omega)); refine Z00 ?_; refine Z01 ?_; refine JD ?_; refine Qfb ?_; (refine Zp (op := .quo) (r' := nj ((c + a + b) / 1000)) (u := nj (c + a + b)) (v := nj 1000) ?_ (hr := by exact X2v (by omega) (by rw [Yg]; omega))); refine Qb ?_; refine Qgb ?_
  refine ⟨k + 1, by omega, by omega, ?_⟩
  dsimp only
  rw [hsucc]
  refine X6 rfl ⟨JL, JL, JL, JL, JL, trivial⟩ ⟨?_, trivial⟩
  exact congrArg (AObj.row 1) (X54 (by omega))
 exact own.data (by simp)
theorem X3Q (a0 b : Nat) (ha0 : a0 ≤ 1000000000000000) (hb : b ≤ 1000000000000000) : Con Tryz.prog 246 [] [ai a0, ai b] [] (.d (Yn (Yx 14 (a0 * b)))) := by
 have own : Con Tryz.prog 246 [] [ai a0, ai b] [(130, .row 1 ((Yx 14 (a0 * b)).map XZ))] (.own 130 ((Yx 14 (a0 * b)).map XZ).length) := by
  refine Xc (xs := [.own 130 ((Yx 14 (a0 * b)).map XZ).length]) Tryz.func246 rfl Tryz.ntmps246 rfl rfl rfl (fun E => ?_)
  refine Qc ?_; refine Qa ?_; refine Zv (γ := 130) ?_; refine Qb ?_; refine QZa ?_
  refine Xz (ι := List Nat × Nat × Nat) (fun s => s.1.length = 14 ∧ V3 s.1 ∧ Ux s.1 + s.2.1 * b * 1000 ^ s.2.2 = a0 * b ∧ s.2.1 * 1000 ^ s.2.2 ≤ a0)
   (fun s => ⟨51, [(0, ai s.2.1), (1, ai b), (5, .own 130 14), (6, ai s.2.2)], [(130, .row 1 (s.1.map XZ))]⟩) (fun s => s.2.1) (List.replicate 14 0, a0, 0)
   ⟨rfl, X3b 14, by rw [X93]; simp, by simp⟩
   (X6 rfl ⟨JL, JL, JL, JL, trivial⟩ ⟨rfl, trivial⟩) ?_
  rintro ⟨l, a, i⟩ ⟨hl, hlow, hV, hai⟩
  simp only at hl hlow hV hai
  by_cases ha : 0 < a
  case neg =>
   obtain rfl : a = 0 := by omega
   have hfin : Yx 14 (a0 * b) = l := by
    rw [← hV, Nat.zero_mul, Nat.zero_mul, Nat.add_zero, ← hl]
    exact X95 l hlow
   rw [hfin]
   refine QFb ?_; refine Qab ?_; refine Qzb ?_; exact X1 ⟨_, Xr 4 (y := .own 130 (l.map XZ).length) (AVal.le_of_eq (by refine Eq.trans (b := .own 130 14) rfl ?_; rw [List.length_map, hl])), ⟨rfl, trivial⟩, XX ⟨rfl, trivial⟩⟩
  have hi5 := XcE hai ha ha0
  have haa : a ≤ 1000000000000000 := Nat.le_trans (Nat.le_mul_of_pos_right _ (Nat.pow_pos (by decide))) (Nat.le_trans hai ha0)
  have hVle := Xd2 hV
  have hW := Xeb (a0 := a0) ha0 hb
  refine QFb ?_; refine Qbb ?_; refine Qd ?_; refine Zp (op := .rem) (r' := nj (a % 1000)) (u := nj a) (v := nj 1000) ?_ (hr := by exact UC (by omega)); refine QC ?_; (refine Zp (op := .quo) (r' := nj (a / 1000)) (u := nj a) (v := nj 1000) ?_ (hr := by exact X2v (by omega) (by rw [Yg]; omega))); refine QC ?_; refine Qb ?_; refine QB ?_; refine Qb ?_; refine X4 ?_
  generalize hd : a % 1000 = dg at *
  have hdg : dg < 1000 := by omega
  generalize hV2 : Ux l + dg * b * 1000 ^ i = V at *
  refine Xz (ι := List Nat × Nat × Nat × Nat) (fun s => s.1.length = 14 ∧ V3 s.1 ∧ Ux s.1 + (dg * s.2.1 + s.2.2.1) * 1000 ^ s.2.2.2 = V ∧ s.2.1 * 1000 ^ s.2.2.2 ≤ b * 1000 ^ i ∧ s.2.2.1 ≤ 999 ∧ s.2.1 ≤ b)
   (fun s => ⟨51, [(0, ai (a / 1000 : Nat)), (1, ai b), (5, .own 130 14), (6, ai i), (7, ai dg), (8, ai s.2.1), (9, ai s.2.2.1), (10, ai s.2.2.2)], [(130, .row 1 (s.1.map XZ))]⟩) (fun s => 20 - s.2.2.2) (l, b, 0, i)
   ⟨hl, hlow, by simpa using hV2, Nat.le_refl _, by simp, Nat.le_refl _⟩
   (X6 rfl ⟨JL, JL, JL, JL, JL, JL, JL, JL, trivial⟩ ⟨rfl, trivial⟩) ?_
  rintro ⟨l2, c, carry, k⟩ ⟨hl2, hlow2, hV3, hck, hcar, hcb⟩
  simp only at hl2 hlow2 hV3 hck hcar hcb
  by_cases hgo : 0 < c ∨ 0 < carry
  case neg =>
   obtain rfl : c = 0 := by omega
   obtain rfl : carry = 0 := by omega
   have hVe : Ux l2 = Ux l + a % 1000 * b * 1000 ^ i := by
    rw [hd, hV2, ← hV3]; simp
   have hnew := XgV hV hVe
   have hai2 := X8z hai
   refine QFb ?_; refine Qq ?_; refine Qca ?_; refine Qab ?_; refine Qgb ?_; exact ⟨(l2, a / 1000, i + 1), ⟨hl2, hlow2, hnew, hai2⟩, by show a / 1000 < a; omega, X6 rfl ⟨JL, JL, JL, JL, trivial⟩ ⟨rfl, trivial⟩⟩
  have hk : k ≤ 10 := by
   rcases hgo with h | h
   ·exact XcZ hck h hb hi5
   ·exact XgE hV3 hVle hW h
  obtain ⟨x, hx⟩ := Xs (l := l2) (k := k) (by omega)
  have hx1 := X1B hlow2 hx
  have hstep := Xfy hV3 hx
  have hck2 := X8z hck
  have hm : dg * (c % 1000) ≤ 998001 := Nat.mul_le_mul (show dg ≤ 999 by omega) (show c % 1000 ≤ 999 by omega)
  have hxm : (l2.map XZ)[k]? = some (XZ x) := Xx hx
  have hs := X54 (l := l2) (k := k) (y := (carry + x + dg * (c % 1000)) % 1000) (by omega)
  have hlen : (l2.map XZ).length = 14 := by rw [List.length_map, hl2]
  by_cases hc0 : 0 < c
  ·refine QFb ?_; refine QJ ?_; refine ZB ?_; refine Qbb ?_; refine Qr ?_; refine Z00 ?_; refine Z02 ?_; (refine Zp (op := .add) (r' := nj (carry + x)) (u := nj carry) (v := nj x) ?_ (hr := by exact V1 (by rw [Yg]; omega))); refine Qq ?_; refine Zp (op := .rem) (r' := nj (c % 1000)) (u := nj c) (v := nj 1000) ?_ (hr := by exact UC (by omega))
   (refine Zp (op := .mul) (r' := nj (dg * (c % 1000))) (u := nj dg) (v := nj (c % 1000)) ?_ (hr := by exact XaQ (by rw [Yg]; omega)))
   (refine Zp (op := .add) (r' := nj (carry + x + dg * (c % 1000))) (u := nj (carry + x)) (v := nj (dg * (c % 1000))) ?_ (hr := by exact V1 (by rw [Yg]; omega))); refine QC ?_; (refine Zp (op := .quo) (r' := nj (c / 1000)) (u := nj c) (v := nj 1000) ?_ (hr := by exact X2v (by omega) (by rw [Yg]; omega))); refine QPd ?_; refine QQd ?_; refine Z00 ?_; refine Z01 ?_; refine JD ?_; refine Qfb ?_; (refine Zp (op := .quo) (r' := nj ((carry + x + dg * (c % 1000)) / 1000)) (u := nj (carry + x + dg * (c % 1000))) (v := nj 1000) ?_ (hr := by exact X2v (by omega) (by rw [Yg]; omega))); refine Qb ?_; refine Qgb ?_; exact QRd
  ·have hcar0 : 0 < carry := by omega
   refine QFb ?_; refine Qq ?_; refine Qca ?_; refine Qbb ?_; refine Qr ?_; refine Z00 ?_; refine Z02 ?_; (refine Zp (op := .add) (r' := nj (carry + x)) (u := nj carry) (v := nj x) ?_ (hr := by exact V1 (by rw [Yg]; omega))); refine Qq ?_; refine Zp (op := .rem) (r' := nj (c % 1000)) (u := nj c) (v := nj 1000) ?_ (hr := by exact UC (by omega))
   (refine Zp (op := .mul) (r' := nj (dg * (c % 1000))) (u := nj dg) (v := nj (c % 1000)) ?_ (hr := by exact XaQ (by rw [Yg]; omega)))
   (refine Zp (op := .add) (r' := nj (carry + x + dg * (c % 1000))) (u := nj (carry + x)) (v := nj (dg * (c % 1000))) ?_ (hr := by exact V1 (by rw [Yg]; omega))); refine QC ?_; (refine Zp (op := .quo) (r' := nj (c / 1000)) (u := nj c) (v := nj 1000) ?_ (hr := by exact X2v (by omega) (by rw [Yg]; omega))); refine QPd ?_; refine QQd ?_; refine Z00 ?_; refine Z01 ?_; refine JD ?_; refine Qfb ?_; (refine Zp (op := .quo) (r' := nj ((carry + x + dg * (c % 1000)) / 1000)) (u := nj (carry + x + dg * (c % 1000))) (v := nj 1000) ?_ (hr := by exact X2v (by omega) (by rw [Yg]; omega))); refine Qb ?_; refine Qgb ?_; exact QRd
 exact own.data (by simp)
def Yi (n : Int) : Int := if n < 0 then -1 else if 0 < n then 1 else 0
theorem X3N (n : Int) : Con Tryz.prog 245 [] [ai n] [] (ai (Yi n)) := by
 refine Xc (xs := [ai (Yi n)]) Tryz.func245 rfl Tryz.ntmps245 rfl rfl rfl (fun E => ?_)
 by_cases h1 : n < 0
 ·rw [show Yi n = -1 by simp [Yi, h1]]
  refine QU ?_; refine Zq ?_; exact QZ
 by_cases h2 : 0 < n
 ·rw [show Yi n = 1 by simp [Yi, h1, h2]]
  refine QU ?_; refine Zq ?_; refine Qj ?_; refine QFb ?_; exact QZ
 ·rw [show Yi n = 0 by simp [Yi, h1, h2]]
  refine QU ?_; refine Zq ?_; refine Qj ?_; refine QFb ?_; exact QMd
theorem Xip (x : List Nat) (hx : x.length ≤ 1000) : Con Tryz.prog 303 [] [.d (Yn x), .d (Yn x)] [] (ai 0) := by
 refine Xc (xs := [ai 0]) Tryz.func303 rfl Tryz.ntmps303 rfl rfl rfl (fun E => ?_)
 have hlx : (x.map XZ).length = x.length := by simp
 refine QU ?_; refine Z3 ?_; refine Z03 ?_; refine Qb ?_; refine X4 ?_
 refine Xz (fun i : Nat => i ≤ x.length) (fun i => ⟨31, [(0, .d (Yn x)), (1, .d (Yn x)), (5, ai ((i : Int) - 1))], []⟩) (fun i => i) x.length (Nat.le_refl _)
  (X6 rfl ⟨JL, JL, JL, trivial⟩ trivial) ?_
 intro i hi
 cases i with
 | zero =>
  refine Qh ?_; refine Zm ?_; refine Qab ?_; exact QY
 | succ j =>
  have e : (((j + 1 : Nat) : Int) - 1) = (j : Int) := by omega
  rw [e]
  obtain ⟨a, ha⟩ := Xs (l := x) (k := j) (by omega)
  have hxm : (x.map XZ)[j]? = some (XZ a) := Xx ha
  refine QSd ?_; refine Qj ?_; refine Qfb ?_; refine Z03 ?_; refine Qb ?_; exact ⟨j, by omega, by omega, X6 rfl ⟨JL, JL, JL, trivial⟩ trivial⟩
abbrev UU : List Nat := List.replicate 14 0
def X1O (s : Int) (x : List Nat) : List Nat := if s = 0 then UJ x x else UJ UU UU
theorem X8O (s : Int) (hs : s = 0 ∨ s = 1 ∨ s = -1) (x : List Nat) (hx : V3 x) (hl : x.length = 14) : Con Tryz.prog 244 [] [ai s, .d (Yn x), ai (-s), .d (Yn x)] [] (.tup [ai 0, .d (Yn (X1O s x))]) := by
 refine Xc (xs := [ai 0, .d (Yn (X1O s x))]) Tryz.func244 rfl Tryz.ntmps244 rfl rfl rfl (fun E => ?_)
 have hp := X52 x x hx hx rfl (by omega)
 have hz := X52 UU UU (X3b 14) (X3b 14) rfl (by decide)
 have ho := Xip x (by omega)
 by_cases h0 : s = 0
 ·subst h0
  rw [show X1O 0 x = UJ x x from if_pos rfl]
  generalize UJ x x = y at *
  refine QTd ?_; refine Z4 ?_; refine QJ ?_; refine ZB ?_; exact QVd
 have hs2 : X1O s x = UJ UU UU := if_neg h0
 rw [hs2]
 clear hs2
 generalize UJ UU UU = y at *
 by_cases h1 : s = 1
 ·subst h1
  exact QXd
 ·obtain rfl : s = -1 := by omega
  exact QXd
theorem X73 (n : Int) : Yi n = 0 ∨ Yi n = 1 ∨ Yi n = -1 := by
 unfold Yi
 split
 ·exact .inr (.inr rfl)
 ·split
  ·exact .inr (.inl rfl)
  ·exact .inl rfl
theorem Xi9 (n d : Int) : Con Tryz.prog 185 [] [UA n d, UA n d] [] (ai 0) := by
 refine Xc (xs := [ai 0]) Tryz.func185 rfl Tryz.ntmps185 rfl rfl rfl (fun E => ?_)
 have hv := X3O n d
 cases hb : UX n d with
 | true =>
  rw [hb] at hv
  simp [UX] at hb
  obtain ⟨D, rfl⟩ : ∃ D : Nat, d = D := ⟨d.toNat, by omega⟩
  have hsz := X30 n (by omega)
  have hsg := X3N n
  have hr := X73 n
  have ht := X3Q n.natAbs D (by omega) (by omega)
  have hsum := X8O (Yi n) hr (Yx 14 (n.natAbs * D)) (X3s _ _) (X0S _ _)
  generalize Yi n = s at *
  generalize Yx 14 (n.natAbs * D) = x at *
  generalize X1O s x = y at *
  generalize n.natAbs = N at *
  have hr1 : -1 ≤ s ∧ s ≤ 1 := by omega
  clear hr hb
  refine Qae ?_; refine Qce ?_; refine QZd ?_; refine Qbe ?_; refine QUc ?_; refine QJb ?_; refine Zr (hcon := hsg) ?_; refine Qde ?_; refine QIb ?_; refine Zr (hcon := hsg) ?_; refine Zd ?_; refine Qde ?_; refine Zr (hcon := hsum) ?_; refine Qfe ?_; exact QCb
 | false =>
  rw [hb] at hv
  clear hb
  have hsz : Con Tryz.prog 247 [] [ai 0] [] (ai 0) := X30 0 (by omega)
  have hsg : Con Tryz.prog 245 [] [ai 0] [] (ai 0) := X3N 0
  have ht : Con Tryz.prog 246 [] [ai 0, ai 1] [] (.d (Yn (Yx 14 (0 * 1)))) := X3Q 0 1 (by omega) (by omega)
  have hsum : Con Tryz.prog 244 [] [ai 0, .d (Yn (Yx 14 (0 * 1))), ai 0, .d (Yn (Yx 14 (0 * 1)))] [] (.tup [ai 0, .d (Yn (X1O 0 (Yx 14 (0 * 1))))]) := X8O 0 (.inl rfl) (Yx 14 (0 * 1)) (X3s _ _) (X0S _ _)
  generalize Yx 14 (0 * 1) = x at *
  generalize X1O 0 x = y at *
  refine Qae ?_; refine Qbe ?_; refine Zd ?_; refine Qed ?_; refine ZJ ?_; refine Qec ?_; refine QZd ?_; refine Qbe ?_; refine Zd ?_; refine Qed ?_; refine ZJ ?_; refine Qec ?_; refine QJb ?_; refine Zr (hcon := hsg) ?_; refine Qde ?_; refine QIb ?_; refine Zr (hcon := hsg) ?_; refine Zd ?_; refine Qde ?_; refine Zr (hcon := hsum) ?_; refine Qfe ?_; exact QCb
theorem X3F (n : Int) : Con Tryz.prog 182 [] [ai n, ai n] [] (ai 0) := by
 refine Xc (xs := [ai 0]) Tryz.func182 rfl Tryz.ntmps182 rfl rfl rfl (fun E => ?_)
 have h : ¬ n < n := by omega
 refine Qc ?_; exact QNd
theorem X6y : ∀ s : List UInt8, Op.bytesLess s s = false
 | [] => rfl
 | b :: s => by simp [Op.bytesLess, X6y s]
theorem Xf8 {t : TypeId} {x y : Operand} {s : List UInt8} (w : World) : (do eqGuard .lss t x y (.string (X5 s)) (.string (X5 s)); binOp .lss t (.string (X5 s)) (.string (X5 s)) : Sem Value).run Tryz.prog w = .ok (.bool false) w := by
 simp [go_sem, X0q, X6y]
theorem Xh0 {t : TypeId} {x y : Operand} {s : List UInt8} (w : World) : (do eqGuard .gtr t x y (.string (X5 s)) (.string (X5 s)); binOp .gtr t (.string (X5 s)) (.string (X5 s)) : Sem Value).run Tryz.prog w = .ok (.bool false) w := by
 simp [go_sem, binOp, Op.stringOp, X0q, X6y]
theorem Xih (s : List UInt8) : Con Tryz.prog 241 [] [XC s, XC s] [] (ai 0) := by
 refine Xc (xs := [ai 0]) Tryz.func241 rfl Tryz.ntmps241 rfl rfl rfl (fun E => ?_)
 refine Qc ?_; refine Ql ?_; refine Zp (op := .lss) (r' := .bool false) (u := .string (X5 s)) (v := .string (X5 s)) ?_ (hr := by exact Xf8); refine QLd ?_; refine Zp (op := .gtr) (r' := .bool false) (u := .string (X5 s)) (v := .string (X5 s)) ?_ (hr := by exact Xh0); exact QMd
def Vt (k : Int) : Int := if k = 0 then 0 else if k = 1 then 1 else if k = 2 ∨ k = 3 then 2 else if k = 4 then 3 else if k = 5 then 4 else if k = 6 then 5 else if k = 8 then 6 else 7
theorem X6D (k : Int) : Con Tryz.prog 183 [] [ai k] [] (ai (Vt k)) := by
 refine Xc (xs := [ai (Vt k)]) Tryz.func183 rfl Tryz.ntmps183 rfl rfl rfl (fun E => ?_)
 by_cases h0 : k = 0
 ·subst h0
  refine QU ?_; refine Qzc ?_; exact QY
 by_cases h1 : k = 1
 ·subst h1
  refine QU ?_; refine QBc ?_; exact QY
 by_cases h2 : k = 2
 ·subst h2
  refine Qge ?_; refine QAa ?_; exact QY
 by_cases h3 : k = 3
 ·subst h3
  refine Qge ?_; refine QLa ?_; exact QY
 by_cases h4 : k = 4
 ·subst h4
  refine Qge ?_; refine QMa ?_; refine Qza ?_; exact QY
 by_cases h5 : k = 5
 ·subst h5
  refine Qge ?_; refine QNa ?_; exact QY
 by_cases h6 : k = 6
 ·subst h6
  refine Qge ?_; refine QOa ?_; refine Qza ?_; exact QY
 by_cases h8 : k = 8
 ·subst h8
  refine Qge ?_; refine QOa ?_; refine QGa ?_; refine Qza ?_; exact QY
 rw [show Vt k = 7 by simp [Vt, *]]
 refine Qge ?_; refine QOa ?_; refine QGa ?_; refine QGa ?_; refine X2 ?_; exact QY
end Go.Fw
