/- Operators on natural numbers of one integer kind: bits, shifts, division, conversions. -/
import Derived.Laws.Entries
import Derived.Laws.BitsLemmas
import Derived.Laws.StructEq
import Derived.MapKept
import Derived.Test.YtbhleedlnaakkaaGreatL05
namespace Go.Fw
open Go
set_option linter.unusedVariables false
def Vt (k : IntKind) : Nat := if k.signed then k.bits - 1 else k.bits
theorem X4d : 2 ^ Vt .u64 = 18446744073709551616 := by decide
theorem YC : 2 ^ Vt .i64 = 9223372036854775808 := by decide
theorem X1I {k : IntKind} {n : Nat} (h : n < 2 ^ Vt k) : k.wrap (n : Int) = n := by
 cases k <;> simp [Vt, IntKind.signed, IntKind.bits] at h <;> simp [IntKind.wrap, IntKind.bits, IntKind.signed] <;> omega
section
variable {P : Program} {t : TypeId} {x y : Operand} {k : IntKind} {a b : Nat}
theorem X9F {op : BinOp} {a b : Int} {k' : IntKind} {r : Value} (h1 : op = .shl ∨ op = .shr) (h : Op.shift op k a k' b = pure r) (w : World) : (do eqGuard op t x y (.int k a) (.int k' b); binOp op t (.int k a) (.int k' b) : Sem Value).run P w = .ok r w := by
 rcases h1 with rfl | rfl <;> simp [eqGuard, binOp, h]
theorem X48 {k' : IntKind} (hb : b ≤ k.bits) (w : World) : (do eqGuard .shr t x y (.int k a) (.int k' b); binOp .shr t (.int k a) (.int k' b) : Sem Value).run P w = .ok (.int k ((a / 2 ^ b : Nat) : Int)) w := by
 have e : (a : Int).fdiv (2 ^ b) = ((a / 2 ^ b : Nat) : Int) := by
  rw [Int.fdiv_eq_ediv_of_nonneg _ (by exact Int.le_of_lt (Int.pow_pos (by omega)))]; simp
 refine X9F (.inr rfl) ?_ w
 have hb0 : ¬ ((b : Int) < 0) := by omega
 simp only [Op.shift, if_neg hb0, Int.toNat_natCast, Nat.min_eq_left hb, e]
theorem X05 (hb : b ≠ 0) (h : a < 2 ^ Vt k) (w : World) : (do eqGuard .quo t x y (.int k a) (.int k b); binOp .quo t (.int k a) (.int k b) : Sem Value).run P w = .ok (.int k ((a / b : Nat) : Int)) w := by
 have e := X1I (k := k) (n := a / b) (Nat.lt_of_le_of_lt (Nat.div_le_self _ _) h)
 have hb' : (b : Int) ≠ 0 := by omega
 have e2 : (a : Int).tdiv b = ((a / b : Nat) : Int) := by rw [Int.tdiv_eq_ediv_of_nonneg (by omega)]; simp
 simp only [eqGuard, binOp, Op.intDiv, if_neg hb', e2, e]
 simp [go_sem]
theorem YD (hb : b ≠ 0) (w : World) : (do eqGuard .rem t x y (.int k a) (.int k b); binOp .rem t (.int k a) (.int k b) : Sem Value).run P w = .ok (.int k ((a % b : Nat) : Int)) w := by
 have hb' : (b : Int) ≠ 0 := by omega
 have e2 : (a : Int).tmod b = ((a % b : Nat) : Int) := by rw [Int.tmod_eq_emod_of_nonneg (by omega)]; simp
 simp only [eqGuard, binOp, Op.intDiv, if_neg hb', e2]
 simp [go_sem]
theorem UW (h : a + b < 2 ^ Vt k) (w : World) : (do eqGuard .add t x y (.int k a) (.int k b); binOp .add t (.int k a) (.int k b) : Sem Value).run P w = .ok (.int k ((a + b : Nat) : Int)) w := by
 rw [X3V, ← Int.natCast_add, X1I h]
theorem X4T (h : a * b < 2 ^ Vt k) (w : World) : (do eqGuard .mul t x y (.int k a) (.int k b); binOp .mul t (.int k a) (.int k b) : Sem Value).run P w = .ok (.int k ((a * b : Nat) : Int)) w := by
 rw [Xan, ← Int.natCast_mul, X1I h]
theorem Xav {n : Int} (h : -9223372036854775807 ≤ n ∧ n ≤ 9223372036854775807) (w : World) : (Op.unary .neg (.int .i64 n)).run P w = .ok (.int .i64 (-n)) w := by
 have e : IntKind.i64.wrap (0 - n) = -n := by rw [IntWalk.i64_in _ (by omega)]; omega
 have e' : Op.unary .neg (.int .i64 n) = pure (.int .i64 (-n)) := by
  show (pure (Value.int .i64 (IntKind.i64.wrap (0 - n))) : Sem Value) = _
  rw [e]
 rw [e']; rfl
variable {src dst : TypeId} {q : IntKind}
theorem X1T (hs : (P.underlying src).isSome = true) (hd : X39 P dst q = true) (ha : a < 2 ^ Vt q) (w : World) : (convert src dst (.int k (a : Int))).run P w = .ok (.int q (a : Int)) w := by
 have h := Xai (P := P) (n := (a : Int)) (k := k) hs hd w
 rwa [X1I ha] at h
end
end Go.Fw
namespace Go.Fw
open Go
set_option linter.unusedVariables false
set_option linter.unusedSimpArgs false
theorem Con.data {P : Program} {f : FuncId} {args : List AVal} {γ sz n : Nat} {xs : List (List D)} (h : Con P f [] args [(γ, .row sz xs)] (.own γ n)) (hn : n = xs.length) : Con P f [] args [] (.d (.sl sz xs)) := by
 intro g w vs hi hs
 refine (h g w vs hi hs).mono ?_
 rintro e w' ⟨v, g', h1, h2, h3, _⟩
 obtain ⟨M', hle, hi2⟩ := X4v (S := ⟨0, [], [(γ, .row sz xs)]⟩) h3 (Yr _ _ _ _)
 have ho := hi2.obj γ
 rw [Yr] at ho
 have hs2 : (AVal.own γ n).sat { g' with M := M' } v := X22 (g := g') (g' := { g' with M := M' }) hle rfl rfl rfl h2
 refine ⟨v, { g' with M := M' }, h1, X5K ho hn hs2, ?_, fun γ hγ => by simp [Xh] at hγ⟩
 refine (hi2.free (g0 := { g' with M := M' }) fun γ _ => Gh.keeps_refl _ _).sub fun k => .inr rfl
section
variable {P : Program} {ops : Array Oper} {draw : Bool} {K : St → Prop} {rest : List Oper} {l : XJ} {S : St}
variable {d : Nat} {ty : TypeId} {pos : String} {aft : Array Edge} {gd : Option (Nat × Bool)}
theorem Xbd {T : TypeId} {x : Operand} {lo hi : Option Operand} {sz lb hb : Nat} {xs ys : List (List D)} (hx : S.ev x = .d (.sl sz xs)) (hlo : X31 S lo lb) (hhi : X2D S xs.length hi hb) (hlh : lb ≤ hb) (hh : hb ≤ xs.length) (hys : (xs.take hb).drop lb = ys)
  (hT : U0 P T sz = true) (hd : Nat.blt d S.n = true) (hg : Xb ops S gd)
  (h : Walk P ops draw K rest ((l.length, ⟨some d, .slice T x lo hi none, ty, pos, aft, gd⟩, ⟨Xa ops gd ++ ((x, .d (.sl sz xs)) :: (UC lo lb ++ UC hi hb)), some (d, .d (.sl sz ys)), [], [], []⟩) :: l) (S.set d (.d (.sl sz ys)))) :
  Walk P ops draw K (⟨some d, .slice T x lo hi none, ty, pos, aft, gd⟩ :: rest) l S := by
 subst hys
 exact Xah hx hlo hhi hlh hh hT hd hg h
theorem Xae {t : TypeId} {γ : Nat} {x : Operand} {s : ByteArray} (hx : S.ev x = as s) (ht : Vp P t = true) (hdead : S.obj γ = .dead) (hf : S.free γ = true)
  (hd : Nat.blt d S.n = true) (hg : Xb ops S gd)
  (h : Walk P ops draw K rest ((l.length, ⟨some d, .range t x, ty, pos, aft, gd⟩, ⟨Xa ops gd ++ [(x, as s)], some (d, .ptr γ 0), [(γ, .dead)], [(γ, .iter s 0)], [γ]⟩) :: l)
   ((S.set d (.ptr γ 0)).own γ (.iter s 0))) :
  Walk P ops draw K (⟨some d, .range t x, ty, pos, aft, gd⟩ :: rest) l S :=
 Xw ⟨[(x, as s)], some (d, .ptr γ 0), [(γ, .dead)], [(γ, .iter s 0)], [γ]⟩ (Vw rfl fun E S g a w hs hq hl hn => by
  refine ⟨.pointer (some ⟨w.heap.size, 0, none⟩), UZ g w γ, w.alloc (.stringIter s 0), ?_, ?_, ?_, X0s hn.1 hs.2.2.2⟩
  ·have := run_underlying (P := P) (w := w) (X2G ht)
   simp only [execOp, Instr.range, Y6 hq.1, Sem.run_bind, this, Result.andThen_ok]
   rfl
  ·simp [AVal.sat, UZ, Gh.put]
  ·refine X1X hs.1 γ hn.1 hl.1 _ _ _ (Va w _) (X0a w _) rfl rfl ?_ (fun k hk => ?_)
   ·show (w.alloc (.stringIter s 0)).heap[(UZ g w γ).blk γ]? = some (.stringIter s 0)
    simp only [UZ, Gh.put, if_true]
    exact heap_alloc_new w _
   ·have hk : (g.put γ w.heap.size undef).blk γ = k := hk
    simp only [Gh.put, if_true] at hk; omega) hg ⟨⟨hx, trivial⟩, ⟨hdead, trivial⟩, ⟨hf, trivial⟩, hd⟩ h
theorem Xbw {x : Operand} {γ p : Nat} {s : ByteArray} (hx : S.ev x = .ptr γ 0) (hL : S.obj γ = .iter s p) (hlt : p < s.size)
  (hd : Nat.blt d S.n = true) (hg : Xb ops S gd)
  (h : Walk P ops draw K rest ((l.length, ⟨some d, .next x true, ty, pos, aft, gd⟩, ⟨Xa ops gd ++ [(x, .ptr γ 0)], some (d, .tup [ab true, ai p, .d (.v (.int .i32 (Utf8.decode s p).1))]), [(γ, .iter s p)], [(γ, .iter s (p + (Utf8.decode s p).2))], []⟩) :: l)
   ((S.set d (.tup [ab true, ai p, .d (.v (.int .i32 (Utf8.decode s p).1))])).own γ (.iter s (p + (Utf8.decode s p).2)))) :
  Walk P ops draw K (⟨some d, .next x true, ty, pos, aft, gd⟩ :: rest) l S := by
 refine Xw ⟨[(x, .ptr γ 0)], some (d, .tup [ab true, ai p, .d (.v (.int .i32 (Utf8.decode s p).1))]), [(γ, .iter s p)], [(γ, .iter s (p + (Utf8.decode s p).2))], []⟩ (Vw rfl fun E S g a w hs hq hl hn => ?_) hg ⟨⟨hx, trivial⟩, ⟨hL, trivial⟩, trivial, hd⟩ h
 have ho := hs.1.obj γ
 rw [hl.1] at ho
 have ho : w.heap[g.blk γ]? = some (.stringIter s p) := ho
 have hb := (Array.getElem?_eq_some_iff.1 ho).1
 have hv := hq.1
 simp only [AVal.sat] at hv
 refine ⟨.tuple #[.bool true, goInt p, .int .i32 (Utf8.decode s p).1], g, { w with heap := w.heap.set! (g.blk γ) (.stringIter s (p + (Utf8.decode s p).2)) }, ?_, ?_, ?_, hs.2.2.2⟩
 ·simp only [execOp, hv, Instr.next, getObj, setObj, Sem.run_bind, Sem.run, ho, Result.andThen, hlt, if_true]
  simp [goInt, ho, hlt]
 ·simp only [AVal.sat]
  refine ⟨_, rfl, ?_⟩
  simp [Xc, AVal.sat, D.rep, goInt, Value.oneCell']
 ·refine Inv.upd hs.1 γ _ (Yr _ _ _ _) (fun k hk => Yu _ _ _ (Ne.symm hk)) (fun b hb2 hnl => ?_) (by simp) rfl rfl rfl (fun _ _ => ⟨rfl, rfl, rfl⟩) (fun _ _ _ _ _ h => h) ?_ (fun b hb2 => .inl ?_) (fun _ => Gh.keeps_refl _ _)
  ·have hne : g.blk γ ≠ b := fun e => hnl (by rw [hl.1]; exact e)
   simp [Array.set!, Array.getElem?_setIfInBounds, hne]
  ·show (w.heap.set! (g.blk γ) _)[g.blk γ]? = _
   simp [Array.set!, Array.getElem?_setIfInBounds, hb]
  ·rw [hl.1]; exact hb2
theorem X9S {x : Operand} {γ p : Nat} {s : ByteArray} (hx : S.ev x = .ptr γ 0) (hL : S.obj γ = .iter s p) (hge : s.size ≤ p)
  (hd : Nat.blt d S.n = true) (hg : Xb ops S gd)
  (h : Walk P ops draw K rest ((l.length, ⟨some d, .next x true, ty, pos, aft, gd⟩, ⟨Xa ops gd ++ [(x, .ptr γ 0)], some (d, .tup [ab false]), [(γ, .iter s p)], [], []⟩) :: l) (S.set d (.tup [ab false]))) :
  Walk P ops draw K (⟨some d, .next x true, ty, pos, aft, gd⟩ :: rest) l S := by
 refine Xw ⟨[(x, .ptr γ 0)], some (d, .tup [ab false]), [(γ, .iter s p)], [], []⟩ (XS rfl fun E S g a w hs hq hl => ?_) hg ⟨⟨hx, trivial⟩, ⟨hL, trivial⟩, trivial, hd⟩ h
 have ho := hs.1.obj γ
 rw [hl.1] at ho
 have ho : w.heap[g.blk γ]? = some (.stringIter s p) := ho
 have hv := hq.1
 simp only [AVal.sat] at hv
 refine ⟨.tuple #[.bool false], ?_, ?_⟩
 ·simp only [execOp, hv, Instr.next, getObj, Sem.run_bind, Sem.run, ho, Result.andThen, show ¬ p < s.size by omega, if_false]
  simp [ho, show ¬ p < s.size by omega]
 ·simp only [AVal.sat]
  refine ⟨_, rfl, ?_⟩
  simp [Xc, AVal.sat, D.rep, Value.oneCell']
end
end Go.Fw
namespace Go.Fw
open Go
set_option linter.unusedVariables false
set_option linter.unusedSimpArgs false
section
variable {P : Program} {ops : Array Oper} {draw : Bool} {K : St → Prop} {rest : List Oper} {l : XJ} {S : St}
variable {d : Nat} {ty : TypeId} {pos : String} {aft : Array Edge} {gd : Option (Nat × Bool)}
theorem X9q {b : List UInt8} {k : Nat} {c : UInt8} (h : b[k]? = some c) : (X6 b)[k]? = some c := by
 have hlt : k < (X6 b).size := (List.getElem?_eq_some_iff.1 h).1
 rw [getElem?_pos (X6 b) k hlt]
 exact congrArg some (List.getElem?_eq_some_iff.1 h).2
theorem XaA {t : TypeId} {x i : Operand} {k : Nat} {kd : IntKind} {m : Int} {b : List UInt8} {c : UInt8} (hx : S.ev x = as (X6 b)) (hi : S.ev i = .d (.v (.int kd m))) (hk : m = (k : Nat)) (hc : b[k]? = some c)
  (ht : Vp P t = true) (hd : Nat.blt d S.n = true) (hg : Xb ops S gd)
  (h : Walk P ops draw K rest ((l.length, ⟨some d, .index t x i, ty, pos, aft, gd⟩, ⟨Xa ops gd ++ [(x, as (X6 b)), (i, .d (.v (.int kd m)))], some (d, .d (.v (.int .u8 c.toNat))), [], [], []⟩) :: l) (S.set d (.d (.v (.int .u8 c.toNat))))) :
  Walk P ops draw K (⟨some d, .index t x i, ty, pos, aft, gd⟩ :: rest) l S :=
 Xw ⟨[(x, as (X6 b)), (i, .d (.v (.int kd m)))], some (d, .d (.v (.int .u8 c.toNat))), [], [], []⟩ (XS rfl fun E S g a w hs hq hl => by
  refine ⟨.int .u8 c.toNat, ?_, UI rfl⟩
  subst hk
  have h0 : (0 : Int) ≤ (k : Int) := by omega
  have hu := run_underlying (P := P) (w := w) (X2G ht)
  simp only [execOp, Instr.index, Y6 hq.1, Y6 hq.2.1, asIntOf, Sem.run_bind, Sem.run_pure, Result.andThen_ok, hu, if_pos h0, Int.toNat_natCast, X9q hc]) hg ⟨⟨hx, hi, trivial⟩, trivial, trivial, hd⟩ h
end
end Go.Fw
namespace Go.Fw
open Go
set_option linter.unusedVariables false
inductive SK where
 | i (k : IntKind)
 | b
 | s
def SK.of (P : Program) (t : TypeId) : Option SK := match P.underlying t with | some (.int k) => some (.i k) | some .bool => some .b | some .string => some .s | _ => none
def Y7 : Value → Option SK
 | .int k _ => some (.i k)
 | .bool _ => some .b
 | .string _ => some .s
 | _ => none
def Uu : Value → Value → Bool
 | .int _ a, .int _ b => decide (a = b)
 | .bool a, .bool b => decide (a = b)
 | .string a, .string b => decide (a.data.toList = b.data.toList)
 | _, _ => false
def Yv : List Value → List Value → Bool
 | a :: as, b :: bs => Uu a b && Yv as bs
 | _, _ => true
def X0w (P : Program) : Nat → List Field → Option (List SK)
 | _, [] => some []
 | i, f :: fs => if f.name ≠ "_" ∧ f.offset = i ∧ Yt P f.type false 1 = true then (SK.of P f.type).bind fun k => (X0w P (i + 1) fs).map (k :: ·) else none
def UF (P : Program) (t : TypeId) : Option (List SK) :=
 match P.underlying t with
 | some (.struct fs) => if P.stoodInHeld t = false ∧ P.eqGuardType P.depth t = false then X0w P 0 fs.toList else none
 | some (.array n e) => if P.eqGuardType P.depth t = false ∧ Yt P e false 1 = true then (SK.of P e).map fun k => List.replicate n k else none
 | _ => none
section
variable {P : Program}
theorem X4y {d : Nat} {t : TypeId} {k : SK} {u v : Value} (hk : SK.of P t = some k) (hu : Y7 u = some k) (hv : Y7 v = some k) (w : World) : (Op.equalIn (d + 1) t u v).run P w = .ok (Uu u v) w := by
 unfold SK.of at hk
 cases ht : P.underlying t with
 | none => simp [ht] at hk
 | some de =>
  rw [ht] at hk
  cases de <;> simp at hk <;> subst hk <;> cases u <;> simp [Y7] at hu <;> cases v <;> simp [Y7] at hv
  ·rw [run_equalIn_bool w d t _ _ ht]; simp [Uu, Bool.beq_eq_decide_eq]
  ·subst hu; subst hv
   rw [run_equalIn_int w d t _ _ _ _ ht]; simp [Uu, Bool.beq_eq_decide_eq]
  ·rw [run_equalIn_string w d t _ _ ht, ByteArray.toList_eq, ByteArray.toList_eq]
   simp [Uu, Bool.beq_eq_decide_eq]
theorem X5Q {d : Nat} {xs ys : Array Value} : ∀ (fs : List Field) (i : Nat) (ks : List SK) (us vs : List Value), X0w P i fs = some ks → us.map Y7 = ks.map some → vs.map Y7 = ks.map some →
  (∀ j u, us[j]? = some u → xs[i + j]? = some u) → (∀ j u, vs[j]? = some u → ys[i + j]? = some u) → ∀ w, (Op.eqFields (d + 1) xs ys fs).run P w = .ok (Yv us vs) w
 | [], i, ks, us, vs, hf, hu, hv, hx, hy, w => by
  simp [X0w] at hf; subst hf
  simp at hu hv; subst hu; subst hv
  rfl
 | f :: fs, i, ks, us, vs, hf, hu, hv, hx, hy, w => by
  unfold X0w at hf
  split at hf
  case isFalse => cases hf
  rename_i hc
  obtain ⟨c1, c2, c3⟩ := hc
  cases hk : SK.of P f.type with
  | none => simp [hk] at hf
  | some k =>
   cases hr : X0w P (i + 1) fs with
   | none => simp [hk, hr] at hf
   | some kr =>
    simp [hk, hr] at hf; subst hf
    cases us with
    | nil => simp at hu
    | cons u us =>
     cases vs with
     | nil => simp at hv
     | cons v vs =>
      simp only [List.map_cons, List.cons.injEq] at hu hv
      have h1 : xs[f.offset]? = some u := by rw [c2]; exact hx 0 u rfl
      have h2 : ys[f.offset]? = some v := by rw [c2]; exact hy 0 v rfl
      have ih := X5Q (d := d) (xs := xs) (ys := ys) fs (i + 1) kr us vs hr hu.2 hv.2 (fun j u hj => by have := hx (j + 1) u hj; rwa [show i + (j + 1) = i + 1 + j by omega] at this) (fun j u hj => by have := hy (j + 1) u hj; rwa [show i + (j + 1) = i + 1 + j by omega] at this) w
      have p1 := X1m c3 xs f.offset w
      have p2 := X1m c3 ys f.offset w
      rw [h1] at p1; rw [h2] at p2
      simp only [Bool.false_eq_true, if_false] at p1 p2
      unfold Op.eqFields
      rw [if_pos c1]
      simp only [Sem.run_bind, p1, p2, Result.andThen_ok, X4y hk hu.1 hv.1]
      unfold Yv
      cases hs : Uu u v with
      | false => simp
      | true => simpa using ih
theorem Xb1 {n : Nat} {k : SK} {us vs : List Value} (hu : us.map Y7 = (List.replicate n k).map some) (hv : vs.map Y7 = (List.replicate n k).map some) : us.length = n ∧ vs.length = n := by
 have h1 := congrArg List.length hu
 have h2 := congrArg List.length hv
 simp only [List.length_map, List.length_replicate] at h1 h2
 exact ⟨h1, h2⟩
theorem X5D {t : TypeId} {ks : List SK} {us vs : List Value} (hk : UF P t = some ks) (hu : us.map Y7 = ks.map some) (hv : vs.map Y7 = ks.map some) (w : World) :
  (Op.equalIn 10000 t (.agg us.toArray) (.agg vs.toArray)).run P w = .ok (Yv us vs) w ∧ P.eqGuardType P.depth t = false := by
 unfold UF at hk
 split at hk
 ·rename_i fs hfs
  split at hk
  case isFalse => cases hk
  rename_i hc
  have hF : P.fieldsOf t = fs := by simp [Program.fieldsOf, hfs]
  refine ⟨?_, hc.2⟩
  rw [show (10000 : Nat) = 9998 + 1 + 1 from rfl, run_equalIn_agg w (9998 + 1) t _ _ (by rw [hF]; exact hfs) hc.1, hF]
  exact X5Q fs.toList 0 ks us vs hk hu hv (fun j u hj => by simpa using hj) (fun j u hj => by simpa using hj) w
 ·rename_i n e he
  split at hk
  case isFalse => cases hk
  rename_i hc
  refine ⟨?_, hc.1⟩
  cases hs : SK.of P e with
  | none => simp [hs] at hk
  | some k =>
   simp [hs] at hk; subst hk
   have hl := Xb1 hu hv
   have hsz := (X0l hc.2).2
   rw [show (10000 : Nat) = 9998 + 1 + 1 from rfl, Op.equalIn]
   simp only [Sem.run_bind, run_underlying he, Result.andThen_ok, hsz]
   rw [Std.Legacy.Range.forIn_eq_forIn_range']
   simp only [Std.Legacy.Range.size, Nat.sub_zero, Nat.add_sub_cancel, Nat.div_one, Nat.mul_one]
   have key : ∀ (m i : Nat), i + m = n → ∀ w, ((forIn (List.range' i m) ((none, ()) : Option Bool × Unit) fun i r => do
     let __do_lift ← part e us.toArray i
     let __do_lift_1 ← part e vs.toArray i
     let __do_lift ← Op.equalIn (9998 + 1) e __do_lift __do_lift_1
     if (!__do_lift) = true then pure (ForInStep.done (some false, ())) else pure (ForInStep.yield (none, ())) : Sem (Option Bool × Unit))).run P w = .ok (if Yv (us.drop i) (vs.drop i) = true then (none, ()) else (some false, ())) w := by
    intro m
    induction m with
    | zero =>
     intro i hi w
     rw [List.drop_of_length_le (by omega), List.drop_of_length_le (by omega)]
     rfl
    | succ m ih =>
     intro i hi w
     have l1 : i < us.length := by omega
     have l2 : i < vs.length := by omega
     have g1 : Y7 us[i] = some k := by
      have := congrArg (·[i]?) hu
      simp [l1] at this
      rw [List.getElem?_replicate] at this
      simpa [show i < n by omega] using this
     have g2 : Y7 vs[i] = some k := by
      have := congrArg (·[i]?) hv
      simp [l2] at this
      rw [List.getElem?_replicate] at this
      simpa [show i < n by omega] using this
     have p1 := X1m hc.2 us.toArray i w
     have p2 := X1m hc.2 vs.toArray i w
     simp only [List.getElem?_toArray, List.getElem?_eq_getElem l1, List.getElem?_eq_getElem l2, Bool.false_eq_true, if_false] at p1 p2
     rw [List.range'_succ, List.forIn_cons]
     simp only [Sem.run_bind, p1, p2, Result.andThen_ok, X4y hs g1 g2, Sem.run_ite]
     rw [List.drop_eq_getElem_cons l1, List.drop_eq_getElem_cons l2]
     unfold Yv
     cases hq : Uu us[i] vs[i] with
     | false => simp
     | true =>
      simp only [Bool.not_true, Bool.false_eq_true, if_false, Sem.run_pure, Result.andThen_ok, Bool.true_and]
      exact ih (i + 1) (by omega) w
   have := key n 0 (by omega) w
   simp only [List.drop_zero] at this
   rw [this]
   cases Yv us vs <;> simp
 ·cases hk
theorem X7y {t : TypeId} {x y : Operand} {ks : List SK} {us vs : List Value} {r : Bool} (hk : UF P t = some ks) (hu : us.map Y7 = ks.map some) (hv : vs.map Y7 = ks.map some) (hr : Yv us vs = r) (w : World) :
  (do eqGuard .eql t x y (.agg us.toArray) (.agg vs.toArray); binOp .eql t (.agg us.toArray) (.agg vs.toArray) : Sem Value).run P w = .ok (.bool r) w := by
 have h := X5D hk hu hv w
 rw [Sem.run_bind, run_eqGuard_agg w _ _ _ _ _ _ h.2, Result.andThen_ok, run_eql_struct, h.1, Result.andThen_ok, hr]
theorem X5Z {g : Gh} : ∀ {us : List Value} {vs : List Value}, Xc g (dvL us) vs → vs = us
 | [], [], _ => rfl
 | [], _ :: _, h => by simp only [dvL, Xc] at h
 | _ :: _, [], h => by simp only [dvL, Xc] at h
 | u :: us, v :: vs, h => by
  simp only [dvL, Xc] at h
  rw [Y6 h.1, X5Z h.2]
end
section
variable {P : Program} {ops : Array Oper} {draw : Bool} {K : St → Prop} {rest : List Oper} {l : XJ} {S : St} {ty : TypeId} {pos : String} {aft : Array Edge} {gd : Option (Nat × Bool)} {d : Nat}
theorem X29 {g : Gh} {us : List Value} {v : Value} (h : (AVal.agg (dvL us)).sat g v) : v = .agg us.toArray := by
 simp only [AVal.sat] at h
 obtain ⟨vs, rfl, h⟩ := h
 rw [← X5Z h]
theorem Xb7 {xt yt : TypeId} {x y : Operand} {us vs : List Value} {r : Bool} {ks : List SK} {cs es : List AVal} (hk : UF P xt = some ks) (hx : S.ev x = .agg cs) (hy : S.ev y = .agg es) (hcs : cs = dvL us) (hes : es = dvL vs) (hu : us.map Y7 = ks.map some) (hv : vs.map Y7 = ks.map some)
  (hr : Yv us vs = r) (hd : Nat.blt d S.n = true) (hg : Xb ops S gd)
  (h : Walk P ops draw K rest ((l.length, ⟨some d, .binOp .eql xt x y yt, ty, pos, aft, gd⟩, ⟨Xa ops gd ++ [(x, .agg cs), (y, .agg es)], some (d, ab r), [], [], []⟩) :: l) (S.set d (ab r))) :
  Walk P ops draw K (⟨some d, .binOp .eql xt x y yt, ty, pos, aft, gd⟩ :: rest) l S := by
 subst hcs; subst hes
 exact Xw ⟨[(x, .agg (dvL us)), (y, .agg (dvL vs))], some (d, ab r), [], [], []⟩ (XS rfl fun E S g a w hs hq _ => by
  refine ⟨.bool r, ?_, UI rfl⟩
  have := X7y (x := x) (y := y) hk hu hv hr w
  simp only [execOp, X29 hq.1, X29 hq.2.1, Sem.run_bind, Sem.run_pure] at this ⊢
  rw [this]; rfl) hg ⟨⟨hx, hy, trivial⟩, trivial, trivial, hd⟩ h
end
end Go.Fw
namespace Go.Fw
open Go
set_option linter.unusedVariables false
section
variable {P : Program} {E : Env} {S : St} {Q : Exit → St → Prop}
theorem Um {c : Operand} {x y : Code} {p : Prop} {inst : Decidable p} (hc : S.ev c = ab (@decide p inst)) (ht : p → AWP P E x S Q) (hf : ¬ p → AWP P E y S Q) : AWP P E (.cond c x y) S Q :=
 X19 hc (fun h => ht (of_decide_eq_true h)) (fun h => hf (of_decide_eq_false h))
theorem Xal {x y : Code} {Q' : Exit → St → Prop} (U : St) (h : AWP P E x S (X0T (fun T => T.le U) Q')) (k : AWP P E y U Q) : AWP P E x S (X0T (fun T => AWP P E y T Q) Q') :=
 X5A h fun e T hq => by
  cases e with
  | normal => exact XV hq k
  | _ => exact hq
end
section
variable {P : Program} {ops : Array Oper} {draw : Bool} {K : St → Prop} {rest : List Oper} {l : XJ} {S : St}
theorem Xz {o : Oper} {j : Nat} {b : Bool} {p : Prop} {inst : Decidable p} (hg : o.guard = some (j, b)) (hx : S.get (UJ ops j) = ab (@decide p inst)) (ht : p → Walk P ops draw K (o :: rest) l S) (hf : ¬ p → Walk P ops draw K (o :: rest) l S) : Walk P ops draw K (o :: rest) l S := by
 by_cases h : p
 ·exact ht h
 ·exact hf h
theorem X1k {o : Oper} {j : Nat} {b x : Bool} (hg : o.guard = some (j, b)) (hx : S.get (UJ ops j) = ab x) (ht : x = true → Walk P ops draw K (o :: rest) l S) (hf : x = false → Walk P ops draw K (o :: rest) l S) : Walk P ops draw K (o :: rest) l S := by
 cases x
 ·exact hf rfl
 ·exact ht rfl
end
end Go.Fw
namespace Go.Fw
open Go
set_option linter.unusedVariables false
section
variable {P : Program} {E : Env} {S : St} {Q : Exit → St → Prop}
theorem XD {c : Operand} {x y : Code} {b : Bool} (hc : S.ev c = ab (!b)) (ht : b = false → AWP P E x S Q) (hf : b = true → AWP P E y S Q) : AWP P E (.cond c x y) S Q :=
 X19 hc (fun h => ht (by simpa using h)) (fun h => hf (by simpa using h))
end
section
variable {P : Program} {ops : Array Oper} {draw : Bool} {K : St → Prop} {rest : List Oper} {l : XJ} {S : St}
theorem XW {o : Oper} {j : Nat} {b x : Bool} (hg : o.guard = some (j, b)) (hx : S.get (UJ ops j) = ab (!x)) (ht : x = true → Walk P ops draw K (o :: rest) l S) (hf : x = false → Walk P ops draw K (o :: rest) l S) : Walk P ops draw K (o :: rest) l S := by
 cases x
 ·exact hf rfl
 ·exact ht rfl
end
end Go.Fw
namespace Go.Fw
open Go
set_option linter.unusedVariables false
section
variable {P : Program} {t : TypeId} {x y : Operand} {a b : List UInt8}
theorem Xa6 (w : World) : (do eqGuard .lss t x y (.string (X6 a)) (.string (X6 b)); binOp .lss t (.string (X6 a)) (.string (X6 b)) : Sem Value).run P w = .ok (.bool (Op.bytesLess a b)) w := by
 simp [go_sem, binOp, Op.stringOp, VU]
theorem XbF (w : World) : (do eqGuard .gtr t x y (.string (X6 a)) (.string (X6 b)); binOp .gtr t (.string (X6 a)) (.string (X6 b)) : Sem Value).run P w = .ok (.bool (!(Op.bytesLess a b || decide (a = b)))) w := by
 simp [go_sem, binOp, Op.stringOp, VU]; rw [show (a == b) = decide (a = b) from Bool.beq_eq_decide_eq a b]
theorem Xb0 (w : World) : (do eqGuard .leq t x y (.string (X6 a)) (.string (X6 b)); binOp .leq t (.string (X6 a)) (.string (X6 b)) : Sem Value).run P w = .ok (.bool (Op.bytesLess a b || decide (a = b))) w := by
 simp [go_sem, binOp, Op.stringOp, VU]; rw [show (a == b) = decide (a = b) from Bool.beq_eq_decide_eq a b]
end
end Go.Fw
namespace Go.Fw
open Go
set_option linter.unusedVariables false
def leD (d e : D) : Prop := ∀ (M : Mem) (u : Value), d.rep M u → e.rep M u
def leC (r s : List D) : Prop := ∀ (M : Mem) (b o : Nat), Y1 M r b o → Y1 M s b o
def leW (sz : Nat) (r s : List (List D)) : Prop := r.length = s.length ∧ ∀ (M : Mem) (b o : Nat), Yg M sz r b o → Yg M sz s b o
theorem V7 (d : D) : leD d d := fun _ _ h => h
theorem X4q (sz : Nat) : leD (.v (.slice none 0 0)) (.sl sz []) := fun M u h => by
 simp only [D.rep] at h ⊢
 exact ⟨none, 0, h.1, by simp, by simp, by simp⟩
theorem X42 : leC [] [] := fun _ _ _ h => h
theorem UK {d e : D} {r s : List D} (h : leD d e) (hr : leC r s) : leC (d :: r) (e :: s) := fun M b o q => by
 rw [Y1] at q ⊢
 obtain ⟨⟨u, h1, h2⟩, h3⟩ := q
 exact ⟨⟨u, h1, h M u h2⟩, hr M b (o + 1) h3⟩
theorem X5m (sz : Nat) : leW sz [] [] := ⟨rfl, fun _ _ _ h => h⟩
theorem X40 {sz : Nat} {d e : List D} {r s : List (List D)} (h : leC d e) (hl : d.length = e.length) (hr : leW sz r s) : leW sz (d :: r) (e :: s) := ⟨by rw [List.length_cons, List.length_cons, hr.1], fun M b o q => by
 rw [Yg] at q ⊢
 exact ⟨by rw [← hl]; exact q.1, h M b o q.2.1, hr.2 M b (o + sz) q.2.2⟩⟩
theorem X5s {sz : Nat} {r s : List (List D)} (h : leW sz r s) : leD (.sl sz r) (.sl sz s) := fun M u q => by
 simp only [D.rep] at q ⊢
 obtain ⟨a, cap, h1, h2, h3, h4⟩ := q
 refine ⟨a, cap, by rw [← h.1]; exact h1, by rw [← h.1]; exact h2, h3, ?_⟩
 rcases h4 with h4 | ⟨b, o, h5, h6⟩
 ·left
  have := h.1
  rw [h4] at this
  exact List.eq_nil_of_length_eq_zero this.symm
 ·exact .inr ⟨b, o, h5, h.2 M b o h6⟩
theorem AVal.le_d {d e : D} (h : leD d e) : AVal.le (.d d) (.d e) := fun g u q => by
 simp only [AVal.sat] at q ⊢
 exact h g.M u q
end Go.Fw
namespace Go.Fw
open Go
set_option linter.unusedVariables false
set_option linter.unusedSimpArgs false
theorem X4D {sz : Nat} : ∀ {xs : List (List D)} (h : ∀ x ∈ xs, x.length = sz) {k : Nat} {r : List D}, xs[k]? = some r → ∀ {o q : Nat}, o + q ≤ sz → (xs.flatten.drop (k * sz + o)).take q = (r.drop o).take q
 | [], _, k, r, hk, _, _, _ => by simp at hk
 | x :: xs, h, 0, r, hk, o, q, hq => by
  simp only [List.getElem?_cons_zero, Option.some.injEq] at hk
  subst hk
  have hx := h x (by simp)
  rw [Nat.zero_mul, Nat.zero_add, List.flatten_cons, List.drop_append_of_le_length (by omega), List.take_append_of_le_length (by rw [List.length_drop]; omega)]
 | x :: xs, h, k + 1, r, hk, o, q, hq => by
  have hx := h x (by simp)
  have := X4D (fun y hy => h y (by simp [hy])) (xs := xs) (k := k) (r := r) (by simpa using hk) hq
  rw [List.flatten_cons, show (k + 1) * sz + o = x.length + (k * sz + o) by rw [hx, Nat.succ_mul]; omega, ← List.drop_drop, List.drop_left]
  exact this
theorem X9T {P : Program} {g : Gh} {w : World} {h : Value} {sz o q : Nat} {xs : List (List D)} {ys : List D} (hr : U3 g w h sz xs) (hb : o + q ≤ xs.length * sz) (hys : (xs.flatten.drop o).take q = ys) {news : Array Value} (hns : news.size = q) (hsat : Xc g (ys.map .d) news.toList) :
  ∃ w', (match h with | .slice (some a) _ _ => (storeCells (a.add o) news.toList).run P w | _ => .ok () w) = .ok () w' ∧ U3 g w' h sz xs ∧
   (∀ b, ¬ US h b → w'.heap[b]? = w.heap[b]?) ∧ w'.heap.size = w.heap.size ∧ w'.os = w.os ∧ w'.output = w.output := by
 rcases hr.2 with ⟨rfl, rfl⟩ | ⟨b, cap, vs, e, fr, rfl, h2, h3, h4, h5, h6, h7⟩
 ·exact ⟨w, rfl, hr, fun _ _ => rfl, rfl, rfl, rfl⟩
 ·have hfx := Uk xs hr.1
  have hyl : ys.length = q := by have := Yf hsat; simp only [List.length_map, Array.length_toList] at this; omega
  have hbnd : o + q ≤ vs.size := Nat.le_trans hb (Nat.le_trans (Nat.mul_le_mul_right _ h2) h6)
  obtain ⟨vs', k1, k2⟩ := X0I (P := P) b e fr vs.size h5 news.toList o 0 vs w h4 rfl (by simp [hns]; omega) (fun u hu => by
   obtain ⟨j, hj, rfl⟩ := List.getElem_of_mem hu
   have hjl : j < ys.length := by rw [hyl, ← hns]; simpa using hj
   obtain ⟨_, hrep⟩ := X0y hsat
   obtain ⟨u, hu1, hu2⟩ := hrep j _ (List.getElem?_eq_getElem hjl)
   rw [List.getElem?_eq_getElem hj] at hu1; cases hu1
   exact D.rep_one hu2)
  simp only [Nat.add_zero, Array.length_toList, hns] at k2
  have hvs' : vs'.size = vs.size := by
   have := congrArg List.length k2
   simp [hns] at this; omega
  refine ⟨w.setRow b vs', ?_, ⟨hr.1, .inr ⟨b, cap, vs', e, fr, rfl, h2, h3, setRow_heap w b vs _ e fr h4, by rw [hvs']; exact h5, by rw [hvs']; exact h6, ?_⟩⟩, fun c hc => setRow_other w b c vs' (fun e => hc (by rw [e]; exact ⟨_, _, _, rfl, rfl⟩)), by simp, rfl, rfl⟩
  ·simp only [Yx, Nat.zero_add]; exact k1
  ·have hxt : (vs.toList.take (xs.length * sz)).length = xs.length * sz := by have := Yf h7; simp only [List.length_map, hfx] at this; exact this
   have e1 : vs'.toList.take (xs.length * sz) = (vs.toList.take (xs.length * sz)).take o ++ news.toList ++ (vs.toList.take (xs.length * sz)).drop (o + q) := by
    rw [k2]
    exact X5P (by simp [hns]) hb (by simp at hxt ⊢; omega)
   rw [e1]
   have e2 : xs.flatten = xs.flatten.take o ++ ys ++ xs.flatten.drop (o + q) := by
    rw [← hys, ← List.drop_drop, List.append_assoc, List.take_append_drop, List.take_append_drop]
   rw [e2, List.map_append, List.map_append, List.map_take, List.map_drop]
   exact UO (UO (VI h7 _) hsat) (VP h7 _)
section
variable {P : Program} {ops : Array Oper} {draw : Bool} {K : St → Prop} {rest : List Oper} {l : XJ} {S : St}
variable {d : Nat} {ty : TypeId} {pos : String} {aft : Array Edge} {gd : Option (Nat × Bool)}
theorem X9U {x i : Operand} {T : TypeId} {γ n k sz : Nat} {kd : IntKind} {m : Int} {xs : List (List D)} (hx : S.ev x = .own γ n) (hL : S.obj γ = .row sz xs) (hi : S.ev i = .d (.v (.int kd m))) (hn : n = xs.length) (hk : m = (k : Nat)) (hlt : k < xs.length)
  (hT : U0 P T sz = true) (hd : Nat.blt d S.n = true) (hg : Xb ops S gd)
  (h : Walk P ops draw K rest ((l.length, ⟨some d, .indexAddr T x i, ty, pos, aft, gd⟩, ⟨Xa ops gd ++ [(x, .own γ n), (i, .d (.v (.int kd m)))], some (d, .rptr γ n (k * sz)), [(γ, .row sz xs)], [], []⟩) :: l) (S.set d (.rptr γ n (k * sz)))) :
  Walk P ops draw K (⟨some d, .indexAddr T x i, ty, pos, aft, gd⟩ :: rest) l S :=
 Xw ⟨[(x, .own γ n), (i, .d (.v (.int kd m)))], some (d, .rptr γ n (k * sz)), [(γ, .row sz xs)], [], []⟩ (XS rfl fun E S g a w hs hq hl => by
  obtain ⟨e, h1, h2, h3⟩ := X12 hT
  have ho := hs.1.obj γ
  rw [hl.1] at ho
  have hv := X21 hq.1 ho hn
  rcases ho.2 with ⟨e, rfl⟩ | ⟨b, cap, vs, e', fr, hh, _⟩
  ·simp at hlt
  ·rw [hh] at hv
   refine ⟨.pointer (some ⟨b, k * sz, none⟩), ?_, ?_⟩
   ·have hb : (0 : Int) ≤ m ∧ m < (xs.length : Int) := by omega
    have hm : m.toNat = k := by omega
    have := run_indexAt_slice (P := P) w T ⟨b, 0, none⟩ xs.length cap kd m (by rw [h3]; exact h1)
    rw [if_pos hb, h3, h2 w, Result.andThen_ok, Yx, hm, Nat.zero_add] at this
    simp only [execOp, hv, Y6 hq.2.1, Sem.run_bind, this]; rfl
   ·simp only [AVal.sat]
    exact ⟨rfl, _, _, _, hh, by omega, fun _ => ⟨_, rfl, rfl⟩⟩) hg ⟨⟨hx, hi, trivial⟩, ⟨hL, trivial⟩, trivial, hd⟩ h
theorem X3s {g : Gh} {w : World} {γ n o sz : Nat} {xs : List (List D)} {u : Value} (hs : (AVal.rptr γ n o).sat g u) (ho : U3 g w (g.hd γ) sz xs) (hn : n = xs.length) (h0 : 0 < xs.length) :
  ∃ b cap vs e fr, u = .pointer (some ⟨b, o, none⟩) ∧ g.hd γ = .slice (some ⟨b, 0, none⟩) xs.length cap ∧ w.heap[b]? = some (.cells vs e fr) ∧ Xc g (xs.flatten.map .d) (vs.toList.take (xs.length * sz)) := by
 simp only [AVal.sat] at hs
 obtain ⟨_, a', m, c, q1, q2, q3⟩ := hs
 rcases ho.2 with ⟨e, rfl⟩ | ⟨b, cap, vs, e', fr, hh, k2, k3, k4, k5, k6, k7⟩
 ·simp at h0
 ·rw [hh] at q1; cases q1
  obtain ⟨b', e1, e2⟩ := q3 hn
  cases e1
  exact ⟨b, _, vs, e', fr, e2, hh, k4, k7⟩
theorem X7E {s : TypeId} {x : Operand} {f γ n o off sz : Nat} {xs : List (List D)} (hx : S.ev x = .rptr γ n o) (hL : S.obj γ = .row sz xs) (hn : n = xs.length) (h0 : 0 < xs.length) (hoff : X0g P s f = off) (hf : Vh P s f off = true) (hd : Nat.blt d S.n = true) (hg : Xb ops S gd)
  (h : Walk P ops draw K rest ((l.length, ⟨some d, .fieldAddr s x f, ty, pos, aft, gd⟩, ⟨Xa ops gd ++ [(x, .rptr γ n o)], some (d, .rptr γ n (o + off)), [(γ, .row sz xs)], [], []⟩) :: l) (S.set d (.rptr γ n (o + off)))) :
  Walk P ops draw K (⟨some d, .fieldAddr s x f, ty, pos, aft, gd⟩ :: rest) l S :=
 Xw ⟨[(x, .rptr γ n o)], some (d, .rptr γ n (o + off)), [(γ, .row sz xs)], [], []⟩ (XS rfl fun E S g a w hs hq hl => by
  have ho := hs.1.obj γ
  rw [hl.1] at ho
  obtain ⟨b, cap, vs, e, fr, e1, e2, e3, e4⟩ := X3s hq.1 ho hn h0
  refine ⟨.pointer (some ⟨b, o + off, none⟩), by simp [execOp, e1, X2v hf], ?_⟩
  simp only [AVal.sat]
  exact ⟨rfl, _, _, _, e2, by omega, fun _ => ⟨_, rfl, rfl⟩⟩) hg ⟨⟨hx, trivial⟩, ⟨hL, trivial⟩, trivial, hd⟩ h
theorem X6Z {t : TypeId} {x : Operand} {γ n o q sz : Nat} {xs : List (List D)} {ys : List D} (hx : S.ev x = .rptr γ n o) (hL : S.obj γ = .row sz xs) (hn : n = xs.length) (h0 : 0 < xs.length) (hb : o + q ≤ xs.length * sz) (hys : (xs.flatten.drop o).take q = ys)
  (ht : Yt P t true q = true) (hd : Nat.blt d S.n = true) (hg : Xb ops S gd)
  (h : Walk P ops draw K rest ((l.length, ⟨some d, .load t x, ty, pos, aft, gd⟩, ⟨Xa ops gd ++ [(x, .rptr γ n o)], some (d, .agg (ys.map .d)), [(γ, .row sz xs)], [], []⟩) :: l) (S.set d (.agg (ys.map .d)))) :
  Walk P ops draw K (⟨some d, .load t x, ty, pos, aft, gd⟩ :: rest) l S :=
 Xw ⟨[(x, .rptr γ n o)], some (d, .agg (ys.map .d)), [(γ, .row sz xs)], [], []⟩ (XS rfl fun E S g a w hs hq hl => by
  have ho := hs.1.obj γ
  rw [hl.1] at ho
  obtain ⟨b, cap, vs, e, fr, e1, e2, e3, e4⟩ := X3s hq.1 ho hn h0
  have hsub := VI (VP e4 o) q
  rw [← List.map_drop, ← List.map_take, hys] at hsub
  have hl1 := Yf hsub
  have hfx := Uk xs ho.1
  have hyl : ys.length = q := by rw [← hys, List.length_take, List.length_drop, hfx]; omega
  rw [List.length_map] at hl1
  refine ⟨.agg (((vs.toList.take (xs.length * sz)).drop o).take q).toArray, ?_, by simp only [AVal.sat]; exact ⟨_, rfl, hsub⟩⟩
  have := X20 (P := P) (p := ⟨b, o, none⟩) (w := w) (vs := ((vs.toList.take (xs.length * sz)).drop o).take q) (t := t) (by rw [hl1, hyl]; exact ht) (fun j v hv => by
   rw [Yx, cell_of_row w _ _ vs e fr e3]
   rw [List.getElem?_take] at hv
   split at hv
   ·rw [List.getElem?_drop, List.getElem?_take] at hv
    split at hv
    ·simpa using hv
    ·simp at hv
   ·simp at hv)
  simp [execOp, e1, Instr.loadAt, Instr.sureAddr, this]) hg ⟨⟨hx, trivial⟩, ⟨hL, trivial⟩, trivial, hd⟩ h
theorem X8U {t : TypeId} {x v : Operand} {γ n o q sz : Nat} {xs : List (List D)} {ys : List D} (hx : S.ev x = .rptr γ n o) (hL : S.obj γ = .row sz xs) (hv : S.ev v = .agg (ys.map .d)) (hn : n = xs.length) (h0 : 0 < xs.length) (hb : o + q ≤ xs.length * sz) (hys : (xs.flatten.drop o).take q = ys)
  (ht : Vi P t q = true) (hg : Xb ops S gd)
  (h : Walk P ops draw K rest ((l.length, ⟨none, .store t x v, ty, pos, aft, gd⟩, ⟨Xa ops gd ++ [(x, .rptr γ n o), (v, .agg (ys.map .d))], none, [(γ, .row sz xs)], [(γ, .row sz xs)], []⟩) :: l)
   (S.own γ (.row sz xs))) :
  Walk P ops draw K (⟨none, .store t x v, ty, pos, aft, gd⟩ :: rest) l S :=
 Xw ⟨[(x, .rptr γ n o), (v, .agg (ys.map .d))], none, [(γ, .row sz xs)], [(γ, .row sz xs)], []⟩ (X1h rfl fun E S g a w hs hq hl hnn => by
  have ho := hs.1.obj γ
  rw [hl.1] at ho
  have hrow : U3 g w (g.hd γ) sz xs := ho
  obtain ⟨b, cap, vs, e, fr, e1, e2, e3, e4⟩ := X3s hq.1 ho hn h0
  have hqv := hq.2.1
  simp only [AVal.sat] at hqv
  obtain ⟨us, hu, hus⟩ := hqv
  have hfx := Uk xs hrow.1
  have hyl : ys.length = q := by rw [← hys, List.length_take, List.length_drop, hfx]; omega
  have hul : us.size = q := by have := Yf hus; simp only [List.length_map, Array.length_toList] at this; omega
  obtain ⟨w', s1, s2, s3, s4, s5, s6⟩ := X9T (P := P) hrow hb hys hul hus
  rw [e2] at s1
  simp only [Yx, Nat.zero_add] at s1
  refine ⟨g, w', ?_, ?_, hs.2.2.2⟩
  ·have hsz := X36 ht w
   simp [execOp, e1, hu, Instr.storeAt, Instr.sureAddr, storeVar, hsz, Value.cells, hul, s1]
  ·refine Inv.upd hs.1 γ _ (Yr _ _ _ _) (fun j hj => Yu _ _ _ (Ne.symm hj)) (fun b hb hnl => s3 b fun hc => hnl (by rw [hl.1]; exact hc)) (by omega) s5 s6 rfl (fun _ _ => ⟨rfl, rfl, rfl⟩) (fun _ _ _ _ _ h => h) s2 (fun b hb => .inl (by rw [hl.1]; exact hb)) (fun _ => Gh.keeps_refl _ _)) hg ⟨⟨hx, hv, trivial⟩, ⟨hL, trivial⟩, trivial, trivial⟩ h
end
end Go.Fw
namespace Go.Fw
open Go
set_option linter.unusedVariables false
set_option linter.unusedSimpArgs false
def Yh : List (Int × Int) → Int → Int
 | [], _ => 0
 | p :: r, k => if k = p.1 then p.2 else Yh r k
def YR : List (Int × Int) → Int → Int → List (Int × Int)
 | [], k, v => [(k, v)]
 | p :: r, k, v => if k = p.1 then (p.1, v) :: r else p :: YR r k v
theorem X5M (k v j : Int) : ∀ es, Yh (YR es k v) j = if j = k then v else Yh es j
 | [] => by simp [Yh, YR]
 | p :: r => by
  rw [YR]
  by_cases h : k = p.1
  ·rw [if_pos h, Yh, Yh]
   simp only
   by_cases hj : j = p.1
   ·rw [if_pos hj, if_pos (by omega)]
   ·rw [if_neg hj, if_neg (by omega), if_neg hj]
  ·rw [if_neg h, Yh, Yh, X5M k v j r]
   by_cases hj : j = p.1
   ·rw [if_pos hj, if_pos hj, if_neg (by omega)]
   ·rw [if_neg hj, if_neg hj]
def U9 : List (Int × Int) → Int → Option Nat
 | [], _ => none
 | p :: r, k => if k = p.1 then some 0 else (U9 r k).map (· + 1)
theorem X6N (k : Int) : ∀ (ms : List MapEntry) (es : List (Int × Int)) (i : Nat), ms.map (fun e => (e.key, e.val)) = es.map (fun p => (Value.int .i64 p.1, Value.int .i64 p.2)) →
  Instr.findNow (.int .i64) (.int .i64 k) ms i = some ((U9 es k).map fun n => (i + n, Value.int .i64 (Yh es k)))
 | [], [], i, _ => rfl
 | [], p :: r, _, h => by simp at h
 | m :: ms, [], _, h => by simp at h
 | m :: ms, p :: r, i, h => by
  simp only [List.map_cons, List.cons.injEq, Prod.mk.injEq] at h
  rw [Instr.findNow, h.1.1]
  simp only [Instr.sameNow, if_true]
  by_cases hk : k = p.1
  ·rw [hk]
   simp [U9, Yh, h.1.2]
  ·have : (k == p.1) = false := by simpa using hk
   rw [this, U9, if_neg hk, Yh, if_neg hk, X6N k ms r (i + 1) h.2]
   cases U9 r k with
   | none => rfl
   | some n => simp; omega
theorem X2i : ∀ {es : List (Int × Int)} {k : Int}, U9 es k = none → Yh es k = 0 ∧ ∀ v, YR es k v = es ++ [(k, v)]
 | [], k, _ => ⟨rfl, fun _ => rfl⟩
 | p :: r, k, h => by
  rw [U9] at h
  by_cases hk : k = p.1
  ·rw [if_pos hk] at h; simp at h
  ·rw [if_neg hk] at h
   obtain ⟨h1, h2⟩ := X2i (es := r) (k := k) (by simpa using h)
   exact ⟨by rw [Yh, if_neg hk, h1], fun v => by rw [YR, if_neg hk, h2]; rfl⟩
theorem X3w : ∀ {es : List (Int × Int)} {k : Int} {n : Nat}, U9 es k = some n → ∃ h : n < es.length, es[n].1 = k ∧ ∀ v, YR es k v = es.set n (k, v)
 | [], k, _, h => by simp [U9] at h
 | p :: r, k, n, h => by
  rw [U9] at h
  by_cases hk : k = p.1
  ·rw [if_pos hk] at h
   cases h
   exact ⟨by simp, by simp [hk], fun v => by rw [YR, if_pos hk, hk]; rfl⟩
  ·rw [if_neg hk] at h
   cases hr : U9 r k with
   | none => rw [hr] at h; simp at h
   | some m =>
    rw [hr] at h
    simp only [Option.map_some, Option.some.injEq] at h
    subst h
    obtain ⟨h1, h2, h3⟩ := X3w hr
    exact ⟨by simp; omega, by simpa using h2, fun v => by rw [YR, if_neg hk, h3]; rfl⟩
def X0u (P : Program) (t : TypeId) : Bool :=
 match P.underlying t with
 | some (.map k e) => (match P.underlying k, P.underlying e with | some (.int .i64), some (.int .i64) => true | _, _ => false) && (match P.info? e with | some i => (match i.zero with | some (.int .i64 0) => true | _ => false) | none => false)
 | _ => false
section
variable {P : Program} {ops : Array Oper} {draw : Bool} {K : St → Prop} {rest : List Oper} {l : XJ} {S : St}
variable {d : Nat} {ty : TypeId} {pos : String} {aft : Array Edge} {gd : Option (Nat × Bool)}
theorem X6O {t : TypeId} (h : X0u P t = true) : ∃ k e, P.underlying t = some (.map k e) ∧ P.underlying k = some (.int .i64) ∧ P.underlying e = some (.int .i64) ∧ ∃ i, P.info? e = some i ∧ i.zero = some (.int .i64 0) := by
 unfold X0u at h
 cases hu : P.underlying t with
 | none => simp [hu] at h
 | some de =>
  cases de <;> simp [hu] at h
  rename_i k e
  refine ⟨k, e, rfl, ?_⟩
  obtain ⟨h1, h2⟩ := h
  refine ⟨?_, ?_, ?_⟩
  ·cases hk : P.underlying k with
   | none => simp [hk] at h1
   | some dk =>
    cases dk <;> simp [hk] at h1
    rename_i q
    cases q <;> (try simp at h1)
    rfl
  ·cases hk : P.underlying k with
   | none => simp [hk] at h1
   | some dk =>
    cases dk <;> simp [hk] at h1
    rename_i q
    cases q <;> (try simp at h1)
    cases he : P.underlying e with
    | none => simp [he] at h1
    | some dk =>
     cases dk <;> simp [he] at h1
     rename_i q
     cases q <;> (try simp at h1)
     rfl
  ·cases hi : P.info? e with
   | none => simp [hi] at h2
   | some i =>
    rw [hi] at h2
    refine ⟨i, rfl, ?_⟩
    revert h2
    simp only
    split
    ·rename_i h; intro _; exact h
    ·simp
theorem run_findKey {k : TypeId} (hk : P.underlying k = some (.int .i64)) {n : Int} {ms : Array MapEntry} {es : List (Int × Int)} (hr : X0L ms es) (w : World) :
  (Instr.findKey k (.int .i64 n) ms.toList).run P w = .ok ((U9 es n).map fun i => (i, Value.int .i64 (Yh es n))) w := by
 have := MapKept.run_findKey (w := w) hk (X6N n ms.toList es 0 hr)
 simpa using this
theorem X1e (n : Int) : MapKept.IsKey (.int .i64) (.int .i64 n) := by simp [MapKept.IsKey]
theorem X6u {g : Gh} {w : World} {γ : Nat} {es : List (Int × Int)} {u : Value} (ho : Ys g w γ (.imap es)) (hs : (AVal.inn γ 0).sat g u) : u = .map (some (g.blk γ)) := by
 simp only [AVal.sat] at hs
 rw [hs.2.1]
 exact ho.1.2
theorem X7K {t : TypeId} {γ : Nat} (hdead : S.obj γ = .dead) (hf : S.free γ = true) (hd : Nat.blt d S.n = true) (hg : Xb ops S gd)
  (h : Walk P ops draw K rest ((l.length, ⟨some d, .makeMap t none, ty, pos, aft, gd⟩, ⟨Xa ops gd ++ [], some (d, .inn γ 0), [(γ, .dead)], [(γ, .imap [])], [γ]⟩) :: l) ((S.set d (.inn γ 0)).own γ (.imap []))) :
  Walk P ops draw K (⟨some d, .makeMap t none, ty, pos, aft, gd⟩ :: rest) l S :=
 Xw ⟨[], some (d, .inn γ 0), [(γ, .dead)], [(γ, .imap [])], [γ]⟩ (Vw rfl fun E S g a w hs hq hl hn => by
  let g' : Gh := { blk := fun k => if k = γ then w.heap.size else g.blk k, hd := fun k => if k = γ then .slice none 1 1 else g.hd k, ihd := fun k => if k = γ then fun _ => .map (some w.heap.size) else g.ihd k, M := g.M }
  have hkeep : ∀ k, k ≠ γ → g.keeps g' k := fun k hk => Gh.keeps_of (by simp [g', hk]) (by simp [g', hk]) (by simp [g', hk])
  refine ⟨.map (some w.heap.size), g', w.alloc (.map #[] 0), ?_, ?_, ?_, ?_⟩
  ·simp only [execOp, Instr.makeMap, Option.map_none, newObj]
   rfl
  ·simp only [AVal.sat]
   exact ⟨rfl, by simp [g'], none, 1, 1, by simp [g'], by omega⟩
  ·refine Inv.upd hs.1 γ _ (Yr _ _ _ _) (fun k hk => Yu _ _ _ (Ne.symm hk)) (fun b hb _ => Va w _ b hb) (X0a w _) rfl rfl rfl
    (fun k hk => ⟨by simp [g', hk], by simp [g', hk], by simp [g', hk]⟩) (fun k cs us hk hL hsat => Uv (g := g) (g' := g') (XL.refl _) cs us (fun j hj => hkeep j (fun e => ?_)) hsat) ?_ (fun k hk => .inr ?_) (fun hlt => ?_)
   ·have := X3d hn.1 k
    rw [hL] at this
    rw [e] at hj
    simp only [AObj.ment] at this
    rw [this] at hj
    simp at hj
   ·refine ⟨⟨by simp [g'], by simp [g']⟩, #[], 0, ?_, rfl⟩
    simp only [g', if_true]
    exact heap_alloc_new w _
   ·have hk : g'.blk γ = k := hk
    simp only [g', if_true] at hk
    omega
   ·have := hn.1
    simp only [St.free, Bool.and_eq_true, Nat.ble_eq] at this
    omega
  ·intro t
   exact AVal.sat_mono (g := g) (g' := g') (XL.refl _) _ _ (fun k hk => hkeep k (fun e => by have := X2x hn.1 t; rw [e, this] at hk; simp at hk)) (hs.2.2.2 t)) hg ⟨trivial, ⟨hdead, trivial⟩, ⟨hf, trivial⟩, hd⟩ h
theorem Xab {t : TypeId} {x k : Operand} {γ : Nat} {es : List (Int × Int)} {n : Int} (hx : S.ev x = .inn γ 0) (hk : S.ev k = .d (.v (.int .i64 n))) (hL : S.obj γ = .imap es) (ht : X0u P t = true)
  (hd : Nat.blt d S.n = true) (hg : Xb ops S gd)
  (h : Walk P ops draw K rest ((l.length, ⟨some d, .lookup t x k false, ty, pos, aft, gd⟩, ⟨Xa ops gd ++ [(x, .inn γ 0), (k, .d (.v (.int .i64 n)))], some (d, .d (.v (.int .i64 (Yh es n)))), [(γ, .imap es)], [], []⟩) :: l) (S.set d (.d (.v (.int .i64 (Yh es n)))))) :
  Walk P ops draw K (⟨some d, .lookup t x k false, ty, pos, aft, gd⟩ :: rest) l S := by
 refine Xw ⟨[(x, .inn γ 0), (k, .d (.v (.int .i64 n)))], some (d, .d (.v (.int .i64 (Yh es n)))), [(γ, .imap es)], [], []⟩ (XS rfl fun E S g a w hs hq hl => ?_) hg ⟨⟨hx, hk, trivial⟩, ⟨hL, trivial⟩, trivial, hd⟩ h
 obtain ⟨kt, et, t1, t2, t3, t4⟩ := X6O ht
 have ho := hs.1.obj γ
 rw [hl.1] at ho
 have e1 := X6u ho hq.1
 have e2 := Y6 hq.2.1
 obtain ⟨_, ms, clock, h1, h2⟩ := ho
 obtain ⟨i, ti, tz⟩ := t4
 have hz : (zeroValue et).run P w = .ok (.int .i64 0) w := by simp [zeroValue, typeInfo, ti, tz, Result.andThen]
 refine ⟨.int .i64 (Yh es n), ?_, by simp [AVal.sat, D.rep, Value.oneCell']⟩
 have hf := run_findKey t2 (n := n) h2 w
 cases hat : U9 es n with
 | none =>
  rw [hat] at hf
  rw [(X2i hat).1]
  simp [execOp, e1, e2, Instr.lookup, run_underlying t1, MapKept.run_getObj_map h1, MapKept.run_checkKey t2 (X1e n), hf, hz, Result.andThen]
 | some j =>
  rw [hat] at hf
  simp [execOp, e1, e2, Instr.lookup, run_underlying t1, MapKept.run_getObj_map h1, MapKept.run_checkKey t2 (X1e n), hf, hz, Result.andThen]
theorem XbL {t : TypeId} {x k v : Operand} {γ : Nat} {es : List (Int × Int)} {n m : Int} (hx : S.ev x = .inn γ 0) (hk : S.ev k = .d (.v (.int .i64 n))) (hv : S.ev v = .d (.v (.int .i64 m))) (hL : S.obj γ = .imap es) (ht : X0u P t = true)
  (hg : Xb ops S gd)
  (h : Walk P ops draw K rest ((l.length, ⟨none, .mapUpdate t x k v, ty, pos, aft, gd⟩, ⟨Xa ops gd ++ [(x, .inn γ 0), (k, .d (.v (.int .i64 n))), (v, .d (.v (.int .i64 m)))], none, [(γ, .imap es)], [(γ, .imap (YR es n m))], []⟩) :: l) (S.own γ (.imap (YR es n m)))) :
  Walk P ops draw K (⟨none, .mapUpdate t x k v, ty, pos, aft, gd⟩ :: rest) l S := by
 refine Xw ⟨[(x, .inn γ 0), (k, .d (.v (.int .i64 n))), (v, .d (.v (.int .i64 m)))], none, [(γ, .imap es)], [(γ, .imap (YR es n m))], []⟩ (X1h rfl fun E S g a w hs hq hl hn => ?_) hg ⟨⟨hx, hk, hv, trivial⟩, ⟨hL, trivial⟩, trivial, trivial⟩ h
 obtain ⟨kt, et, t1, t2, t3, t4⟩ := X6O ht
 have ho := hs.1.obj γ
 rw [hl.1] at ho
 have e1 := X6u ho hq.1
 have e2 := Y6 hq.2.1
 have e3 := Y6 hq.2.2.1
 obtain ⟨ho1, ms, clock, h1, h2⟩ := ho
 have hb := (Array.getElem?_eq_some_iff.1 h1).1
 have hf := run_findKey t2 (n := n) h2 w
 have hlen : ms.size = es.length := by
  have := congrArg List.length h2
  simpa using this
 obtain ⟨ms', clock', hrun, hrel⟩ : ∃ ms' clock', (Instr.mapUpdate t (.map (some (g.blk γ))) (.int .i64 n) (.int .i64 m)).run P w = .ok () { w with heap := w.heap.setIfInBounds (g.blk γ) (.map ms' clock') } ∧ X0L ms' (YR es n m) := by
  cases hat : U9 es n with
  | none =>
   rw [hat] at hf
   refine ⟨ms.push { key := .int .i64 n, val := .int .i64 m, born := clock }, clock + 1, ?_, ?_⟩
   ·simp [Instr.mapUpdate, run_underlying t1, MapKept.run_getObj_map h1, MapKept.run_checkKey t2 (X1e n), hf, MapKept.run_setObj_map _ h1, Result.andThen]
   ·rw [(X2i hat).2 m]
    unfold X0L at h2 ⊢
    simp [h2]
  | some j =>
   rw [hat] at hf
   obtain ⟨hj, hk1, hk2⟩ := X3w hat
   have hjm : j < ms.size := by omega
   have hkey : ms[j].key = .int .i64 n := by
    have := congrArg (fun l => l[j]?) h2
    simp only [List.getElem?_map, Array.getElem?_toList, Array.getElem?_eq_getElem hjm, List.getElem?_eq_getElem hj, Option.map_some, Option.some.injEq, Prod.mk.injEq] at this
    rw [this.1, hk1]
   refine ⟨ms.modify j fun e => { e with key := .int .i64 n, val := .int .i64 m }, clock, ?_, ?_⟩
   ·simp [Instr.mapUpdate, run_underlying t1, MapKept.run_getObj_map h1, MapKept.run_checkKey t2 (X1e n), hf, MapKept.run_setObj_map _ h1, Result.andThen, Array.getElem?_eq_getElem hjm, hkey, MapKept.run_keyThatStays (X1e n)]
   ·rw [hk2 m]
    unfold X0L at h2 ⊢
    apply List.ext_getElem?
    intro i
    have hi := congrArg (fun l => l[i]?) h2
    simp only [List.getElem?_map, Array.getElem?_toList] at hi
    simp only [List.getElem?_map, Array.getElem?_toList, Array.getElem?_modify, List.getElem?_set]
    by_cases hij : j = i
    ·subst hij
     simp [Array.getElem?_eq_getElem hjm, hj]
    ·simp only [if_neg hij]
     exact hi
 refine ⟨g, { w with heap := w.heap.setIfInBounds (g.blk γ) (.map ms' clock') }, ?_, ?_, hs.2.2.2⟩
 ·simp only [execOp, e1, e2, e3, Sem.run_bind, hrun]
  rfl
 ·refine Inv.upd hs.1 γ _ (Yr _ _ _ _) (fun k hk => Yu _ _ _ (Ne.symm hk)) (fun b hb2 hnl => ?_) (by simp) rfl rfl rfl (fun _ _ => ⟨rfl, rfl, rfl⟩) (fun _ _ _ _ _ h => h) ?_ (fun b hb2 => .inl ?_) (fun _ => Gh.keeps_refl _ _)
  ·have hne : g.blk γ ≠ b := fun e => hnl (by rw [hl.1]; exact e)
   simp [Array.getElem?_setIfInBounds, hne]
  ·exact ⟨ho1, ms', clock', by simp [Array.getElem?_setIfInBounds, hb], hrel⟩
  ·rw [hl.1]; exact hb2
end
end Go.Fw
namespace Go.Fw
open Go
set_option linter.unusedVariables false
set_option linter.unusedSimpArgs false
def X0f (P : Program) (t : TypeId) (n sz : Nat) : Bool :=
 match P.underlying t with
 | some (.array m e) => Nat.beq m n && (match P.info? e with | some i => Nat.beq i.size sz | none => false)
 | _ => false
theorem X5T {P : Program} {t : TypeId} {n sz : Nat} (h : X0f P t n sz = true) : P.underlying t = some (.array (P.arrayLen t) (P.elem t)) ∧ P.arrayLen t = n ∧ ∀ w, (sizeOf (P.elem t)).run P w = .ok sz w := by
 unfold X0f at h
 cases hu : P.underlying t with
 | none => simp [hu] at h
 | some de =>
  cases de <;> rw [hu] at h <;> simp at h
  rename_i m e
  cases hq : P.info? e with
  | none => simp [hq] at h
  | some i =>
   rw [hq] at h
   obtain ⟨h1, h2⟩ := h
   have h2 : i.size = sz := by simpa using h2
   have h1 : m = n := by simpa using h1
   have ha : P.arrayLen t = m := by simp [Program.arrayLen, hu]
   have he : P.elem t = e := by simp [Program.elem, hu]
   exact ⟨by rw [ha, he], by rw [ha, h1], fun w => by rw [he]; simp [sizeOf, typeInfo, hq, h2]⟩
section
variable {P : Program} {ops : Array Oper} {draw : Bool} {K : St → Prop} {rest : List Oper} {l : XJ} {S : St}
variable {d : Nat} {ty : TypeId} {pos : String} {aft : Array Edge} {gd : Option (Nat × Bool)}
theorem X7C {x i : Operand} {T : TypeId} {γ o off n sz k : Nat} {kd : IntKind} {m : Int} (hx : S.ev x = .ptr γ o) (hi : S.ev i = .d (.v (.int kd m))) (hT : X0f P T n sz = true) (hk : m = (k : Nat)) (hlt : k < n)
  (hoff : o + k * sz = off) (hd : Nat.blt d S.n = true) (hg : Xb ops S gd)
  (h : Walk P ops draw K rest ((l.length, ⟨some d, .indexAddr T x i, ty, pos, aft, gd⟩, ⟨Xa ops gd ++ [(x, .ptr γ o), (i, .d (.v (.int kd m)))], some (d, .ptr γ off), [], [], []⟩) :: l) (S.set d (.ptr γ off))) :
  Walk P ops draw K (⟨some d, .indexAddr T x i, ty, pos, aft, gd⟩ :: rest) l S :=
 Xw ⟨[(x, .ptr γ o), (i, .d (.v (.int kd m)))], some (d, .ptr γ off), [], [], []⟩ (XS rfl fun E S g a w hs hq hl => by
  obtain ⟨h1, h2, h3⟩ := X5T hT
  have hp : a.eval x = .pointer (some ⟨g.blk γ, o, none⟩) := by have := hq.1; simpa only [AVal.sat] using this
  refine ⟨.pointer (some ⟨g.blk γ, off, none⟩), ?_, by simp only [AVal.sat]⟩
  have hb : (0 : Int) ≤ m ∧ m < (P.arrayLen T : Int) := by rw [h2]; omega
  have hm : m.toNat = k := by omega
  have := run_indexAt_array (P := P) (w := w) T ⟨g.blk γ, o, none⟩ kd m h1
  rw [if_pos hb, h3 w, Result.andThen_ok, Yx, hm, hoff] at this
  simp only [execOp, hp, Y6 hq.2.1, Sem.run_bind, this]; rfl) hg ⟨⟨hx, hi, trivial⟩, trivial, trivial, hd⟩ h
end
end Go.Fw
