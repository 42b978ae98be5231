/- Structs and arrays of scalars compared. -/
import Derived.Laws.StructEq
import Derived.MapKept
import Derived.WalkKit
import Derived.ProofKit
import Derived.ChangeSame
import Derived.Test.YtbhleedlnaakkaaK05
namespace Go.Fw
open Go
set_option linter.unusedVariables false
inductive SK where
 | i (k : IntKind)
 | b
 | s
def SK.of (P : Program) (t : TypeId) : Option SK := match P.underlying t with | some (.int k) => some (.i k) | some .bool => some .b | some .string => some .s | _ => none
def XP : Value → Option SK
 | .int k _ => some (.i k)
 | .bool _ => some .b
 | .string _ => some .s
 | _ => none
def Ul : Value → Value → Bool
 | .int _ a, .int _ b => decide (a = b)
 | .bool a, .bool b => decide (a = b)
 | .string a, .string b => decide (a.data.toList = b.data.toList)
 | _, _ => false
def Yz : List Value → List Value → Bool
 | a :: as, b :: bs => Ul a b && Yz as bs
 | _, _ => true
def VF (P : Program) : Nat → List Field → Option (List SK)
 | _, [] => some []
 | i, f :: fs => if f.name ≠ "_" ∧ f.offset = i ∧ Yi P f.type false 1 = true then (SK.of P f.type).bind fun k => (VF P (i + 1) fs).map (k :: ·) else none
def U6 (P : Program) (t : TypeId) : Option (List SK) :=
 match P.underlying t with
 | some (.struct fs) => if P.stoodInHeld t = false ∧ P.eqGuardType P.depth t = false then VF P 0 fs.toList else none
 | some (.array n e) => if P.eqGuardType P.depth t = false ∧ Yi P e false 1 = true then (SK.of P e).map fun k => List.replicate n k else none
 | _ => none
section
variable {P : Program}
theorem X4K {d : Nat} {t : TypeId} {k : SK} {u v : Value} (hk : SK.of P t = some k) (hu : XP u = some k) (hv : XP v = some k) (w : World) : (Op.equalIn (d + 1) t u v).run P w = .ok (Ul u v) w := by
 unfold SK.of at hk
 cases ht : P.underlying t with
 | none => simp [ht] at hk
 | some de =>
  rw [ht] at hk
  cases de <;> simp at hk <;> subst hk <;> cases u <;> simp [XP] at hu <;> cases v <;> simp [XP] at hv
  ·rw [run_equalIn_bool w d t _ _ ht]; simp [Ul, Bool.beq_eq_decide_eq]
  ·subst hu; subst hv
   rw [run_equalIn_int w d t _ _ _ _ ht]; simp [Ul, Bool.beq_eq_decide_eq]
  ·rw [run_equalIn_string w d t _ _ ht, ByteArray.toList_eq, ByteArray.toList_eq]
   simp [Ul, Bool.beq_eq_decide_eq]
theorem X4o {d : Nat} {xs ys : Array Value} : ∀ (fs : List Field) (i : Nat) (ks : List SK) (us vs : List Value), VF P i fs = some ks → us.map XP = ks.map some → vs.map XP = ks.map some →
  (∀ j u, us[j]? = some u → xs[i + j]? = some u) → (∀ j u, vs[j]? = some u → ys[i + j]? = some u) → ∀ w, (Op.eqFields (d + 1) xs ys fs).run P w = .ok (Yz us vs) w
 | [], i, ks, us, vs, hf, hu, hv, hx, hy, w => by
  simp [VF] at hf; subst hf
  simp at hu hv; subst hu; subst hv
  rfl
 | f :: fs, i, ks, us, vs, hf, hu, hv, hx, hy, w => by
  unfold VF at hf
  split at hf
  case isFalse => cases hf
  rename_i hc
  obtain ⟨c1, c2, c3⟩ := hc
  cases hk : SK.of P f.type with
  | none => simp [hk] at hf
  | some k =>
   cases hr : VF P (i + 1) fs with
   | none => simp [hk, hr] at hf
   | some kr =>
    simp [hk, hr] at hf; subst hf
    cases us with
    | nil => simp at hu
    | cons u us =>
     cases vs with
     | nil => simp at hv
     | cons v vs =>
      simp only [List.map_cons, List.cons.injEq] at hu hv
      have h1 : xs[f.offset]? = some u := by rw [c2]; exact hx 0 u rfl
      have h2 : ys[f.offset]? = some v := by rw [c2]; exact hy 0 v rfl
      have ih := X4o (d := d) (xs := xs) (ys := ys) fs (i + 1) kr us vs hr hu.2 hv.2 (fun j u hj => by have := hx (j + 1) u hj; rwa [show i + (j + 1) = i + 1 + j by omega] at this) (fun j u hj => by have := hy (j + 1) u hj; rwa [show i + (j + 1) = i + 1 + j by omega] at this) w
      have p1 := X0P c3 xs f.offset w
      have p2 := X0P c3 ys f.offset w
      rw [h1] at p1; rw [h2] at p2
      simp only [Bool.false_eq_true, if_false] at p1 p2
      unfold Op.eqFields
      rw [if_pos c1]
      simp only [Sem.run_bind, p1, p2, Result.andThen_ok, X4K hk hu.1 hv.1]
      unfold Yz
      cases hs : Ul u v with
      | false => simp
      | true => simpa using ih
theorem X62 {n : Nat} {k : SK} {us vs : List Value} (hu : us.map XP = (List.replicate n k).map some) (hv : vs.map XP = (List.replicate n k).map some) : us.length = n ∧ vs.length = n := by
 have h1 := congrArg List.length hu
 have h2 := congrArg List.length hv
 simp only [List.length_map, List.length_replicate] at h1 h2
 exact ⟨h1, h2⟩
theorem X4l {t : TypeId} {ks : List SK} {us vs : List Value} (hk : U6 P t = some ks) (hu : us.map XP = ks.map some) (hv : vs.map XP = ks.map some) (w : World) :
  (Op.equalIn 10000 t (.agg us.toArray) (.agg vs.toArray)).run P w = .ok (Yz us vs) w ∧ P.eqGuardType P.depth t = false := by
 unfold U6 at hk
 split at hk
 ·rename_i fs hfs
  split at hk
  case isFalse => cases hk
  rename_i hc
  have hF : P.fieldsOf t = fs := by simp [Program.fieldsOf, hfs]
  refine ⟨?_, hc.2⟩
  rw [show (10000 : Nat) = 9998 + 1 + 1 from rfl, run_equalIn_agg w (9998 + 1) t _ _ (by rw [hF]; exact hfs) hc.1, hF]
  exact X4o fs.toList 0 ks us vs hk hu hv (fun j u hj => by simpa using hj) (fun j u hj => by simpa using hj) w
 ·rename_i n e he
  split at hk
  case isFalse => cases hk
  rename_i hc
  refine ⟨?_, hc.1⟩
  cases hs : SK.of P e with
  | none => simp [hs] at hk
  | some k =>
   simp [hs] at hk; subst hk
   have hl := X62 hu hv
   have hsz := (VK hc.2).2
   rw [show (10000 : Nat) = 9998 + 1 + 1 from rfl, Op.equalIn]
   simp only [Sem.run_bind, run_underlying he, Result.andThen_ok, hsz]
   rw [Std.Legacy.Range.forIn_eq_forIn_range']
   simp only [Std.Legacy.Range.size, Nat.sub_zero, Nat.add_sub_cancel, Nat.div_one, Nat.mul_one]
   have key : ∀ (m i : Nat), i + m = n → ∀ w, ((forIn (List.range' i m) ((none, ()) : Option Bool × Unit) fun i r => do
     let __do_lift ← part e us.toArray i
     let __do_lift_1 ← part e vs.toArray i
     let __do_lift ← Op.equalIn (9998 + 1) e __do_lift __do_lift_1
     if (!__do_lift) = true then pure (ForInStep.done (some false, ())) else pure (ForInStep.yield (none, ())) : Sem (Option Bool × Unit))).run P w = .ok (if Yz (us.drop i) (vs.drop i) = true then (none, ()) else (some false, ())) w := by
    intro m
    induction m with
    | zero =>
     intro i hi w
     rw [List.drop_of_length_le (by omega), List.drop_of_length_le (by omega)]
     rfl
    | succ m ih =>
     intro i hi w
     have l1 : i < us.length := by omega
     have l2 : i < vs.length := by omega
     have g1 : XP us[i] = some k := by
      have := congrArg (·[i]?) hu
      simp [l1] at this
      rw [List.getElem?_replicate] at this
      simpa [show i < n by omega] using this
     have g2 : XP vs[i] = some k := by
      have := congrArg (·[i]?) hv
      simp [l2] at this
      rw [List.getElem?_replicate] at this
      simpa [show i < n by omega] using this
     have p1 := X0P hc.2 us.toArray i w
     have p2 := X0P hc.2 vs.toArray i w
     simp only [List.getElem?_toArray, List.getElem?_eq_getElem l1, List.getElem?_eq_getElem l2, Bool.false_eq_true, if_false] at p1 p2
     rw [List.range'_succ, List.forIn_cons]
     simp only [Sem.run_bind, p1, p2, Result.andThen_ok, X4K hs g1 g2, Sem.run_ite]
     rw [List.drop_eq_getElem_cons l1, List.drop_eq_getElem_cons l2]
     unfold Yz
     cases hq : Ul us[i] vs[i] with
     | false => simp
     | true =>
      simp only [Bool.not_true, Bool.false_eq_true, if_false, Sem.run_pure, Result.andThen_ok, Bool.true_and]
      exact ih (i + 1) (by omega) w
   have := key n 0 (by omega) w
   simp only [List.drop_zero] at this
   rw [this]
   cases Yz us vs <;> simp
 ·cases hk
theorem X5E {t : TypeId} {x y : Operand} {ks : List SK} {us vs : List Value} {r : Bool} (hk : U6 P t = some ks) (hu : us.map XP = ks.map some) (hv : vs.map XP = ks.map some) (hr : Yz us vs = r) (w : World) :
  (do eqGuard .eql t x y (.agg us.toArray) (.agg vs.toArray); binOp .eql t (.agg us.toArray) (.agg vs.toArray) : Sem Value).run P w = .ok (.bool r) w := by
 have h := X4l hk hu hv w
 rw [Sem.run_bind, run_eqGuard_agg w _ _ _ _ _ _ h.2, Result.andThen_ok, run_eql_struct, h.1, Result.andThen_ok, hr]
theorem X8v {t : TypeId} {x y : Operand} {ks : List SK} {us vs : List Value} {r : Bool} (hk : U6 P t = some ks) (hu : us.map XP = ks.map some) (hv : vs.map XP = ks.map some) (hr : Yz us vs = r) (w : World) :
  (do eqGuard .neq t x y (.agg us.toArray) (.agg vs.toArray); binOp .neq t (.agg us.toArray) (.agg vs.toArray) : Sem Value).run P w = .ok (.bool (!r)) w := by
 have h := X4l hk hu hv w
 rw [Sem.run_bind, run_eqGuard_agg w _ _ _ _ _ _ h.2, Result.andThen_ok, run_neq_struct, h.1, Result.andThen_ok, hr]
theorem X3g {g : Gh} : ∀ {us : List Value} {vs : List Value}, Xa g (dvL us) vs → vs = us
 | [], [], _ => rfl
 | [], _ :: _, h => by simp only [dvL, Xa] at h
 | _ :: _, [], h => by simp only [dvL, Xa] at h
 | u :: us, v :: vs, h => by
  simp only [dvL, Xa] at h
  rw [Y8 h.1, X3g h.2]
end
section
variable {P : Program} {ops : Array Oper} {draw : Bool} {K : St → Prop} {rest : List Oper} {l : XE} {S : St} {ty : TypeId} {pos : String} {aft : Array Edge} {gd : Option (Nat × Bool)} {d : Nat}
theorem X0u {g : Gh} {us : List Value} {v : Value} (h : (AVal.agg (dvL us)).sat g v) : v = .agg us.toArray := by
 simp only [AVal.sat] at h
 obtain ⟨vs, rfl, h⟩ := h
 rw [← X3g h]
theorem X7s {xt yt : TypeId} {x y : Operand} {us vs : List Value} {r : Bool} {ks : List SK} {cs es : List AVal} (hk : U6 P xt = some ks) (hx : S.ev x = .agg cs) (hy : S.ev y = .agg es) (hcs : cs = dvL us) (hes : es = dvL vs) (hu : us.map XP = ks.map some) (hv : vs.map XP = ks.map some)
  (hr : Yz us vs = r) (hd : Nat.blt d S.n = true) (hg : X9 ops S gd)
  (h : Walk P ops draw K rest ((l.length, ⟨some d, .binOp .eql xt x y yt, ty, pos, aft, gd⟩, ⟨X7 ops gd ++ [(x, .agg cs), (y, .agg es)], some (d, ab r), [], [], []⟩) :: l) (S.set d (ab r))) :
  Walk P ops draw K (⟨some d, .binOp .eql xt x y yt, ty, pos, aft, gd⟩ :: rest) l S := by
 subst hcs; subst hes
 exact Xp ⟨[(x, .agg (dvL us)), (y, .agg (dvL vs))], some (d, ab r), [], [], []⟩ (XG rfl fun E S g a w hs hq _ => by
  refine ⟨.bool r, ?_, Ug rfl⟩
  have := X5E (x := x) (y := y) hk hu hv hr w
  simp only [execOp, X0u hq.1, X0u hq.2.1, Sem.run_bind, Sem.run_pure] at this ⊢
  rw [this]; rfl) hg ⟨⟨hx, hy, trivial⟩, trivial, trivial, hd⟩ h
theorem X8a {xt yt : TypeId} {x y : Operand} {us vs : List Value} {r : Bool} {ks : List SK} {cs es : List AVal} (hk : U6 P xt = some ks) (hx : S.ev x = .agg cs) (hy : S.ev y = .agg es) (hcs : cs = dvL us) (hes : es = dvL vs) (hu : us.map XP = ks.map some) (hv : vs.map XP = ks.map some)
  (hr : Yz us vs = r) (hd : Nat.blt d S.n = true) (hg : X9 ops S gd)
  (h : Walk P ops draw K rest ((l.length, ⟨some d, .binOp .neq xt x y yt, ty, pos, aft, gd⟩, ⟨X7 ops gd ++ [(x, .agg cs), (y, .agg es)], some (d, ab (!r)), [], [], []⟩) :: l) (S.set d (ab (!r)))) :
  Walk P ops draw K (⟨some d, .binOp .neq xt x y yt, ty, pos, aft, gd⟩ :: rest) l S := by
 subst hcs; subst hes
 exact Xp ⟨[(x, .agg (dvL us)), (y, .agg (dvL vs))], some (d, ab (!r)), [], [], []⟩ (XG rfl fun E S g a w hs hq _ => by
  refine ⟨.bool (!r), ?_, Ug rfl⟩
  have := X8v (x := x) (y := y) hk hu hv hr w
  simp only [execOp, X0u hq.1, X0u hq.2.1, Sem.run_bind, Sem.run_pure] at this ⊢
  rw [this]; rfl) hg ⟨⟨hx, hy, trivial⟩, trivial, trivial, hd⟩ h
end
end Go.Fw
namespace Go.Fw
open Go
set_option linter.unusedVariables false
section
variable {P : Program} {E : Env} {S : St} {Q : Exit → St → Prop}
theorem UK {c : Operand} {x y : Code} {p : Prop} {inst : Decidable p} (hc : S.ev c = ab (@decide p inst)) (ht : p → AWP P E x S Q) (hf : ¬ p → AWP P E y S Q) : AWP P E (.cond c x y) S Q :=
 VY hc (fun h => ht (of_decide_eq_true h)) (fun h => hf (of_decide_eq_false h))
theorem X8g {x y : Code} {Q' : Exit → St → Prop} (U : St) (h : AWP P E x S (X0d (fun T => T.le U) Q')) (k : AWP P E y U Q) : AWP P E x S (X0d (fun T => AWP P E y T Q) Q') :=
 X3f h fun e T hq => by
  cases e with
  | normal => exact XH hq k
  | _ => exact hq
end
section
variable {P : Program} {ops : Array Oper} {draw : Bool} {K : St → Prop} {rest : List Oper} {l : XE} {S : St}
theorem XB {o : Oper} {j : Nat} {b : Bool} {p : Prop} {inst : Decidable p} (hg : o.guard = some (j, b)) (hx : S.get (Uh ops j) = ab (@decide p inst)) (ht : p → Walk P ops draw K (o :: rest) l S) (hf : ¬ p → Walk P ops draw K (o :: rest) l S) : Walk P ops draw K (o :: rest) l S := by
 by_cases h : p
 ·exact ht h
 ·exact hf h
theorem X0G {o : Oper} {j : Nat} {b x : Bool} (hg : o.guard = some (j, b)) (hx : S.get (Uh ops j) = ab x) (ht : x = true → Walk P ops draw K (o :: rest) l S) (hf : x = false → Walk P ops draw K (o :: rest) l S) : Walk P ops draw K (o :: rest) l S := by
 cases x
 ·exact hf rfl
 ·exact ht rfl
end
end Go.Fw
namespace Go.Fw
open Go
set_option linter.unusedVariables false
section
variable {P : Program} {E : Env} {S : St} {Q : Exit → St → Prop}
theorem XC {c : Operand} {x y : Code} {b : Bool} (hc : S.ev c = ab (!b)) (ht : b = false → AWP P E x S Q) (hf : b = true → AWP P E y S Q) : AWP P E (.cond c x y) S Q :=
 VY hc (fun h => ht (by simpa using h)) (fun h => hf (by simpa using h))
end
section
variable {P : Program} {ops : Array Oper} {draw : Bool} {K : St → Prop} {rest : List Oper} {l : XE} {S : St}
theorem YE {o : Oper} {j : Nat} {b x : Bool} (hg : o.guard = some (j, b)) (hx : S.get (Uh ops j) = ab (!x)) (ht : x = true → Walk P ops draw K (o :: rest) l S) (hf : x = false → Walk P ops draw K (o :: rest) l S) : Walk P ops draw K (o :: rest) l S := by
 cases x
 ·exact hf rfl
 ·exact ht rfl
end
end Go.Fw
namespace Go.Fw
open Go
set_option linter.unusedVariables false
section
variable {P : Program} {t : TypeId} {x y : Operand} {a b : List UInt8}
theorem X6J (w : World) : (do eqGuard .lss t x y (.string (X5 a)) (.string (X5 b)); binOp .lss t (.string (X5 a)) (.string (X5 b)) : Sem Value).run P w = .ok (.bool (Op.bytesLess a b)) w := by
 simp [go_sem, binOp, Op.stringOp, X08]
theorem X7P (w : World) : (do eqGuard .gtr t x y (.string (X5 a)) (.string (X5 b)); binOp .gtr t (.string (X5 a)) (.string (X5 b)) : Sem Value).run P w = .ok (.bool (!(Op.bytesLess a b || decide (a = b)))) w := by
 simp [go_sem, binOp, Op.stringOp, X08]; rw [show (a == b) = decide (a = b) from Bool.beq_eq_decide_eq a b]
theorem X6Q (w : World) : (do eqGuard .leq t x y (.string (X5 a)) (.string (X5 b)); binOp .leq t (.string (X5 a)) (.string (X5 b)) : Sem Value).run P w = .ok (.bool (Op.bytesLess a b || decide (a = b))) w := by
 simp [go_sem, binOp, Op.stringOp, X08]; rw [show (a == b) = decide (a = b) from Bool.beq_eq_decide_eq a b]
end
theorem X2N : ∀ s : List UInt8, Op.bytesLess s s = false
 | [] => by simp [Op.bytesLess]
 | b :: s => by simp [Op.bytesLess, X2N s]
theorem X4z : ∀ s t : List UInt8, Op.bytesLess s t = true → Op.bytesLess t s = false
 | [], [], h => by simp [Op.bytesLess]
 | [], b :: t, h => by simp [Op.bytesLess]
 | a :: s, [], h => by simp [Op.bytesLess] at h
 | a :: s, b :: t, h => by
  simp only [Op.bytesLess, Bool.or_eq_true, decide_eq_true_eq, Bool.and_eq_true, beq_iff_eq, Bool.or_eq_false_iff, decide_eq_false_iff_not, Bool.and_eq_false_iff] at h ⊢
  rcases h with h | ⟨rfl, h⟩
  ·refine ⟨fun h' => ?_, .inl ?_⟩
   ·exact absurd (UInt8.lt_trans h h') (UInt8.lt_irrefl _)
   ·simp only [beq_eq_false_iff_ne, ne_eq]
    rintro rfl
    exact absurd h (UInt8.lt_irrefl _)
  ·exact ⟨UInt8.lt_irrefl _, .inr (X4z s t h)⟩
end Go.Fw
namespace Go.Fw
open Go
set_option linter.unusedVariables false
def leD (d e : D) : Prop := ∀ (M : Mem) (u : Value), d.rep M u → e.rep M u
def leC (r s : List D) : Prop := ∀ (M : Mem) (b o : Nat), XI M r b o → XI M s b o
def leW (sz : Nat) (r s : List (List D)) : Prop := r.length = s.length ∧ ∀ (M : Mem) (b o : Nat), XX M sz r b o → XX M sz s b o
theorem Uv (d : D) : leD d d := fun _ _ h => h
theorem X2L (sz : Nat) : leD (.v (.slice none 0 0)) (.sl sz []) := fun M u h => by
 simp only [D.rep] at h ⊢
 exact ⟨none, 0, h.1, by simp, by simp, by simp⟩
theorem X3m : leC [] [] := fun _ _ _ h => h
theorem Ui {d e : D} {r s : List D} (h : leD d e) (hr : leC r s) : leC (d :: r) (e :: s) := fun M b o q => by
 rw [XI] at q ⊢
 obtain ⟨⟨u, h1, h2⟩, h3⟩ := q
 exact ⟨⟨u, h1, h M u h2⟩, hr M b (o + 1) h3⟩
theorem X41 (sz : Nat) : leW sz [] [] := ⟨rfl, fun _ _ _ h => h⟩
theorem X4w {sz : Nat} {d e : List D} {r s : List (List D)} (h : leC d e) (hl : d.length = e.length) (hr : leW sz r s) : leW sz (d :: r) (e :: s) := ⟨by rw [List.length_cons, List.length_cons, hr.1], fun M b o q => by
 rw [XX] at q ⊢
 exact ⟨by rw [← hl]; exact q.1, h M b o q.2.1, hr.2 M b (o + sz) q.2.2⟩⟩
theorem X30 {sz : Nat} {r s : List (List D)} (h : leW sz r s) : leD (.sl sz r) (.sl sz s) := fun M u q => by
 simp only [D.rep] at q ⊢
 obtain ⟨a, cap, h1, h2, h3, h4⟩ := q
 refine ⟨a, cap, by rw [← h.1]; exact h1, by rw [← h.1]; exact h2, h3, ?_⟩
 rcases h4 with h4 | ⟨b, o, h5, h6⟩
 ·left
  have := h.1
  rw [h4] at this
  exact List.eq_nil_of_length_eq_zero this.symm
 ·exact .inr ⟨b, o, h5, h.2 M b o h6⟩
theorem AVal.le_d {d e : D} (h : leD d e) : AVal.le (.d d) (.d e) := fun g u q => by
 simp only [AVal.sat] at q ⊢
 exact h g.M u q
end Go.Fw
namespace Go.Fw
open Go
set_option linter.unusedVariables false
set_option linter.unusedSimpArgs false
theorem X3T {sz : Nat} : ∀ {xs : List (List D)} (h : ∀ x ∈ xs, x.length = sz) {k : Nat} {r : List D}, xs[k]? = some r → ∀ {o q : Nat}, o + q ≤ sz → (xs.flatten.drop (k * sz + o)).take q = (r.drop o).take q
 | [], _, k, r, hk, _, _, _ => by simp at hk
 | x :: xs, h, 0, r, hk, o, q, hq => by
  simp only [List.getElem?_cons_zero, Option.some.injEq] at hk
  subst hk
  have hx := h x (by simp)
  rw [Nat.zero_mul, Nat.zero_add, List.flatten_cons, List.drop_append_of_le_length (by omega), List.take_append_of_le_length (by rw [List.length_drop]; omega)]
 | x :: xs, h, k + 1, r, hk, o, q, hq => by
  have hx := h x (by simp)
  have := X3T (fun y hy => h y (by simp [hy])) (xs := xs) (k := k) (r := r) (by simpa using hk) hq
  rw [List.flatten_cons, show (k + 1) * sz + o = x.length + (k * sz + o) by rw [hx, Nat.succ_mul]; omega, ← List.drop_drop, List.drop_left]
  exact this
theorem X8l {P : Program} {g : Gh} {w : World} {h : Value} {sz o q : Nat} {xs : List (List D)} {ys : List D} (hr : YX g w h sz xs) (hb : o + q ≤ xs.length * sz) (hys : (xs.flatten.drop o).take q = ys) {news : Array Value} (hns : news.size = q) (hsat : Xa g (ys.map .d) news.toList) :
  ∃ w', (match h with | .slice (some a) _ _ => (storeCells (a.add o) news.toList).run P w | _ => .ok () w) = .ok () w' ∧ YX g w' h sz xs ∧
   (∀ b, ¬ Uw h b → w'.heap[b]? = w.heap[b]?) ∧ w'.heap.size = w.heap.size ∧ w'.os = w.os ∧ w'.output = w.output := by
 rcases hr.2 with ⟨rfl, rfl⟩ | ⟨b, cap, vs, e, fr, rfl, h2, h3, h4, h5, h6, h7⟩
 ·exact ⟨w, rfl, hr, fun _ _ => rfl, rfl, rfl, rfl⟩
 ·have hfx := UF xs hr.1
  have hyl : ys.length = q := by have := Y6 hsat; simp only [List.length_map, Array.length_toList] at this; omega
  have hbnd : o + q ≤ vs.size := Nat.le_trans hb (Nat.le_trans (Nat.mul_le_mul_right _ h2) h6)
  obtain ⟨vs', k1, k2⟩ := X0H (P := P) b e fr vs.size h5 news.toList o 0 vs w h4 rfl (by simp [hns]; omega) (fun u hu => by
   obtain ⟨j, hj, rfl⟩ := List.getElem_of_mem hu
   have hjl : j < ys.length := by rw [hyl, ← hns]; simpa using hj
   obtain ⟨_, hrep⟩ := X0v hsat
   obtain ⟨u, hu1, hu2⟩ := hrep j _ (List.getElem?_eq_getElem hjl)
   rw [List.getElem?_eq_getElem hj] at hu1; cases hu1
   exact D.rep_one hu2)
  simp only [Nat.add_zero, Array.length_toList, hns] at k2
  have hvs' : vs'.size = vs.size := by
   have := congrArg List.length k2
   simp [hns] at this; omega
  refine ⟨w.setRow b vs', ?_, ⟨hr.1, .inr ⟨b, cap, vs', e, fr, rfl, h2, h3, setRow_heap w b vs _ e fr h4, by rw [hvs']; exact h5, by rw [hvs']; exact h6, ?_⟩⟩, fun c hc => setRow_other w b c vs' (fun e => hc (by rw [e]; exact ⟨_, _, _, rfl, rfl⟩)), by simp, rfl, rfl⟩
  ·simp only [Yq, Nat.zero_add]; exact k1
  ·have hxt : (vs.toList.take (xs.length * sz)).length = xs.length * sz := by have := Y6 h7; simp only [List.length_map, hfx] at this; exact this
   have e1 : vs'.toList.take (xs.length * sz) = (vs.toList.take (xs.length * sz)).take o ++ news.toList ++ (vs.toList.take (xs.length * sz)).drop (o + q) := by
    rw [k2]
    exact X5x (by simp [hns]) hb (by simp at hxt ⊢; omega)
   rw [e1]
   have e2 : xs.flatten = xs.flatten.take o ++ ys ++ xs.flatten.drop (o + q) := by
    rw [← hys, ← List.drop_drop, List.append_assoc, List.take_append_drop, List.take_append_drop]
   rw [e2, List.map_append, List.map_append, List.map_take, List.map_drop]
   exact UP (UP (VN h7 _) hsat) (Vg h7 _)
section
variable {P : Program} {ops : Array Oper} {draw : Bool} {K : St → Prop} {rest : List Oper} {l : XE} {S : St}
variable {d : Nat} {ty : TypeId} {pos : String} {aft : Array Edge} {gd : Option (Nat × Bool)}
theorem X7V {x i : Operand} {T : TypeId} {γ n k sz : Nat} {kd : IntKind} {m : Int} {xs : List (List D)} (hx : S.ev x = .own γ n) (hL : S.obj γ = .row sz xs) (hi : S.ev i = .d (.v (.int kd m))) (hn : n = xs.length) (hk : m = (k : Nat)) (hlt : k < xs.length)
  (hT : YI P T sz = true) (hd : Nat.blt d S.n = true) (hg : X9 ops S gd)
  (h : Walk P ops draw K rest ((l.length, ⟨some d, .indexAddr T x i, ty, pos, aft, gd⟩, ⟨X7 ops gd ++ [(x, .own γ n), (i, .d (.v (.int kd m)))], some (d, .rptr γ n (k * sz)), [(γ, .row sz xs)], [], []⟩) :: l) (S.set d (.rptr γ n (k * sz)))) :
  Walk P ops draw K (⟨some d, .indexAddr T x i, ty, pos, aft, gd⟩ :: rest) l S :=
 Xp ⟨[(x, .own γ n), (i, .d (.v (.int kd m)))], some (d, .rptr γ n (k * sz)), [(γ, .row sz xs)], [], []⟩ (XG rfl fun E S g a w hs hq hl => by
  obtain ⟨e, h1, h2, h3⟩ := X0x hT
  have ho := hs.1.obj γ
  rw [hl.1] at ho
  have hv := X1C hq.1 ho hn
  rcases ho.2 with ⟨e, rfl⟩ | ⟨b, cap, vs, e', fr, hh, _⟩
  ·simp at hlt
  ·rw [hh] at hv
   refine ⟨.pointer (some ⟨b, k * sz, none⟩), ?_, ?_⟩
   ·have hb : (0 : Int) ≤ m ∧ m < (xs.length : Int) := by omega
    have hm : m.toNat = k := by omega
    have := run_indexAt_slice (P := P) w T ⟨b, 0, none⟩ xs.length cap kd m (by rw [h3]; exact h1)
    rw [if_pos hb, h3, h2 w, Result.andThen_ok, Yq, hm, Nat.zero_add] at this
    simp only [execOp, hv, Y8 hq.2.1, Sem.run_bind, this]; rfl
   ·simp only [AVal.sat]
    exact ⟨rfl, _, _, _, hh, by omega, fun _ => ⟨_, rfl, rfl⟩⟩) hg ⟨⟨hx, hi, trivial⟩, ⟨hL, trivial⟩, trivial, hd⟩ h
theorem X1o {g : Gh} {w : World} {γ n o sz : Nat} {xs : List (List D)} {u : Value} (hs : (AVal.rptr γ n o).sat g u) (ho : YX g w (g.hd γ) sz xs) (hn : n = xs.length) (h0 : 0 < xs.length) :
  ∃ b cap vs e fr, u = .pointer (some ⟨b, o, none⟩) ∧ g.hd γ = .slice (some ⟨b, 0, none⟩) xs.length cap ∧ w.heap[b]? = some (.cells vs e fr) ∧ Xa g (xs.flatten.map .d) (vs.toList.take (xs.length * sz)) := by
 simp only [AVal.sat] at hs
 obtain ⟨_, a', m, c, q1, q2, q3⟩ := hs
 rcases ho.2 with ⟨e, rfl⟩ | ⟨b, cap, vs, e', fr, hh, k2, k3, k4, k5, k6, k7⟩
 ·simp at h0
 ·rw [hh] at q1; cases q1
  obtain ⟨b', e1, e2⟩ := q3 hn
  cases e1
  exact ⟨b, _, vs, e', fr, e2, hh, k4, k7⟩
theorem X56 {s : TypeId} {x : Operand} {f γ n o off sz : Nat} {xs : List (List D)} (hx : S.ev x = .rptr γ n o) (hL : S.obj γ = .row sz xs) (hn : n = xs.length) (h0 : 0 < xs.length) (hoff : Vh P s f = off) (hf : UI P s f off = true) (hd : Nat.blt d S.n = true) (hg : X9 ops S gd)
  (h : Walk P ops draw K rest ((l.length, ⟨some d, .fieldAddr s x f, ty, pos, aft, gd⟩, ⟨X7 ops gd ++ [(x, .rptr γ n o)], some (d, .rptr γ n (o + off)), [(γ, .row sz xs)], [], []⟩) :: l) (S.set d (.rptr γ n (o + off)))) :
  Walk P ops draw K (⟨some d, .fieldAddr s x f, ty, pos, aft, gd⟩ :: rest) l S :=
 Xp ⟨[(x, .rptr γ n o)], some (d, .rptr γ n (o + off)), [(γ, .row sz xs)], [], []⟩ (XG rfl fun E S g a w hs hq hl => by
  have ho := hs.1.obj γ
  rw [hl.1] at ho
  obtain ⟨b, cap, vs, e, fr, e1, e2, e3, e4⟩ := X1o hq.1 ho hn h0
  refine ⟨.pointer (some ⟨b, o + off, none⟩), by simp [execOp, e1, X1M hf], ?_⟩
  simp only [AVal.sat]
  exact ⟨rfl, _, _, _, e2, by omega, fun _ => ⟨_, rfl, rfl⟩⟩) hg ⟨⟨hx, trivial⟩, ⟨hL, trivial⟩, trivial, hd⟩ h
theorem X51 {t : TypeId} {x : Operand} {γ n o q sz : Nat} {xs : List (List D)} {ys : List D} (hx : S.ev x = .rptr γ n o) (hL : S.obj γ = .row sz xs) (hn : n = xs.length) (h0 : 0 < xs.length) (hb : o + q ≤ xs.length * sz) (hys : (xs.flatten.drop o).take q = ys)
  (ht : Yi P t true q = true) (hd : Nat.blt d S.n = true) (hg : X9 ops S gd)
  (h : Walk P ops draw K rest ((l.length, ⟨some d, .load t x, ty, pos, aft, gd⟩, ⟨X7 ops gd ++ [(x, .rptr γ n o)], some (d, .agg (ys.map .d)), [(γ, .row sz xs)], [], []⟩) :: l) (S.set d (.agg (ys.map .d)))) :
  Walk P ops draw K (⟨some d, .load t x, ty, pos, aft, gd⟩ :: rest) l S :=
 Xp ⟨[(x, .rptr γ n o)], some (d, .agg (ys.map .d)), [(γ, .row sz xs)], [], []⟩ (XG rfl fun E S g a w hs hq hl => by
  have ho := hs.1.obj γ
  rw [hl.1] at ho
  obtain ⟨b, cap, vs, e, fr, e1, e2, e3, e4⟩ := X1o hq.1 ho hn h0
  have hsub := VN (Vg e4 o) q
  rw [← List.map_drop, ← List.map_take, hys] at hsub
  have hl1 := Y6 hsub
  have hfx := UF xs ho.1
  have hyl : ys.length = q := by rw [← hys, List.length_take, List.length_drop, hfx]; omega
  rw [List.length_map] at hl1
  refine ⟨.agg (((vs.toList.take (xs.length * sz)).drop o).take q).toArray, ?_, by simp only [AVal.sat]; exact ⟨_, rfl, hsub⟩⟩
  have := X0E (P := P) (p := ⟨b, o, none⟩) (w := w) (vs := ((vs.toList.take (xs.length * sz)).drop o).take q) (t := t) (by rw [hl1, hyl]; exact ht) (fun j v hv => by
   rw [Yq, cell_of_row w _ _ vs e fr e3]
   rw [List.getElem?_take] at hv
   split at hv
   ·rw [List.getElem?_drop, List.getElem?_take] at hv
    split at hv
    ·simpa using hv
    ·simp at hv
   ·simp at hv)
  simp [execOp, e1, Instr.loadAt, Instr.sureAddr, this]) hg ⟨⟨hx, trivial⟩, ⟨hL, trivial⟩, trivial, hd⟩ h
theorem X8G {t : TypeId} {x v : Operand} {γ n o q sz : Nat} {xs : List (List D)} {ys : List D} (hx : S.ev x = .rptr γ n o) (hL : S.obj γ = .row sz xs) (hv : S.ev v = .agg (ys.map .d)) (hn : n = xs.length) (h0 : 0 < xs.length) (hb : o + q ≤ xs.length * sz) (hys : (xs.flatten.drop o).take q = ys)
  (ht : Vx P t q = true) (hg : X9 ops S gd)
  (h : Walk P ops draw K rest ((l.length, ⟨none, .store t x v, ty, pos, aft, gd⟩, ⟨X7 ops gd ++ [(x, .rptr γ n o), (v, .agg (ys.map .d))], none, [(γ, .row sz xs)], [(γ, .row sz xs)], []⟩) :: l)
   (S.own γ (.row sz xs))) :
  Walk P ops draw K (⟨none, .store t x v, ty, pos, aft, gd⟩ :: rest) l S :=
 Xp ⟨[(x, .rptr γ n o), (v, .agg (ys.map .d))], none, [(γ, .row sz xs)], [(γ, .row sz xs)], []⟩ (X1v rfl fun E S g a w hs hq hl hnn => by
  have ho := hs.1.obj γ
  rw [hl.1] at ho
  have hrow : YX g w (g.hd γ) sz xs := ho
  obtain ⟨b, cap, vs, e, fr, e1, e2, e3, e4⟩ := X1o hq.1 ho hn h0
  have hqv := hq.2.1
  simp only [AVal.sat] at hqv
  obtain ⟨us, hu, hus⟩ := hqv
  have hfx := UF xs hrow.1
  have hyl : ys.length = q := by rw [← hys, List.length_take, List.length_drop, hfx]; omega
  have hul : us.size = q := by have := Y6 hus; simp only [List.length_map, Array.length_toList] at this; omega
  obtain ⟨w', s1, s2, s3, s4, s5, s6⟩ := X8l (P := P) hrow hb hys hul hus
  rw [e2] at s1
  simp only [Yq, Nat.zero_add] at s1
  refine ⟨g, w', ?_, ?_, hs.2.2.2⟩
  ·have hsz := X3V ht w
   simp [execOp, e1, hu, Instr.storeAt, Instr.sureAddr, storeVar, hsz, Value.cells, hul, s1]
  ·refine Inv.upd hs.1 γ _ (Y5 _ _ _ _) (fun j hj => Yg _ _ _ (Ne.symm hj)) (fun b hb hnl => s3 b fun hc => hnl (by rw [hl.1]; exact hc)) (by omega) s5 s6 rfl (fun _ _ => ⟨rfl, rfl, rfl⟩) (fun _ _ _ _ _ h => h) s2 (fun b hb => .inl (by rw [hl.1]; exact hb)) (fun _ => Gh.keeps_refl _ _)) hg ⟨⟨hx, hv, trivial⟩, ⟨hL, trivial⟩, trivial, trivial⟩ h
end
end Go.Fw
namespace Go.Fw
open Go
set_option linter.unusedVariables false
set_option linter.unusedSimpArgs false
def XW : List (Int × Int) → Int → Int
 | [], _ => 0
 | p :: r, k => if k = p.1 then p.2 else XW r k
def Yw : List (Int × Int) → Int → Int → List (Int × Int)
 | [], k, v => [(k, v)]
 | p :: r, k, v => if k = p.1 then (p.1, v) :: r else p :: Yw r k v
theorem X2T (k v j : Int) : ∀ es, XW (Yw es k v) j = if j = k then v else XW es j
 | [] => by simp [XW, Yw]
 | p :: r => by
  rw [Yw]
  by_cases h : k = p.1
  ·rw [if_pos h, XW, XW]
   simp only
   by_cases hj : j = p.1
   ·rw [if_pos hj, if_pos (by omega)]
   ·rw [if_neg hj, if_neg (by omega), if_neg hj]
  ·rw [if_neg h, XW, XW, X2T k v j r]
   by_cases hj : j = p.1
   ·rw [if_pos hj, if_pos hj, if_neg (by omega)]
   ·rw [if_neg hj, if_neg hj]
def YO : List (Int × Int) → Int → Option Nat
 | [], _ => none
 | p :: r, k => if k = p.1 then some 0 else (YO r k).map (· + 1)
theorem X3y (k : Int) : ∀ (ms : List MapEntry) (es : List (Int × Int)) (i : Nat), ms.map (fun e => (e.key, e.val)) = es.map (fun p => (Value.int .i64 p.1, Value.int .i64 p.2)) →
  Instr.findNow (.int .i64) (.int .i64 k) ms i = some ((YO es k).map fun n => (i + n, Value.int .i64 (XW es k)))
 | [], [], i, _ => rfl
 | [], p :: r, _, h => by simp at h
 | m :: ms, [], _, h => by simp at h
 | m :: ms, p :: r, i, h => by
  simp only [List.map_cons, List.cons.injEq, Prod.mk.injEq] at h
  rw [Instr.findNow, h.1.1]
  simp only [Instr.sameNow, if_true]
  by_cases hk : k = p.1
  ·rw [hk]
   simp [YO, XW, h.1.2]
  ·have : (k == p.1) = false := by simpa using hk
   rw [this, YO, if_neg hk, XW, if_neg hk, X3y k ms r (i + 1) h.2]
   cases YO r k with
   | none => rfl
   | some n => simp; omega
theorem X1W : ∀ {es : List (Int × Int)} {k : Int}, YO es k = none → XW es k = 0 ∧ ∀ v, Yw es k v = es ++ [(k, v)]
 | [], k, _ => ⟨rfl, fun _ => rfl⟩
 | p :: r, k, h => by
  rw [YO] at h
  by_cases hk : k = p.1
  ·rw [if_pos hk] at h; simp at h
  ·rw [if_neg hk] at h
   obtain ⟨h1, h2⟩ := X1W (es := r) (k := k) (by simpa using h)
   exact ⟨by rw [XW, if_neg hk, h1], fun v => by rw [Yw, if_neg hk, h2]; rfl⟩
theorem X2Y : ∀ {es : List (Int × Int)} {k : Int} {n : Nat}, YO es k = some n → ∃ h : n < es.length, es[n].1 = k ∧ ∀ v, Yw es k v = es.set n (k, v)
 | [], k, _, h => by simp [YO] at h
 | p :: r, k, n, h => by
  rw [YO] at h
  by_cases hk : k = p.1
  ·rw [if_pos hk] at h
   cases h
   exact ⟨by simp, by simp [hk], fun v => by rw [Yw, if_pos hk, hk]; rfl⟩
  ·rw [if_neg hk] at h
   cases hr : YO r k with
   | none => rw [hr] at h; simp at h
   | some m =>
    rw [hr] at h
    simp only [Option.map_some, Option.some.injEq] at h
    subst h
    obtain ⟨h1, h2, h3⟩ := X2Y hr
    exact ⟨by simp; omega, by simpa using h2, fun v => by rw [Yw, if_neg hk, h3]; rfl⟩
def VD (P : Program) (t : TypeId) : Bool :=
 match P.underlying t with
 | some (.map k e) => (match P.underlying k, P.underlying e with | some (.int .i64), some (.int .i64) => true | _, _ => false) && (match P.info? e with | some i => (match i.zero with | some (.int .i64 0) => true | _ => false) | none => false)
 | _ => false
section
variable {P : Program} {ops : Array Oper} {draw : Bool} {K : St → Prop} {rest : List Oper} {l : XE} {S : St}
variable {d : Nat} {ty : TypeId} {pos : String} {aft : Array Edge} {gd : Option (Nat × Bool)}
theorem X3O {t : TypeId} (h : VD P t = true) : ∃ k e, P.underlying t = some (.map k e) ∧ P.underlying k = some (.int .i64) ∧ P.underlying e = some (.int .i64) ∧ ∃ i, P.info? e = some i ∧ i.zero = some (.int .i64 0) := by
 unfold VD at h
 cases hu : P.underlying t with
 | none => simp [hu] at h
 | some de =>
  cases de <;> simp [hu] at h
  rename_i k e
  refine ⟨k, e, rfl, ?_⟩
  obtain ⟨h1, h2⟩ := h
  refine ⟨?_, ?_, ?_⟩
  ·cases hk : P.underlying k with
   | none => simp [hk] at h1
   | some dk =>
    cases dk <;> simp [hk] at h1
    rename_i q
    cases q <;> (try simp at h1)
    rfl
  ·cases hk : P.underlying k with
   | none => simp [hk] at h1
   | some dk =>
    cases dk <;> simp [hk] at h1
    rename_i q
    cases q <;> (try simp at h1)
    cases he : P.underlying e with
    | none => simp [he] at h1
    | some dk =>
     cases dk <;> simp [he] at h1
     rename_i q
     cases q <;> (try simp at h1)
     rfl
  ·cases hi : P.info? e with
   | none => simp [hi] at h2
   | some i =>
    rw [hi] at h2
    refine ⟨i, rfl, ?_⟩
    revert h2
    simp only
    split
    ·rename_i h; intro _; exact h
    ·simp
theorem run_findKey {k : TypeId} (hk : P.underlying k = some (.int .i64)) {n : Int} {ms : Array MapEntry} {es : List (Int × Int)} (hr : X0f ms es) (w : World) :
  (Instr.findKey k (.int .i64 n) ms.toList).run P w = .ok ((YO es n).map fun i => (i, Value.int .i64 (XW es n))) w := by
 have := MapKept.run_findKey (w := w) hk (X3y n ms.toList es 0 hr)
 simpa using this
theorem X0e (n : Int) : MapKept.IsKey (.int .i64) (.int .i64 n) := by simp [MapKept.IsKey]
theorem X3z {g : Gh} {w : World} {γ : Nat} {es : List (Int × Int)} {u : Value} (ho : Y3 g w γ (.imap es)) (hs : (AVal.inn γ 0).sat g u) : u = .map (some (g.blk γ)) := by
 simp only [AVal.sat] at hs
 rw [hs.2.1]
 exact ho.1.2
theorem X8k {t : TypeId} {γ : Nat} (hdead : S.obj γ = .dead) (hf : S.free γ = true) (hd : Nat.blt d S.n = true) (hg : X9 ops S gd)
  (h : Walk P ops draw K rest ((l.length, ⟨some d, .makeMap t none, ty, pos, aft, gd⟩, ⟨X7 ops gd ++ [], some (d, .inn γ 0), [(γ, .dead)], [(γ, .imap [])], [γ]⟩) :: l) ((S.set d (.inn γ 0)).own γ (.imap []))) :
  Walk P ops draw K (⟨some d, .makeMap t none, ty, pos, aft, gd⟩ :: rest) l S :=
 Xp ⟨[], some (d, .inn γ 0), [(γ, .dead)], [(γ, .imap [])], [γ]⟩ (UZ rfl fun E S g a w hs hq hl hn => by
  let g' : Gh := { blk := fun k => if k = γ then w.heap.size else g.blk k, hd := fun k => if k = γ then .slice none 1 1 else g.hd k, ihd := fun k => if k = γ then fun _ => .map (some w.heap.size) else g.ihd k, M := g.M }
  have hkeep : ∀ k, k ≠ γ → g.keeps g' k := fun k hk => Gh.keeps_of (by simp [g', hk]) (by simp [g', hk]) (by simp [g', hk])
  refine ⟨.map (some w.heap.size), g', w.alloc (.map #[] 0), ?_, ?_, ?_, ?_⟩
  ·simp only [execOp, Instr.makeMap, Option.map_none, newObj]
   rfl
  ·simp only [AVal.sat]
   exact ⟨rfl, by simp [g'], none, 1, 1, by simp [g'], by omega⟩
  ·refine Inv.upd hs.1 γ _ (Y5 _ _ _ _) (fun k hk => Yg _ _ _ (Ne.symm hk)) (fun b hb _ => Uy w _ b hb) (VC w _) rfl rfl rfl
    (fun k hk => ⟨by simp [g', hk], by simp [g', hk], by simp [g', hk]⟩) (fun k cs us hk hL hsat => YV (g := g) (g' := g') (Xx.refl _) cs us (fun j hj => hkeep j (fun e => ?_)) hsat) ?_ (fun k hk => .inr ?_) (fun hlt => ?_)
   ·have := X1t hn.1 k
    rw [hL] at this
    rw [e] at hj
    simp only [AObj.ment] at this
    rw [this] at hj
    simp at hj
   ·refine ⟨⟨by simp [g'], by simp [g']⟩, #[], 0, ?_, rfl⟩
    simp only [g', if_true]
    exact heap_alloc_new w _
   ·have hk : g'.blk γ = k := hk
    simp only [g', if_true] at hk
    omega
   ·have := hn.1
    simp only [St.free, Bool.and_eq_true, Nat.ble_eq] at this
    omega
  ·intro t
   exact AVal.sat_mono (g := g) (g' := g') (Xx.refl _) _ _ (fun k hk => hkeep k (fun e => by have := X1F hn.1 t; rw [e, this] at hk; simp at hk)) (hs.2.2.2 t)) hg ⟨trivial, ⟨hdead, trivial⟩, ⟨hf, trivial⟩, hd⟩ h
theorem X6w {t : TypeId} {x k : Operand} {γ : Nat} {es : List (Int × Int)} {n : Int} (hx : S.ev x = .inn γ 0) (hk : S.ev k = .d (.v (.int .i64 n))) (hL : S.obj γ = .imap es) (ht : VD P t = true)
  (hd : Nat.blt d S.n = true) (hg : X9 ops S gd)
  (h : Walk P ops draw K rest ((l.length, ⟨some d, .lookup t x k false, ty, pos, aft, gd⟩, ⟨X7 ops gd ++ [(x, .inn γ 0), (k, .d (.v (.int .i64 n)))], some (d, .d (.v (.int .i64 (XW es n)))), [(γ, .imap es)], [], []⟩) :: l) (S.set d (.d (.v (.int .i64 (XW es n)))))) :
  Walk P ops draw K (⟨some d, .lookup t x k false, ty, pos, aft, gd⟩ :: rest) l S := by
 refine Xp ⟨[(x, .inn γ 0), (k, .d (.v (.int .i64 n)))], some (d, .d (.v (.int .i64 (XW es n)))), [(γ, .imap es)], [], []⟩ (XG rfl fun E S g a w hs hq hl => ?_) hg ⟨⟨hx, hk, trivial⟩, ⟨hL, trivial⟩, trivial, hd⟩ h
 obtain ⟨kt, et, t1, t2, t3, t4⟩ := X3O ht
 have ho := hs.1.obj γ
 rw [hl.1] at ho
 have e1 := X3z ho hq.1
 have e2 := Y8 hq.2.1
 obtain ⟨_, ms, clock, h1, h2⟩ := ho
 obtain ⟨i, ti, tz⟩ := t4
 have hz : (zeroValue et).run P w = .ok (.int .i64 0) w := by simp [zeroValue, typeInfo, ti, tz, Result.andThen]
 refine ⟨.int .i64 (XW es n), ?_, by simp [AVal.sat, D.rep, Value.oneCell']⟩
 have hf := run_findKey t2 (n := n) h2 w
 cases hat : YO es n with
 | none =>
  rw [hat] at hf
  rw [(X1W hat).1]
  simp [execOp, e1, e2, Instr.lookup, run_underlying t1, MapKept.run_getObj_map h1, MapKept.run_checkKey t2 (X0e n), hf, hz, Result.andThen]
 | some j =>
  rw [hat] at hf
  simp [execOp, e1, e2, Instr.lookup, run_underlying t1, MapKept.run_getObj_map h1, MapKept.run_checkKey t2 (X0e n), hf, hz, Result.andThen]
theorem X80 {t : TypeId} {x k v : Operand} {γ : Nat} {es : List (Int × Int)} {n m : Int} (hx : S.ev x = .inn γ 0) (hk : S.ev k = .d (.v (.int .i64 n))) (hv : S.ev v = .d (.v (.int .i64 m))) (hL : S.obj γ = .imap es) (ht : VD P t = true)
  (hg : X9 ops S gd)
  (h : Walk P ops draw K rest ((l.length, ⟨none, .mapUpdate t x k v, ty, pos, aft, gd⟩, ⟨X7 ops gd ++ [(x, .inn γ 0), (k, .d (.v (.int .i64 n))), (v, .d (.v (.int .i64 m)))], none, [(γ, .imap es)], [(γ, .imap (Yw es n m))], []⟩) :: l) (S.own γ (.imap (Yw es n m)))) :
  Walk P ops draw K (⟨none, .mapUpdate t x k v, ty, pos, aft, gd⟩ :: rest) l S := by
 refine Xp ⟨[(x, .inn γ 0), (k, .d (.v (.int .i64 n))), (v, .d (.v (.int .i64 m)))], none, [(γ, .imap es)], [(γ, .imap (Yw es n m))], []⟩ (X1v rfl fun E S g a w hs hq hl hn => ?_) hg ⟨⟨hx, hk, hv, trivial⟩, ⟨hL, trivial⟩, trivial, trivial⟩ h
 obtain ⟨kt, et, t1, t2, t3, t4⟩ := X3O ht
 have ho := hs.1.obj γ
 rw [hl.1] at ho
 have e1 := X3z ho hq.1
 have e2 := Y8 hq.2.1
 have e3 := Y8 hq.2.2.1
 obtain ⟨ho1, ms, clock, h1, h2⟩ := ho
 have hb := (Array.getElem?_eq_some_iff.1 h1).1
 have hf := run_findKey t2 (n := n) h2 w
 have hlen : ms.size = es.length := by
  have := congrArg List.length h2
  simpa using this
 obtain ⟨ms', clock', hrun, hrel⟩ : ∃ ms' clock', (Instr.mapUpdate t (.map (some (g.blk γ))) (.int .i64 n) (.int .i64 m)).run P w = .ok () { w with heap := w.heap.setIfInBounds (g.blk γ) (.map ms' clock') } ∧ X0f ms' (Yw es n m) := by
  cases hat : YO es n with
  | none =>
   rw [hat] at hf
   refine ⟨ms.push { key := .int .i64 n, val := .int .i64 m, born := clock }, clock + 1, ?_, ?_⟩
   ·simp [Instr.mapUpdate, run_underlying t1, MapKept.run_getObj_map h1, MapKept.run_checkKey t2 (X0e n), hf, MapKept.run_setObj_map _ h1, Result.andThen]
   ·rw [(X1W hat).2 m]
    unfold X0f at h2 ⊢
    simp [h2]
  | some j =>
   rw [hat] at hf
   obtain ⟨hj, hk1, hk2⟩ := X2Y hat
   have hjm : j < ms.size := by omega
   have hkey : ms[j].key = .int .i64 n := by
    have := congrArg (fun l => l[j]?) h2
    simp only [List.getElem?_map, Array.getElem?_toList, Array.getElem?_eq_getElem hjm, List.getElem?_eq_getElem hj, Option.map_some, Option.some.injEq, Prod.mk.injEq] at this
    rw [this.1, hk1]
   refine ⟨ms.modify j fun e => { e with key := .int .i64 n, val := .int .i64 m }, clock, ?_, ?_⟩
   ·simp [Instr.mapUpdate, run_underlying t1, MapKept.run_getObj_map h1, MapKept.run_checkKey t2 (X0e n), hf, MapKept.run_setObj_map _ h1, Result.andThen, Array.getElem?_eq_getElem hjm, hkey, MapKept.run_keyThatStays (X0e n)]
   ·rw [hk2 m]
    unfold X0f at h2 ⊢
    apply List.ext_getElem?
    intro i
    have hi := congrArg (fun l => l[i]?) h2
    simp only [List.getElem?_map, Array.getElem?_toList] at hi
    simp only [List.getElem?_map, Array.getElem?_toList, Array.getElem?_modify, List.getElem?_set]
    by_cases hij : j = i
    ·subst hij
     simp [Array.getElem?_eq_getElem hjm, hj]
    ·simp only [if_neg hij]
     exact hi
 refine ⟨g, { w with heap := w.heap.setIfInBounds (g.blk γ) (.map ms' clock') }, ?_, ?_, hs.2.2.2⟩
 ·simp only [execOp, e1, e2, e3, Sem.run_bind, hrun]
  rfl
 ·refine Inv.upd hs.1 γ _ (Y5 _ _ _ _) (fun k hk => Yg _ _ _ (Ne.symm hk)) (fun b hb2 hnl => ?_) (by simp) rfl rfl rfl (fun _ _ => ⟨rfl, rfl, rfl⟩) (fun _ _ _ _ _ h => h) ?_ (fun b hb2 => .inl ?_) (fun _ => Gh.keeps_refl _ _)
  ·have hne : g.blk γ ≠ b := fun e => hnl (by rw [hl.1]; exact e)
   simp [Array.getElem?_setIfInBounds, hne]
  ·exact ⟨ho1, ms', clock', by simp [Array.getElem?_setIfInBounds, hb], hrel⟩
  ·rw [hl.1]; exact hb2
end
end Go.Fw
namespace Go.Fw
open Go
set_option linter.unusedVariables false
set_option linter.unusedSimpArgs false
def X15 (P : Program) (t : TypeId) (n sz : Nat) : Bool :=
 match P.underlying t with
 | some (.array m e) => Nat.beq m n && (match P.info? e with | some i => Nat.beq i.size sz | none => false)
 | _ => false
theorem X90 {P : Program} {t : TypeId} {n sz : Nat} (h : X15 P t n sz = true) : P.underlying t = some (.array (P.arrayLen t) (P.elem t)) ∧ P.arrayLen t = n ∧ ∀ w, (sizeOf (P.elem t)).run P w = .ok sz w := by
 unfold X15 at h
 cases hu : P.underlying t with
 | none => simp [hu] at h
 | some de =>
  cases de <;> rw [hu] at h <;> simp at h
  rename_i m e
  cases hq : P.info? e with
  | none => simp [hq] at h
  | some i =>
   rw [hq] at h
   obtain ⟨h1, h2⟩ := h
   have h2 : i.size = sz := by simpa using h2
   have h1 : m = n := by simpa using h1
   have ha : P.arrayLen t = m := by simp [Program.arrayLen, hu]
   have he : P.elem t = e := by simp [Program.elem, hu]
   exact ⟨by rw [ha, he], by rw [ha, h1], fun w => by rw [he]; simp [sizeOf, typeInfo, hq, h2]⟩
section
variable {P : Program} {ops : Array Oper} {draw : Bool} {K : St → Prop} {rest : List Oper} {l : XE} {S : St}
variable {d : Nat} {ty : TypeId} {pos : String} {aft : Array Edge} {gd : Option (Nat × Bool)}
theorem X65 {x i : Operand} {T : TypeId} {γ o off n sz k : Nat} {kd : IntKind} {m : Int} (hx : S.ev x = .ptr γ o) (hi : S.ev i = .d (.v (.int kd m))) (hT : X15 P T n sz = true) (hk : m = (k : Nat)) (hlt : k < n)
  (hoff : o + k * sz = off) (hd : Nat.blt d S.n = true) (hg : X9 ops S gd)
  (h : Walk P ops draw K rest ((l.length, ⟨some d, .indexAddr T x i, ty, pos, aft, gd⟩, ⟨X7 ops gd ++ [(x, .ptr γ o), (i, .d (.v (.int kd m)))], some (d, .ptr γ off), [], [], []⟩) :: l) (S.set d (.ptr γ off))) :
  Walk P ops draw K (⟨some d, .indexAddr T x i, ty, pos, aft, gd⟩ :: rest) l S :=
 Xp ⟨[(x, .ptr γ o), (i, .d (.v (.int kd m)))], some (d, .ptr γ off), [], [], []⟩ (XG rfl fun E S g a w hs hq hl => by
  obtain ⟨h1, h2, h3⟩ := X90 hT
  have hp : a.eval x = .pointer (some ⟨g.blk γ, o, none⟩) := by have := hq.1; simpa only [AVal.sat] using this
  refine ⟨.pointer (some ⟨g.blk γ, off, none⟩), ?_, by simp only [AVal.sat]⟩
  have hb : (0 : Int) ≤ m ∧ m < (P.arrayLen T : Int) := by rw [h2]; omega
  have hm : m.toNat = k := by omega
  have := run_indexAt_array (P := P) (w := w) T ⟨g.blk γ, o, none⟩ kd m h1
  rw [if_pos hb, h3 w, Result.andThen_ok, Yq, hm, hoff] at this
  simp only [execOp, hp, Y8 hq.2.1, Sem.run_bind, this]; rfl) hg ⟨⟨hx, hi, trivial⟩, trivial, trivial, hd⟩ h
end
end Go.Fw
namespace Go.Fw
open Go
set_option linter.unusedVariables false
set_option linter.unusedSimpArgs false
def Uq (W W' : World) : Prop := W'.os = W.os ∧ W'.output = W.output ∧ W.heap.size ≤ W'.heap.size ∧ ∀ b, b < W.heap.size → W'.heap[b]? = W.heap[b]?
def g0 (M : Mem) : Gh := ⟨fun _ => 0, fun _ => .slice none 0 0, fun _ _ => .slice none 0 0, M⟩
theorem X53 {P : Program} {f : FuncId} {as : List AVal} {res : AVal} {args : Array Value} {W : World} (hc : Con P f [] as [] res) (M : Mem) (hM : ∀ a v, M a = some v → W.cell? a = some v)
  (hs : Xa (g0 M) as args.toList) : Calls P f args W fun e W' => ∃ v g', e = .returned v ∧ res.sat g' v ∧ Uq W W' := by
 have hi : Inv (Yn (g0 M) W []) (Xb .dead []) (g0 M) W := by
  refine ⟨fun _ => trivial, fun _ _ _ h => h.elim, hM, fun _ _ h => h.elim, fun _ _ h => h.elim, Xx.refl _, fun a v h => .inl ⟨v, h⟩, fun _ _ _ => rfl, Nat.le_refl _, rfl, rfl, fun γ _ => Gh.keeps_refl _ _⟩
 refine (hc (g0 M) W args.toList hi hs).mono ?_
 rintro e W' ⟨v, g', rfl, hv, hi', _⟩
 exact ⟨v, g', rfl, hv, hi'.os, hi'.out, hi'.size, fun b hb => hi'.frame b hb fun ⟨γ, h⟩ => h.elim⟩
theorem Uq.but {W W' : World} (h : Uq W W') (may : MemPlace → Prop) : W.keptBut W' may := by
 refine ⟨h.1, h.2.1, fun i hi => ?_⟩
 have e := h.2.2.2 i hi
 have := (World.keptBut_refl W may).2.2 i hi
 rw [e]; exact this
theorem Uq.frozen {W W' : World} (h : Uq W W') {a : Addr} (ha : a.block < W.heap.size) : W'.frozen? a = W.frozen? a := by
 unfold World.frozen?
 rw [h.2.2.2 _ ha]
section
open Go.ChangeShapes Go.WideShapes Go.ChangeAt Go.RowKit
variable {H : Type} {enc : TypeId × Value → H} {P : Program}
theorem Uq.same {W W' : World} (h : Uq W W') {p : MemPlace} (hp : p.block < W.heap.size) : W.sameAt W' p := by
 cases p with
 | cell b off =>
  show W'.cell? _ = W.cell? _
  have := h.2.2.2 b hp
  simp only [World.cell?, this]
 | map b => exact h.2.2.2 b hp
theorem X4H {W W' : World} (h : Uq W W') {base : Nat} {spare : Nat → Bool} {held : Bool} : ∀ {ts : List TypeId} {vs : List Value} {ds : List (DataW H)} {ps : List MemPlace}, DataW.TrodAll enc P W base spare held ts vs ds ps → DataW.TrodAll enc P W' base spare held ts vs ds ps
 | [], [], [], _, k => k
 | _ :: _, _ :: _, _ :: _, _, ⟨p, q, ⟨n, h1⟩, h2, e⟩ =>
  ⟨p, q, ⟨n, DataW.trod_carry n _ _ _ h1 fun x hx => h.same (DataW.trod_lt n _ _ _ h1 x hx)⟩, X4H h h2, e⟩
theorem X60 {f : Func} {s : ChangeSpec} {apart fresh handsOn again : Bool} {W W' : World} {args : Array Value} {ds gs : List (DataW H)} {before : List MemPlace} {tb : TypeId} {T : TypeId → Prop}
  (hW : DataW.Whole enc P f.params.toList s.vars apart W args.toList ds gs before) (hv : s.vars = [])
  (h1 : (s.fn H (ds ++ gs)).results = [.lit (.bool true)]) (h2 : (s.fn H (ds ++ gs)).args = ds) (h3 : (s.fn H (ds ++ gs)).vars = gs)
  (hrt : f.resultTypes = #[tb]) (htb : P.underlying tb = some .bool) (hk : Uq W W') (K : Kids P T) (hz : ∀ t e, T t → P.underlying t = some (.slice e) → 0 < P.cellsOf e) (hT : ∀ t ∈ f.params.toList, T t) :
  s.post enc P f apart fresh handsOn again W args (.bool true) W' := by
 have hlt := hW.lt
 have hW' := hW
 obtain ⟨p, q, hA, hV, hpq, hfr, hnd⟩ := hW
 have hV' : ∀ sp : Nat → Bool, DataW.TrodVars enc P W' sp s.vars (s.fn H (ds ++ gs)).vars q := by
  intro sp
  rw [h3]
  rw [hv] at hV ⊢
  obtain ⟨e1, e2⟩ := trodVars_none hV
  subst e1 e2
  rfl
 have hres : ∀ (b : Nat) (sp : Nat → Bool) (hd : Bool), DataW.TrodAll enc P W' b sp hd f.resultTypes.toList ((Value.bool true).resultList f.resultTypes.size) (s.fn H (ds ++ gs)).results [] := by
  intro b sp hd
  rw [h1, hrt]
  exact trodAll_mk1 (shut_bool htb true)
 have hargs : ∀ sp : Nat → Bool, (∀ x ∈ before, sp x.block = true) → DataW.TrodAll enc P W' 0 sp true f.params.toList args.toList (s.fn H (ds ++ gs)).args p := by
  intro sp hsp
  rw [h2]
  exact DataW.TrodAll.respare K hz hT (X4H hk hA) fun x hx => hsp x (by rw [hpq]; exact List.mem_append_left _ hx)
 have hold : ∀ x ∈ before, (fun b => decide (b < W.heap.size)) x.block = true := fun x hx => by simpa using hlt x hx
 refine ⟨ds, gs, before, [], p, q, hW', hres _ _ _, hargs _ hold, hV' _, hk.but _, fun _ => ?_⟩
 refine ⟨ok_one hrt rfl (okWide_bool_mk htb true), _, _, ([] ++ p) ++ q, ⟨[] ++ p, q, trodAll_append (hargs _ (fun _ _ => rfl)) (hres _ _ _), hV' _, rfl, ?_, ?_⟩, ?_⟩
 ·intro b off hp
  have hm : MemPlace.cell b off ∈ before := by rw [hpq]; simpa using hp
  rw [hk.frozen (a := ⟨b, off, none⟩) (hlt _ hm)]
  exact hfr b off hm
 ·intro ha
  have := hnd ha
  rw [hpq] at this
  simpa using this
 ·intro x hx _
  rw [hpq]
  simpa using hx
end
end Go.Fw
