/- Structs and arrays of scalars compared. -/
import Derived.Laws.StructEq
import Derived.WalkKit
import Derived.ProofKit
import Derived.ChangeSame
import Derived.OpenShut
import Derived.Deep.Slices
import Derived.Deep.Strs
import Derived.Lib.BytesEntry
import Derived.Lib.IndexLaws
import Derived.Test.YtpfldfkhgplcgaaGreatDoorM07
namespace Go.Fw
open Go
set_option linter.unusedVariables false
inductive SK where
 | i (k : IntKind)
 | b
 | s
def SK.of (P : Program) (t : TypeId) : Option SK := match P.underlying t with | some (.int k) => some (.i k) | some .bool => some .b | some .string => some .s | _ => none
def UF : Value → Option SK
 | .int k _ => some (.i k)
 | .bool _ => some .b
 | .string _ => some .s
 | _ => none
def X0D : Value → Value → Bool
 | .int _ a, .int _ b => decide (a = b)
 | .bool a, .bool b => decide (a = b)
 | .string a, .string b => decide (a.data.toList = b.data.toList)
 | _, _ => false
def VH : List Value → List Value → Bool
 | a :: aZ, b :: bs => X0D a b && VH aZ bs
 | _, _ => true
def X2O (P : Program) : Nat → List Field → Option (List SK)
 | _, [] => some []
 | i, f :: fs => if f.name ≠ "_" ∧ f.offset = i ∧ Up P f.type false 1 = true then (SK.of P f.type).bind fun k => (X2O P (i + 1) fs).map (k :: ·) else none
def X2q (P : Program) (t : TypeId) : Option (List SK) :=
 match P.underlying t with
 | some (.struct fs) => if P.stoodInHeld t = false ∧ P.eqGuardType P.depth t = false then X2O P 0 fs.toList else none
 | some (.array n e) => if P.eqGuardType P.depth t = false ∧ Up P e false 1 = true then (SK.of P e).map fun k => List.replicate n k else none
 | _ => none
section
variable {P : Program}
theorem Xbd {d : Nat} {t : TypeId} {k : SK} {u v : Value} (hk : SK.of P t = some k) (hu : UF u = some k) (hv : UF v = some k) (w : World) : (Op.equalIn (d + 1) t u v).run P w = .ok (X0D u v) w := by
 unfold SK.of at hk
 cases ht : P.underlying t with
 | none => simp [ht] at hk
 | some de =>
  rw [ht] at hk
  cases de <;> simp at hk <;> subst hk <;> cases u <;> simp [UF] at hu <;> cases v <;> simp [UF] at hv
  ·rw [run_equalIn_bool w d t _ _ ht]; simp [X0D, Bool.beq_eq_decide_eq]
  ·subst hu; subst hv
   rw [run_equalIn_int w d t _ _ _ _ ht]; simp [X0D, Bool.beq_eq_decide_eq]
  ·rw [run_equalIn_string w d t _ _ ht, ByteArray.toList_eq, ByteArray.toList_eq]
   simp [X0D, Bool.beq_eq_decide_eq]
theorem Xaw {d : Nat} {xs ys : Array Value} : ∀ (fs : List Field) (i : Nat) (ks : List SK) (us vs : List Value), X2O P i fs = some ks → us.map UF = ks.map some → vs.map UF = ks.map some →
  (∀ j u, us[j]? = some u → xs[i + j]? = some u) → (∀ j u, vs[j]? = some u → ys[i + j]? = some u) → ∀ w, (Op.eqFields (d + 1) xs ys fs).run P w = .ok (VH us vs) w
 | [], i, ks, us, vs, hf, hu, hv, hx, hy, w => by
  simp [X2O] at hf; subst hf
  simp at hu hv; subst hu; subst hv
  rfl
 | f :: fs, i, ks, us, vs, hf, hu, hv, hx, hy, w => by
  unfold X2O at hf
  split at hf
  case isFalse => cases hf
  rename_i hc
  obtain ⟨c1, c2, c3⟩ := hc
  cases hk : SK.of P f.type with
  | none => simp [hk] at hf
  | some k =>
   cases hr : X2O P (i + 1) fs with
   | none => simp [hk, hr] at hf
   | some kr =>
    simp [hk, hr] at hf; subst hf
    cases us with
    | nil => simp at hu
    | cons u us =>
     cases vs with
     | nil => simp at hv
     | cons v vs =>
      simp only [List.map_cons, List.cons.injEq] at hu hv
      have h1 : xs[f.offset]? = some u := by rw [c2]; exact hx 0 u rfl
      have h2 : ys[f.offset]? = some v := by rw [c2]; exact hy 0 v rfl
      have ih := Xaw (d := d) (xs := xs) (ys := ys) fs (i + 1) kr us vs hr hu.2 hv.2 (fun j u hj => by have := hx (j + 1) u hj; rwa [show i + (j + 1) = i + 1 + j by omega] at this) (fun j u hj => by have := hy (j + 1) u hj; rwa [show i + (j + 1) = i + 1 + j by omega] at this) w
      have p1 := X3P c3 xs f.offset w
      have p2 := X3P c3 ys f.offset w
      rw [h1] at p1; rw [h2] at p2
      simp only [Bool.false_eq_true, if_false] at p1 p2
      unfold Op.eqFields
      rw [if_pos c1]
      simp only [Sem.run_bind, p1, p2, Result.andThen_ok, Xbd hk hu.1 hv.1]
      unfold VH
      cases hs : X0D u v with
      | false => simp
      | true => simpa using ih
theorem Xhu {n : Nat} {k : SK} {us vs : List Value} (hu : us.map UF = (List.replicate n k).map some) (hv : vs.map UF = (List.replicate n k).map some) : us.length = n ∧ vs.length = n := by
 have h1 := congrArg List.length hu
 have h2 := congrArg List.length hv
 simp only [List.length_map, List.length_replicate] at h1 h2
 exact ⟨h1, h2⟩
theorem XhX {t : TypeId} {ks : List SK} {us vs : List Value} (hk : X2q P t = some ks) (hu : us.map UF = ks.map some) (hv : vs.map UF = ks.map some) (w : World) :
  (Op.equalIn 10000 t (.agg us.toArray) (.agg vs.toArray)).run P w = .ok (VH us vs) w ∧ P.eqGuardType P.depth t = false := by
 unfold X2q at hk
 split at hk
 ·rename_i fs hfs
  split at hk
  case isFalse => cases hk
  rename_i hc
  have hF : P.fieldsOf t = fs := by simp [Program.fieldsOf, hfs]
  refine ⟨?_, hc.2⟩
  rw [show (10000 : Nat) = 9998 + 1 + 1 from rfl, run_equalIn_agg w (9998 + 1) t _ _ (by rw [hF]; exact hfs) hc.1, hF]
  exact Xaw fs.toList 0 ks us vs hk hu hv (fun j u hj => by simpa using hj) (fun j u hj => by simpa using hj) w
 ·rename_i n e he
  split at hk
  case isFalse => cases hk
  rename_i hc
  refine ⟨?_, hc.1⟩
  cases hs : SK.of P e with
  | none => simp [hs] at hk
  | some k =>
   simp [hs] at hk; subst hk
   have hl := Xhu hu hv
   have hsz := (X2X hc.2).2
   rw [show (10000 : Nat) = 9998 + 1 + 1 from rfl, Op.equalIn]
   simp only [Sem.run_bind, run_underlying he, Result.andThen_ok, hsz]
   rw [Std.Legacy.Range.forIn_eq_forIn_range']
   simp only [Std.Legacy.Range.size, Nat.sub_zero, Nat.add_sub_cancel, Nat.div_one, Nat.mul_one]
   have key : ∀ (m i : Nat), i + m = n → ∀ w, ((forIn (List.range' i m) ((none, ()) : Option Bool × Unit) fun i r => do
     let __do_lift ← part e us.toArray i
     let __do_lift_1 ← part e vs.toArray i
     let __do_lift ← Op.equalIn (9998 + 1) e __do_lift __do_lift_1
     if (!__do_lift) = true then pure (ForInStep.done (some false, ())) else pure (ForInStep.yield (none, ())) : Sem (Option Bool × Unit))).run P w = .ok (if VH (us.drop i) (vs.drop i) = true then (none, ()) else (some false, ())) w := by
    intro m
    induction m with
    | zero =>
     intro i hi w
     rw [List.drop_of_length_le (by omega), List.drop_of_length_le (by omega)]
     rfl
    | succ m ih =>
     intro i hi w
     have l1 : i < us.length := by omega
     have l2 : i < vs.length := by omega
     have g1 : UF us[i] = some k := by
      have := congrArg (·[i]?) hu
      simp [l1] at this
      rw [List.getElem?_replicate] at this
      simpa [show i < n by omega] using this
     have g2 : UF vs[i] = some k := by
      have := congrArg (·[i]?) hv
      simp [l2] at this
      rw [List.getElem?_replicate] at this
      simpa [show i < n by omega] using this
     have p1 := X3P hc.2 us.toArray i w
     have p2 := X3P hc.2 vs.toArray i w
     simp only [List.getElem?_toArray, List.getElem?_eq_getElem l1, List.getElem?_eq_getElem l2, Bool.false_eq_true, if_false] at p1 p2
     rw [List.range'_succ, List.forIn_cons]
     simp only [Sem.run_bind, p1, p2, Result.andThen_ok, Xbd hs g1 g2, Sem.run_ite]
     rw [List.drop_eq_getElem_cons l1, List.drop_eq_getElem_cons l2]
     unfold VH
     cases hq : X0D us[i] vs[i] with
     | false => simp
     | true =>
      simp only [Bool.not_true, Bool.false_eq_true, if_false, Sem.run_pure, Result.andThen_ok, Bool.true_and]
      exact ih (i + 1) (by omega) w
   have := key n 0 (by omega) w
   simp only [List.drop_zero] at this
   rw [this]
   cases VH us vs <;> simp
 ·cases hk
theorem Xgf {t : TypeId} {x y : Operand} {ks : List SK} {us vs : List Value} {r : Bool} (hk : X2q P t = some ks) (hu : us.map UF = ks.map some) (hv : vs.map UF = ks.map some) (hr : VH us vs = r) (w : World) :
  (do eqGuard .neq t x y (.agg us.toArray) (.agg vs.toArray); binOp .neq t (.agg us.toArray) (.agg vs.toArray) : Sem Value).run P w = .ok (.bool (!r)) w := by
 have h := XhX hk hu hv w
 rw [Sem.run_bind, run_eqGuard_agg w _ _ _ _ _ _ h.2, Result.andThen_ok, run_neq_struct, h.1, Result.andThen_ok, hr]
theorem X9k {g : Gh} : ∀ {us : List Value} {vs : List Value}, Xm g (dvL us) vs → vs = us
 | [], [], _ => rfl
 | [], _ :: _, h => by simp only [dvL, Xm] at h
 | _ :: _, [], h => by simp only [dvL, Xm] at h
 | u :: us, v :: vs, h => by
  simp only [dvL, Xm] at h
  rw [Yt h.1, X9k h.2]
end
section
variable {P : Program} {ops : Array Oper} {draw : Bool} {K : St → Prop} {rest : List Oper} {l : Yb} {S : St} {ty : TypeId} {pos : String} {aft : Array Edge} {gd : Option (Nat × Bool)} {d : Nat}
theorem Xbj {g : Gh} {us : List Value} {v : Value} (h : (AVal.agg (dvL us)).sat g v) : v = .agg us.toArray := by
 simp only [AVal.sat] at h
 obtain ⟨vs, rfl, h⟩ := h
 rw [← X9k h]
theorem Xf6 {xt yt : TypeId} {x y : Operand} {us vs : List Value} {r : Bool} {ks : List SK} {cs es : List AVal} (hk : X2q P xt = some ks) (hx : S.ev x = .agg cs) (hy : S.ev y = .agg es) (hcs : cs = dvL us) (hes : es = dvL vs) (hu : us.map UF = ks.map some) (hv : vs.map UF = ks.map some)
  (hr : VH us vs = r) (hd : Nat.blt d S.n = true) (hg : Xe ops S gd)
  (h : Walk P ops draw K rest ((l.length, ⟨some d, .binOp .neq xt x y yt, ty, pos, aft, gd⟩, ⟨Xd ops gd ++ [(x, .agg cs), (y, .agg es)], some (d, ab (!r)), [], [], []⟩) :: l) (S.set d (ab (!r)))) :
  Walk P ops draw K (⟨some d, .binOp .neq xt x y yt, ty, pos, aft, gd⟩ :: rest) l S := by
 subst hcs; subst hes
 exact XG ⟨[(x, .agg (dvL us)), (y, .agg (dvL vs))], some (d, ab (!r)), [], [], []⟩ (Yo rfl fun E S g a w hs hq _ => by
  refine ⟨.bool (!r), ?_, UU rfl⟩
  have := Xgf (x := x) (y := y) hk hu hv hr w
  simp only [execOp, Xbj hq.1, Xbj hq.2.1, Sem.run_bind, Sem.run_pure] at this ⊢
  rw [this]; rfl) hg ⟨⟨hx, hy, trivial⟩, trivial, trivial, hd⟩ h
end
set_option linter.unusedSimpArgs false
section
variable {P : Program} {ops : Array Oper} {draw : Bool} {K : St → Prop} {rest : List Oper} {l : Yb} {S : St}
variable {d : Nat} {ty : TypeId} {pos : String} {aft : Array Edge} {gd : Option (Nat × Bool)}
theorem Xho {x : Operand} {T : TypeId} {γ n : Nat} (hx : S.ev x = .bsl γ n) (hT : isSl P T = true)
  (hd : Nat.blt d S.n = true) (hg : Xe ops S gd)
  (h : Walk P ops draw K rest ((l.length, ⟨some d, .call ⟨.builtin .len, #[x], #[T]⟩, ty, pos, aft, gd⟩, ⟨Xd ops gd ++ [(x, .bsl γ n)], some (d, ai n), [], [], []⟩) :: l) (S.set d (ai n))) :
  Walk P ops draw K (⟨some d, .call ⟨.builtin .len, #[x], #[T]⟩, ty, pos, aft, gd⟩ :: rest) l S :=
 XG ⟨[(x, .bsl γ n)], some (d, ai n), [], [], []⟩ (Yo rfl fun E S g a w hs hq hl => by
  obtain ⟨e, h1⟩ := X26 hT
  have hv := hq.1
  simp only [AVal.sat] at hv
  refine ⟨.int .i64 n, ?_, UU rfl⟩
  simp [execOp, resolve, invoke, builtin, hv, Builtin.len_, run_underlying h1, goInt]) hg ⟨⟨hx, trivial⟩, trivial, trivial, hd⟩ h
theorem Xca {x i : Operand} {T : TypeId} {γ n k : Nat} {kd : IntKind} {m : Int} (hx : S.ev x = .bsl γ n) (hi : S.ev i = .d (.v (.int kd m))) (hk : m = (k : Nat)) (hlt : k < n)
  (hT : Yh P T 1 = true) (hd : Nat.blt d S.n = true) (hg : Xe ops S gd)
  (h : Walk P ops draw K rest ((l.length, ⟨some d, .indexAddr T x i, ty, pos, aft, gd⟩, ⟨Xd ops gd ++ [(x, .bsl γ n), (i, .d (.v (.int kd m)))], some (d, .ptr γ k), [], [], []⟩) :: l) (S.set d (.ptr γ k))) :
  Walk P ops draw K (⟨some d, .indexAddr T x i, ty, pos, aft, gd⟩ :: rest) l S :=
 XG ⟨[(x, .bsl γ n), (i, .d (.v (.int kd m)))], some (d, .ptr γ k), [], [], []⟩ (Yo rfl fun E S g a w hs hq hl => by
  obtain ⟨e, h1, h2, h3⟩ := VY hT
  have hv := hq.1
  simp only [AVal.sat] at hv
  refine ⟨.pointer (some ⟨g.blk γ, k, none⟩), ?_, by simp only [AVal.sat]⟩
  have hb : (0 : Int) ≤ m ∧ m < (n : Int) := by omega
  have hm : m.toNat = k := by omega
  have := run_indexAt_slice (P := P) w T ⟨g.blk γ, 0, none⟩ n n kd m (by rw [h3]; exact h1)
  rw [if_pos hb, h3, h2 w, Result.andThen_ok, YH, hm, Nat.mul_one, Nat.zero_add] at this
  simp only [execOp, hv, Yt hq.2.1, Sem.run_bind, this]; rfl) hg ⟨⟨hx, hi, trivial⟩, trivial, trivial, hd⟩ h
end
section
variable {P : Program} {E : Env} {S : St} {Q : Exit → St → Prop}
theorem VP {c : Operand} {x y : Code} {p : Prop} {inst : Decidable p} (hc : S.ev c = ab (@decide p inst)) (ht : p → AWP P E x S Q) (hf : ¬ p → AWP P E y S Q) : AWP P E (.cond c x y) S Q :=
 VB hc (fun h => ht (of_decide_eq_true h)) (fun h => hf (of_decide_eq_false h))
theorem X9X {x y : Code} {Q' : Exit → St → Prop} (U : St) (h : AWP P E x S (X2u (fun T => T.le U) Q')) (k : AWP P E y U Q) : AWP P E x S (X2u (fun T => AWP P E y T Q) Q') :=
 X6Z h fun e T hq => by
  cases e with
  | normal => exact Xi hq k
  | _ => exact hq
end
section
variable {P : Program} {ops : Array Oper} {draw : Bool} {K : St → Prop} {rest : List Oper} {l : Yb} {S : St}
theorem XR {o : Oper} {j : Nat} {b : Bool} {p : Prop} {inst : Decidable p} (hg : o.guard = some (j, b)) (hx : S.get (X0l ops j) = ab (@decide p inst)) (ht : p → Walk P ops draw K (o :: rest) l S) (hf : ¬ p → Walk P ops draw K (o :: rest) l S) : Walk P ops draw K (o :: rest) l S := by
 by_cases h : p
 ·exact ht h
 ·exact hf h
theorem X1I {o : Oper} {j : Nat} {b x : Bool} (hg : o.guard = some (j, b)) (hx : S.get (X0l ops j) = ab x) (ht : x = true → Walk P ops draw K (o :: rest) l S) (hf : x = false → Walk P ops draw K (o :: rest) l S) : Walk P ops draw K (o :: rest) l S := by
 cases x
 ·exact hf rfl
 ·exact ht rfl
end
section
variable {P : Program} {E : Env} {S : St} {Q : Exit → St → Prop}
theorem XU {c : Operand} {x y : Code} {b : Bool} (hc : S.ev c = ab (!b)) (ht : b = false → AWP P E x S Q) (hf : b = true → AWP P E y S Q) : AWP P E (.cond c x y) S Q :=
 VB hc (fun h => ht (by simpa using h)) (fun h => hf (by simpa using h))
end
section
variable {P : Program} {ops : Array Oper} {draw : Bool} {K : St → Prop} {rest : List Oper} {l : Yb} {S : St}
theorem Yg {o : Oper} {j : Nat} {b x : Bool} (hg : o.guard = some (j, b)) (hx : S.get (X0l ops j) = ab (!x)) (ht : x = true → Walk P ops draw K (o :: rest) l S) (hf : x = false → Walk P ops draw K (o :: rest) l S) : Walk P ops draw K (o :: rest) l S := by
 cases x
 ·exact hf rfl
 ·exact ht rfl
end
def X0O (W W' : World) : Prop := W'.os = W.os ∧ W'.output = W.output ∧ W.heap.size ≤ W'.heap.size ∧ ∀ b, b < W.heap.size → W'.heap[b]? = W.heap[b]?
def g0 (M : Mem) : Gh := ⟨fun _ => 0, fun _ => .slice none 0 0, fun _ _ => .slice none 0 0, M⟩
theorem X4v {P : Program} {f : FuncId} {aZ : List AVal} {res : AVal} {args : Array Value} {W : World} (hc : Con P f [] aZ [] res) (M : Mem) (hM : ∀ a v, M a = some v → W.cell? a = some v)
  (hs : Xm (g0 M) aZ args.toList) : Calls P f args W fun e W' => ∃ v g', e = .returned v ∧ res.sat g' v ∧ X0O W W' := by
 have hi : Inv (UO (g0 M) W []) (Xl .dead []) (g0 M) W := by
  refine ⟨fun _ => trivial, fun _ _ _ h => h.elim, hM, fun _ _ h => h.elim, fun _ _ h => h.elim, Yk.refl _, fun a v h => .inl ⟨v, h⟩, fun _ _ _ => rfl, Nat.le_refl _, rfl, rfl, fun γ _ => Gh.keeps_refl _ _⟩
 refine (hc (g0 M) W args.toList hi hs).mono ?_
 rintro e W' ⟨v, g', rfl, hv, hi', _⟩
 exact ⟨v, g', rfl, hv, hi'.os, hi'.out, hi'.size, fun b hb => hi'.frame b hb fun ⟨γ, h⟩ => h.elim⟩
theorem X0O.but {W W' : World} (h : X0O W W') (may : MemPlace → Prop) : W.keptBut W' may := by
 refine ⟨h.1, h.2.1, fun i hi => ?_⟩
 have e := h.2.2.2 i hi
 have := (World.keptBut_refl W may).2.2 i hi
 rw [e]; exact this
theorem X0O.frozen {W W' : World} (h : X0O W W') {a : Addr} (ha : a.block < W.heap.size) : W'.frozen? a = W.frozen? a := by
 unfold World.frozen?
 rw [h.2.2.2 _ ha]
section
open Go.ChangeShapes Go.WideShapes Go.ChangeAt Go.RowKit
variable {H : Type} {enc : TypeId × Value → H} {P : Program}
theorem X0O.same {W W' : World} (h : X0O W W') {p : MemPlace} (hp : p.block < W.heap.size) : W.sameAt W' p := by
 cases p with
 | cell b off =>
  show W'.cell? _ = W.cell? _
  have := h.2.2.2 b hp
  simp only [World.cell?, this]
 | map b => exact h.2.2.2 b hp
theorem X83 {W W' : World} (h : X0O W W') {base : Nat} {spare : Nat → Bool} {held : Bool} : ∀ {ts : List TypeId} {vs : List Value} {ds : List (DataW H)} {ps : List MemPlace}, DataW.TrodAll enc P W base spare held ts vs ds ps → DataW.TrodAll enc P W' base spare held ts vs ds ps
 | [], [], [], _, k => k
 | _ :: _, _ :: _, _ :: _, _, ⟨p, q, ⟨n, h1⟩, h2, e⟩ =>
  ⟨p, q, ⟨n, DataW.trod_carry n _ _ _ h1 fun x hx => h.same (DataW.trod_lt n _ _ _ h1 x hx)⟩, X83 h h2, e⟩
theorem X4h {f : Func} {s : ChangeSpec} {apart fresh handsOn again : Bool} {W W' : World} {args : Array Value} {ds gs : List (DataW H)} {before : List MemPlace} {tb : TypeId} {T : TypeId → Prop}
  (hW : DataW.Whole enc P f.params.toList s.vars apart W args.toList ds gs before) (hv : s.vars = [])
  (h1 : (s.fn H (ds ++ gs)).results = [.lit (.bool true)]) (h2 : (s.fn H (ds ++ gs)).args = ds) (h3 : (s.fn H (ds ++ gs)).vars = gs)
  (hrt : f.resultTypes = #[tb]) (htb : P.underlying tb = some .bool) (hk : X0O W W') (K : Kids P T) (hz : ∀ t e, T t → P.underlying t = some (.slice e) → 0 < P.cellsOf e) (hT : ∀ t ∈ f.params.toList, T t) :
  s.post enc P f apart fresh handsOn again W args (.bool true) W' := by
 have hlt := hW.lt
 have hW' := hW
 obtain ⟨p, q, hA, hV, hpq, hfr, hnd⟩ := hW
 have hV' : ∀ sp : Nat → Bool, DataW.TrodVars enc P W' sp s.vars (s.fn H (ds ++ gs)).vars q := by
  intro sp
  rw [h3]
  rw [hv] at hV ⊢
  obtain ⟨e1, e2⟩ := trodVars_none hV
  subst e1 e2
  rfl
 have hres : ∀ (b : Nat) (sp : Nat → Bool) (hd : Bool), DataW.TrodAll enc P W' b sp hd f.resultTypes.toList ((Value.bool true).resultList f.resultTypes.size) (s.fn H (ds ++ gs)).results [] := by
  intro b sp hd
  rw [h1, hrt]
  exact trodAll_mk1 (shut_bool htb true)
 have hargs : ∀ sp : Nat → Bool, (∀ x ∈ before, sp x.block = true) → DataW.TrodAll enc P W' 0 sp true f.params.toList args.toList (s.fn H (ds ++ gs)).args p := by
  intro sp hsp
  rw [h2]
  exact DataW.TrodAll.respare K hz hT (X83 hk hA) fun x hx => hsp x (by rw [hpq]; exact List.mem_append_left _ hx)
 have hold : ∀ x ∈ before, (fun b => decide (b < W.heap.size)) x.block = true := fun x hx => by simpa using hlt x hx
 refine ⟨ds, gs, before, [], p, q, hW', hres _ _ _, hargs _ hold, hV' _, hk.but _, fun _ => ?_⟩
 refine ⟨ok_one hrt rfl (okWide_bool_mk htb true), _, _, ([] ++ p) ++ q, ⟨[] ++ p, q, trodAll_append (hargs _ (fun _ _ => rfl)) (hres _ _ _), hV' _, rfl, ?_, ?_⟩, ?_⟩
 ·intro b off hp
  have hm : MemPlace.cell b off ∈ before := by rw [hpq]; simpa using hp
  rw [hk.frozen (a := ⟨b, off, none⟩) (hlt _ hm)]
  exact hfr b off hm
 ·intro ha
  have := hnd ha
  rw [hpq] at this
  simpa using this
 ·intro x hx _
  rw [hpq]
  simpa using hx
end
open Go Go.ChangeShapes Go.WideShapes Go.Deep
def YG (M : Mem) : List D → List Value → Prop
 | [], [] => True
 | d :: ds, v :: vs => d.rep M v ∧ YG M ds vs
 | _, _ => False
theorem X4G {M : Mem} : ∀ {ds es : List D} {us vs : List Value}, YG M ds us → YG M es vs → YG M (ds ++ es) (us ++ vs)
 | [], _, [], _, _, h => h
 | [], _, _ :: _, _, h, _ => by simp only [YG] at h
 | _ :: _, _, [], _, h, _ => by simp only [YG] at h
 | d :: ds, es, u :: us, vs, h, k => by
  simp only [YG, List.cons_append] at h ⊢
  exact ⟨h.1, X4G h.2 k⟩
theorem X4l {M : Mem} : ∀ {ds : List D} {us : List Value}, YG M ds us → us.length = ds.length
 | [], [], _ => rfl
 | [], _ :: _, h => by simp only [YG] at h
 | _ :: _, [], h => by simp only [YG] at h
 | d :: ds, u :: us, h => by simp only [YG] at h; simp [X4l h.2]
theorem X47 {M : Mem} : ∀ {ds : List D} {us : List Value}, YG M ds us → ∀ (i : Nat) (d : D), ds[i]? = some d → ∃ u, us[i]? = some u ∧ d.rep M u
 | [], [], _, _, _, h => by simp at h
 | [], _ :: _, h, _, _, _ => by simp only [YG] at h
 | _ :: _, [], h, _, _, _ => by simp only [YG] at h
 | d :: ds, u :: us, h, 0, e, he => by simp only [YG] at h; simp at he; subst he; exact ⟨u, by simp, h.1⟩
 | d :: ds, u :: us, h, i + 1, e, he => by
  simp only [YG] at h
  simpa using X47 h.2 i e (by simpa using he)
theorem X5U {M : Mem} {g : Gh} (hM : g.M = M) : ∀ {ds : List D} {us : List Value}, YG M ds us → Xm g (ds.map .d) us
 | [], [], _ => by simp only [List.map_nil, Xm]
 | [], _ :: _, h => by simp only [YG] at h
 | _ :: _, [], h => by simp only [YG] at h
 | d :: ds, u :: us, h => by
  simp only [YG] at h
  simp only [List.map_cons, Xm, AVal.sat]
  exact ⟨hM ▸ h.1, X5U hM h.2⟩
theorem X4I {α : Type} {p : Nat → α → Prop} : ∀ n, (∀ i, i < n → ∃ r, p i r) → ∃ l : List α, l.length = n ∧ ∀ (i : Nat) (r : α), l[i]? = some r → p i r
 | 0, _ => ⟨[], rfl, fun i r h => by simp at h⟩
 | n + 1, h => by
  obtain ⟨l, h1, h2⟩ := X4I n (fun i hi => h i (by omega))
  obtain ⟨r, hr⟩ := h n (by omega)
  refine ⟨l ++ [r], by simp [h1], fun i x hx => ?_⟩
  rw [List.getElem?_append] at hx
  split at hx
  ·exact h2 i x hx
  ·rename_i hi
   have : i = n := by
    rcases Nat.lt_or_ge (i - l.length) 1 with hj | hj
    ·omega
    ·simp [show i - l.length ≠ 0 by omega] at hx
   subst this
   simp [h1] at hx
   subst hx; exact hr
section
variable {H : Type} {enc : TypeId × Value → H} {P : Program} {W : World}
structure Opens {α : Type} (enc : TypeId × Value → H) (P : Program) (W : World) (t : TypeId) (p : α → Prop) (f : α → List D) : Prop where
 op : ∀ n cs x, DataW.trod enc P W 0 (fun _ => true) true n t cs = some x → ∃ r, p r ∧ YG W.cell? (f r) cs
theorem Opens.to {α β : Type} {t : TypeId} {p : α → Prop} {f : α → List D} (h : Opens enc P W t p f) {q : β → Prop} {g : β → List D} (φ : α → β) (hφ : ∀ a, p a → q (φ a) ∧ f a = g (φ a)) : Opens enc P W t q g := by
 refine ⟨fun n cs x hx => ?_⟩
 obtain ⟨r, h1, h2⟩ := h.op n cs x hx
 exact ⟨φ r, (hφ r h1).1, (hφ r h1).2 ▸ h2⟩
theorem XaF {t : TypeId} (ht : P.underlying t = some .bool) : Opens enc P W t (fun _ : Bool => True) (fun b => [.v (.bool b)]) := by
 refine ⟨fun n cs x hx => ?_⟩
 cases n with
 | zero => simp [DataW.trod] at hx
 | succ n =>
  unfold DataW.trod at hx
  rw [ht] at hx
  split at hx
  case h_1 _ _ b _ => exact ⟨b, trivial, ⟨rfl, rfl⟩, trivial⟩
  all_goals simp_all
theorem Xbf {t : TypeId} {k : IntKind} (ht : P.underlying t = some (.int k)) : Opens enc P W t (fun n : Int => (Lit.int k n).wf = true) (fun n => [.v (.int k n)]) := by
 refine ⟨fun n cs x hx => ?_⟩
 obtain ⟨n', rfl, _, hw⟩ := DataW.trod_int ht hx
 refine ⟨n', hw, ?_⟩
 simp [YG, D.rep, Value.oneCell']
theorem US {t : TypeId} (ht : P.underlying t = some (.int .i64)) : Opens enc P W t (fun n : Int => -9223372036854775808 ≤ n ∧ n ≤ 9223372036854775807) (fun n => [.v (.int .i64 n)]) :=
 (Xbf ht).to id fun a ha => ⟨bounds_i64 ha, rfl⟩
structure OpensF {α : Type} (enc : TypeId × Value → H) (P : Program) (W : World) (N : Nat) (fs : List Field) (off : Nat) (p : α → Prop) (f : α → List D) : Prop where
 op : ∀ cs : List Value, cs.length = N → (∀ q ∈ fs, ∃ n x, DataW.trod enc P W 0 (fun _ => true) true n q.type ((cs.drop q.offset).take (P.cellsOf q.type)) = some x) → ∃ r, p r ∧ YG W.cell? (f r) (cs.drop off)
theorem X4a {N : Nat} : OpensF enc P W N [] N (fun _ : Unit => True) (fun _ => []) := by
 refine ⟨fun cs hN _ => ⟨(), trivial, ?_⟩⟩
 rw [List.drop_of_length_le (by omega)]; trivial
theorem V8 {α β : Type} {N : Nat} {q : Field} {fs : List Field} {off s : Nat} {p : α → Prop} {f : α → List D} {p' : β → Prop} {f' : β → List D} (hoff : q.offset = off) (hs : P.cellsOf q.type = s)
  (h : Opens enc P W q.type p f) (k : OpensF enc P W N fs (off + s) p' f') : OpensF enc P W N (q :: fs) off (fun r : α × β => p r.1 ∧ p' r.2) (fun r => f r.1 ++ f' r.2) := by
 refine ⟨fun cs hN hall => ?_⟩
 obtain ⟨n, x, hx⟩ := hall q (by simp)
 rw [hoff, hs] at hx
 obtain ⟨r, h1, h2⟩ := h.op _ _ _ hx
 obtain ⟨r', h3, h4⟩ := k.op cs hN fun q' hq' => hall q' (by simp [hq'])
 refine ⟨(r, r'), ⟨h1, h3⟩, ?_⟩
 have := X4G h2 h4
 rwa [← List.drop_drop, List.take_append_drop] at this
theorem X4r {α : Type} {t : TypeId} {fs : Array Field} {N : Nat} {p : α → Prop} {f : α → List D} (ht : P.underlying t = some (.struct fs)) (hN : P.cellsOf t = N) (h : OpensF enc P W N fs.toList 0 p f) : Opens enc P W t p f := by
 refine ⟨fun n cs x hx => ?_⟩
 obtain ⟨xs, n', _, _, hl, hlen, hf⟩ := DataW.trod_struct ht hx
 have := h.op cs (hl.trans hN) fun q hq => by
  obtain ⟨i, hi⟩ := List.getElem?_of_mem hq
  have h1 := hf i q (by simpa using hi)
  have hlt := (List.getElem?_eq_some_iff.1 hi).1
  simp only [Array.length_toList] at hlt
  exact ⟨n', _, h1.trans (List.getElem?_eq_getElem (by omega))⟩
 simpa using this
end
section
variable {H : Type} {enc : TypeId × Value → H} {P : Program} {W : World}
theorem Xce (s : ByteArray) : X7 s.data.toList = s := by
 cases s; simp [X7]
theorem X2W {t : TypeId} (ht : P.underlying t = some .string) : Opens enc P W t (fun s : List UInt8 => s.length ≤ 9223372036854775807) (fun s => [.v (.string (X7 s))]) := by
 refine ⟨fun n cs x hx => ?_⟩
 obtain ⟨s, rfl, _, hl⟩ := DataW.trod_string ht hx
 refine ⟨s.data.toList, by simpa [maxLen] using hl, ?_⟩
 simp only [YG, D.rep, Xce]
 exact ⟨⟨trivial, rfl⟩, trivial⟩
structure OpensN {α : Type} (enc : TypeId × Value → H) (P : Program) (W : World) (n : Nat) (t : TypeId) (p : α → Prop) (f : α → List D) : Prop where
 op : ∀ cs x, DataW.trod enc P W 0 (fun _ => true) true n t cs = some x → ∃ r, p r ∧ YG W.cell? (f r) cs
theorem Opens.at {α : Type} {t : TypeId} {p : α → Prop} {f : α → List D} (h : Opens enc P W t p f) (n : Nat) : OpensN enc P W n t p f := ⟨h.op n⟩
theorem X8z {α : Type} {t : TypeId} {p : α → Prop} {f : α → List D} (h : ∀ n, OpensN enc P W n t p f) : Opens enc P W t p f := ⟨fun n => (h n).op⟩
theorem OpensN.to {α β : Type} {n : Nat} {t : TypeId} {p : α → Prop} {f : α → List D} (h : OpensN enc P W n t p f) {q : β → Prop} {g : β → List D} (φ : α → β) (hφ : ∀ a, p a → q (φ a) ∧ f a = g (φ a)) : OpensN enc P W n t q g := by
 refine ⟨fun cs x hx => ?_⟩
 obtain ⟨r, h1, h2⟩ := h.op cs x hx
 exact ⟨φ r, (hφ r h1).1, (hφ r h1).2 ▸ h2⟩
theorem X93 {α : Type} {n : Nat} {t e : TypeId} {sz : Nat} {p : α → Prop} {f : α → List D} (ht : P.underlying t = some (.slice e)) (hz : P.cellsOf e = sz) (h0 : 0 < sz) (ho : ∀ m, n = m + 1 → OpensN enc P W m e p f) :
  OpensN enc P W n t (fun l : List α => (∀ r ∈ l, p r) ∧ l.length ≤ 9223372036854775807) (fun l => [.sl sz (l.map f)]) := by
 refine ⟨fun cs x hx => ?_⟩
 rcases DataW.trod_slice ht hx with ⟨rfl, _⟩ | ⟨a, len, cap, elems, rest, n', hn, rfl, _, _, hl, hm, hlen, hel, _, _⟩
 ·refine ⟨[], ⟨by simp, by simp⟩, ?_⟩
  simp only [YG, D.rep, List.map_nil]
  exact ⟨⟨none, 0, rfl, Nat.le_refl _, Nat.zero_le _, .inl trivial⟩, trivial⟩
 have hel' : ∀ i, i < len → ∃ r, p r ∧ (f r).length = sz ∧ ∀ j d, (f r)[j]? = some d → ∃ u, W.cell? ((a.add (i * sz)).add j) = some u ∧ d.rep W.cell? u := by
  intro i hi
  have h0 := hel i hi
  rw [List.getElem?_eq_getElem (by omega)] at h0
  obtain ⟨cs', h1, h2⟩ := Option.bind_eq_some_iff.1 h0
  obtain ⟨r, h3, h4⟩ := (ho n' hn).op _ _ h2
  obtain ⟨_, h5, h6⟩ := World.cells?_some h1
  rw [hz] at h5 h6
  refine ⟨r, h3, by rw [← X4l h4, h5], fun j d hd => ?_⟩
  obtain ⟨u, h7, h8⟩ := X47 h4 j d hd
  have hj : j < sz := by
   have := (List.getElem?_eq_some_iff.1 h7).1
   omega
  exact ⟨u, (h6 j hj).trans h7, h8⟩
 obtain ⟨l, h1, h2⟩ := X4I len hel'
 refine ⟨l, ⟨fun r hr => ?_, by rw [h1]; have hm' : cap ≤ 9223372036854775807 := hm; omega⟩, ?_⟩
 ·obtain ⟨i, hi⟩ := List.getElem?_of_mem hr
  exact (h2 i r hi).1
 simp only [YG, D.rep]
 refine ⟨⟨some a, cap, by rw [List.length_map, h1], by rw [List.length_map, h1]; exact hl, hm, ?_⟩, trivial⟩
 by_cases h00 : len = 0
 ·exact .inl (by rw [List.eq_nil_of_length_eq_zero (h1.trans h00)]; rfl)
 right
 obtain ⟨b, o, sp⟩ := a
 have hsp : sp = none := by
  obtain ⟨r, hr⟩ : ∃ r, l[0]? = some r := ⟨_, List.getElem?_eq_getElem (by omega)⟩
  obtain ⟨_, hlen, hcell⟩ := h2 0 r hr
  obtain ⟨d, hd⟩ : ∃ d, (f r)[0]? = some d := ⟨_, List.getElem?_eq_getElem (by omega)⟩
  obtain ⟨u, hu, _⟩ := hcell 0 d hd
  simpa [Addr.add] using World.cell?_spot hu
 subst hsp
 refine ⟨b, o, rfl, X2R _ _ _ fun i r hr => ?_⟩
 obtain ⟨x, hx, rfl⟩ : ∃ x, l[i]? = some x ∧ f x = r := by simpa using hr
 obtain ⟨_, hlen, hcell⟩ := h2 i x hx
 refine ⟨hlen, X1j _ _ _ fun j d hd => ?_⟩
 obtain ⟨u, hu, hd⟩ := hcell j d hd
 rw [YH, YH] at hu
 exact ⟨u, hu, hd⟩
structure OpensFN {α : Type} (enc : TypeId × Value → H) (P : Program) (W : World) (n : Nat) (N : Nat) (fs : List Field) (off : Nat) (p : α → Prop) (f : α → List D) : Prop where
 op : ∀ cs : List Value, cs.length = N → (∀ q ∈ fs, ∃ x, DataW.trod enc P W 0 (fun _ => true) true n q.type ((cs.drop q.offset).take (P.cellsOf q.type)) = some x) → ∃ r, p r ∧ YG W.cell? (f r) (cs.drop off)
theorem XcK {n N : Nat} : OpensFN enc P W n N [] N (fun _ : Unit => True) (fun _ => []) := by
 refine ⟨fun cs hN _ => ⟨(), trivial, ?_⟩⟩
 rw [List.drop_of_length_le (by omega)]; trivial
theorem X3r {α β : Type} {n N : Nat} {q : Field} {fs : List Field} {off s : Nat} {p : α → Prop} {f : α → List D} {p' : β → Prop} {f' : β → List D} (hoff : q.offset = off) (hs : P.cellsOf q.type = s)
  (h : OpensN enc P W n q.type p f) (k : OpensFN enc P W n N fs (off + s) p' f') : OpensFN enc P W n N (q :: fs) off (fun r : α × β => p r.1 ∧ p' r.2) (fun r => f r.1 ++ f' r.2) := by
 refine ⟨fun cs hN hall => ?_⟩
 obtain ⟨x, hx⟩ := hall q (by simp)
 rw [hoff, hs] at hx
 obtain ⟨r, h1, h2⟩ := h.op _ _ hx
 obtain ⟨r', h3, h4⟩ := k.op cs hN fun q' hq' => hall q' (by simp [hq'])
 refine ⟨(r, r'), ⟨h1, h3⟩, ?_⟩
 have := X4G h2 h4
 rwa [← List.drop_drop, List.take_append_drop] at this
theorem XcD {α : Type} {n : Nat} {t : TypeId} {fs : Array Field} {N : Nat} {p : α → Prop} {f : α → List D} (ht : P.underlying t = some (.struct fs)) (hN : P.cellsOf t = N) (h : ∀ m, n = m + 1 → OpensFN enc P W m N fs.toList 0 p f) : OpensN enc P W n t p f := by
 refine ⟨fun cs x hx => ?_⟩
 obtain ⟨xs, n', hn, _, hl, hlen, hf⟩ := DataW.trod_struct ht hx
 have := (h n' hn).op cs (hl.trans hN) fun q hq => by
  obtain ⟨i, hi⟩ := List.getElem?_of_mem hq
  have h1 := hf i q (by simpa using hi)
  have hlt := (List.getElem?_eq_some_iff.1 hi).1
  simp only [Array.length_toList] at hlt
  exact ⟨_, h1.trans (List.getElem?_eq_getElem (by omega))⟩
 simpa using this
end
def leD (d e : D) : Prop := ∀ (M : Mem) (u : Value), d.rep M u → e.rep M u
def leC (r s : List D) : Prop := ∀ (M : Mem) (b o : Nat), YQ M r b o → YQ M s b o
def leW (sz : Nat) (r s : List (List D)) : Prop := r.length = s.length ∧ ∀ (M : Mem) (b o : Nat), Uh M sz r b o → Uh M sz s b o
theorem X0Y (d : D) : leD d d := fun _ _ h => h
theorem Xge (sz : Nat) : leD (.v (.slice none 0 0)) (.sl sz []) := fun M u h => by
 simp only [D.rep] at h ⊢
 exact ⟨none, 0, h.1, by simp, by simp, by simp⟩
theorem Xgh : leC [] [] := fun _ _ _ h => h
theorem X0H {d e : D} {r s : List D} (h : leD d e) (hr : leC r s) : leC (d :: r) (e :: s) := fun M b o q => by
 rw [YQ] at q ⊢
 obtain ⟨⟨u, h1, h2⟩, h3⟩ := q
 exact ⟨⟨u, h1, h M u h2⟩, hr M b (o + 1) h3⟩
theorem Xf5 (sz : Nat) : leW sz [] [] := ⟨rfl, fun _ _ _ h => h⟩
theorem XfG {sz : Nat} {d e : List D} {r s : List (List D)} (h : leC d e) (hl : d.length = e.length) (hr : leW sz r s) : leW sz (d :: r) (e :: s) := ⟨by rw [List.length_cons, List.length_cons, hr.1], fun M b o q => by
 rw [Uh] at q ⊢
 exact ⟨by rw [← hl]; exact q.1, h M b o q.2.1, hr.2 M b (o + sz) q.2.2⟩⟩
theorem Xff {sz : Nat} {r s : List (List D)} (h : leW sz r s) : leD (.sl sz r) (.sl sz s) := fun M u q => by
 simp only [D.rep] at q ⊢
 obtain ⟨a, cap, h1, h2, h3, h4⟩ := q
 refine ⟨a, cap, by rw [← h.1]; exact h1, by rw [← h.1]; exact h2, h3, ?_⟩
 rcases h4 with h4 | ⟨b, o, h5, h6⟩
 ·left
  have := h.1
  rw [h4] at this
  exact List.eq_nil_of_length_eq_zero this.symm
 ·exact .inr ⟨b, o, h5, h.2 M b o h6⟩
theorem AVal.le_d {d e : D} (h : leD d e) : AVal.le (.d d) (.d e) := fun g u q => by
 simp only [AVal.sat] at q ⊢
 exact h g.M u q
section
variable {P : Program} {ops : Array Oper} {draw : Bool} {K : St → Prop} {rest : List Oper} {l : Yb} {S : St}
variable {d : Nat} {ty : TypeId} {pos : String} {aft : Array Edge} {gd : Option (Nat × Bool)}
theorem XcU {T : TypeId} {x lo hi mx : Operand} {sz lb hb : Nat} {xs ys : List (List D)} (hx : S.ev x = .d (.sl sz xs)) (hlo : S.ev lo = ai lb) (hhi : S.ev hi = ai hb) (hmx : S.ev mx = ai hb) (hlh : lb ≤ hb) (hm : hb ≤ xs.length) (hys : (xs.take hb).drop lb = ys)
  (hT : Yh P T sz = true) (hd : Nat.blt d S.n = true) (hg : Xe ops S gd)
  (h : Walk P ops draw K rest ((l.length, ⟨some d, .slice T x (some lo) (some hi) (some mx), ty, pos, aft, gd⟩, ⟨Xd ops gd ++ [(x, .d (.sl sz xs)), (lo, ai lb), (hi, ai hb), (mx, ai hb)], some (d, .dx sz ys), [], [], []⟩) :: l) (S.set d (.dx sz ys))) :
  Walk P ops draw K (⟨some d, .slice T x (some lo) (some hi) (some mx), ty, pos, aft, gd⟩ :: rest) l S := by
 subst hys
 refine XG ⟨[(x, .d (.sl sz xs)), (lo, ai lb), (hi, ai hb), (mx, ai hb)], some (d, .dx sz ((xs.take hb).drop lb)), [], [], []⟩ (Yo rfl fun E S g a w hs hq hl => ?_) hg
  ⟨⟨hx, hlo, hhi, hmx, trivial⟩, trivial, trivial, hd⟩ h
 obtain ⟨e, h1, h2, h3⟩ := VY hT
 obtain ⟨hq1, hq2, hq3, hq4, _⟩ := hq
 simp only [AVal.sat, D.rep] at hq1
 obtain ⟨b, cap, hv, c1, c2, c3⟩ := hq1
 have e2 := Yt hq2
 have e3 := Yt hq3
 have e4 := Yt hq4
 have hmc : hb ≤ cap := by omega
 have hbd : (Instr.sliceBounds true xs.length cap (some (a.eval lo)) (some (a.eval hi)) (some (a.eval mx))).run P w = .ok (lb, hb, hb) w := by
  simp [Instr.sliceBounds, e2, e3, e4, run_sliceBound, hlh, hmc]
 have hrun := run_slice_any (P := P) w T b xs.length cap (by rw [h3]; exact h1) (some (a.eval lo)) (some (a.eval hi)) (some (a.eval mx))
 rw [hbd, Result.andThen_ok, h3, h2 w, Result.andThen_ok] at hrun
 refine ⟨sliced b lb hb hb sz, ?_, ?_⟩
 ·simp only [execOp, hv, Instr.sliceAt, Sem.run_bind, run_underlying h1, Result.andThen_ok, Option.map_some, hrun]; rfl
 ·have hlen : ((xs.take hb).drop lb).length = hb - lb := by simp; omega
  simp only [AVal.sat, D.rep, sliced]
  refine ⟨if hb = lb then b else b.map fun p => p.add (lb * sz), by rw [hlen], if hb = lb then b else b.map fun p => p.add (lb * sz), hb - lb, by rw [hlen], by omega, by omega, ?_⟩
  rcases c3 with rfl | ⟨b', o, rfl, hr⟩
  ·left; simp
  ·by_cases hem : (xs.take hb).drop lb = []
   ·exact .inl hem
   ·right
    have hne : hb ≠ lb := by
     intro e
     apply hem
     apply List.eq_nil_of_length_eq_zero
     omega
    refine ⟨b', o + lb * sz, ?_, X3S (X34 hr hb) lb⟩
    rw [if_neg hne, Option.map_some, YH]
theorem XdB {x y : Operand} {T T2 : TypeId} {γ sz bytes : Nat} {xs ys : List (List D)} (hx : S.ev x = .dx sz xs) (hy : S.ev y = .d (.sl sz ys)) (hne : ys ≠ [])
  (hB : elB P T = bytes) (hT : Us P T sz bytes = true) (hT2 : isSl P T2 = true) (hb0 : Nat.beq bytes 0 = false) (hroom : (xs.length + ys.length) * bytes ≤ 140737488355328)
  (hdead : S.obj γ = .dead) (hf : S.free γ = true) (hd : Nat.blt d S.n = true) (hg : Xe ops S gd)
  (h : Walk P ops draw K rest ((l.length, ⟨some d, .call ⟨.builtin .append, #[x, y], #[T, T2]⟩, ty, pos, aft, gd⟩, ⟨Xd ops gd ++ [(x, .dx sz xs), (y, .d (.sl sz ys))], some (d, .own γ (xs.length + ys.length)), [(γ, .dead)], [(γ, .row sz (xs ++ ys))], [γ]⟩) :: l) ((S.set d (.own γ (xs.length + ys.length))).own γ (.row sz (xs ++ ys)))) :
  Walk P ops draw K (⟨some d, .call ⟨.builtin .append, #[x, y], #[T, T2]⟩, ty, pos, aft, gd⟩ :: rest) l S := by
 refine XG ⟨[(x, .dx sz xs), (y, .d (.sl sz ys))], some (d, .own γ (xs.length + ys.length)), [(γ, .dead)], [(γ, .row sz (xs ++ ys))], [γ]⟩ (X0z rfl fun E S g a w hs hq hl hnw => ?_) hg ⟨⟨hx, hy, trivial⟩, ⟨hdead, trivial⟩, ⟨hf, trivial⟩, hd⟩ h
 obtain ⟨e, i, z, hu, hi, hsz, hbt, hz0, hzs, hz1⟩ := X2S hT
 have hbn := X1M hb0
 obtain ⟨hq1, hq2, _⟩ := hq
 simp only [AVal.sat] at hq1
 obtain ⟨a0, hv, hrep⟩ := hq1
 simp only [AVal.sat] at hq2
 obtain ⟨olds, ho1, ho2, ho3⟩ := X38 hs.1 hrep
 obtain ⟨news, k1, k2, k3⟩ := X38 hs.1 hq2
 have hylen : ys.length ≠ 0 := fun e => hne (List.eq_nil_of_length_eq_zero e)
 have hl1 : ∀ r ∈ xs, r.length = sz := by
  rcases ho3 with rfl | h
  ·simp
  ·exact h
 have hl2 : ∀ r ∈ ys, r.length = sz := k3.resolve_left hne
 rw [hv] at ho1
 have hgc : Builtin.nextslicecap (xs.length + ys.length) xs.length * i.bytes ≤ 2 ^ 48 := by
  have h1 := nextslicecap_le (need := xs.length + ys.length) (old := xs.length) (by omega)
  have h2 : Builtin.nextslicecap (xs.length + ys.length) xs.length * i.bytes ≤ 2 * (xs.length + ys.length) * i.bytes := Nat.mul_le_mul_right _ h1
  rw [hbt] at h2 ⊢
  have h3 : 2 * (xs.length + ys.length) * bytes = 2 * ((xs.length + ys.length) * bytes) := Nat.mul_assoc _ _ _
  omega
 have hneed : xs.length + ys.length < 2 ^ 63 := by
  have : xs.length + ys.length ≤ (xs.length + ys.length) * bytes := Nat.le_mul_of_pos_right _ (by omega)
  omega
 have hr := X3W (P := P) (w := w) (T := T) (T2 := T2) (ty := ty) (base := a0) (n := xs.length) (cap := xs.length) (x := a.eval y) (olds := olds) (news := news) (m := ys.length) hu hi hz0 (.inl (X26 hT2)) (by rw [hbt]; exact hbn)
  (by rw [hsz]; exact k1) (fun w' hw' => by have := (ho1.1 w' hw').2; rw [hsz]; exact this) (by omega) hgc
 obtain ⟨c1, c2⟩ := X4q (xs.length + ys.length) xs.length e (w.tape w.drawn (.appendCap (xs.length + ys.length) xs.length e)) hneed
 revert hr c1 c2
 generalize (Question.appendCap (xs.length + ys.length) xs.length e).cut (w.tape w.drawn (.appendCap (xs.length + ys.length) xs.length e)) = nc
 intro hr c1 c2
 have z1 : olds.size = xs.length * sz := ho1.2
 have z2 : news.size = ys.length * sz := k1.2
 have hsat : Xm g ((xs ++ ys).flatten.map .d) ((olds ++ news ++ Builtin.zeroCells z.cells (nc - (xs.length + ys.length))).toList.take ((xs ++ ys).length * sz)) := by
  have e1 : ((olds ++ news ++ Builtin.zeroCells z.cells (nc - (xs.length + ys.length))).toList.take ((xs ++ ys).length * sz)) = olds.toList ++ news.toList := by
   rw [Array.toList_append, Array.toList_append, List.length_append, Nat.add_mul, ← z1, ← z2]
   rw [List.take_append_of_le_length (by rw [List.length_append, Array.length_toList, Array.length_toList]; exact Nat.le_refl _)]
   rw [List.take_of_length_le (by rw [List.length_append, Array.length_toList, Array.length_toList]; exact Nat.le_refl _)]
  rw [e1, List.flatten_append]
  exact X6l ho2 k2
 have hinv := X53 (w := w.drew) (X9g hs.1) γ hnw.1 hl.1 (sz := sz) (xs := xs ++ ys) (vs := olds ++ news ++ Builtin.zeroCells z.cells (nc - (xs.length + ys.length))) (e := e) (fr := (0, 0)) (cap := nc)
  (fun r hr => (List.mem_append.1 hr).elim (hl1 r) (hl2 r)) hsat (by rw [List.length_append]; exact c1) c2
  (by simp [X4B, z1, z2, hzs, ← Nat.add_mul]; rw [show xs.length + (ys.length + (nc - (xs.length + ys.length))) = nc by omega]; exact Nat.le_refl _) (X1w _)
 rw [List.length_append] at hinv
 exact ⟨_, _, _, X3B rfl (by rw [hv]; exact hr), X30 (w := w), hinv, X0u hnw.1 hs.2.2.2⟩
theorem Xej {x y : Operand} {T T2 : TypeId} {sz bytes : Nat} {xs ys : List (List D)} (hx : S.ev x = .dx sz xs) (hy : S.ev y = .d (.sl sz ys)) (he : ys = [])
  (hB : elB P T = bytes) (hT : Us P T sz bytes = true) (hT2 : isSl P T2 = true) (hd : Nat.blt d S.n = true) (hg : Xe ops S gd)
  (h : Walk P ops draw K rest ((l.length, ⟨some d, .call ⟨.builtin .append, #[x, y], #[T, T2]⟩, ty, pos, aft, gd⟩, ⟨Xd ops gd ++ [(x, .dx sz xs), (y, .d (.sl sz ys))], some (d, .dx sz xs), [], [], []⟩) :: l) (S.set d (.dx sz xs))) :
  Walk P ops draw K (⟨some d, .call ⟨.builtin .append, #[x, y], #[T, T2]⟩, ty, pos, aft, gd⟩ :: rest) l S := by
 subst he
 refine XG ⟨[(x, .dx sz xs), (y, .d (.sl sz []))], some (d, .dx sz xs), [], [], []⟩ (Yo rfl fun E S g a w hs hq hl => ?_) hg ⟨⟨hx, hy, trivial⟩, trivial, trivial, hd⟩ h
 obtain ⟨e, i, z, hu, hi, hsz, hbt, hz0, hzs, hz1⟩ := X2S hT
 obtain ⟨hq1, hq2, _⟩ := hq
 have hq0 := hq1
 simp only [AVal.sat] at hq1 hq2
 obtain ⟨a0, hv, hrep⟩ := hq1
 obtain ⟨news, k1, k2, k3⟩ := X38 hs.1 hq2
 have hr := X4x (P := P) (w := w) (T := T) (T2 := T2) (ty := ty) (base := a0) (n := xs.length) (cap := xs.length) (x := a.eval y) (news := news) (m := 0) hu hi (.inl (X26 hT2)) (by rw [hsz]; exact k1) (by omega)
 have hn0 : news = #[] := by
  have := k1.2
  simp only [List.length_nil, Nat.zero_mul] at this
  exact Array.eq_empty_of_size_eq_zero this
 subst hn0
 have hr2 : (Builtin.append_ #[T, T2] ty #[.slice a0 xs.length xs.length, a.eval y]).run P w = .ok (.slice a0 xs.length xs.length) w := by
  cases a0 with
  | none => simpa using hr
  | some b => simpa [storeCells] using hr
 exact ⟨.slice a0 xs.length xs.length, X3B rfl (by rw [hv]; exact hr2), by rw [hv] at hq0; exact hq0⟩
theorem Xh0 {x : Operand} {T : TypeId} {sz : Nat} {xs : List (List D)} (hx : S.ev x = .dx sz xs) (hT : isSl P T = true)
  (hd : Nat.blt d S.n = true) (hg : Xe ops S gd)
  (h : Walk P ops draw K rest ((l.length, ⟨some d, .call ⟨.builtin .len, #[x], #[T]⟩, ty, pos, aft, gd⟩, ⟨Xd ops gd ++ [(x, .dx sz xs)], some (d, ai xs.length), [], [], []⟩) :: l) (S.set d (ai xs.length))) :
  Walk P ops draw K (⟨some d, .call ⟨.builtin .len, #[x], #[T]⟩, ty, pos, aft, gd⟩ :: rest) l S :=
 XG ⟨[(x, .dx sz xs)], some (d, ai xs.length), [], [], []⟩ (Yo rfl fun E S g a w hs hq hl => by
  obtain ⟨e, h1⟩ := X26 hT
  have := hq.1
  simp only [AVal.sat] at this
  obtain ⟨b, hv, _⟩ := this
  refine ⟨.int .i64 xs.length, ?_, UU rfl⟩
  simp [execOp, resolve, invoke, builtin, hv, Builtin.len_, run_underlying h1, goInt]) hg ⟨⟨hx, trivial⟩, trivial, trivial, hd⟩ h
end
abbrev X3V (b : UInt8) : List D := [.v (.int .u8 b.toNat)]
abbrev X2g (l : List UInt8) : D := .sl 1 (l.map X3V)
theorem Xe5 (bs : List UInt8) : Lib.bytesOf (bs.map fun b => (b.toNat : Int)) = bs := by
 unfold Lib.bytesOf
 rw [List.map_map]
 conv => rhs; rw [← List.map_id bs]
 refine List.map_congr_left fun b _ => ?_
 simp
theorem Xes (bs : List UInt8) : (bs.map X3V).flatten = bs.map fun b => D.v (.int .u8 (b.toNat : Int)) := by
 induction bs with
 | nil => rfl
 | cons b r ih => simp [ih]
theorem Xgy {P : Program} {E : Env} {L : Nat → AObj} {g : Gh} {w : World} (hi : Inv E L g w) {bs : List UInt8} {c : UInt8} {x : Value} (h : (X2g bs).rep g.M x) :
  (Extern.BytealgIndexByte.indexByte #[x, .int .u8 c.toNat]).run P w = .ok (.int .i64 (Lib.indexByte bs c)) w := by
 simp only [D.rep] at h
 obtain ⟨a, cap, rfl, h2, h3, h4⟩ := h
 have e0 : bs = [] → (Extern.BytealgIndexByte.indexByte #[.slice a (bs.map X3V).length cap, .int .u8 c.toNat]).run P w = .ok (.int .i64 (Lib.indexByte bs c)) w := by
  rintro rfl
  cases a with
  | none => simpa [Lib.indexByte] using Lib.run_indexByteNil (P := P) w 0 cap c.toNat
  | some a =>
   have hs := Lib.run_indexByteString (P := P) ByteArray.empty (c.toNat : Int) w
   change Sem.run P (do
    let b ← Extern.Bytes.bytesOf (.slice (some a) 0 cap)
    let c ← Extern.Bytes.asByte (.int .u8 c.toNat)
    match (List.range b.size).find? fun i => b[i]! == c with
    | some i => pure (goInt i)
    | none => pure (goInt (-1))) w = _
   change Sem.run P (do
    let b ← Extern.Bytes.bytesOf (.string ByteArray.empty)
    let c ← Extern.Bytes.asByte (.int .u8 c.toNat)
    match (List.range b.size).find? fun i => b[i]! == c with
    | some i => pure (goInt i)
    | none => pure (goInt (-1))) w = _ at hs
   simp only [Extern.Bytes.bytesOf, Extern.Bytes.loadBytes, Sem.run_bind, Sem.run_pure] at hs ⊢
   exact hs
 rcases h4 with he | ⟨b, o, rfl, hr⟩
 ·exact e0 (by simpa using he)
 ·obtain ⟨vs, k1, k2, k3⟩ := X4U hi.mem _ b o hr
  have hl := Lib.run_indexByteSlice (P := P) w b o bs.length cap (bs.map fun b => (b.toNat : Int)) (by simp) (fun i hi' => by
   have hv : i < vs.length := by rw [k1]; simpa using hi'
   have hv1 : vs[i]? = some vs[i] := List.getElem?_eq_getElem hv
   have hd : ((bs.map X3V).flatten)[i]? = some (D.v (.int .u8 ((bs[i]'hi').toNat : Int))) := by rw [Xes]; simp [List.getElem?_eq_getElem hi']
   have hc := k2 i _ hv1
   have hrp := k3 i _ _ hd hv1
   simp only [D.rep] at hrp
   rw [hc, hrp.1, List.getD_eq_getElem?_getD]
   simp [List.getElem?_eq_getElem hi']) (c.toNat : Int)
  rw [Xe5] at hl
  simpa using hl
section
variable {P : Program} {ops : Array Oper} {draw : Bool} {K : St → Prop} {rest : List Oper} {l : Yb} {S : St}
variable {d : Nat} {ty : TypeId} {pos : String} {aft : Array Edge} {gd : Option (Nat × Bool)}
theorem XgX {f : FuncId} {tys : Array TypeId} {x y : Operand} {bs : List UInt8} {c : UInt8} {fn : Func} (hx : S.ev x = .d (X2g bs)) (hy : S.ev y = .d (.v (.int .u8 c.toNat)))
  (hf : P.funcs[f]? = some fn) (h1 : (fn.name == "runtime.NumGoroutine") = false) (h2 : fn.body.isNone = true) (h3 : Extern.findNext fn = none) (h4 : Extern.find fn = some Extern.BytealgIndexByte.indexByte)
  (hd : Nat.blt d S.n = true) (hg : Xe ops S gd)
  (h : Walk P ops draw K rest ((l.length, ⟨some d, .call ⟨.value (.func f), #[x, y], tys⟩, ty, pos, aft, gd⟩, ⟨Xd ops gd ++ [(x, .d (X2g bs)), (y, .d (.v (.int .u8 c.toNat)))], some (d, ai (Lib.indexByte bs c)), [], [], []⟩) :: l) (S.set d (ai (Lib.indexByte bs c)))) :
  Walk P ops draw K (⟨some d, .call ⟨.value (.func f), #[x, y], tys⟩, ty, pos, aft, gd⟩ :: rest) l S :=
 XG ⟨[(x, .d (X2g bs)), (y, .d (.v (.int .u8 c.toNat)))], some (d, ai (Lib.indexByte bs c)), [], [], []⟩ (Yo rfl fun E S g a w hs hq hl => by
  have e1 := Xgy (P := P) hs.1 (c := c) (x := a.eval x) (by have := hq.1; simpa only [AVal.sat] using this)
  have e2 := Yt hq.2.1
  refine ⟨.int .i64 (Lib.indexByte bs c), ?_, UU rfl⟩
  have e3 := run_callFunc_extern hf h1 h2 h3 h4 #[a.eval x, a.eval y] w
  rw [e2, e1, Result.andThen_ok] at e3
  rw [← e2] at e3
  have ef : a.eval (.func f) = .func (.func f) #[] #[] := rfl
  generalize hE : a.eval = ev at *
  simp [execOp, resolve, invoke, Deferred.ofValue, ef, e3]) hg ⟨⟨hx, hy, trivial⟩, trivial, trivial, hd⟩ h
end
end Go.Fw
