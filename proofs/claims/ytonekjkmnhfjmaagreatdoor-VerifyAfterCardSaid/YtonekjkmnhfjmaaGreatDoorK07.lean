/- Structs and arrays of scalars compared. -/
import Derived.Laws.StructEq
import Derived.MapKept
import Derived.Test.YtonekjkmnhfjmaaGreatDoorK06
namespace Go.Fw
open Go
set_option linter.unusedVariables false
inductive SK where
 | i (k : IntKind)
 | b
 | s
def SK.of (P : Program) (t : TypeId) : Option SK := match P.underlying t with | some (.int k) => some (.i k) | some .bool => some .b | some .string => some .s | _ => none
def YR : Value → Option SK
 | .int k _ => some (.i k)
 | .bool _ => some .b
 | .string _ => some .s
 | _ => none
def X0k : Value → Value → Bool
 | .int _ a, .int _ b => decide (a = b)
 | .bool a, .bool b => decide (a = b)
 | .string a, .string b => decide (a.data.toList = b.data.toList)
 | _, _ => false
def Vc : List Value → List Value → Bool
 | a :: aZ, b :: bs => X0k a b && Vc aZ bs
 | _, _ => true
def X2f (P : Program) : Nat → List Field → Option (List SK)
 | _, [] => some []
 | i, f :: fs => if f.name ≠ "_" ∧ f.offset = i ∧ YY P f.type false 1 = true then (SK.of P f.type).bind fun k => (X2f P (i + 1) fs).map (k :: ·) else none
def X0b (P : Program) (t : TypeId) : Option (List SK) :=
 match P.underlying t with
 | some (.struct fs) => if P.stoodInHeld t = false ∧ P.eqGuardType P.depth t = false then X2f P 0 fs.toList else none
 | some (.array n e) => if P.eqGuardType P.depth t = false ∧ YY P e false 1 = true then (SK.of P e).map fun k => List.replicate n k else none
 | _ => none
section
variable {P : Program}
theorem Xao {d : Nat} {t : TypeId} {k : SK} {u v : Value} (hk : SK.of P t = some k) (hu : YR u = some k) (hv : YR v = some k) (w : World) : (Op.equalIn (d + 1) t u v).run P w = .ok (X0k u v) w := by
 unfold SK.of at hk
 cases ht : P.underlying t with
 | none => simp [ht] at hk
 | some de =>
  rw [ht] at hk
  cases de <;> simp at hk <;> subst hk <;> cases u <;> simp [YR] at hu <;> cases v <;> simp [YR] at hv
  ·rw [run_equalIn_bool w d t _ _ ht]; simp [X0k, Bool.beq_eq_decide_eq]
  ·subst hu; subst hv
   rw [run_equalIn_int w d t _ _ _ _ ht]; simp [X0k, Bool.beq_eq_decide_eq]
  ·rw [run_equalIn_string w d t _ _ ht, ByteArray.toList_eq, ByteArray.toList_eq]
   simp [X0k, Bool.beq_eq_decide_eq]
theorem X7K {d : Nat} {xs ys : Array Value} : ∀ (fs : List Field) (i : Nat) (ks : List SK) (us vs : List Value), X2f P i fs = some ks → us.map YR = ks.map some → vs.map YR = ks.map some →
  (∀ j u, us[j]? = some u → xs[i + j]? = some u) → (∀ j u, vs[j]? = some u → ys[i + j]? = some u) → ∀ w, (Op.eqFields (d + 1) xs ys fs).run P w = .ok (Vc us vs) w
 | [], i, ks, us, vs, hf, hu, hv, hx, hy, w => by
  simp [X2f] at hf; subst hf
  simp at hu hv; subst hu; subst hv
  rfl
 | f :: fs, i, ks, us, vs, hf, hu, hv, hx, hy, w => by
  unfold X2f at hf
  split at hf
  case isFalse => cases hf
  rename_i hc
  obtain ⟨c1, c2, c3⟩ := hc
  cases hk : SK.of P f.type with
  | none => simp [hk] at hf
  | some k =>
   cases hr : X2f P (i + 1) fs with
   | none => simp [hk, hr] at hf
   | some kr =>
    simp [hk, hr] at hf; subst hf
    cases us with
    | nil => simp at hu
    | cons u us =>
     cases vs with
     | nil => simp at hv
     | cons v vs =>
      simp only [List.map_cons, List.cons.injEq] at hu hv
      have h1 : xs[f.offset]? = some u := by rw [c2]; exact hx 0 u rfl
      have h2 : ys[f.offset]? = some v := by rw [c2]; exact hy 0 v rfl
      have ih := X7K (d := d) (xs := xs) (ys := ys) fs (i + 1) kr us vs hr hu.2 hv.2 (fun j u hj => by have := hx (j + 1) u hj; rwa [show i + (j + 1) = i + 1 + j by omega] at this) (fun j u hj => by have := hy (j + 1) u hj; rwa [show i + (j + 1) = i + 1 + j by omega] at this) w
      have p1 := X4f c3 xs f.offset w
      have p2 := X4f c3 ys f.offset w
      rw [h1] at p1; rw [h2] at p2
      simp only [Bool.false_eq_true, if_false] at p1 p2
      unfold Op.eqFields
      rw [if_pos c1]
      simp only [Sem.run_bind, p1, p2, Result.andThen_ok, Xao hk hu.1 hv.1]
      unfold Vc
      cases hs : X0k u v with
      | false => simp
      | true => simpa using ih
theorem XiM {n : Nat} {k : SK} {us vs : List Value} (hu : us.map YR = (List.replicate n k).map some) (hv : vs.map YR = (List.replicate n k).map some) : us.length = n ∧ vs.length = n := by
 have h1 := congrArg List.length hu
 have h2 := congrArg List.length hv
 simp only [List.length_map, List.length_replicate] at h1 h2
 exact ⟨h1, h2⟩
theorem Xak {t : TypeId} {ks : List SK} {us vs : List Value} (hk : X0b P t = some ks) (hu : us.map YR = ks.map some) (hv : vs.map YR = ks.map some) (w : World) :
  (Op.equalIn 10000 t (.agg us.toArray) (.agg vs.toArray)).run P w = .ok (Vc us vs) w ∧ P.eqGuardType P.depth t = false := by
 unfold X0b at hk
 split at hk
 ·rename_i fs hfs
  split at hk
  case isFalse => cases hk
  rename_i hc
  have hF : P.fieldsOf t = fs := by simp [Program.fieldsOf, hfs]
  refine ⟨?_, hc.2⟩
  rw [show (10000 : Nat) = 9998 + 1 + 1 from rfl, run_equalIn_agg w (9998 + 1) t _ _ (by rw [hF]; exact hfs) hc.1, hF]
  exact X7K fs.toList 0 ks us vs hk hu hv (fun j u hj => by simpa using hj) (fun j u hj => by simpa using hj) w
 ·rename_i n e he
  split at hk
  case isFalse => cases hk
  rename_i hc
  refine ⟨?_, hc.1⟩
  cases hs : SK.of P e with
  | none => simp [hs] at hk
  | some k =>
   simp [hs] at hk; subst hk
   have hl := XiM hu hv
   have hsz := (X2w hc.2).2
   rw [show (10000 : Nat) = 9998 + 1 + 1 from rfl, Op.equalIn]
   simp only [Sem.run_bind, run_underlying he, Result.andThen_ok, hsz]
   rw [Std.Legacy.Range.forIn_eq_forIn_range']
   simp only [Std.Legacy.Range.size, Nat.sub_zero, Nat.add_sub_cancel, Nat.div_one, Nat.mul_one]
   have key : ∀ (m i : Nat), i + m = n → ∀ w, ((forIn (List.range' i m) ((none, ()) : Option Bool × Unit) fun i r => do
     let __do_lift ← part e us.toArray i
     let __do_lift_1 ← part e vs.toArray i
     let __do_lift ← Op.equalIn (9998 + 1) e __do_lift __do_lift_1
     if (!__do_lift) = true then pure (ForInStep.done (some false, ())) else pure (ForInStep.yield (none, ())) : Sem (Option Bool × Unit))).run P w = .ok (if Vc (us.drop i) (vs.drop i) = true then (none, ()) else (some false, ())) w := by
    intro m
    induction m with
    | zero =>
     intro i hi w
     rw [List.drop_of_length_le (by omega), List.drop_of_length_le (by omega)]
     rfl
    | succ m ih =>
     intro i hi w
     have l1 : i < us.length := by omega
     have l2 : i < vs.length := by omega
     have g1 : YR us[i] = some k := by
      have := congrArg (·[i]?) hu
      simp [l1] at this
      rw [List.getElem?_replicate] at this
      simpa [show i < n by omega] using this
     have g2 : YR vs[i] = some k := by
      have := congrArg (·[i]?) hv
      simp [l2] at this
      rw [List.getElem?_replicate] at this
      simpa [show i < n by omega] using this
     have p1 := X4f hc.2 us.toArray i w
     have p2 := X4f hc.2 vs.toArray i w
     simp only [List.getElem?_toArray, List.getElem?_eq_getElem l1, List.getElem?_eq_getElem l2, Bool.false_eq_true, if_false] at p1 p2
     rw [List.range'_succ, List.forIn_cons]
     simp only [Sem.run_bind, p1, p2, Result.andThen_ok, Xao hs g1 g2, Sem.run_ite]
     rw [List.drop_eq_getElem_cons l1, List.drop_eq_getElem_cons l2]
     unfold Vc
     cases hq : X0k us[i] vs[i] with
     | false => simp
     | true =>
      simp only [Bool.not_true, Bool.false_eq_true, if_false, Sem.run_pure, Result.andThen_ok, Bool.true_and]
      exact ih (i + 1) (by omega) w
   have := key n 0 (by omega) w
   simp only [List.drop_zero] at this
   rw [this]
   cases Vc us vs <;> simp
 ·cases hk
theorem XcN {t : TypeId} {x y : Operand} {ks : List SK} {us vs : List Value} {r : Bool} (hk : X0b P t = some ks) (hu : us.map YR = ks.map some) (hv : vs.map YR = ks.map some) (hr : Vc us vs = r) (w : World) :
  (do eqGuard .eql t x y (.agg us.toArray) (.agg vs.toArray); binOp .eql t (.agg us.toArray) (.agg vs.toArray) : Sem Value).run P w = .ok (.bool r) w := by
 have h := Xak hk hu hv w
 rw [Sem.run_bind, run_eqGuard_agg w _ _ _ _ _ _ h.2, Result.andThen_ok, run_eql_struct, h.1, Result.andThen_ok, hr]
theorem Xez {t : TypeId} {x y : Operand} {ks : List SK} {us vs : List Value} {r : Bool} (hk : X0b P t = some ks) (hu : us.map YR = ks.map some) (hv : vs.map YR = ks.map some) (hr : Vc us vs = r) (w : World) :
  (do eqGuard .neq t x y (.agg us.toArray) (.agg vs.toArray); binOp .neq t (.agg us.toArray) (.agg vs.toArray) : Sem Value).run P w = .ok (.bool (!r)) w := by
 have h := Xak hk hu hv w
 rw [Sem.run_bind, run_eqGuard_agg w _ _ _ _ _ _ h.2, Result.andThen_ok, run_neq_struct, h.1, Result.andThen_ok, hr]
theorem X8Y {g : Gh} : ∀ {us : List Value} {vs : List Value}, Xi g (dvL us) vs → vs = us
 | [], [], _ => rfl
 | [], _ :: _, h => by simp only [dvL, Xi] at h
 | _ :: _, [], h => by simp only [dvL, Xi] at h
 | u :: us, v :: vs, h => by
  simp only [dvL, Xi] at h
  rw [Yj h.1, X8Y h.2]
end
section
variable {P : Program} {ops : Array Oper} {draw : Bool} {K : XA → St → Prop} {rest : List Oper} {l : XA} {S : St} {ty : TypeId} {pos : String} {aft : Array Edge} {gd : Option (Nat × Bool)} {d : Nat}
theorem X4W {g : Gh} {us : List Value} {v : Value} (h : (AVal.agg (dvL us)).sat g v) : v = .agg us.toArray := by
 simp only [AVal.sat] at h
 obtain ⟨vs, rfl, h⟩ := h
 rw [← X8Y h]
theorem XeK {xt yt : TypeId} {x y : Operand} {us vs : List Value} {r : Bool} {ks : List SK} {cs es : List AVal} (hk : X0b P xt = some ks) (hx : S.ev x = .agg cs) (hy : S.ev y = .agg es) (hcs : cs = dvL us) (hes : es = dvL vs) (hu : us.map YR = ks.map some) (hv : vs.map YR = ks.map some)
  (hr : Vc us vs = r) (hd : Nat.blt d S.n = true) (hg : Xh ops S gd)
  (h : Walk P ops draw K rest ((l.length, ⟨some d, .binOp .eql xt x y yt, ty, pos, aft, gd⟩, ⟨Xe ops gd ++ [(x, .agg cs), (y, .agg es)], some (d, ab r), [], [], []⟩) :: l) (S.set d (ab r))) :
  Walk P ops draw K (⟨some d, .binOp .eql xt x y yt, ty, pos, aft, gd⟩ :: rest) l S := by
 subst hcs; subst hes
 exact XH ⟨[(x, .agg (dvL us)), (y, .agg (dvL vs))], some (d, ab r), [], [], []⟩ (Y2 rfl fun E S g a w hs hq _ => by
  refine ⟨.bool r, ?_, Us rfl⟩
  have := XcN (x := x) (y := y) hk hu hv hr w
  simp only [execOp, X4W hq.1, X4W hq.2.1, Sem.run_bind, Sem.run_pure] at this ⊢
  rw [this]; rfl) hg ⟨⟨hx, hy, trivial⟩, trivial, trivial, hd⟩ h
theorem XcO {xt yt : TypeId} {x y : Operand} {us vs : List Value} {r : Bool} {ks : List SK} {cs es : List AVal} (hk : X0b P xt = some ks) (hx : S.ev x = .agg cs) (hy : S.ev y = .agg es) (hcs : cs = dvL us) (hes : es = dvL vs) (hu : us.map YR = ks.map some) (hv : vs.map YR = ks.map some)
  (hr : Vc us vs = r) (hd : Nat.blt d S.n = true) (hg : Xh ops S gd)
  (h : Walk P ops draw K rest ((l.length, ⟨some d, .binOp .neq xt x y yt, ty, pos, aft, gd⟩, ⟨Xe ops gd ++ [(x, .agg cs), (y, .agg es)], some (d, ab (!r)), [], [], []⟩) :: l) (S.set d (ab (!r)))) :
  Walk P ops draw K (⟨some d, .binOp .neq xt x y yt, ty, pos, aft, gd⟩ :: rest) l S := by
 subst hcs; subst hes
 exact XH ⟨[(x, .agg (dvL us)), (y, .agg (dvL vs))], some (d, ab (!r)), [], [], []⟩ (Y2 rfl fun E S g a w hs hq _ => by
  refine ⟨.bool (!r), ?_, Us rfl⟩
  have := Xez (x := x) (y := y) hk hu hv hr w
  simp only [execOp, X4W hq.1, X4W hq.2.1, Sem.run_bind, Sem.run_pure] at this ⊢
  rw [this]; rfl) hg ⟨⟨hx, hy, trivial⟩, trivial, trivial, hd⟩ h
end
section
variable {P : Program} {E : Env} {S : St} {Q : Exit → St → Prop}
theorem VH {c : Operand} {x y : Code} {p : Prop} {inst : Decidable p} (hc : S.ev c = ab (@decide p inst)) (ht : p → AWP P E x S Q) (hf : ¬ p → AWP P E y S Q) : AWP P E (.cond c x y) S Q :=
 X3o hc (fun h => ht (of_decide_eq_true h)) (fun h => hf (of_decide_eq_false h))
theorem Xaf {x y : Code} {Q' : Exit → St → Prop} (U : St) (h : AWP P E x S (X0j (fun T => T.le U) Q')) (k : AWP P E y U Q) : AWP P E x S (X0j (fun T => AWP P E y T Q) Q') :=
 X6L h fun e T hq => by
  cases e with
  | normal => exact Xk hq k
  | _ => exact hq
end
section
variable {P : Program} {ops : Array Oper} {draw : Bool} {K : XA → St → Prop} {rest : List Oper} {l : XA} {S : St}
theorem XY {o : Oper} {j : Nat} {b : Bool} {p : Prop} {inst : Decidable p} (hg : o.guard = some (j, b)) (hx : S.get (X09 ops j) = ab (@decide p inst)) (ht : p → Walk P ops draw K (o :: rest) l S) (hf : ¬ p → Walk P ops draw K (o :: rest) l S) : Walk P ops draw K (o :: rest) l S := by
 by_cases h : p
 ·exact ht h
 ·exact hf h
theorem X2U {o : Oper} {j : Nat} {b x : Bool} (hg : o.guard = some (j, b)) (hx : S.get (X09 ops j) = ab x) (ht : x = true → Walk P ops draw K (o :: rest) l S) (hf : x = false → Walk P ops draw K (o :: rest) l S) : Walk P ops draw K (o :: rest) l S := by
 cases x
 ·exact hf rfl
 ·exact ht rfl
end
def leD (d e : D) : Prop := ∀ (M : Mem) (u : Value), d.rep M u → e.rep M u
def leC (r s : List D) : Prop := ∀ (M : Mem) (b o : Nat), YE M r b o → YE M s b o
def leW (sz : Nat) (r s : List (List D)) : Prop := r.length = s.length ∧ ∀ (M : Mem) (b o : Nat), U5 M sz r b o → U5 M sz s b o
theorem X12 (d : D) : leD d d := fun _ _ h => h
theorem XbH (sz : Nat) : leD (.v (.slice none 0 0)) (.sl sz []) := fun M u h => by
 simp only [D.rep] at h ⊢
 exact ⟨none, 0, h.1, by simp, by simp, by simp⟩
theorem X9Q : leC [] [] := fun _ _ _ h => h
theorem X01 {d e : D} {r s : List D} (h : leD d e) (hr : leC r s) : leC (d :: r) (e :: s) := fun M b o q => by
 rw [YE] at q ⊢
 obtain ⟨⟨u, h1, h2⟩, h3⟩ := q
 exact ⟨⟨u, h1, h M u h2⟩, hr M b (o + 1) h3⟩
theorem X9L (sz : Nat) : leW sz [] [] := ⟨rfl, fun _ _ _ h => h⟩
theorem Xbr {sz : Nat} {d e : List D} {r s : List (List D)} (h : leC d e) (hl : d.length = e.length) (hr : leW sz r s) : leW sz (d :: r) (e :: s) := ⟨by rw [List.length_cons, List.length_cons, hr.1], fun M b o q => by
 rw [U5] at q ⊢
 exact ⟨by rw [← hl]; exact q.1, h M b o q.2.1, hr.2 M b (o + sz) q.2.2⟩⟩
theorem X9q {sz : Nat} {r s : List (List D)} (h : leW sz r s) : leD (.sl sz r) (.sl sz s) := fun M u q => by
 simp only [D.rep] at q ⊢
 obtain ⟨a, cap, h1, h2, h3, h4⟩ := q
 refine ⟨a, cap, by rw [← h.1]; exact h1, by rw [← h.1]; exact h2, h3, ?_⟩
 rcases h4 with h4 | ⟨b, o, h5, h6⟩
 ·left
  have := h.1
  rw [h4] at this
  exact List.eq_nil_of_length_eq_zero this.symm
 ·exact .inr ⟨b, o, h5, h.2 M b o h6⟩
theorem AVal.le_d {d e : D} (h : leD d e) : AVal.le (.d d) (.d e) := fun g u q => by
 simp only [AVal.sat] at q ⊢
 exact h g.M u q
set_option linter.unusedSimpArgs false
theorem X3S {sz : Nat} : ∀ {xs : List (List D)} (h : ∀ x ∈ xs, x.length = sz) {k : Nat} {r : List D}, xs[k]? = some r → ∀ {o q : Nat}, o + q ≤ sz → (xs.flatten.drop (k * sz + o)).take q = (r.drop o).take q
 | [], _, k, r, hk, _, _, _ => by simp at hk
 | x :: xs, h, 0, r, hk, o, q, hq => by
  simp only [List.getElem?_cons_zero, Option.some.injEq] at hk
  subst hk
  have hx := h x (by simp)
  rw [Nat.zero_mul, Nat.zero_add, List.flatten_cons, List.drop_append_of_le_length (by omega), List.take_append_of_le_length (by rw [List.length_drop]; omega)]
 | x :: xs, h, k + 1, r, hk, o, q, hq => by
  have hx := h x (by simp)
  have := X3S (fun y hy => h y (by simp [hy])) (xs := xs) (k := k) (r := r) (by simpa using hk) hq
  rw [List.flatten_cons, show (k + 1) * sz + o = x.length + (k * sz + o) by rw [hx, Nat.succ_mul]; omega, ← List.drop_drop, List.drop_left]
  exact this
theorem XeS {P : Program} {g : Gh} {w : World} {h : Value} {sz o q : Nat} {xs : List (List D)} {ys : List D} (hr : YC g w h sz xs) (hb : o + q ≤ xs.length * sz) (hys : (xs.flatten.drop o).take q = ys) {news : Array Value} (hns : news.size = q) (hsat : Xi g (ys.map .d) news.toList) :
  ∃ w', (match h with | .slice (some a) _ _ => (storeCells (a.add o) news.toList).run P w | _ => .ok () w) = .ok () w' ∧ YC g w' h sz xs ∧
   (∀ b, ¬ Yy h b → w'.heap[b]? = w.heap[b]?) ∧ w'.heap.size = w.heap.size ∧ w'.os = w.os ∧ w'.output = w.output := by
 rcases hr.2 with ⟨rfl, rfl⟩ | ⟨b, cap, vs, e, fr, rfl, h2, h3, h4, h5, h6, h7⟩
 ·exact ⟨w, rfl, hr, fun _ _ => rfl, rfl, rfl, rfl⟩
 ·have hfx := V6 xs hr.1
  have hyl : ys.length = q := by have := Y9 hsat; simp only [List.length_map, Array.length_toList] at this; omega
  have hbnd : o + q ≤ vs.size := Nat.le_trans hb (Nat.le_trans (Nat.mul_le_mul_right _ h2) h6)
  obtain ⟨vs', k1, k2⟩ := X2x (P := P) b e fr vs.size h5 news.toList o 0 vs w h4 rfl (by simp [hns]; omega) (fun u hu => by
   obtain ⟨j, hj, rfl⟩ := List.getElem_of_mem hu
   have hjl : j < ys.length := by rw [hyl, ← hns]; simpa using hj
   obtain ⟨_, hrep⟩ := X1w hsat
   obtain ⟨u, hu1, hu2⟩ := hrep j _ (List.getElem?_eq_getElem hjl)
   rw [List.getElem?_eq_getElem hj] at hu1; cases hu1
   exact D.rep_one hu2)
  simp only [Nat.add_zero, Array.length_toList, hns] at k2
  have hvs' : vs'.size = vs.size := by
   have := congrArg List.length k2
   simp [hns] at this; omega
  refine ⟨w.setRow b vs', ?_, ⟨hr.1, .inr ⟨b, cap, vs', e, fr, rfl, h2, h3, setRow_heap w b vs _ e fr h4, by rw [hvs']; exact h5, by rw [hvs']; exact h6, ?_⟩⟩, fun c hc => setRow_other w b c vs' (fun e => hc (by rw [e]; exact ⟨_, _, _, rfl, rfl⟩)), by simp, rfl, rfl⟩
  ·simp only [YX, Nat.zero_add]; exact k1
  ·have hxt : (vs.toList.take (xs.length * sz)).length = xs.length * sz := by have := Y9 h7; simp only [List.length_map, hfx] at this; exact this
   have e1 : vs'.toList.take (xs.length * sz) = (vs.toList.take (xs.length * sz)).take o ++ news.toList ++ (vs.toList.take (xs.length * sz)).drop (o + q) := by
    rw [k2]
    exact Xbh (by simp [hns]) hb (by simp at hxt ⊢; omega)
   rw [e1]
   have e2 : xs.flatten = xs.flatten.take o ++ ys ++ xs.flatten.drop (o + q) := by
    rw [← hys, ← List.drop_drop, List.append_assoc, List.take_append_drop, List.take_append_drop]
   rw [e2, List.map_append, List.map_append, List.map_take, List.map_drop]
   exact VD (VD (X0a h7 _) hsat) (X0t h7 _)
section
variable {P : Program} {ops : Array Oper} {draw : Bool} {K : XA → St → Prop} {rest : List Oper} {l : XA} {S : St}
variable {d : Nat} {ty : TypeId} {pos : String} {aft : Array Edge} {gd : Option (Nat × Bool)}
theorem XeB {x i : Operand} {T : TypeId} {γ n k sz : Nat} {kd : IntKind} {m : Int} {xs : List (List D)} (hx : S.ev x = .own γ n) (hL : S.obj γ = .row sz xs) (hi : S.ev i = .d (.v (.int kd m))) (hn : n = xs.length) (hk : m = (k : Nat)) (hlt : k < xs.length)
  (hT : Yd P T sz = true) (hd : Nat.blt d S.n = true) (hg : Xh ops S gd)
  (h : Walk P ops draw K rest ((l.length, ⟨some d, .indexAddr T x i, ty, pos, aft, gd⟩, ⟨Xe ops gd ++ [(x, .own γ n), (i, .d (.v (.int kd m)))], some (d, .rptr γ n (k * sz)), [(γ, .row sz xs)], [], []⟩) :: l) (S.set d (.rptr γ n (k * sz)))) :
  Walk P ops draw K (⟨some d, .indexAddr T x i, ty, pos, aft, gd⟩ :: rest) l S :=
 XH ⟨[(x, .own γ n), (i, .d (.v (.int kd m)))], some (d, .rptr γ n (k * sz)), [(γ, .row sz xs)], [], []⟩ (Y2 rfl fun E S g a w hs hq hl => by
  obtain ⟨e, h1, h2, h3⟩ := X0i hT
  have ho := hs.1.obj γ
  rw [hl.1] at ho
  have hv := X1k hq.1 ho hn
  rcases ho.2 with ⟨e, rfl⟩ | ⟨b, cap, vs, e', fr, hh, _⟩
  ·simp at hlt
  ·rw [hh] at hv
   refine ⟨.pointer (some ⟨b, k * sz, none⟩), ?_, ?_⟩
   ·have hb : (0 : Int) ≤ m ∧ m < (xs.length : Int) := by omega
    have hm : m.toNat = k := by omega
    have := run_indexAt_slice (P := P) w T ⟨b, 0, none⟩ xs.length cap kd m (by rw [h3]; exact h1)
    rw [if_pos hb, h3, h2 w, Result.andThen_ok, YX, hm, Nat.zero_add] at this
    simp only [execOp, hv, Yj hq.2.1, Sem.run_bind, this]; rfl
   ·simp only [AVal.sat]
    exact ⟨rfl, _, _, _, hh, by omega, fun _ => ⟨_, rfl, rfl⟩⟩) hg ⟨⟨hx, hi, trivial⟩, ⟨hL, trivial⟩, trivial, hd⟩ h
theorem X6H {g : Gh} {w : World} {γ n o sz : Nat} {xs : List (List D)} {u : Value} (hs : (AVal.rptr γ n o).sat g u) (ho : YC g w (g.hd γ) sz xs) (hn : n = xs.length) (h0 : 0 < xs.length) :
  ∃ b cap vs e fr, u = .pointer (some ⟨b, o, none⟩) ∧ g.hd γ = .slice (some ⟨b, 0, none⟩) xs.length cap ∧ w.heap[b]? = some (.cells vs e fr) ∧ Xi g (xs.flatten.map .d) (vs.toList.take (xs.length * sz)) := by
 simp only [AVal.sat] at hs
 obtain ⟨_, a', m, c, q1, q2, q3⟩ := hs
 rcases ho.2 with ⟨e, rfl⟩ | ⟨b, cap, vs, e', fr, hh, k2, k3, k4, k5, k6, k7⟩
 ·simp at h0
 ·rw [hh] at q1; cases q1
  obtain ⟨b', e1, e2⟩ := q3 hn
  cases e1
  exact ⟨b, _, vs, e', fr, e2, hh, k4, k7⟩
theorem Xix {s : TypeId} {x : Operand} {f γ n o off sz : Nat} {xs : List (List D)} (hx : S.ev x = .rptr γ n o) (hL : S.obj γ = .row sz xs) (hn : n = xs.length) (h0 : 0 < xs.length) (hoff : X2g P s f = off) (hf : X0Q P s f off = true) (hd : Nat.blt d S.n = true) (hg : Xh ops S gd)
  (h : Walk P ops draw K rest ((l.length, ⟨some d, .fieldAddr s x f, ty, pos, aft, gd⟩, ⟨Xe ops gd ++ [(x, .rptr γ n o)], some (d, .rptr γ n (o + off)), [(γ, .row sz xs)], [], []⟩) :: l) (S.set d (.rptr γ n (o + off)))) :
  Walk P ops draw K (⟨some d, .fieldAddr s x f, ty, pos, aft, gd⟩ :: rest) l S :=
 XH ⟨[(x, .rptr γ n o)], some (d, .rptr γ n (o + off)), [(γ, .row sz xs)], [], []⟩ (Y2 rfl fun E S g a w hs hq hl => by
  have ho := hs.1.obj γ
  rw [hl.1] at ho
  obtain ⟨b, cap, vs, e, fr, e1, e2, e3, e4⟩ := X6H hq.1 ho hn h0
  refine ⟨.pointer (some ⟨b, o + off, none⟩), by simp [execOp, e1, X6S hf], ?_⟩
  simp only [AVal.sat]
  exact ⟨rfl, _, _, _, e2, by omega, fun _ => ⟨_, rfl, rfl⟩⟩) hg ⟨⟨hx, trivial⟩, ⟨hL, trivial⟩, trivial, hd⟩ h
theorem Xf1 {t : TypeId} {x : Operand} {γ n o q sz : Nat} {xs : List (List D)} {ys : List D} (hx : S.ev x = .rptr γ n o) (hL : S.obj γ = .row sz xs) (hn : n = xs.length) (h0 : 0 < xs.length) (hb : o + q ≤ xs.length * sz) (hys : (xs.flatten.drop o).take q = ys)
  (ht : YY P t true q = true) (hd : Nat.blt d S.n = true) (hg : Xh ops S gd)
  (h : Walk P ops draw K rest ((l.length, ⟨some d, .load t x, ty, pos, aft, gd⟩, ⟨Xe ops gd ++ [(x, .rptr γ n o)], some (d, .agg (ys.map .d)), [(γ, .row sz xs)], [], []⟩) :: l) (S.set d (.agg (ys.map .d)))) :
  Walk P ops draw K (⟨some d, .load t x, ty, pos, aft, gd⟩ :: rest) l S :=
 XH ⟨[(x, .rptr γ n o)], some (d, .agg (ys.map .d)), [(γ, .row sz xs)], [], []⟩ (Y2 rfl fun E S g a w hs hq hl => by
  have ho := hs.1.obj γ
  rw [hl.1] at ho
  obtain ⟨b, cap, vs, e, fr, e1, e2, e3, e4⟩ := X6H hq.1 ho hn h0
  have hsub := X0a (X0t e4 o) q
  rw [← List.map_drop, ← List.map_take, hys] at hsub
  have hl1 := Y9 hsub
  have hfx := V6 xs ho.1
  have hyl : ys.length = q := by rw [← hys, List.length_take, List.length_drop, hfx]; omega
  rw [List.length_map] at hl1
  refine ⟨.agg (((vs.toList.take (xs.length * sz)).drop o).take q).toArray, ?_, by simp only [AVal.sat]; exact ⟨_, rfl, hsub⟩⟩
  have := X32 (P := P) (p := ⟨b, o, none⟩) (w := w) (vs := ((vs.toList.take (xs.length * sz)).drop o).take q) (t := t) (by rw [hl1, hyl]; exact ht) (fun j v hv => by
   rw [YX, cell_of_row w _ _ vs e fr e3]
   rw [List.getElem?_take] at hv
   split at hv
   ·rw [List.getElem?_drop, List.getElem?_take] at hv
    split at hv
    ·simpa using hv
    ·simp at hv
   ·simp at hv)
  simp [execOp, e1, Instr.loadAt, Instr.sureAddr, this]) hg ⟨⟨hx, trivial⟩, ⟨hL, trivial⟩, trivial, hd⟩ h
theorem XeW {t : TypeId} {x v : Operand} {γ n o q sz : Nat} {xs : List (List D)} {ys : List D} (hx : S.ev x = .rptr γ n o) (hL : S.obj γ = .row sz xs) (hv : S.ev v = .agg (ys.map .d)) (hn : n = xs.length) (h0 : 0 < xs.length) (hb : o + q ≤ xs.length * sz) (hys : (xs.flatten.drop o).take q = ys)
  (ht : X0y P t q = true) (hg : Xh ops S gd)
  (h : Walk P ops draw K rest ((l.length, ⟨none, .store t x v, ty, pos, aft, gd⟩, ⟨Xe ops gd ++ [(x, .rptr γ n o), (v, .agg (ys.map .d))], none, [(γ, .row sz xs)], [(γ, .row sz xs)], []⟩) :: l)
   (S.own γ (.row sz xs))) :
  Walk P ops draw K (⟨none, .store t x v, ty, pos, aft, gd⟩ :: rest) l S :=
 XH ⟨[(x, .rptr γ n o), (v, .agg (ys.map .d))], none, [(γ, .row sz xs)], [(γ, .row sz xs)], []⟩ (X35 rfl fun E S g a w hs hq hl hnn => by
  have ho := hs.1.obj γ
  rw [hl.1] at ho
  have hrow : YC g w (g.hd γ) sz xs := ho
  obtain ⟨b, cap, vs, e, fr, e1, e2, e3, e4⟩ := X6H hq.1 ho hn h0
  have hqv := hq.2.1
  simp only [AVal.sat] at hqv
  obtain ⟨us, hu, hus⟩ := hqv
  have hfx := V6 xs hrow.1
  have hyl : ys.length = q := by rw [← hys, List.length_take, List.length_drop, hfx]; omega
  have hul : us.size = q := by have := Y9 hus; simp only [List.length_map, Array.length_toList] at this; omega
  obtain ⟨w', s1, s2, s3, s4, s5, s6⟩ := XeS (P := P) hrow hb hys hul hus
  rw [e2] at s1
  simp only [YX, Nat.zero_add] at s1
  refine ⟨g, w', ?_, ?_, hs.2.2.2⟩
  ·have hsz := X3T ht w
   simp [execOp, e1, hu, Instr.storeAt, Instr.sureAddr, storeVar, hsz, Value.cells, hul, s1]
  ·refine Inv.upd hs.1 γ _ (XS _ _ _ _) (fun j hj => XF _ _ _ (Ne.symm hj)) (fun b hb hnl => s3 b fun hc => hnl (by rw [hl.1]; exact hc)) (by omega) s5 s6 rfl (fun _ _ => ⟨rfl, rfl, rfl⟩) (fun _ _ _ _ _ h => h) s2 (fun b hb => .inl (by rw [hl.1]; exact hb)) (fun _ => Gh.keeps_refl _ _)) hg ⟨⟨hx, hv, trivial⟩, ⟨hL, trivial⟩, trivial, trivial⟩ h
end
def U9 : List (Int × Int) → Int → Int
 | [], _ => 0
 | p :: r, k => if k = p.1 then p.2 else U9 r k
def V2 : List (Int × Int) → Int → Int → List (Int × Int)
 | [], k, v => [(k, v)]
 | p :: r, k, v => if k = p.1 then (p.1, v) :: r else p :: V2 r k v
theorem Xbi (k v j : Int) : ∀ es, U9 (V2 es k v) j = if j = k then v else U9 es j
 | [] => by simp [U9, V2]
 | p :: r => by
  rw [V2]
  by_cases h : k = p.1
  ·rw [if_pos h, U9, U9]
   simp only
   by_cases hj : j = p.1
   ·rw [if_pos hj, if_pos (by omega)]
   ·rw [if_neg hj, if_neg (by omega), if_neg hj]
  ·rw [if_neg h, U9, U9, Xbi k v j r]
   by_cases hj : j = p.1
   ·rw [if_pos hj, if_pos hj, if_neg (by omega)]
   ·rw [if_neg hj, if_neg hj]
def VA : List (Int × Int) → Int → Option Nat
 | [], _ => none
 | p :: r, k => if k = p.1 then some 0 else (VA r k).map (· + 1)
theorem Xa8 (k : Int) : ∀ (ms : List MapEntry) (es : List (Int × Int)) (i : Nat), ms.map (fun e => (e.key, e.val)) = es.map (fun p => (Value.int .i64 p.1, Value.int .i64 p.2)) →
  Instr.findNow (.int .i64) (.int .i64 k) ms i = some ((VA es k).map fun n => (i + n, Value.int .i64 (U9 es k)))
 | [], [], i, _ => rfl
 | [], p :: r, _, h => by simp at h
 | m :: ms, [], _, h => by simp at h
 | m :: ms, p :: r, i, h => by
  simp only [List.map_cons, List.cons.injEq, Prod.mk.injEq] at h
  rw [Instr.findNow, h.1.1]
  simp only [Instr.sameNow, if_true]
  by_cases hk : k = p.1
  ·rw [hk]
   simp [VA, U9, h.1.2]
  ·have : (k == p.1) = false := by simpa using hk
   rw [this, VA, if_neg hk, U9, if_neg hk, Xa8 k ms r (i + 1) h.2]
   cases VA r k with
   | none => rfl
   | some n => simp; omega
theorem X7e : ∀ {es : List (Int × Int)} {k : Int}, VA es k = none → U9 es k = 0 ∧ ∀ v, V2 es k v = es ++ [(k, v)]
 | [], k, _ => ⟨rfl, fun _ => rfl⟩
 | p :: r, k, h => by
  rw [VA] at h
  by_cases hk : k = p.1
  ·rw [if_pos hk] at h; simp at h
  ·rw [if_neg hk] at h
   obtain ⟨h1, h2⟩ := X7e (es := r) (k := k) (by simpa using h)
   exact ⟨by rw [U9, if_neg hk, h1], fun v => by rw [V2, if_neg hk, h2]; rfl⟩
theorem Xbv : ∀ {es : List (Int × Int)} {k : Int} {n : Nat}, VA es k = some n → ∃ h : n < es.length, es[n].1 = k ∧ ∀ v, V2 es k v = es.set n (k, v)
 | [], k, _, h => by simp [VA] at h
 | p :: r, k, n, h => by
  rw [VA] at h
  by_cases hk : k = p.1
  ·rw [if_pos hk] at h
   cases h
   exact ⟨by simp, by simp [hk], fun v => by rw [V2, if_pos hk, hk]; rfl⟩
  ·rw [if_neg hk] at h
   cases hr : VA r k with
   | none => rw [hr] at h; simp at h
   | some m =>
    rw [hr] at h
    simp only [Option.map_some, Option.some.injEq] at h
    subst h
    obtain ⟨h1, h2, h3⟩ := Xbv hr
    exact ⟨by simp; omega, by simpa using h2, fun v => by rw [V2, if_neg hk, h3]; rfl⟩
def X2o (P : Program) (t : TypeId) : Bool :=
 match P.underlying t with
 | some (.map k e) => (match P.underlying k, P.underlying e with | some (.int .i64), some (.int .i64) => true | _, _ => false) && (match P.info? e with | some i => (match i.zero with | some (.int .i64 0) => true | _ => false) | none => false)
 | _ => false
section
variable {P : Program} {ops : Array Oper} {draw : Bool} {K : XA → St → Prop} {rest : List Oper} {l : XA} {S : St}
variable {d : Nat} {ty : TypeId} {pos : String} {aft : Array Edge} {gd : Option (Nat × Bool)}
theorem Xbp {t : TypeId} (h : X2o P t = true) : ∃ k e, P.underlying t = some (.map k e) ∧ P.underlying k = some (.int .i64) ∧ P.underlying e = some (.int .i64) ∧ ∃ i, P.info? e = some i ∧ i.zero = some (.int .i64 0) := by
 unfold X2o at h
 cases hu : P.underlying t with
 | none => simp [hu] at h
 | some de =>
  cases de <;> simp [hu] at h
  rename_i k e
  refine ⟨k, e, rfl, ?_⟩
  obtain ⟨h1, h2⟩ := h
  refine ⟨?_, ?_, ?_⟩
  ·cases hk : P.underlying k with
   | none => simp [hk] at h1
   | some dk =>
    cases dk <;> simp [hk] at h1
    rename_i q
    cases q <;> (try simp at h1)
    rfl
  ·cases hk : P.underlying k with
   | none => simp [hk] at h1
   | some dk =>
    cases dk <;> simp [hk] at h1
    rename_i q
    cases q <;> (try simp at h1)
    cases he : P.underlying e with
    | none => simp [he] at h1
    | some dk =>
     cases dk <;> simp [he] at h1
     rename_i q
     cases q <;> (try simp at h1)
     rfl
  ·cases hi : P.info? e with
   | none => simp [hi] at h2
   | some i =>
    rw [hi] at h2
    refine ⟨i, rfl, ?_⟩
    revert h2
    simp only
    split
    ·rename_i h; intro _; exact h
    ·simp
theorem run_findKey {k : TypeId} (hk : P.underlying k = some (.int .i64)) {n : Int} {ms : Array MapEntry} {es : List (Int × Int)} (hr : X2M ms es) (w : World) :
  (Instr.findKey k (.int .i64 n) ms.toList).run P w = .ok ((VA es n).map fun i => (i, Value.int .i64 (U9 es n))) w := by
 have := MapKept.run_findKey (w := w) hk (Xa8 n ms.toList es 0 hr)
 simpa using this
theorem X2H (n : Int) : MapKept.IsKey (.int .i64) (.int .i64 n) := by simp [MapKept.IsKey]
theorem XbW {g : Gh} {w : World} {γ : Nat} {es : List (Int × Int)} {u : Value} (ho : Yb g w γ (.imap es)) (hs : (AVal.inn γ 0).sat g u) : u = .map (some (g.blk γ)) := by
 simp only [AVal.sat] at hs
 rw [hs.2.1]
 exact ho.1.2
theorem XdD {t : TypeId} {γ : Nat} (hdead : S.obj γ = .dead) (hf : S.free γ = true) (hd : Nat.blt d S.n = true) (hg : Xh ops S gd)
  (h : Walk P ops draw K rest ((l.length, ⟨some d, .makeMap t none, ty, pos, aft, gd⟩, ⟨Xe ops gd ++ [], some (d, .inn γ 0), [(γ, .dead)], [(γ, .imap [])], [γ]⟩) :: l) ((S.set d (.inn γ 0)).own γ (.imap []))) :
  Walk P ops draw K (⟨some d, .makeMap t none, ty, pos, aft, gd⟩ :: rest) l S :=
 XH ⟨[], some (d, .inn γ 0), [(γ, .dead)], [(γ, .imap [])], [γ]⟩ (X0w rfl fun E S g a w hs hq hl hn => by
  let g' : Gh := { blk := fun k => if k = γ then w.heap.size else g.blk k, hd := fun k => if k = γ then .slice none 1 1 else g.hd k, ihd := fun k => if k = γ then fun _ => .map (some w.heap.size) else g.ihd k, M := g.M }
  have hkeep : ∀ k, k ≠ γ → g.keeps g' k := fun k hk => Gh.keeps_of (by simp [g', hk]) (by simp [g', hk]) (by simp [g', hk])
  refine ⟨.map (some w.heap.size), g', w.alloc (.map #[] 0), ?_, ?_, ?_, ?_⟩
  ·simp only [execOp, Instr.makeMap, Option.map_none, newObj]
   rfl
  ·simp only [AVal.sat]
   exact ⟨rfl, by simp [g'], none, 1, 1, by simp [g'], by omega⟩
  ·refine Inv.upd hs.1 γ _ (XS _ _ _ _) (fun k hk => XF _ _ _ (Ne.symm hk)) (fun b hb _ => X0C w _ b hb) (X1R w _) rfl rfl rfl
    (fun k hk => ⟨by simp [g', hk], by simp [g', hk], by simp [g', hk]⟩) (fun k cs us hk hL hsat => Vn (g := g) (g' := g') (XK.refl _) cs us (fun j hj => hkeep j (fun e => ?_)) hsat) ?_ (fun k hk => .inr ?_) (fun hlt => ?_)
   ·have := X4x hn.1 k
    rw [AObj.ment, hL] at this
    rw [e] at hj
    rw [this] at hj
    simp at hj
   ·refine ⟨⟨by simp [g'], by simp [g']⟩, #[], 0, ?_, rfl⟩
    simp only [g', if_true]
    exact heap_alloc_new w _
   ·have hk : g'.blk γ = k := hk
    simp only [g', if_true] at hk
    omega
   ·have := hn.1
    simp only [St.free, Bool.and_eq_true, Nat.ble_eq] at this
    omega
  ·intro t
   exact AVal.sat_mono (g := g) (g' := g') (XK.refl _) _ _ (fun k hk => hkeep k (fun e => by have := X5W hn.1 t; rw [e, this] at hk; simp at hk)) (hs.2.2.2 t)) hg ⟨trivial, ⟨hdead, trivial⟩, ⟨hf, trivial⟩, hd⟩ h
theorem XhF {t : TypeId} {x k : Operand} {γ : Nat} {es : List (Int × Int)} {n : Int} (hx : S.ev x = .inn γ 0) (hk : S.ev k = .d (.v (.int .i64 n))) (hL : S.obj γ = .imap es) (ht : X2o P t = true)
  (hd : Nat.blt d S.n = true) (hg : Xh ops S gd)
  (h : Walk P ops draw K rest ((l.length, ⟨some d, .lookup t x k false, ty, pos, aft, gd⟩, ⟨Xe ops gd ++ [(x, .inn γ 0), (k, .d (.v (.int .i64 n)))], some (d, .d (.v (.int .i64 (U9 es n)))), [(γ, .imap es)], [], []⟩) :: l) (S.set d (.d (.v (.int .i64 (U9 es n)))))) :
  Walk P ops draw K (⟨some d, .lookup t x k false, ty, pos, aft, gd⟩ :: rest) l S := by
 refine XH ⟨[(x, .inn γ 0), (k, .d (.v (.int .i64 n)))], some (d, .d (.v (.int .i64 (U9 es n)))), [(γ, .imap es)], [], []⟩ (Y2 rfl fun E S g a w hs hq hl => ?_) hg ⟨⟨hx, hk, trivial⟩, ⟨hL, trivial⟩, trivial, hd⟩ h
 obtain ⟨kt, et, t1, t2, t3, t4⟩ := Xbp ht
 have ho := hs.1.obj γ
 rw [hl.1] at ho
 have e1 := XbW ho hq.1
 have e2 := Yj hq.2.1
 obtain ⟨_, ms, clock, h1, h2⟩ := ho
 obtain ⟨i, ti, tz⟩ := t4
 have hz : (zeroValue et).run P w = .ok (.int .i64 0) w := by simp [zeroValue, typeInfo, ti, tz, Result.andThen]
 refine ⟨.int .i64 (U9 es n), ?_, by simp [AVal.sat, D.rep, Value.oneCell']⟩
 have hf := run_findKey t2 (n := n) h2 w
 cases hat : VA es n with
 | none =>
  rw [hat] at hf
  rw [(X7e hat).1]
  simp [execOp, e1, e2, Instr.lookup, run_underlying t1, MapKept.run_getObj_map h1, MapKept.run_checkKey t2 (X2H n), hf, hz, Result.andThen]
 | some j =>
  rw [hat] at hf
  simp [execOp, e1, e2, Instr.lookup, run_underlying t1, MapKept.run_getObj_map h1, MapKept.run_checkKey t2 (X2H n), hf, hz, Result.andThen]
theorem Xdz {t : TypeId} {x k v : Operand} {γ : Nat} {es : List (Int × Int)} {n m : Int} (hx : S.ev x = .inn γ 0) (hk : S.ev k = .d (.v (.int .i64 n))) (hv : S.ev v = .d (.v (.int .i64 m))) (hL : S.obj γ = .imap es) (ht : X2o P t = true)
  (hg : Xh ops S gd)
  (h : Walk P ops draw K rest ((l.length, ⟨none, .mapUpdate t x k v, ty, pos, aft, gd⟩, ⟨Xe ops gd ++ [(x, .inn γ 0), (k, .d (.v (.int .i64 n))), (v, .d (.v (.int .i64 m)))], none, [(γ, .imap es)], [(γ, .imap (V2 es n m))], []⟩) :: l) (S.own γ (.imap (V2 es n m)))) :
  Walk P ops draw K (⟨none, .mapUpdate t x k v, ty, pos, aft, gd⟩ :: rest) l S := by
 refine XH ⟨[(x, .inn γ 0), (k, .d (.v (.int .i64 n))), (v, .d (.v (.int .i64 m)))], none, [(γ, .imap es)], [(γ, .imap (V2 es n m))], []⟩ (X35 rfl fun E S g a w hs hq hl hn => ?_) hg ⟨⟨hx, hk, hv, trivial⟩, ⟨hL, trivial⟩, trivial, trivial⟩ h
 obtain ⟨kt, et, t1, t2, t3, t4⟩ := Xbp ht
 have ho := hs.1.obj γ
 rw [hl.1] at ho
 have e1 := XbW ho hq.1
 have e2 := Yj hq.2.1
 have e3 := Yj hq.2.2.1
 obtain ⟨ho1, ms, clock, h1, h2⟩ := ho
 have hb := (Array.getElem?_eq_some_iff.1 h1).1
 have hf := run_findKey t2 (n := n) h2 w
 have hlen : ms.size = es.length := by
  have := congrArg List.length h2
  simpa using this
 obtain ⟨ms', clock', hrun, hrel⟩ : ∃ ms' clock', (Instr.mapUpdate t (.map (some (g.blk γ))) (.int .i64 n) (.int .i64 m)).run P w = .ok () { w with heap := w.heap.setIfInBounds (g.blk γ) (.map ms' clock') } ∧ X2M ms' (V2 es n m) := by
  cases hat : VA es n with
  | none =>
   rw [hat] at hf
   refine ⟨ms.push { key := .int .i64 n, val := .int .i64 m, born := clock }, clock + 1, ?_, ?_⟩
   ·simp [Instr.mapUpdate, run_underlying t1, MapKept.run_getObj_map h1, MapKept.run_checkKey t2 (X2H n), hf, MapKept.run_setObj_map _ h1, Result.andThen]
   ·rw [(X7e hat).2 m]
    unfold X2M at h2 ⊢
    simp [h2]
  | some j =>
   rw [hat] at hf
   obtain ⟨hj, hk1, hk2⟩ := Xbv hat
   have hjm : j < ms.size := by omega
   have hkey : ms[j].key = .int .i64 n := by
    have := congrArg (fun l => l[j]?) h2
    simp only [List.getElem?_map, Array.getElem?_toList, Array.getElem?_eq_getElem hjm, List.getElem?_eq_getElem hj, Option.map_some, Option.some.injEq, Prod.mk.injEq] at this
    rw [this.1, hk1]
   refine ⟨ms.modify j fun e => { e with key := .int .i64 n, val := .int .i64 m }, clock, ?_, ?_⟩
   ·simp [Instr.mapUpdate, run_underlying t1, MapKept.run_getObj_map h1, MapKept.run_checkKey t2 (X2H n), hf, MapKept.run_setObj_map _ h1, Result.andThen, Array.getElem?_eq_getElem hjm, hkey, MapKept.run_keyThatStays (X2H n)]
   ·rw [hk2 m]
    unfold X2M at h2 ⊢
    apply List.ext_getElem?
    intro i
    have hi := congrArg (fun l => l[i]?) h2
    simp only [List.getElem?_map, Array.getElem?_toList] at hi
    simp only [List.getElem?_map, Array.getElem?_toList, Array.getElem?_modify, List.getElem?_set]
    by_cases hij : j = i
    ·subst hij
     simp [Array.getElem?_eq_getElem hjm, hj]
    ·simp only [if_neg hij]
     exact hi
 refine ⟨g, { w with heap := w.heap.setIfInBounds (g.blk γ) (.map ms' clock') }, ?_, ?_, hs.2.2.2⟩
 ·simp only [execOp, e1, e2, e3, Sem.run_bind, hrun]
  rfl
 ·refine Inv.upd hs.1 γ _ (XS _ _ _ _) (fun k hk => XF _ _ _ (Ne.symm hk)) (fun b hb2 hnl => ?_) (by simp) rfl rfl rfl (fun _ _ => ⟨rfl, rfl, rfl⟩) (fun _ _ _ _ _ h => h) ?_ (fun b hb2 => .inl ?_) (fun _ => Gh.keeps_refl _ _)
  ·have hne : g.blk γ ≠ b := fun e => hnl (by rw [hl.1]; exact e)
   simp [Array.getElem?_setIfInBounds, hne]
  ·exact ⟨ho1, ms', clock', by simp [Array.getElem?_setIfInBounds, hb], hrel⟩
  ·rw [hl.1]; exact hb2
end
theorem Inv.part {E : Env} {L L' : Nat → AObj} {g g' : Gh} {w : World} (hi : Inv E L g w) (sp : Nat → Prop) (hM : g'.M = g.M)
  (hother : ∀ k, ¬ sp k → L' k = L k ∧ g'.blk k = g.blk k ∧ g'.hd k = g.hd k ∧ g'.ihd k = g.ihd k)
  (hsat : ∀ k cs us, ¬ sp k → (L k).says = cs → Xi g cs us → Xi g' cs us)
  (hobj : ∀ k, sp k → Yb g' w k (L' k))
  (hlv : ∀ k b, sp k → Xn g' (L' k) k b → ∃ k', sp k' ∧ Xn g (L k') k' b)
  (hinj : ∀ k k' b, sp k → sp k' → Xn g' (L' k) k b → Xn g' (L' k') k' b → k = k')
  (hkp : ∀ k, sp k → k < 100 → g.keeps g' k) : Inv E L' g' w := by
 have hl : ∀ k b, ¬ sp k → (Xn g' (L' k) k b ↔ Xn g (L k) k b) := fun k b hk => by
  obtain ⟨h1, h2, h3, h4⟩ := hother k hk
  rw [h1]; exact X18 h2 h3 h4 _ _
 have hany : ∀ k b, Xn g' (L' k) k b → ∃ k', (sp k ↔ sp k') ∧ (¬ sp k → k' = k) ∧ Xn g (L k') k' b := by
  intro k b hb
  by_cases hk : sp k
  ·obtain ⟨k', h1, h2⟩ := hlv k b hk hb
   exact ⟨k', ⟨fun _ => h1, fun _ => hk⟩, fun h => absurd hk h, h2⟩
  ·exact ⟨k, Iff.rfl, fun _ => rfl, (hl k b hk).1 hb⟩
 refine ⟨fun k => ?_, fun k k' b h h' => ?_, fun a v h => ?_, fun k b h a v ha => ?_, fun k b h => ?_, hM ▸ hi.ext, fun a v h => ?_, hi.frame, hi.size, hi.os, hi.out, fun k hk => ?_⟩
 ·by_cases hk : sp k
  ·exact hobj k hk
  ·obtain ⟨h1, h2, h3, h4⟩ := hother k hk
   rw [h1]
   exact X2B (by rw [hM]; exact XK.refl _) h2 h3 h4 (fun _ _ => rfl) (fun cs us e hs => hsat k cs us hk e hs) (hi.obj k)
 ·by_cases hk : sp k
  ·by_cases hk' : sp k'
   ·exact hinj k k' b hk hk' h h'
   ·obtain ⟨j, h1, h2⟩ := hlv k b hk h
    have := hi.inj _ _ _ h2 ((hl k' b hk').1 h')
    subst this; exact absurd h1 hk'
  ·by_cases hk' : sp k'
   ·obtain ⟨j, h1, h2⟩ := hlv k' b hk' h'
    have := hi.inj _ _ _ ((hl k b hk).1 h) h2
    subst this; exact absurd h1 hk
   ·exact hi.inj _ _ _ ((hl k b hk).1 h) ((hl k' b hk').1 h')
 ·rw [hM] at h; exact hi.mem a v h
 ·rw [hM] at ha
  obtain ⟨k', _, _, h2⟩ := hany k b h
  exact hi.sep k' b h2 a v ha
 ·obtain ⟨k', _, _, h2⟩ := hany k b h
  exact hi.new k' b h2
 ·rw [hM] at h; exact hi.lim a v h
 ·by_cases hk' : sp k
  ·exact (hi.kp k hk).trans' (hkp k hk' hk)
  ·obtain ⟨_, h2, h3, h4⟩ := hother k hk'
   exact (hi.kp k hk).trans' (Gh.keeps_of h2 h3 h4)
theorem XfL {S : St} {γ : Nat} (h : S.free γ = true) (t : Nat) : (S.get t).ment γ = false := by
 simp only [St.free, Bool.and_eq_true] at h
 have := (X1P γ S.τ).1 h.2.1
 unfold St.get
 by_cases hk : Xp t S.τ = true
 ·exact this _ (X6M AVal.any t S.τ hk)
 ·rw [X7C _ _ _ (by simpa using hk)]; rfl
theorem X55 {S : St} {γ : Nat} (h : S.free γ = true) : 100 ≤ γ := by
 simp only [St.free, Bool.and_eq_true, Nat.ble_eq] at h; exact h.1
theorem X37 {S : St} {g g' : Gh} {a : Act} (hM : g'.M = g.M) (sp : Nat → Prop) (hsp : ∀ k, sp k → S.free k = true ∨ g.keeps g' k) (hother : ∀ k, ¬ sp k → g'.blk k = g.blk k ∧ g'.hd k = g.hd k ∧ g'.ihd k = g.ihd k)
  (h : ∀ t, (S.get t).sat g (a.tmps.getD t undef)) : ∀ t, (S.get t).sat g' (a.tmps.getD t undef) := fun t =>
 AVal.sat_mono (by rw [hM]; exact XK.refl _) _ _ (fun γ hm => by
  by_cases hk : sp γ
  ·rcases hsp γ hk with hf | hf
   ·rw [XfL hf] at hm; simp at hm
   ·exact hf
  ·obtain ⟨h2, h3, h4⟩ := hother γ hk
   exact Gh.keeps_of h2 h3 h4) (h t)
theorem X2Z {S : St} {g g' : Gh} (hM : g'.M = g.M) (sp : Nat → Prop) (hsp : ∀ k, sp k → S.free k = true ∨ g.keeps g' k) (hother : ∀ k, ¬ sp k → g'.blk k = g.blk k ∧ g'.hd k = g.hd k ∧ g'.ihd k = g.ihd k)
  {k : Nat} {cs : List AVal} {us : List Value} (e : (S.obj k).says = cs) (h : Xi g cs us) : Xi g' cs us :=
 Vn (by rw [hM]; exact XK.refl _) _ _ (fun γ hm => by
  by_cases hk : sp γ
  ·rcases hsp γ hk with hf | hf
   ·have := X4x hf k
    rw [AObj.ment, e, hm] at this; simp at this
   ·exact hf
  ·obtain ⟨h2, h3, h4⟩ := hother γ hk
   exact Gh.keeps_of h2 h3 h4) h
theorem X5j {P : Program} {E : Env} {c : Code} {S : St} {Q : Exit → St → Prop} {ι : Type} (T : ι → St) (I : ι → Prop) (h : ∀ E a w, holds E S a w → ∃ i, I i ∧ holds E (T i) a w) (k : ∀ i, I i → AWP P E c (T i) Q) : AWP P E c S Q :=
 ⟨fun a w hs => let ⟨i, hI, hi⟩ := h E a w hs; (k i hI).run a w hi⟩
theorem Xah {P : Program} {E : Env} {c : Code} {S : St} {Q : Exit → St → Prop} (γ δ : Nat) {sz : Nat} {xs : List (List NC)} (hL : S.obj γ = .nest sz xs) (hdead : S.obj δ = .dead)
  (h : ∀ (rows : List (List D)) (hs : List Hd), rows.length = xs.length → Uh xs.flatten rows.flatten hs → (∀ x ∈ rows, x.length = sz) → AWP P E c ⟨S.n, S.τ, (γ, .row sz rows) :: (δ, .bag hs) :: S.L⟩ Q) : AWP P E c S Q := by
 refine X5j (ι := List (List D) × List Hd) (fun i => ⟨S.n, S.τ, (γ, .row sz i.1) :: (δ, .bag i.2) :: S.L⟩) (fun i => i.1.length = xs.length ∧ Uh xs.flatten i.1.flatten i.2 ∧ ∀ x ∈ i.1, x.length = sz) ?_ (fun i hi => h i.1 i.2 hi.1 hi.2.1 hi.2.2)
 rintro E a w ⟨g, hs⟩
 have hne : γ ≠ δ := by rintro rfl; rw [hL] at hdead; cases hdead
 have ho := hs.1.obj γ
 rw [hL] at ho
 obtain ⟨⟨rows, h1, h2, h3⟩, h4, h5⟩ := ho
 refine ⟨(rows, X0z (g.ihd γ) xs), ⟨h1, h2, h3.1⟩, g, ?_, hs.2.1, hs.2.2.1, hs.2.2.2⟩
 have hγ : Xb .dead ((γ, AObj.row sz rows) :: (δ, .bag (X0z (g.ihd γ) xs)) :: S.L) γ = .row sz rows := XS _ _ _ _
 have hδ : Xb .dead ((γ, AObj.row sz rows) :: (δ, .bag (X0z (g.ihd γ) xs)) :: S.L) δ = .bag (X0z (g.ihd γ) xs) := by rw [XF _ _ _ hne, XS]
 refine Inv.part hs.1 (fun k => k = γ ∨ k = δ) rfl (fun k hk => ?_) (fun _ _ _ _ _ h => h) (fun k hk => ?_) (fun k b hk hb => ?_) (fun k k' b hk hk' hb hb' => ?_) (fun _ _ _ => Gh.keeps_refl _ _)
 ·obtain ⟨k1, k2⟩ := not_or.1 hk
  exact ⟨by show Xb _ _ _ = _; rw [XF _ _ _ (Ne.symm k1), XF _ _ _ (Ne.symm k2)]; rfl, rfl, rfl, rfl⟩
 ·rcases hk with rfl | rfl
  ·show Yb _ _ _ (Xb _ _ _); rw [hγ]; exact h3
  ·show Yb _ _ _ (Xb _ _ _); rw [hδ]; exact h4
 ·refine ⟨γ, .inl rfl, ?_⟩
  rw [hL]
  rcases hk with rfl | rfl
  ·replace hb : Xn g (Xb _ _ _) _ b := hb
   rw [hγ] at hb; exact .inl hb
  ·replace hb : Xn g (Xb _ _ _) _ b := hb
   rw [hδ] at hb; exact .inr hb
 ·have key : ∀ b, Xn g (.row sz rows) γ b → Xn g (.bag (X0z (g.ihd γ) xs)) δ b → False := fun b hb ⟨q, hq, hqb⟩ => h5 q hq b hqb hb
  replace hb : Xn g (Xb _ _ _) _ b := hb
  replace hb' : Xn g (Xb _ _ _) _ b := hb'
  rcases hk with rfl | rfl <;> rcases hk' with rfl | rfl
  ·rfl
  ·rw [hγ] at hb; rw [hδ] at hb'; exact (key b hb hb').elim
  ·rw [hγ] at hb'; rw [hδ] at hb; exact (key b hb' hb).elim
  ·rfl
theorem X7P (us : Nat → Value) : ∀ (l : List (Nat × List (List D))) (j : Nat) (hs : List Hd), hs.map (·.2) = l → (∀ i h, hs[i]? = some h → us (j + i) = h.1) → X4s us j l = hs
 | [], j, [], _, _ => rfl
 | [], j, h :: hs, e, _ => by simp at e
 | p :: l, j, [], e, _ => by simp at e
 | p :: l, j, h :: hs, e, hu => by
  simp only [List.map_cons, List.cons.injEq] at e
  rw [X4s, X7P us l (j + 1) hs e.2 fun i q hq => by rw [show j + 1 + i = j + (i + 1) by omega]; exact hu (i + 1) q (by simpa using hq)]
  have := hu 0 h (by simp)
  rw [Nat.add_zero] at this
  rw [this, ← e.1]
theorem X7n : ∀ (cs : List NC) (ds : List D) (hs : List Hd), Uh cs ds hs → hs.map (·.2) = X3J cs
 | [], [], [], _ => rfl
 | [], [], _ :: _, h => h.elim
 | [], _ :: _, _, h => by simp [Uh] at h
 | .d x :: cs, [], hs, h => by simp [Uh] at h
 | .d x :: cs, y :: ds, hs, h => X7n cs ds hs h.2
 | .r z rows :: cs, [], hs, h => by simp [Uh] at h
 | .r z rows :: cs, y :: ds, [], h => by simp [Uh] at h
 | .r z rows :: cs, y :: ds, k :: hs, h => by
  rw [List.map_cons, X7n cs ds hs h.2.2, h.2.1]; rfl
theorem Xbw {S : St} (γ δ : Nat) {sz : Nat} {rows : List (List D)} {hs : List Hd} (xs : List (List NC)) (hL : S.obj γ = .row sz rows) (hB : S.obj δ = .bag hs) (hlen : rows.length = xs.length) (hres : Uh xs.flatten rows.flatten hs) :
  S.le ⟨S.n, S.τ, (γ, .nest sz xs) :: (δ, .dead) :: S.L⟩ := by
 rintro E a w ⟨g, hg⟩
 have hne : γ ≠ δ := by rintro rfl; rw [hL] at hB; cases hB
 have ho := hg.1.obj γ
 rw [hL] at ho
 have hb0 := hg.1.obj δ
 rw [hB] at hb0
 have ho : YC g w (g.hd γ) sz rows := ho
 have hb0 : VB g w hs := hb0
 let g' : Gh := { g with ihd := fun k j => if k = γ ∧ KK ≤ j then ((hs[j - KK]?).map (·.1)).getD undef else g.ihd k j }
 have hH : X0z (g'.ihd γ) xs = hs := by
  refine X7P _ _ _ _ (X7n _ _ _ hres) fun i h hi => ?_
  simp [g', hi]
 have hm : ∀ a m c, g.hd γ = .slice a m c → m ≤ KK := by
  intro a m c e
  rcases ho.2 with ⟨e1, rfl⟩ | ⟨b, cap, vs, e', fr, e1, e2, e3, _⟩
  ·rw [e1] at e; cases e; exact Nat.zero_le _
  ·rw [e1] at e; cases e
   have : maxLen ≤ KK := by decide
   omega
 have hkγ : g.keeps g' γ := ⟨rfl, .inl rfl, fun i a m c e hi => by
  have := hm a m c e
  simp only [g']; rw [if_neg (by omega)]⟩
 have hoth : ∀ k, k ≠ γ → g'.blk k = g.blk k ∧ g'.hd k = g.hd k ∧ g'.ihd k = g.ihd k := fun k hk => ⟨rfl, rfl, by funext j; simp [g', hk]⟩
 have hγ : Xb .dead ((γ, AObj.nest sz xs) :: (δ, .dead) :: S.L) γ = .nest sz xs := XS _ _ _ _
 have hδ : Xb .dead ((γ, AObj.nest sz xs) :: (δ, .dead) :: S.L) δ = .dead := by rw [XF _ _ _ hne, XS]
 refine ⟨g', Inv.part hg.1 (fun k => k = γ ∨ k = δ) rfl (fun k hk => ?_) (fun k cs us _ e h => X2Z (S := S) (g := g) (g' := g') rfl (fun k => k = γ) (fun k e => .inr (e ▸ hkγ)) hoth e h) (fun k hk => ?_) (fun k b hk hb => ?_) (fun k k' b hk hk' hb hb' => ?_) (fun k hk _ => ?_), hg.2.1, hg.2.2.1, X37 (g := g) (g' := g') rfl (fun k => k = γ) (fun k e => .inr (e ▸ hkγ)) hoth hg.2.2.2⟩
 ·obtain ⟨k1, k2⟩ := not_or.1 hk
  exact ⟨by show Xb _ _ _ = _; rw [XF _ _ _ (Ne.symm k1), XF _ _ _ (Ne.symm k2)]; rfl, hoth k k1⟩
 ·show Yb _ _ _ (Xb _ _ _)
  rcases hk with rfl | rfl
  ·rw [hγ]
   refine ⟨⟨rows, hlen, by rw [hH]; exact hres, X1A (g := g) (g' := g') (XK.refl _) (fun _ _ => rfl) ho⟩, by rw [hH]; exact X47 (g := g) (g' := g') (XK.refl _) (fun _ _ => rfl) hb0, fun q hq b hqb hb => ?_⟩
   rw [hH] at hq
   exact hne (hg.1.inj _ _ b (by rw [hL]; exact hb) (by rw [hB]; exact ⟨q, hq, hqb⟩))
  ·rw [hδ]; trivial
 ·replace hb : Xn g' (Xb _ _ _) k b := hb
  rcases hk with rfl | rfl
  ·rw [hγ] at hb
   rcases hb with hb | ⟨q, hq, hqb⟩
   ·exact ⟨k, .inl rfl, by rw [hL]; exact hb⟩
   ·rw [hH] at hq
    exact ⟨δ, .inr rfl, by rw [hB]; exact ⟨q, hq, hqb⟩⟩
  ·rw [hδ] at hb; exact hb.elim
 ·replace hb : Xn g' (Xb _ _ _) k b := hb
  replace hb' : Xn g' (Xb _ _ _) k' b := hb'
  rcases hk with rfl | rfl
  ·rcases hk' with rfl | rfl
   ·rfl
   ·rw [hδ] at hb'; exact hb'.elim
  ·rw [hδ] at hb; exact hb.elim
 ·rcases hk with rfl | rfl
  ·exact hkγ
  ·exact Gh.keeps_of (hoth k (Ne.symm hne)).1 (hoth k (Ne.symm hne)).2.1 (hoth k (Ne.symm hne)).2.2
end Go.Fw
