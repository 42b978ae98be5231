/- Fourth part: rules for operations on numbers, data and boxes. -/
import Derived.IntWalk
import Derived.Laws.Slices
import Derived.Laws.StructEq
import Derived.OpenShut
import Derived.Deep.Slices
import Derived.Deep.Strs
import Derived.Test.YtbhleedlnaakkaaGreatG07
namespace Go.Fw
open Go
set_option linter.unusedVariables false
section
variable {P : Program} {ops : Array Oper} {draw : Bool} {K : St → Prop} {rest : List Oper} {l : Yc} {S : St}
variable {d : Nat} {ty : TypeId} {pos : String} {aft : Array Edge} {gd : Option (Nat × Bool)}
theorem X51 {t : TypeId} {agg : Bool} {sz : Nat} (ht : UK P t agg sz = true) (vs : Array Value) (off : Nat) (w : World) :
  (part t vs off).run P w = if agg then .ok (.agg (vs.extract off (off + sz))) w else match vs[off]? with | some v => .ok v w | none => .halt (.stuck "part: no such cell") w := by
 have h1 := (X2G ht).1 w
 have h2 := (X2G ht).2 w
 cases agg with
 | true => simp [part, h1, h2]
 | false =>
  simp only [part, Sem.run_bind, h1, Result.andThen_ok, Bool.false_eq_true, if_false]
  cases vs[off]? <;> rfl
end
end Go.Fw
namespace Go.Fw
open Go
set_option linter.unusedVariables false
def Uv : Value → Option SK
 | .int k _ => some (.i k)
 | .bool _ => some .b
 | .string _ => some .s
 | _ => none
def X0F : Value → Value → Bool
 | .int _ a, .int _ b => decide (a = b)
 | .bool a, .bool b => decide (a = b)
 | .string a, .string b => decide (a.data.toList = b.data.toList)
 | _, _ => false
def VQ : List Value → List Value → Bool
 | a :: as, b :: bs => X0F a b && VQ as bs
 | _, _ => true
def X2s (P : Program) : Nat → List Field → Option (List SK)
 | _, [] => some []
 | i, f :: fs => if f.name ≠ "_" ∧ f.offset = i ∧ UK P f.type false 1 = true then (SK.of P f.type).bind fun k => (X2s P (i + 1) fs).map (k :: ·) else none
def X2j (P : Program) (t : TypeId) : Option (List SK) :=
 match P.underlying t with
 | some (.struct fs) => if P.stoodInHeld t = false ∧ P.eqGuardType P.depth t = false then X2s P 0 fs.toList else none
 | some (.array n e) => if P.eqGuardType P.depth t = false ∧ UK P e false 1 = true then (SK.of P e).map fun k => List.replicate n k else none
 | _ => none
section
variable {P : Program}
theorem Xb6 {d : Nat} {t : TypeId} {k : SK} {u v : Value} (hk : SK.of P t = some k) (hu : Uv u = some k) (hv : Uv v = some k) (w : World) : (Op.equalIn (d + 1) t u v).run P w = .ok (X0F u v) w := by
 unfold SK.of at hk
 cases ht : P.underlying t with
 | none => simp [ht] at hk
 | some de =>
  rw [ht] at hk
  cases de <;> simp at hk <;> subst hk <;> cases u <;> simp [Uv] at hu <;> cases v <;> simp [Uv] at hv
  ·rw [run_equalIn_bool w d t _ _ ht]; simp [X0F, Bool.beq_eq_decide_eq]
  ·subst hu; subst hv
   rw [run_equalIn_int w d t _ _ _ _ ht]; simp [X0F, Bool.beq_eq_decide_eq]
  ·rw [run_equalIn_string w d t _ _ ht, ByteArray.toList_eq, ByteArray.toList_eq]
   simp [X0F, Bool.beq_eq_decide_eq]
theorem XaU {d : Nat} {xs ys : Array Value} : ∀ (fs : List Field) (i : Nat) (ks : List SK) (us vs : List Value), X2s P i fs = some ks → us.map Uv = ks.map some → vs.map Uv = ks.map some →
  (∀ j u, us[j]? = some u → xs[i + j]? = some u) → (∀ j u, vs[j]? = some u → ys[i + j]? = some u) → ∀ w, (Op.eqFields (d + 1) xs ys fs).run P w = .ok (VQ us vs) w
 | [], i, ks, us, vs, hf, hu, hv, hx, hy, w => by
  simp [X2s] at hf; subst hf
  simp at hu hv; subst hu; subst hv
  rfl
 | f :: fs, i, ks, us, vs, hf, hu, hv, hx, hy, w => by
  unfold X2s at hf
  split at hf
  case isFalse => cases hf
  rename_i hc
  obtain ⟨c1, c2, c3⟩ := hc
  cases hk : SK.of P f.type with
  | none => simp [hk] at hf
  | some k =>
   cases hr : X2s P (i + 1) fs with
   | none => simp [hk, hr] at hf
   | some kr =>
    simp [hk, hr] at hf; subst hf
    cases us with
    | nil => simp at hu
    | cons u us =>
     cases vs with
     | nil => simp at hv
     | cons v vs =>
      simp only [List.map_cons, List.cons.injEq] at hu hv
      have h1 : xs[f.offset]? = some u := by rw [c2]; exact hx 0 u rfl
      have h2 : ys[f.offset]? = some v := by rw [c2]; exact hy 0 v rfl
      have ih := XaU (d := d) (xs := xs) (ys := ys) fs (i + 1) kr us vs hr hu.2 hv.2 (fun j u hj => by have := hx (j + 1) u hj; rwa [show i + (j + 1) = i + 1 + j by omega] at this) (fun j u hj => by have := hy (j + 1) u hj; rwa [show i + (j + 1) = i + 1 + j by omega] at this) w
      have p1 := X51 c3 xs f.offset w
      have p2 := X51 c3 ys f.offset w
      rw [h1] at p1; rw [h2] at p2
      simp only [Bool.false_eq_true, if_false] at p1 p2
      unfold Op.eqFields
      rw [if_pos c1]
      simp only [Sem.run_bind, p1, p2, Result.andThen_ok, Xb6 hk hu.1 hv.1]
      unfold VQ
      cases hs : X0F u v with
      | false => simp
      | true => simpa using ih
theorem Xhs {n : Nat} {k : SK} {us vs : List Value} (hu : us.map Uv = (List.replicate n k).map some) (hv : vs.map Uv = (List.replicate n k).map some) : us.length = n ∧ vs.length = n := by
 have h1 := congrArg List.length hu
 have h2 := congrArg List.length hv
 simp only [List.length_map, List.length_replicate] at h1 h2
 exact ⟨h1, h2⟩
theorem XeZ {t : TypeId} {ks : List SK} {us vs : List Value} (hk : X2j P t = some ks) (hu : us.map Uv = ks.map some) (hv : vs.map Uv = ks.map some) (w : World) :
  (Op.equalIn 10000 t (.agg us.toArray) (.agg vs.toArray)).run P w = .ok (VQ us vs) w ∧ P.eqGuardType P.depth t = false := by
 unfold X2j at hk
 split at hk
 ·rename_i fs hfs
  split at hk
  case isFalse => cases hk
  rename_i hc
  have hF : P.fieldsOf t = fs := by simp [Program.fieldsOf, hfs]
  refine ⟨?_, hc.2⟩
  rw [show (10000 : Nat) = 9998 + 1 + 1 from rfl, run_equalIn_agg w (9998 + 1) t _ _ (by rw [hF]; exact hfs) hc.1, hF]
  exact XaU fs.toList 0 ks us vs hk hu hv (fun j u hj => by simpa using hj) (fun j u hj => by simpa using hj) w
 ·rename_i n e he
  split at hk
  case isFalse => cases hk
  rename_i hc
  refine ⟨?_, hc.1⟩
  cases hs : SK.of P e with
  | none => simp [hs] at hk
  | some k =>
   simp [hs] at hk; subst hk
   have hl := Xhs hu hv
   have hsz := (X2G hc.2).2
   rw [show (10000 : Nat) = 9998 + 1 + 1 from rfl, Op.equalIn]
   simp only [Sem.run_bind, run_underlying he, Result.andThen_ok, hsz]
   rw [Std.Legacy.Range.forIn_eq_forIn_range']
   simp only [Std.Legacy.Range.size, Nat.sub_zero, Nat.add_sub_cancel, Nat.div_one, Nat.mul_one]
   have key : ∀ (m i : Nat), i + m = n → ∀ w, ((forIn (List.range' i m) ((none, ()) : Option Bool × Unit) fun i r => do
     let __do_lift ← part e us.toArray i
     let __do_lift_1 ← part e vs.toArray i
     let __do_lift ← Op.equalIn (9998 + 1) e __do_lift __do_lift_1
     if (!__do_lift) = true then pure (ForInStep.done (some false, ())) else pure (ForInStep.yield (none, ())) : Sem (Option Bool × Unit))).run P w = .ok (if VQ (us.drop i) (vs.drop i) = true then (none, ()) else (some false, ())) w := by
    intro m
    induction m with
    | zero =>
     intro i hi w
     rw [List.drop_of_length_le (by omega), List.drop_of_length_le (by omega)]
     rfl
    | succ m ih =>
     intro i hi w
     have l1 : i < us.length := by omega
     have l2 : i < vs.length := by omega
     have g1 : Uv us[i] = some k := by
      have := congrArg (·[i]?) hu
      simp [l1] at this
      rw [List.getElem?_replicate] at this
      simpa [show i < n by omega] using this
     have g2 : Uv vs[i] = some k := by
      have := congrArg (·[i]?) hv
      simp [l2] at this
      rw [List.getElem?_replicate] at this
      simpa [show i < n by omega] using this
     have p1 := X51 hc.2 us.toArray i w
     have p2 := X51 hc.2 vs.toArray i w
     simp only [List.getElem?_toArray, List.getElem?_eq_getElem l1, List.getElem?_eq_getElem l2, Bool.false_eq_true, if_false] at p1 p2
     rw [List.range'_succ, List.forIn_cons]
     simp only [Sem.run_bind, p1, p2, Result.andThen_ok, Xb6 hs g1 g2, Sem.run_ite]
     rw [List.drop_eq_getElem_cons l1, List.drop_eq_getElem_cons l2]
     unfold VQ
     cases hq : X0F us[i] vs[i] with
     | false => simp
     | true =>
      simp only [Bool.not_true, Bool.false_eq_true, if_false, Sem.run_pure, Result.andThen_ok, Bool.true_and]
      exact ih (i + 1) (by omega) w
   have := key n 0 (by omega) w
   simp only [List.drop_zero] at this
   rw [this]
   cases VQ us vs <;> simp
 ·cases hk
theorem Xhu {t : TypeId} {x y : Operand} {ks : List SK} {us vs : List Value} {r : Bool} (hk : X2j P t = some ks) (hu : us.map Uv = ks.map some) (hv : vs.map Uv = ks.map some) (hr : VQ us vs = r) (w : World) :
  (do eqGuard .neq t x y (.agg us.toArray) (.agg vs.toArray); binOp .neq t (.agg us.toArray) (.agg vs.toArray) : Sem Value).run P w = .ok (.bool (!r)) w := by
 have h := XeZ hk hu hv w
 rw [Sem.run_bind, run_eqGuard_agg w _ _ _ _ _ _ h.2, Result.andThen_ok, run_neq_struct, h.1, Result.andThen_ok, hr]
theorem Xam {g : Gh} : ∀ {us : List Value} {vs : List Value}, Xl g (dvL us) vs → vs = us
 | [], [], _ => rfl
 | [], _ :: _, h => by simp only [dvL, Xl] at h
 | _ :: _, [], h => by simp only [dvL, Xl] at h
 | u :: us, v :: vs, h => by
  simp only [dvL, Xl] at h
  rw [Yx h.1, Xam h.2]
end
section
variable {P : Program} {ops : Array Oper} {draw : Bool} {K : St → Prop} {rest : List Oper} {l : Yc} {S : St} {ty : TypeId} {pos : String} {aft : Array Edge} {gd : Option (Nat × Bool)} {d : Nat}
theorem XaH {g : Gh} {us : List Value} {v : Value} (h : (AVal.agg (dvL us)).sat g v) : v = .agg us.toArray := by
 simp only [AVal.sat] at h
 obtain ⟨vs, rfl, h⟩ := h
 rw [← Xam h]
theorem XbI {xt yt : TypeId} {x y : Operand} {us vs : List Value} {r : Bool} {ks : List SK} {cs es : List AVal} (hk : X2j P xt = some ks) (hx : S.ev x = .agg cs) (hy : S.ev y = .agg es) (hcs : cs = dvL us) (hes : es = dvL vs) (hu : us.map Uv = ks.map some) (hv : vs.map Uv = ks.map some)
  (hr : VQ us vs = r) (hd : Nat.blt d S.n = true) (hg : Xg ops S gd)
  (h : Walk P ops draw K rest ((l.length, ⟨some d, .binOp .neq xt x y yt, ty, pos, aft, gd⟩, ⟨Xf ops gd ++ [(x, .agg cs), (y, .agg es)], some (d, ab (!r)), [], [], []⟩) :: l) (S.set d (ab (!r)))) :
  Walk P ops draw K (⟨some d, .binOp .neq xt x y yt, ty, pos, aft, gd⟩ :: rest) l S := by
 subst hcs; subst hes
 exact XX ⟨[(x, .agg (dvL us)), (y, .agg (dvL vs))], some (d, ab (!r)), [], [], []⟩ (YB rfl fun E S g a w hs hq _ => by
  refine ⟨.bool (!r), ?_, Vy rfl⟩
  have := Xhu (x := x) (y := y) hk hu hv hr w
  simp only [execOp, XaH hq.1, XaH hq.2.1, Sem.run_bind, Sem.run_pure] at this ⊢
  rw [this]; rfl) hg ⟨⟨hx, hy, trivial⟩, trivial, trivial, hd⟩ h
end
end Go.Fw
namespace Go.Fw
open Go Go.ChangeShapes Go.WideShapes Go.Deep
set_option linter.unusedVariables false
section
variable {H : Type} {enc : TypeId × Value → H} {P : Program} {W : World}
theorem XfB {t : TypeId} (ht : P.underlying t = some (.int .u8)) : Opens enc P W t (fun _ : UInt8 => True) (fun b => [.v (.int .u8 b.toNat)]) :=
 (Xa2 ht).to (fun n => UInt8.ofNat n.toNat) fun a ha => ⟨trivial, by
  have := bounds_u8 ha
  simp only [List.cons.injEq, D.v.injEq, Value.int.injEq, true_and, and_true, UInt8.toNat_ofNat']
  omega⟩
theorem Xef {α : Type} {t e : TypeId} {sz : Nat} {p : α → Prop} {f : α → List D} (ht : P.underlying t = some (.slice e)) (hz : P.cellsOf e = sz) (h0 : 0 < sz) (ho : Opens enc P W e p f) :
  Opens enc P W t (fun l : List α => ∀ r ∈ l, p r) (fun l => [.sl sz (l.map f)]) := by
 refine ⟨fun n cs x hx => ?_⟩
 rcases open_slice ht hx with ⟨rfl, _⟩ | ⟨a, len, cap, m, n', DD, Pl, rfl, _, hl, hm, hmm, rfl, hel⟩
 ·refine ⟨[], by simp, ?_⟩
  simp only [YP, D.rep, List.map_nil]
  exact ⟨⟨none, 0, rfl, Nat.le_refl _, Nat.zero_le _, .inl trivial⟩, trivial⟩
 simp only [if_true] at hmm
 subst hmm
 have hel' : ∀ i, i < len → ∃ r, p r ∧ (f r).length = sz ∧ ∀ j d, (f r)[j]? = some d → ∃ u, W.cell? ((a.add (i * sz)).add j) = some u ∧ d.rep W.cell? u := by
  intro i hi
  obtain ⟨cs', h1, h2⟩ := hel i (by omega)
  obtain ⟨r, h3, h4⟩ := ho.op _ _ _ h2
  obtain ⟨_, h5, h6⟩ := World.cells?_some h1
  rw [hz] at h5 h6
  refine ⟨r, h3, by rw [← X5e h4, h5], fun j d hd => ?_⟩
  obtain ⟨u, h7, h8⟩ := X5f h4 j d hd
  have hj : j < sz := by
   have := (List.getElem?_eq_some_iff.1 h7).1
   omega
  exact ⟨u, (h6 j hj).trans h7, h8⟩
 obtain ⟨l, h1, h2⟩ := X59 len hel'
 refine ⟨l, fun r hr => ?_, ?_⟩
 ·obtain ⟨i, hi⟩ := List.getElem?_of_mem hr
  exact (h2 i r hi).1
 simp only [YP, D.rep]
 refine ⟨⟨some a, m, by rw [List.length_map, h1], by rw [List.length_map, h1]; exact hl, hm, ?_⟩, trivial⟩
 by_cases h00 : len = 0
 ·exact .inl (by rw [List.eq_nil_of_length_eq_zero (h1.trans h00)]; rfl)
 right
 obtain ⟨b, o, sp⟩ := a
 have hsp : sp = none := by
  obtain ⟨r, hr⟩ : ∃ r, l[0]? = some r := ⟨_, List.getElem?_eq_getElem (by omega)⟩
  obtain ⟨_, hlen, hcell⟩ := h2 0 r hr
  obtain ⟨d, hd⟩ : ∃ d, (f r)[0]? = some d := ⟨_, List.getElem?_eq_getElem (by omega)⟩
  obtain ⟨u, hu, _⟩ := hcell 0 d hd
  simpa [Addr.add] using World.cell?_spot hu
 subst hsp
 refine ⟨b, o, rfl, X31 _ _ _ fun i r hr => ?_⟩
 obtain ⟨x, hx, rfl⟩ : ∃ x, l[i]? = some x ∧ f x = r := by simpa using hr
 obtain ⟨_, hlen, hcell⟩ := h2 i x hx
 refine ⟨hlen, X1H _ _ _ fun j d hd => ?_⟩
 obtain ⟨u, hu, hd⟩ := hcell j d hd
 rw [Up, Up] at hu
 exact ⟨u, hu, hd⟩
end
end Go.Fw
