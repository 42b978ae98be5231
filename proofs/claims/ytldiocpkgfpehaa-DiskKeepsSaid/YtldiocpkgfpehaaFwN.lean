/- Fourteenth part: copy into one's own row. -/
import Derived.Test.YtldiocpkgfpehaaFwM
import Derived.Laws.Strings
import Derived.Laws.BytesString
namespace Go.Fw
open Go
set_option linter.unusedVariables false
set_option linter.unusedSimpArgs false
section
variable {P : Program} {ops : Array Oper} {draw : Bool} {K : St → Prop} {rest : List Oper} {l : Line} {S : St}
variable {d : Nat} {ty : TypeId} {pos : String} {aft : Array Edge} {gd : Option (Nat × Bool)}
/-- copy into one's own row. -/
theorem w_copy_own0 {x y : Operand} {T T2 : TypeId} {γ n sz m : Nat} {r ys : List (List D)} (hx : S.ev x = .own γ n) (hL : S.obj γ = .row sz r) (hn : n = r.length) (hy : S.ev y = .d (.sl sz ys)) (hm : m = min ys.length r.length)
    (hT : slIs P T sz = true) {d' : Option (Nat × AVal)} (hd : dstOk S d') (hd' : d' = none ∨ ∃ t, d' = some (t, ai m)) (hg : guardOk ops S gd)
    (h : Walk P ops draw K rest ((l.length, ⟨d'.map (·.1), .call ⟨.builtin .copy, #[x, y], #[T, T2]⟩, ty, pos, aft, gd⟩, ⟨guardReads ops gd ++ [(x, .own γ n), (y, .d (.sl sz ys))], d', [(γ, .row sz r)], [(γ, .row sz (ys.take m ++ r.drop m))], []⟩) :: l)
      ⟨S.n, d'.toList ++ S.τ, (γ, .row sz (ys.take m ++ r.drop m)) :: S.L⟩) :
    Walk P ops draw K (⟨d'.map (·.1), .call ⟨.builtin .copy, #[x, y], #[T, T2]⟩, ty, pos, aft, gd⟩ :: rest) l S := by
  refine walk_op ⟨[(x, .own γ n), (y, .d (.sl sz ys))], d', [(γ, .row sz r)], [(γ, .row sz (ys.take m ++ r.drop m))], []⟩ ?_ hg ⟨⟨hx, hy, trivial⟩, ⟨hL, trivial⟩, trivial, hd⟩ h
  intro E S a w g hs hok Q K hK
  obtain ⟨ok1, ⟨l1, _⟩, _, ok4⟩ := hok
  have hq := satR_of hs _ ok1
  have ho := hs.1.obj γ
  rw [l1] at ho
  have hx' : a.eval x = g.hd γ := own_sat hq.1 ho hn
  have hsy : (D.sl sz ys).rep g.M (a.eval y) := by have := hq.2.1; simpa only [AVal.sat] using this
  have hrow : rowSat g w (g.hd γ) sz r := ho
  obtain ⟨news, n1, n2, n3, n4, n5⟩ := first_data (P := P) hs.1 hsy (m := m) (by omega)
  obtain ⟨w', s1, s2, s3, s4, s5, s6⟩ := rowSat_store (P := P) (k := 0) (m := m) hrow (by omega) n5 (by simp; omega) n2 n3
  simp only [List.take_zero, List.nil_append, Nat.zero_add] at s2
  have hhd : ∃ b c, g.hd γ = .slice b r.length c := by
    rcases hrow.2 with ⟨e, rfl⟩ | ⟨b, cap, vs, e', fr, e, _⟩
    · exact ⟨_, _, e⟩
    · exact ⟨_, _, e⟩
  obtain ⟨b0, c0, hhd⟩ := hhd
  have hrun := run_copy (P := P) (T2 := T2) (ty := ty) hT hhd n4 hm n1 s1
  have hi : Inv E (look .dead ((γ, .row sz (ys.take m ++ r.drop m)) :: S.L)) g w' := by
    refine Inv.upd hs.1 γ _ (look_same _ _ _ _) (fun j hj => look_ne _ _ _ (Ne.symm hj)) (fun b hb hnl => s3 b fun hc => hnl (by rw [l1]; exact hc)) (by omega) s5 s6 rfl (fun _ _ => ⟨rfl, rfl, rfl⟩) (fun _ _ _ _ _ h => h) s2 (fun b hb => .inl ?_) (fun _ => Gh.keeps_refl _ _)
    rw [l1]; exact hb
  have hrun' : (execOp a.eval ⟨d'.map (·.1), .call ⟨.builtin .copy, #[x, y], #[T, T2]⟩, ty, pos, aft, gd⟩).run P w = .ok (.value (.int .i64 m)) w' := by
    simp [execOp, resolve, invoke, builtin, hx', hrun]
  unfold Oper.wp
  rw [hrun', Oper.upon_value]
  rcases hd' with rfl | ⟨t, rfl⟩
  · exact hK _ _ ⟨g, hi, hs.2.1, hs.2.2.1, hs.2.2.2⟩
  · exact hK _ _ (holds_put hi hs.2.1 hs.2.2.1 hs.2.2.2 (sat_mk rfl) ok4)
theorem w_copy_own {x y : Operand} {T T2 : TypeId} {γ n sz m : Nat} {r ys : List (List D)} (hx : S.ev x = .own γ n) (hL : S.obj γ = .row sz r) (hn : n = r.length) (hy : S.ev y = .d (.sl sz ys)) (hm : m = min ys.length r.length)
    (hT : slIs P T sz = true) (hd : Nat.blt d S.n = true) (hg : guardOk ops S gd)
    (h : Walk P ops draw K rest ((l.length, ⟨some d, .call ⟨.builtin .copy, #[x, y], #[T, T2]⟩, ty, pos, aft, gd⟩, ⟨guardReads ops gd ++ [(x, .own γ n), (y, .d (.sl sz ys))], some (d, ai m), [(γ, .row sz r)], [(γ, .row sz (ys.take m ++ r.drop m))], []⟩) :: l)
      ((S.set d (ai m)).own γ (.row sz (ys.take m ++ r.drop m)))) :
    Walk P ops draw K (⟨some d, .call ⟨.builtin .copy, #[x, y], #[T, T2]⟩, ty, pos, aft, gd⟩ :: rest) l S :=
  w_copy_own0 (d' := some (d, ai m)) hx hL hn hy hm hT hd (.inr ⟨d, rfl⟩) hg h
end
theorem le_box {S : St} (β : Nat) {cs cs' : List AVal} (hb : S.obj β = .box cs) (hle : leL cs cs') (hc : cellishL cs' = true) : S.le (S.own β (.box cs')) := by
  rintro E a w ⟨g, hs⟩
  have ho := hs.1.obj β
  rw [hb] at ho
  obtain ⟨vs, e, fr, h1, h2, h3, h4⟩ := ho
  have hi2 : Inv E (look .dead ((β, .box cs') :: S.L)) g w := by
    refine Inv.upd hs.1 β _ (look_same _ _ _ _) (fun k hk => look_ne _ _ _ (Ne.symm hk)) (fun _ _ _ => rfl) (Nat.le_refl _) rfl rfl rfl (fun _ _ => ⟨rfl, rfl, rfl⟩) (fun _ _ _ _ _ h => h) ?_ (fun b hb' => .inl (by rw [hb]; exact hb')) (fun _ => Gh.keeps_refl _ _)
    exact ⟨vs, e, fr, h1, h2, leL_sat hle h3, (cellishL_iff _).1 hc⟩
  exact holds_ghost hs hi2 rfl hs.2.2.2
theorem Con.res_le {P : Program} {f : FuncId} {Li Lo : List (Nat × AObj)} {args : List AVal} {res res' : AVal} (h : Con P f Li args Lo res) (hle : res.le res') : Con P f Li args Lo res' := by
  intro g w vs hi hs
  refine (h g w vs hi hs).mono ?_
  rintro e w' ⟨v, g', h1, h2, h3, h4⟩
  exact ⟨v, g', h1, hle _ _ h2, h3, h4⟩

/-! Bytes as a string. -/
def baOf (l : List UInt8) : ByteArray := ⟨l.toArray⟩
theorem baOf_toList (l : List UInt8) : (baOf l).toList = l := by
  rw [ByteArray.toList_eq]; simp [baOf]
theorem baOf_fold (l : List UInt8) : ∀ s : ByteArray, (l.map fun b => (b.toNat : Int)).foldl (fun r n => r.push (UInt8.ofNat n.toNat)) s = ⟨s.data ++ l.toArray⟩ := by
  induction l with
  | nil => intro s; cases s; simp
  | cons b l ih =>
    intro s
    simp only [List.map_cons, List.foldl_cons, ih]
    cases s
    simp [ByteArray.push]
section
variable {P : Program} {ops : Array Oper} {draw : Bool} {K : St → Prop} {rest : List Oper} {l : Line} {S : St}
variable {d : Nat} {ty : TypeId} {pos : String} {aft : Array Edge} {gd : Option (Nat × Bool)}
theorem rb_eqls {t : TypeId} {x y : Operand} {a b : List UInt8} (w : World) : (do eqGuard .eql t x y (.string (baOf a)) (.string (baOf b)); binOp .eql t (.string (baOf a)) (.string (baOf b)) : Sem Value).run P w = .ok (.bool (decide (a = b))) w := by
  simp [go_sem, baOf_toList]; exact Bool.beq_eq_decide_eq a b
theorem rb_neqs {t : TypeId} {x y : Operand} {a b : List UInt8} (w : World) : (do eqGuard .neq t x y (.string (baOf a)) (.string (baOf b)); binOp .neq t (.string (baOf a)) (.string (baOf b)) : Sem Value).run P w = .ok (.bool (decide (a ≠ b))) w := by
  simp [go_sem, baOf_toList]; exact Bool.beq_eq_decide_eq a b
def bsTy (P : Program) (src dst : TypeId) : Bool :=
  match P.underlying src, P.underlying dst with
  | some (.slice e), some .string => (match P.underlying e with | some (.int .u8) => true | _ => false)
  | _, _ => false
theorem bsTy_spec {src dst : TypeId} (h : bsTy P src dst = true) : ∃ e, P.underlying src = some (.slice e) ∧ P.underlying e = some (.int .u8) ∧ P.underlying dst = some .string := by
  unfold bsTy at h
  split at h
  · rename_i e h1 h2
    split at h
    · rename_i h3
      exact ⟨e, h1, h3, h2⟩
    · simp at h
  · simp at h
theorem flat_one (b : List UInt8) : (b.map fun c => [D.v (.int .u8 c.toNat)]).flatten = b.map fun c => D.v (.int .u8 c.toNat) := by
  induction b with
  | nil => rfl
  | cons c b ih => simp [ih]
/-- The string of a slice of bytes. -/
theorem w_str {src dst : TypeId} {x : Operand} {b : List UInt8} (hx : S.ev x = .d (.sl 1 (b.map fun c => [D.v (.int .u8 c.toNat)]))) (ht : bsTy P src dst = true) (hd : Nat.blt d S.n = true) (hg : guardOk ops S gd)
    (h : Walk P ops draw K rest ((l.length, ⟨some d, .convert src dst x, ty, pos, aft, gd⟩, ⟨guardReads ops gd ++ [(x, .d (.sl 1 (b.map fun c => [D.v (.int .u8 c.toNat)])))], some (d, .d (.v (.string (baOf b)))), [], [], []⟩) :: l) (S.set d (.d (.v (.string (baOf b)))))) :
    Walk P ops draw K (⟨some d, .convert src dst x, ty, pos, aft, gd⟩ :: rest) l S := by
  refine walk_op ⟨[(x, .d (.sl 1 (b.map fun c => [D.v (.int .u8 c.toNat)])))], some (d, .d (.v (.string (baOf b)))), [], [], []⟩ (valid_val rfl fun E S g a w hs hq _ => ?_) hg ⟨⟨hx, trivial⟩, trivial, trivial, hd⟩ h
  refine ⟨.string (baOf b), ?_, sat_mk rfl⟩
  obtain ⟨e, t1, t2, t3⟩ := bsTy_spec ht
  have hsx := hq.1
  simp only [AVal.sat, D.rep] at hsx
  obtain ⟨ad, cap, hv, h2, h3, h4⟩ := hsx
  have hc : (convert src dst (a.eval x)).run P w = .ok (.string (baOf b)) w := by
    rw [hv, run_convert_bytes_string w src dst e ad _ cap t1 t2 t3]
    rcases h4 with h4 | ⟨bl, o, rfl, hr⟩
    · have hb : b = [] := by simpa using h4
      subst hb
      cases ad with
      | none => simp [Conv.bytesToString, baOf]; rfl
      | some q =>
        have := run_bytesToString (P := P) w q 0 cap [] (by simp [loadCells, loadCellsFrom])
        simp only [List.map_nil, List.foldl_nil] at this
        exact this
    · obtain ⟨vs, k1, k2, k3⟩ := sl_cells hs.1.mem _ bl o hr
      have hvs : vs = (b.map fun c => (c.toNat : Int)).map (Value.int .u8) := by
        apply List.ext_getElem?
        intro i
        cases hbi : b[i]? with
        | none =>
          have h1 : b.length ≤ i := by simpa using hbi
          have h5 : vs.length ≤ i := by rw [k1]; simpa using h1
          simp [List.getElem?_eq_none h5, hbi]
        | some c =>
          have hi : i < b.length := (List.getElem?_eq_some_iff.1 hbi).1
          have hiv : i < vs.length := by rw [k1]; simpa using hi
          have := k3 i (D.v (.int .u8 c.toNat)) vs[i] (by
            rw [flat_one]; simp [hbi]) (List.getElem?_eq_getElem hiv)
          simp only [D.rep] at this
          rw [List.getElem?_eq_getElem hiv, this.1]; simp [hbi]
      have hload := run_loadCells_list (P := P) w ⟨bl, o, none⟩ vs (fun j v hv => by rw [add_at]; exact k2 j v hv)
      rw [k1, hvs] at hload
      have := run_bytesToString (P := P) w ⟨bl, o, none⟩ _ cap (b.map fun c => (c.toNat : Int)) (by simpa using hload)
      rw [baOf_fold] at this
      simpa [baOf] using this
  simp only [execOp, Sem.run_bind]
  rw [hc]; rfl
end
end Go.Fw
