/- RecordOnly: every byte string that is decoded is the encoding of the result. No condition. -/
import Derived.Test.YtaoggblfedekeaaDoorRows
import Derived.Test.YtaoggblfedekeaaDoorG21
import Derived.Test.YtaoggblfedekeaaDoorG07
import Derived.Test.YtaoggblfedekeaaDoorCards
import Derived.Test.YtaoggblfedekeaaDoorTie
import Derived.WalkKit
import Derived.ProofKit
import Derived.OpenShut
import Derived.LaidMore
import Derived.LaidHandle
import Derived.Stop.Joined
import Derived.SevenTiedAt
import Derived.Test.YtaoggblfedekeaaDoorG20
import Derived.Test.YtaoggblfedekeaaDoorG08
import Derived.Test.YtaoggblfedekeaaDoorG18
import Derived.KernelRfl
set_option maxHeartbeats 16000000
namespace Go.Proofs.YtaoggblfedekeaaDoor.recordOnly
open Go.ChangeShapes Go.WideShapes Go.ChangeAt Go.RowKit Go.Fw
set_option linter.unusedVariables false
set_option linter.unusedSimpArgs false
theorem own : ownKnob Tryd.prog.godebug = none := by kernel_rfl
theorem full : ∀ t e, t < Tryd.prog.types.size → Tryd.prog.underlying t = some (.slice e) → 0 < Tryd.prog.cellsOf e := slices_full_of Tryd.prog (by kernel_rfl)
theorem kids : Kids Tryd.prog (· < Tryd.prog.types.size) := kids_rows (by kernel_rfl) (by kernel_rfl)
set_option maxRecDepth 100000 in
theorem contract (H : Type) (enc : TypeId × Value → H) (W : World) (base : Nat) (args : Array Value) (ds gs : List (DataW H)) (before : List MemPlace)
  (hval : ∀ (j : Nat) t v, Tryd.f3.params[j]? = some t → args[j]? = some v → Value.okWide Tryd.prog W .any base t v)
  (hW : DataW.Whole enc Tryd.prog Tryd.f3.params.toList Rows.recordOnlySpec.vars false W args.toList ds gs before) :
  Calls Tryd.prog 3 args W fun e W' => ∃ v, e = .returned v ∧ Rows.recordOnlySpec.post enc Tryd.prog Tryd.f3 false true false false W args v W' := by
 have hW' := hW
 obtain ⟨p, q, hA0, hV, rfl, hfz, hnd⟩ := hW
 have hA : DataW.TrodAll enc Tryd.prog W 0 (fun _ => true) true Tryd.f3.params.toList args.toList ds p := hA0
 rw [Tryd.params3] at hA hval
 obtain ⟨v0, vs0, d0, ds0, p0, q0, hargs, rfl, rfl, h0, r0⟩ := trodAll_cons hA
 obtain ⟨rfl, rfl, rfl⟩ := trodAll_nil r0
 obtain rfl : args = #[v0] := by cases args; simp_all
 obtain ⟨rfl, rfl⟩ := trodVars_none hV
 obtain ⟨x0, px0, s0⟩ := X6x Tryd.underlying22 (hval 0 22 v0 rfl rfl) h0 X4n
 refine (X4A (W := W) (args := #[v0]) (X7a x0) W.cell? (fun _ _ h => h) ?_).mono ?_
 ·exact ⟨s0, trivial⟩
 rintro e W' ⟨v, g', rfl, hv, hk⟩
 have hv' : v = .bool true := by
  simp only [AVal.sat, D.rep] at hv
  exact hv.1
 subst hv'
 exact ⟨_, rfl, X5f hW' rfl rfl rfl rfl rfl Tryd.underlying4 hk kids full (by decide +kernel)⟩
theorem door_met (os : Os) (args : Array Value) : laidMetH Tryd.prog [("graphdb/frac.zero", Rows.laid_graphdb_frac_zero)] ((World.doorLaid Tryd.prog 400 os).forCall (fun _ _ => 0) ⟨#[], args, []⟩).memory :=
 laidMetH_of_parts3 (fuel := 8) (laidMet_of_run' 8 (by kernel_rfl) (by kernel_rfl)) (by kernel_rfl) (by kernel_rfl)
set_option maxRecDepth 100000 in
theorem lifted (os : Os) (started : os.Started) (H : Type) (enc : TypeId × Value → H) :
  ReturnsInHanded {} Tryd.checked os 3 .any (fun w args => (Rows.recordOnlySpec.pre enc Tryd.prog Tryd.f3 [] false w args ∧ laidMetH Tryd.prog [("graphdb/frac.zero", Rows.laid_graphdb_frac_zero)] w) ∧ sizedMet enc Tryd.prog Tryd.f3 (OpenSpec.ofChange Rows.recordOnlySpec) false w args)
   (Rows.recordOnlySpec.post enc Tryd.prog Tryd.f3 false true false false) := by
 refine returnsInHanded_of_change_and (C := Tryd.checked) (X := fun w _ => laidMetH Tryd.prog [("graphdb/frac.zero", Rows.laid_graphdb_frac_zero)] w) (fun _ _ _ hh h => h.of_heap hh) own started (by kernel_rfl) Tryd.func3
  (ChangeSpec.witness_shaped (enc := enc) (C := Tryd.checked) (os := os) (X := fun w _ => laidMetH Tryd.prog [("graphdb/frac.zero", Rows.laid_graphdb_frac_zero)] w) false (World.doorLaid Tryd.prog 400 os) #[.slice none 0 0] 8 rfl (World.shaped_of_RefB (by kernel_rfl) (by kernel_rfl)) (by kernel_rfl) (by kernel_rfl) (by kernel_rfl) (door_met os _)) ?_
 intro W base args ds gs before hval hW _ _ hL _
 exact contract H enc W base args ds gs before hval hW
theorem over : Rows.RecordOnlySaid :=
 OpenClaim.holds_of_wide 3 Tryd.f3 rfl rfl rfl rfl rfl rfl rfl ⟨rfl, rfl, rfl, rfl, rfl⟩ rfl rfl rfl rfl rfl (by kernel_rfl) Tryd.func3 (by kernel_rfl)
  (of_decide_eq_true (by kernel_rfl)) (by unfold Func.isWrapper; first | (rw [if_pos (by decide +kernel)]; kernel_rfl) | (rw [if_neg (by decide +kernel)]; exact ⟨rfl, rfl⟩))
  (fun os started H enc _ => lifted os started H enc)
theorem proved : Rows.RecordOnlyCardSaid :=
 Claim7.holds_tied_plain_at .later [] [.data] true _ false
  over (fun _ h => by cases h) (by kernel_rfl) (fun _ h => by cases h) recordOnly_row_tie rfl ⟨rfl, rfl⟩ (by kernel_rfl) rfl
  (fun f fn hf hfn => by
   obtain rfl : f = 3 := Option.some.inj ((show Tryd.prog.funcNamed "graphdb/graphdblaw41.RecordOnly" = some 3 by kernel_rfl).symm.trans hf) |>.symm
   obtain rfl : fn = Tryd.f3 := (Option.some.inj (Tryd.func3.symm.trans hfn)).symm
   exact ⟨by kernel_rfl, fun j t ht => by
    rw [Tryd.params3] at ht
    have hm : t ∈ [22] := by simpa using Array.mem_of_getElem? ht
    have hall : ([22].all fun u => !Tryd.prog.wantsStandIn u) = true := by kernel_rfl
    exact (show Tryd.prog.wantsStandIn t = false by simpa using List.all_eq_true.1 hall t hm)⟩)
  (by kernel_rfl)
end Go.Proofs.YtaoggblfedekeaaDoor.recordOnly
namespace Go.Fw
open Go
set_option linter.unusedVariables false
set_option linter.unusedSimpArgs false
structure At (b : List UInt8) (q : Nat) (w : List UInt8) : Prop where
 le : q ≤ b.length
 eq : b.drop q = w
theorem At.step {b : List UInt8} {q : Nat} {u w : List UInt8} (h : At b q (u ++ w)) : At b (q + u.length) w := by
 have h1 := congrArg List.length h.eq
 simp only [List.length_drop, List.length_append] at h1
 refine ⟨by have := h.le; omega, ?_⟩
 rw [← List.drop_drop, h.eq, List.drop_left]
theorem At.split {b : List UInt8} {q : Nat} {u w : List UInt8} (h : At b q (u ++ w)) : b = b.take q ++ u ++ w ∧ (b.take q).length = q := by
 refine ⟨?_, by have := h.le; simp; omega⟩
 rw [List.append_assoc, ← h.eq, List.take_append_drop]
theorem At.cons {b : List UInt8} {q : Nat} {c : UInt8} {w : List UInt8} (h : At b q (c :: w)) : b[q]? = some c ∧ At b (q + 1) w := by
 refine ⟨?_, At.step (u := [c]) h⟩
 have := congrArg (·[0]?) h.eq
 simpa using this
theorem rk_at {b : List UInt8} {q : Nat} {k limit : Int} {w : List UInt8} (h : At b q (UInt8.ofNat k.toNat :: w)) (hk : 1 ≤ k ∧ k ≤ limit ∧ k ≤ 255) : rkI b q 0 limit = (k, ((q + 1 : Nat) : Int), 0) := by
 obtain ⟨h1, h2⟩ := h.cons
 have hlt := (List.getElem?_eq_some_iff.1 h1).1
 unfold rkI rkS
 rw [if_neg (by simp), if_neg (by simp), Int.toNat_natCast, if_neg (by omega), h1, Option.getD_some, Ve (by omega), if_neg (by omega)]
 simp only [Prod.mk.injEq, and_true]
 constructor
 ·omega
 ·omega
theorem uint_at {b : List UInt8} {q : Nat} {n : Int} {w : List UInt8} (h : At b q (Xk n ++ w)) (hn : 0 ≤ n ∧ n ≤ 9223372036854775807) : rnS b q 0 = (n, ((q + (Xk n).length : Nat) : Int), 0) := by
 obtain ⟨h1, h2⟩ := h.split
 have := X2F hn (b.take q) w
 rw [Vn]
 rw [← h1, h2] at this
 rw [this]
 simp
theorem int_at {b : List UInt8} {q : Nat} {n : Int} {w : List UInt8} (h : At b q (XF n ++ w)) (hn : -9223372036854775808 ≤ n ∧ n ≤ 9223372036854775807) : riS b q 0 = (n, ((q + (XF n).length : Nat) : Int), 0) := by
 obtain ⟨h1, h2⟩ := h.split
 have := X1Y hn (b.take q) w
 rw [X35]
 rw [← h1, h2] at this
 rw [this]
 simp
theorem str_at {b : List UInt8} {q : Nat} {s : List UInt8} {w : List UInt8} (h : At b q (Xo s ++ w)) (hn : s.length ≤ 20) : rsS b q 0 = (s, ((q + (Xo s).length : Nat) : Int), 0) := by
 obtain ⟨h1, h2⟩ := h.split
 have := X47 (s := s) (most := 20) (by omega) (by omega) (b.take q) w
 rw [X26]
 rw [← h1, h2] at this
 rw [this]
 simp
theorem value_at {b : List UInt8} {q : Nat} {v : Val} {w : List UInt8} (h : At b q (Y4 v ++ w)) (hv : X6 8 v = true) : rvS b q 0 = (v, ((q + (Y4 v).length : Nat) : Int), 0) := by
 obtain ⟨h1, h2⟩ := h.split
 have := X8K hv (b.take q) w
 rw [X24]
 rw [← h1, h2] at this
 rw [this]
 simp
theorem zeroV_eq {v : Val} (h : Uq v = true) : v = zV := by
 obtain ⟨k, n, d, s, l⟩ := v
 unfold Uq at h
 rw [Bool.and_eq_true] at h
 obtain ⟨h1, h0⟩ := h
 obtain rfl : k = 0 := of_decide_eq_true h0
 rw [X6] at h1
 simp at h1
 obtain ⟨⟨⟨h2, h3⟩, h4⟩, h5⟩ := h1
 subst h2; subst h3; subst h4; subst h5
 rfl
theorem chg_ok2 {c : Chg} (h : Y9 c = 0) : (c.op ≠ 6 → c.src = 0 ∧ c.dst = 0) ∧ (XT c.op = false → c.name = []) ∧ (XP c.op = false → c.v = zV) := by
 unfold Y9 at h
 split at h
 ·omega
 rename_i h1
 split at h
 ·omega
 rename_i h2
 split at h
 ·omega
 rename_i h3
 refine ⟨fun hk => ⟨?_, ?_⟩, fun hn => ?_, fun hv => ?_⟩
 ·by_cases he : c.src = 0
  ·exact he
  ·exact absurd (.inr ⟨hk, .inl he⟩) h2
 ·by_cases he : c.dst = 0
  ·exact he
  ·exact absurd (.inr ⟨hk, .inr he⟩) h2
 ·by_cases he : c.name = []
  ·exact he
  ·exact absurd (.inl ⟨hn, he⟩) h3
 ·refine zeroV_eq ?_
  cases hz : Uq c.v with
  | true => rfl
  | false => exact absurd (.inr ⟨hv, hz⟩) h3
theorem At.eqv {b : List UInt8} {q q' : Nat} {w w' : List UInt8} (h : At b q w) (hq : q = q') (hw : w = w') : At b q' w' := hq ▸ hw ▸ h
theorem rch_at {b : List UInt8} {q : Nat} {c : Chg} {w : List UInt8} (hc : Y9 c = 0) (h : At b q (XI c ++ w)) : XO b q 0 = (c, ((q + (XI c).length : Nat) : Int), 0) ∧ At b (q + (XI c).length) w := by
 refine ⟨?_, h.step⟩
 obtain ⟨o1, o2, o3, o4, o5⟩ := X2X hc
 obtain ⟨z1, z2, z3⟩ := chg_ok2 hc
 obtain ⟨op, id, src, dst, name, v⟩ := c
 simp only at o1 o2 o3 o4 o5 z1 z2 z3
 have hput : XI ⟨op, id, src, dst, name, v⟩ = UInt8.ofNat op.toNat :: (Xk id ++ ((if op = 6 then Xk src ++ Xk dst else []) ++ ((if XT op = true then Xo name else []) ++ (if XP op = true then Y4 v else [])))) := by
  unfold XI; simp only [List.append_assoc]
 rw [hput] at h ⊢
 rw [List.cons_append] at h
 have k1 := rk_at h (limit := 8) (by omega)
 have h1 := h.cons.2
 rw [List.append_assoc] at h1
 have k2 := uint_at h1 (by omega)
 have h2 := h1.step
 unfold XO
 rw [k1]
 simp only
 rw [k2]
 simp only
 by_cases h6 : op = 6
 ·subst h6
  have s3 := o3 rfl
  have hn := o4 rfl
  have hv := z3 rfl
  subst hv
  simp only [if_true, show XT 6 = true by decide, show XP 6 = false by decide, Bool.false_eq_true, if_false, List.append_nil] at h2 ⊢
  rw [List.append_assoc, List.append_assoc] at h2
  have k3 := uint_at h2 (by omega)
  have h3 := h2.step
  have k4 := uint_at h3 (by omega)
  have h4 := h3.step
  have k5 := str_at h4 hn
  rw [k3]
  simp only
  rw [k4]
  simp only
  rw [k5]
  simp only [Prod.mk.injEq, true_and, and_true, List.length_cons, List.length_append]
  omega
 ·have z1 := z1 h6
  obtain ⟨rfl, rfl⟩ := z1
  simp only [if_neg h6, List.nil_append] at h2 ⊢
  by_cases hn : XT op = true
  ·simp only [if_pos hn] at h2 ⊢
   rw [List.append_assoc] at h2
   have k5 := str_at h2 (o4 hn)
   have h3 := h2.step
   rw [k5]
   simp only
   by_cases hv : XP op = true
   ·simp only [if_pos hv] at h3 ⊢
    have k6 := value_at h3 (o5 hv).1
    rw [k6]
    simp only [Prod.mk.injEq, true_and, and_true, List.length_cons, List.length_append]
    omega
   ·simp only [if_neg hv, List.append_nil] at h3 ⊢
    have := z3 (by simpa using hv)
    subst this
    simp only [Prod.mk.injEq, true_and, and_true, List.length_cons, List.length_append]
    omega
  ·have hv : ¬ XP op = true := by revert hn; unfold XT XP; simp; omega
   simp only [if_neg hn, if_neg hv, List.append_nil, List.nil_append] at h2 ⊢
   have e1 := z2 (by simpa using hn)
   have e2 := z3 (by simpa using hv)
   subst e1
   subst e2
   simp only [Prod.mk.injEq, true_and, and_true, List.length_cons, List.length_append]
   omega
theorem rrl_at {b : List UInt8} {q : Nat} {r : Rul} {w : List UInt8} (hr : YU r = 0) (h : At b q (Yc r ++ w)) : Yb b q 0 = (r, ((q + (Yc r).length : Nat) : Int), 0) ∧ At b (q + (Yc r).length) w := by
 refine ⟨?_, h.step⟩
 obtain ⟨o1, ⟨l1, l2, l3, l4⟩, o3⟩ := X0T hr
 obtain ⟨k, n, name, key, src, dst⟩ := r
 simp only at o1 l1 l2 l3 l4 o3
 have hput : Yc ⟨k, n, name, key, src, dst⟩ = UInt8.ofNat k.toNat :: (Xo name ++ (Xo key ++ (Xo src ++ (Xo dst ++ XF n)))) := by
  unfold Yc; simp only [List.append_assoc]
 rw [hput] at h ⊢
 rw [List.cons_append] at h
 have k1 := rk_at h (limit := 7) (by omega)
 have h1 := h.cons.2
 simp only [List.append_assoc] at h1
 have k2 := str_at h1 l1
 have h2 := h1.step
 have k3 := str_at h2 l2
 have h3 := h2.step
 have k4 := str_at h3 l3
 have h4 := h3.step
 have k5 := str_at h4 l4
 have h5 := h4.step
 have k6 := int_at h5 o1
 unfold Yb
 rw [k1]
 simp only
 rw [k2]
 simp only
 rw [k3]
 simp only
 rw [k4]
 simp only
 rw [k5]
 simp only
 rw [k6]
 simp only [Prod.mk.injEq, true_and, and_true, List.length_cons, List.length_append]
 omega
end Go.Fw
namespace Go.Fw
open Go Go.Proofs
set_option maxRecDepth 100000
set_option linter.unusedVariables false
set_option linter.unusedSimpArgs false
theorem At.mid (f w k : List UInt8) : At (f ++ w ++ k) f.length (w ++ k) := ⟨by simp, by simp⟩
theorem rchgF_at {c : Chg} (f k : List UInt8) (hc : Y9 c = 0) : V3 (f ++ XI c ++ k) f.length = (c, ((f.length + (XI c).length : Nat) : Int), 0) := by
 have h := (rch_at hc (At.mid f (XI c) k)).1
 unfold V3
 rw [if_neg (by simp; omega)]
 simp only [h, hc, if_true, ne_eq, not_true_eq_false, if_false]
theorem rrulF_at {r : Rul} (f k : List UInt8) (hr : YU r = 0) : UX (f ++ Yc r ++ k) f.length = (r, ((f.length + (Yc r).length : Nat) : Int), 0) := by
 have h := (rrl_at hr (At.mid f (Yc r) k)).1
 unfold UX
 rw [if_neg (by simp; omega)]
 simp only [h, hr, if_true, ne_eq, not_true_eq_false, if_false]
theorem inside_con (c : Chg) (r : Rul) (f k : List UInt8) (hok : X01 c) : Con Tryd.prog 4 [] [Xy c, Y3 r, .agg [.d (Xv f), .d (Xv k)]] [] (ab true) := by
 refine Xb (xs := [ab true]) Tryd.func4 rfl Tryd.ntmps4 rfl rfl rfl (fun E => ?_)
 have ha := X6t
 have hw := X8M [c] 1 (by omega) (by simp) (by simpa using hok)
 have lf : (f.map Xa).length = f.length := by simp
 have lk : (k.map Xa).length = k.length := by simp
 generalize X1r [c] (1 : Nat) = fw at *
 cases fw with
 | false =>
  obtain ⟨op, id, src, dst, name, ⟨vk, vn, vd, vs, vl⟩⟩ := c
  obtain ⟨rk, rn, rname, key, rsrc, rdst⟩ := r
  simp only [Xy, Y3, List.map_cons, List.map_nil, XD] at hw ⊢
  refine X0 ?_; refine JR ?_; refine Zx (γ := 100) ?_; refine Zx (γ := 101) ?_; refine Zx (γ := 102) ?_; refine Z0 ?_; refine JD ?_; refine X0 ?_; refine X0 ?_; refine JR ?_; refine ZK ?_; refine Z5 ?_
  refine Z8 (hcon := hw) ?_; refine Zp ?_; refine Z1 ?_; refine Zj ?_; refine Zj ?_; refine Zj ?_; refine Zj ?_; refine Zi ?_; refine Z1 ?_; refine Zj ?_; refine Zj ?_; refine Zj ?_; refine Zj ?_; refine Zi ?_
  refine JD ?_; refine JT ?_; refine X0 ?_; refine JR ?_; refine Z8 (hcon := ha) ?_; refine Z0 ?_; refine JD ?_
  exact X1 ⟨_, St.le_refl _, ⟨rfl, trivial⟩, X2 _⟩
 | true =>
  by_cases hf : 100 < f.length
  ·have hf' : (100 : Int) < (f.map Xa).length := by omega
   obtain ⟨op, id, src, dst, name, ⟨vk, vn, vd, vs, vl⟩⟩ := c
   obtain ⟨rk, rn, rname, key, rsrc, rdst⟩ := r
   simp only [Xy, Y3, List.map_cons, List.map_nil, XD] at hw ⊢
   refine X0 ?_; refine JR ?_; refine Zx (γ := 100) ?_; refine Zx (γ := 101) ?_; refine Zx (γ := 102) ?_; refine Z0 ?_; refine JD ?_; refine X0 ?_; refine X0 ?_; refine JR ?_; refine ZK ?_; refine Z5 ?_
   refine Z8 (hcon := hw) ?_; refine Zp ?_; refine Z1 ?_; refine Z06 (n := 2) (sz := 1) (k := 0) ?_; refine Zz ?_; refine Zb ?_; refine Zn ?_; refine Zl ?_; refine Z1 ?_; refine Zj ?_; refine Zj ?_; refine Zj ?_
   refine Zj ?_; refine Zi ?_; refine JD ?_; refine JT ?_; refine X0 ?_; refine JR ?_; refine Z8 (hcon := ha) ?_; refine Z0 ?_; refine JD ?_
   exact X1 ⟨_, St.le_refl _, ⟨rfl, trivial⟩, X2 _⟩
  have hf' : ¬ (100 : Int) < (f.map Xa).length := by omega
  by_cases hk : 100 < k.length
  ·have hk' : (100 : Int) < (k.map Xa).length := by omega
   obtain ⟨op, id, src, dst, name, ⟨vk, vn, vd, vs, vl⟩⟩ := c
   obtain ⟨rk, rn, rname, key, rsrc, rdst⟩ := r
   simp only [Xy, Y3, List.map_cons, List.map_nil, XD] at hw ⊢
   refine X0 ?_; refine JR ?_; refine Zx (γ := 100) ?_; refine Zx (γ := 101) ?_; refine Zx (γ := 102) ?_; refine Z0 ?_; refine JD ?_; refine X0 ?_; refine X0 ?_; refine JR ?_; refine ZK ?_; refine Z5 ?_
   refine Z8 (hcon := hw) ?_; refine Zp ?_; refine Z1 ?_; refine Z06 (n := 2) (sz := 1) (k := 0) ?_; refine Zz ?_; refine Zb ?_; refine Zn ?_; refine Zl ?_; refine Z1 ?_; refine Z06 (n := 2) (sz := 1) (k := 1) ?_
   refine Zz ?_; refine Zb ?_; refine Zn ?_; refine Zl ?_; refine JD ?_; refine JT ?_; refine X0 ?_; refine JR ?_; refine Z8 (hcon := ha) ?_; refine Z0 ?_; refine JD ?_
   exact X1 ⟨_, St.le_refl _, ⟨rfl, trivial⟩, X2 _⟩
  have hk' : ¬ (100 : Int) < (k.map Xa).length := by omega
  have hs := X8b c hok.2
  have hp := X4R c
  have hq := X4P r
  obtain ⟨p, hpv, hp1, hp2⟩ : ∃ p, Vk c = p ∧ p.length ≤ 200 ∧ (0 < p.length → Con Tryd.prog 11 [] [.d (Xv (f ++ p ++ k)), ai f.length] [] (.tup [Xy c, ai ((f.length + p.length : Nat) : Int), ai 0])) := by
   refine ⟨_, rfl, ?_, ?_⟩
   ·unfold Vk
    split
    ·rename_i h; exact X1Q h
    ·simp
   ·intro h0
    unfold Vk at h0 ⊢
    split at h0
    ·rename_i h
     rw [if_pos h]
     have := X9A (f ++ XI c ++ k) f.length (by have := X1Q h; simp only [List.length_append]; omega)
     rwa [rchgF_at f k h] at this
    ·simp at h0
  obtain ⟨q, hqv, hq1, hq2⟩ : ∃ q, Vh r = q ∧ q.length ≤ 200 ∧ (0 < q.length → Con Tryd.prog 13 [] [.d (Xv (f ++ q ++ k)), ai f.length] [] (.tup [Y3 r, ai ((f.length + q.length : Nat) : Int), ai 0])) := by
   refine ⟨_, rfl, ?_, ?_⟩
   ·unfold Vh
    split
    ·rename_i h; exact X2y h
    ·simp
   ·intro h0
    unfold Vh at h0 ⊢
    split at h0
    ·rename_i h
     rw [if_pos h]
     have := X8c (f ++ Yc r ++ k) f.length (by have := X2y h; simp only [List.length_append]; omega)
     rwa [rrulF_at f k h] at this
    ·simp at h0
  rw [hpv] at hp
  rw [hqv] at hq
  clear hpv hqv
  have lp : (p.map Xa).length = p.length := by simp
  have lq : (q.map Xa).length = q.length := by simp
  obtain ⟨op, id, src, dst, name, ⟨vk, vn, vd, vs, vl⟩⟩ := c
  obtain ⟨rk, rn, rname, key, rsrc, rdst⟩ := r
  simp only [Xy, Y3, List.map_cons, List.map_nil, XD] at hw hs hp hq hp2 hq2 ⊢
  have hz := XaO [.int .i64 rk, .int .i64 rn, .string (X4 rname), .string (X4 key), .string (X4 rsrc), .string (X4 rdst)] [.i .i64, .i .i64, .s, .s, .s, .s] rfl
  refine X0 ?_; refine JR ?_; refine Zx (γ := 100) ?_; refine Zx (γ := 101) ?_; refine Zx (γ := 102) ?_; refine Z0 ?_; refine JD ?_; refine X0 ?_; refine X0 ?_; refine JR ?_; refine ZK ?_; refine Z5 ?_
  refine Z8 (hcon := hw) ?_; refine Zp ?_; refine Z1 ?_; refine Z06 (n := 2) (sz := 1) (k := 0) ?_; refine Zz ?_; refine Zb ?_; refine Zn ?_; refine Zl ?_; refine Z1 ?_; refine Z06 (n := 2) (sz := 1) (k := 1) ?_
  refine Zz ?_; refine Zb ?_; refine Zn ?_; refine Zl ?_; refine JD ?_; refine JF ?_; refine X3 ?_; refine X0 ?_; refine JR ?_; refine ZK ?_; refine Z8 (hcon := hp) ?_; refine Z0 ?_; refine JD ?_
  refine X0 ?_; refine JR ?_; refine ZK ?_; refine Z8 (hcon := hq) ?_; refine Z0 ?_; refine JD ?_; refine X0 ?_
  refine JR ?_; refine ZX (γ := 130) ?_; refine Z06 (n := 2) (sz := 1) (k := 0) ?_; refine Zz ?_; refine Z6 ?_; refine Z1 ?_; refine Z6 ?_; refine Z06 (n := 2) (sz := 1) (k := 1) ?_; refine Zz ?_; refine Z6 ?_
  refine Z0 ?_; refine JD ?_; refine X0 ?_
  refine Y6 (Ut 130 rfl) ?_
  refine Y6 (X0C 9 130 rfl rfl (by first | rfl | (simp only [List.length_append, List.length_map, List.length_cons, List.length_nil] <;> omega) | fail)) ?_
  refine JR ?_; refine ZX (γ := 131) ?_; refine Z06 (n := 2) (sz := 1) (k := 0) ?_; refine Zz ?_; refine Z6 ?_; refine Z1 ?_; refine Z6 ?_; refine Z06 (n := 2) (sz := 1) (k := 1) ?_; refine Zz ?_; refine Z6 ?_
  refine Z0 ?_; refine JD ?_; refine X0 ?_; refine X0 ?_
  refine Y6 (Ut 131 rfl) ?_
  refine Y6 (X0C 10 131 rfl rfl (by first | rfl | (simp only [List.length_append, List.length_map, List.length_cons, List.length_nil] <;> omega) | fail)) ?_
  refine Y6 (Xi 9 (y := .d (Xv (f ++ p ++ k))) (AVal.le_of_eq (by refine Eq.trans (b := AVal.d (.sl 1 (_))) rfl ?_; show _ = AVal.d (.sl 1 ((f ++ p ++ k).map Xa)); simp only [List.map_append, List.map_cons, List.map_nil, List.append_assoc, List.cons_append, List.nil_append, List.append_nil] <;> rfl))) ?_
  refine Y6 (Xi 10 (y := .d (Xv (f ++ q ++ k))) (AVal.le_of_eq (by refine Eq.trans (b := AVal.d (.sl 1 (_))) rfl ?_; show _ = AVal.d (.sl 1 ((f ++ q ++ k).map Xa)); simp only [List.map_append, List.map_cons, List.map_nil, List.append_assoc, List.cons_append, List.nil_append, List.append_nil] <;> rfl))) ?_
  by_cases p0 : 0 < p.length
  case neg =>
   have p0' : ¬ (0 : Int) < (p.map Xa).length := by omega
   by_cases q0 : 0 < q.length
   case neg =>
    have q0' : ¬ (0 : Int) < (q.map Xa).length := by omega
    refine JR ?_; refine Z1 ?_; refine Zb ?_; refine Zn ?_; refine JD ?_; refine JF ?_; refine X3 ?_; refine X0 ?_; refine X0 ?_; refine JR ?_; refine Z1 ?_; refine Zb ?_; refine Zn ?_; refine JD ?_
    refine JF ?_; refine X3 ?_; refine X0 ?_; refine JR ?_; refine Z8 (hcon := ha) ?_; refine Z0 ?_; refine JD ?_
    exact X1 ⟨_, St.le_refl _, ⟨rfl, trivial⟩, X2 _⟩
   have q0' : (0 : Int) < (q.map Xa).length := by omega
   have hr := hq2 q0
   refine JR ?_; refine Z1 ?_; refine Zb ?_; refine Zn ?_; refine JD ?_; refine JF ?_; refine X3 ?_; refine X0 ?_; refine X0 ?_; refine JR ?_; refine Z1 ?_; refine Zb ?_; refine Zn ?_; refine JD ?_
   refine JT ?_; refine X0 ?_; refine JR ?_; refine Z1 ?_; refine Z06 (n := 2) (sz := 1) (k := 0) ?_; refine Zz ?_; refine Zb ?_; refine Z8 (hcon := hr) ?_; refine Z1 ?_; refine ZC ?_; refine ZC ?_; refine ZC ?_
   refine Zr (γ := 103) ?_; refine Zu ?_; refine Z0 ?_; refine Z0 ?_; refine JD ?_; refine X0 ?_; refine JR ?_; refine Z1 ?_; refine Zq ?_; refine Z1 ?_; refine ZK ?_; refine ZK ?_
   refine Z05 (us := [.int .i64 rk, .int .i64 rn, .string (X4 rname), .string (X4 key), .string (X4 rsrc), .string (X4 rdst)]) (vs := [.int .i64 rk, .int .i64 rn, .string (X4 rname), .string (X4 key), .string (X4 rsrc), .string (X4 rdst)]) (r := true) ?_ (hk := by exact X0u) (hr := by exact hz)
   refine Zl ?_; refine Z1 ?_; refine Z1 ?_; refine Z06 (n := 2) (sz := 1) (k := 0) ?_; refine Zz ?_; refine Zb ?_; refine Z1 ?_; refine Zb ?_; refine Zc ?_; refine Zq ?_; refine Zl ?_; refine JD ?_; refine JF ?_
   refine X3 ?_; refine X0 ?_; refine JR ?_; refine Z8 (hcon := ha) ?_; refine Z0 ?_; refine JD ?_
   exact X1 ⟨_, St.le_refl _, ⟨rfl, trivial⟩, X2 _⟩
  have p0' : (0 : Int) < (p.map Xa).length := by omega
  have hc := hp2 p0
  by_cases q0 : 0 < q.length
  case neg =>
   have q0' : ¬ (0 : Int) < (q.map Xa).length := by omega
   repeat first | refine X0 ?_ | (refine JR ?_; (repeat first | refine Z06 (n := 2) (sz := 1) (k := 0) ?_ | refine Z1 ?_ | refine Z0 ?_ | refine Zz ?_ | refine ZK ?_ | refine Zb ?_ | refine Zn ?_ | refine Zq ?_ | refine Zc ?_ | refine Zp ?_ | refine Zr (γ := 103) ?_ | refine Zu ?_ | refine ZC ?_ | refine Zl ?_ | refine Z8 (hcon := hc) ?_ | refine Z8 (hcon := hs) ?_ | refine Z8 (hcon := ha) ?_); refine JD ?_) | refine JT ?_ | refine JF ?_ | refine X3 ?_
   exact X1 ⟨_, St.le_refl _, ⟨rfl, trivial⟩, X2 _⟩
  have q0' : (0 : Int) < (q.map Xa).length := by omega
  have hr := hq2 q0
  repeat first | refine X0 ?_ | (refine JR ?_; (repeat first | refine Z06 (n := 2) (sz := 1) (k := 0) ?_ | refine Z05 (us := [.int .i64 rk, .int .i64 rn, .string (X4 rname), .string (X4 key), .string (X4 rsrc), .string (X4 rdst)]) (vs := [.int .i64 rk, .int .i64 rn, .string (X4 rname), .string (X4 key), .string (X4 rsrc), .string (X4 rdst)]) (r := true) ?_ (hk := by exact X0u) (hr := by exact hz) | refine Z1 ?_ | refine Z0 ?_ | refine Zz ?_ | refine ZK ?_ | refine Zb ?_ | refine Zn ?_ | refine Zq ?_ | refine Zc ?_ | refine Zp ?_ | refine Zr (γ := 103) ?_ | refine Zr (γ := 104) ?_ | refine Zu ?_ | refine ZC ?_ | refine Zl ?_ | refine Z8 (hcon := hc) ?_ | refine Z8 (hcon := hs) ?_ | refine Z8 (hcon := hr) ?_ | refine Z8 (hcon := ha) ?_); refine JD ?_) | refine JT ?_ | refine JF ?_ | refine X3 ?_
  exact X1 ⟨_, St.le_refl _, ⟨rfl, trivial⟩, X2 _⟩
end Go.Fw
namespace Go.Fw
open Go Go.Proofs
set_option linter.unusedVariables false
theorem cells3 : Tryd.prog.cellsOf 3 = 1 := by kernel_rfl
theorem cells9 : Tryd.prog.cellsOf 9 = 1 := by kernel_rfl
theorem cells34 : Tryd.prog.cellsOf 34 = 1 := by kernel_rfl
theorem cells36 : Tryd.prog.cellsOf 36 = 5 := by kernel_rfl
theorem cells38 : Tryd.prog.cellsOf 38 = 10 := by kernel_rfl
theorem cells26 : Tryd.prog.cellsOf 26 = 6 := by kernel_rfl
def cRul (r : Rul) : List D := [.v (.int .i64 r.kind), .v (.int .i64 r.n), .v (.string (X4 r.name)), .v (.string (X4 r.key)), .v (.string (X4 r.src)), .v (.string (X4 r.dst))]
theorem aChg_open (c : Chg) : Xy c = .agg ((XD c).map .d) := by
 obtain ⟨op, id, src, dst, name, ⟨k, n, d, s, l⟩⟩ := c
 rfl
theorem aRul_open (r : Rul) : Y3 r = .agg ((cRul r).map .d) := rfl
section
variable {H : Type} {enc : TypeId × Value → H} {W : World}
theorem opens_valN : ∀ n, OpensN enc Tryd.prog W n 36 XU YK
 | 0 => ⟨fun cs x hx => by simp [DataW.trod] at hx⟩
 | n + 1 =>
  (X7u Tryd.underlying36 cells36 (fun m hm =>
   X0M rfl cells3 ((UY Tryd.underlying3).at m) (X0M rfl cells3 ((UY Tryd.underlying3).at m) (X0M rfl cells3 ((UY Tryd.underlying3).at m)
    (X0M rfl cells9 ((X0y Tryd.underlying9).at m)
     (X0M rfl cells34 (X7D (p := XU) (f := YK) Tryd.underlying34 cells36 (by decide) (fun m' hm' => opens_valN m')) XaR)))))).to
   (fun r => .mk r.1 r.2.1 r.2.2.1 r.2.2.2.1 r.2.2.2.2.1) fun r h => ⟨by rw [XU]; exact ⟨h.2.2.2.1, h.2.2.2.2.1.2, X2P h.2.2.2.2.1.1⟩, by rw [YK, Vl]; rfl⟩
termination_by n => n
decreasing_by omega
theorem opens_val : Opens enc Tryd.prog W 36 XU YK := XaH opens_valN
theorem opens_chg : Opens enc Tryd.prog W 38 X01 XD :=
 (X4H Tryd.underlying38 cells38
  (Ux rfl cells3 (UY Tryd.underlying3) (Ux rfl cells3 (UY Tryd.underlying3) (Ux rfl cells3 (UY Tryd.underlying3) (Ux rfl cells3 (UY Tryd.underlying3)
   (Ux rfl cells9 (X0y Tryd.underlying9) (Ux rfl cells36 opens_val X4Q))))))).to
  (fun r => ⟨r.1, r.2.1, r.2.2.1, r.2.2.2.1, r.2.2.2.2.1, r.2.2.2.2.2.1⟩) fun r h => ⟨⟨h.2.2.2.2.1, h.2.2.2.2.2.1⟩, by
   obtain ⟨op, id, src, dst, name, v, u⟩ := r
   cases v
   rfl⟩
theorem opens_rul : Opens enc Tryd.prog W 26 (fun _ : Rul => True) cRul :=
 (X4H Tryd.underlying26 cells26
  (Ux rfl cells3 (UY Tryd.underlying3) (Ux rfl cells3 (UY Tryd.underlying3)
   (Ux rfl cells9 (X0y Tryd.underlying9) (Ux rfl cells9 (X0y Tryd.underlying9) (Ux rfl cells9 (X0y Tryd.underlying9) (Ux rfl cells9 (X0y Tryd.underlying9) X4Q))))))).to
  (fun r => ⟨r.1, r.2.1, r.2.2.1, r.2.2.2.1, r.2.2.2.2.1, r.2.2.2.2.2.1⟩) fun r h => ⟨trivial, rfl⟩
end
end Go.Fw
namespace Go.Fw
open Go Go.Proofs
set_option linter.unusedVariables false
section
variable {H : Type} {enc : TypeId × Value → H} {W : World}
theorem opens_two : Opens enc Tryd.prog W 39 (fun _ : List UInt8 × List UInt8 => True) (fun r => [Xv r.1, Xv r.2]) :=
 (X9P (sz := 1) Tryd.underlying39 (by kernel_rfl) (by kernel_rfl) X4n).to id fun r h => ⟨trivial, rfl⟩
end
end Go.Fw
