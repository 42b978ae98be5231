/- RecordReads: for all byte strings and offsets, the program reads what the reference reads. No condition. -/
import Derived.Test.YtaoggblfedekeaaGreatDoorRows
import Derived.Test.YtaoggblfedekeaaGreatDoorG29
import Derived.Test.YtaoggblfedekeaaGreatDoorG07
import Derived.Test.YtaoggblfedekeaaGreatDoorCards
import Derived.Test.YtaoggblfedekeaaGreatDoorTie
import Derived.WalkKit
import Derived.ProofKit
import Derived.OpenShut
import Derived.LaidMore
import Derived.LaidHandle
import Derived.Stop.Joined
import Derived.SevenTiedAt
import Derived.Test.YtaoggblfedekeaaGreatDoorG25
import Derived.Test.YtaoggblfedekeaaGreatDoorG24
import Derived.Test.YtaoggblfedekeaaGreatDoorG08
set_option maxHeartbeats 16000000
namespace Go.Proofs.YtaoggblfedekeaaGreatDoor.recordReads
open Go.ChangeShapes Go.WideShapes Go.ChangeAt Go.RowKit Go.Fw
set_option linter.unusedVariables false
set_option linter.unusedSimpArgs false
theorem own : ownKnob Tryz.prog.godebug = none := by kernel_rfl
theorem full : ∀ t e, t < Tryz.prog.types.size → Tryz.prog.underlying t = some (.slice e) → 0 < Tryz.prog.cellsOf e := slices_full_of Tryz.prog (by kernel_rfl)
theorem kids : Kids Tryz.prog (· < Tryz.prog.types.size) := kids_rows (by kernel_rfl) (by kernel_rfl)
set_option maxRecDepth 100000 in
theorem contract (H : Type) (enc : TypeId × Value → H) (W : World) (base : Nat) (args : Array Value) (ds gs : List (DataW H)) (before : List MemPlace)
  (hval : ∀ (j : Nat) t v, Tryz.f6.params[j]? = some t → args[j]? = some v → Value.okWide Tryz.prog W .any base t v)
  (hW : DataW.Whole enc Tryz.prog Tryz.f6.params.toList Rows.recordReadsSpec.vars false W args.toList ds gs before) :
  Calls Tryz.prog 6 args W fun e W' => ∃ v, e = .returned v ∧ Rows.recordReadsSpec.post enc Tryz.prog Tryz.f6 false true false false W args v W' := by
 have hW' := hW
 obtain ⟨p, q, hA0, hV, rfl, hfz, hnd⟩ := hW
 have hA : DataW.TrodAll enc Tryz.prog W 0 (fun _ => true) true Tryz.f6.params.toList args.toList ds p := hA0
 rw [Tryz.params6] at hA hval
 obtain ⟨v0, vs0, d0, ds0, p0, q0, hargs, rfl, rfl, h0, r0⟩ := trodAll_cons hA
 obtain ⟨v1, vs1, d1, ds1, p1, q1, rfl, rfl, rfl, h1, r1⟩ := trodAll_cons r0
 obtain ⟨rfl, rfl, rfl⟩ := trodAll_nil r1
 obtain rfl : args = #[v0, v1] := by cases args; simp_all
 obtain ⟨rfl, rfl⟩ := trodVars_none hV
 obtain ⟨x0, px0, s0⟩ := X8A Tryz.underlying32 (hval 0 32 v0 rfl rfl) h0 X7W
 obtain ⟨x1, px1, s1⟩ := Xbj Tryz.underlying3 (hval 1 3 v1 rfl rfl) h1
 refine (X1L (W := W) (args := #[v0, v1]) (XbP x0 x1) W.cell? (fun _ _ h => h) ?_).mono ?_
 ·exact ⟨s0, s1, trivial⟩
 rintro e W' ⟨v, g', rfl, hv, hk⟩
 have hv' : v = .bool true := by
  simp only [AVal.sat, D.rep] at hv
  exact hv.1
 subst hv'
 exact ⟨_, rfl, X2b hW' rfl rfl rfl rfl rfl Tryz.underlying4 hk kids full (by decide +kernel)⟩
theorem door_met (os : Os) (args : Array Value) : laidMetH Tryz.prog [("graphdb/frac.zero", Rows.laid_graphdb_frac_zero)] ((World.doorLaid Tryz.prog 400 os).forCall (fun _ _ => 0) ⟨#[], args, []⟩).memory :=
 laidMetH_of_parts3 (fuel := 8) (laidMet_of_run' 8 (by kernel_rfl) (by kernel_rfl)) (by kernel_rfl) (by kernel_rfl)
set_option maxRecDepth 100000 in
theorem lifted (os : Os) (started : os.Started) (H : Type) (enc : TypeId × Value → H) :
  ReturnsInHanded {} Tryz.checked os 6 .any (fun w args => (Rows.recordReadsSpec.pre enc Tryz.prog Tryz.f6 [] false w args ∧ laidMetH Tryz.prog [("graphdb/frac.zero", Rows.laid_graphdb_frac_zero)] w) ∧ sizedMet enc Tryz.prog Tryz.f6 (OpenSpec.ofChange Rows.recordReadsSpec) false w args)
   (Rows.recordReadsSpec.post enc Tryz.prog Tryz.f6 false true false false) := by
 refine returnsInHanded_of_change_and (C := Tryz.checked) (X := fun w _ => laidMetH Tryz.prog [("graphdb/frac.zero", Rows.laid_graphdb_frac_zero)] w) (fun _ _ _ hh h => h.of_heap hh) own started (by kernel_rfl) Tryz.func6
  (ChangeSpec.witness_shaped (enc := enc) (C := Tryz.checked) (os := os) (X := fun w _ => laidMetH Tryz.prog [("graphdb/frac.zero", Rows.laid_graphdb_frac_zero)] w) false (World.doorLaid Tryz.prog 400 os) #[.slice none 0 0, .int .i64 0] 8 rfl (World.shaped_of_RefB (by kernel_rfl) (by kernel_rfl)) (by kernel_rfl) (by kernel_rfl) (by kernel_rfl) (door_met os _)) ?_
 intro W base args ds gs before hval hW _ _ hL _
 exact contract H enc W base args ds gs before hval hW
theorem over : Rows.RecordReadsSaid :=
 OpenClaim.holds_of_wide 6 Tryz.f6 rfl rfl rfl rfl rfl rfl rfl ⟨rfl, rfl, rfl, rfl, rfl⟩ rfl rfl rfl rfl rfl (by kernel_rfl) Tryz.func6 (by kernel_rfl)
  (of_decide_eq_true (by kernel_rfl)) (by unfold Func.isWrapper; first | (rw [if_pos (by decide +kernel)]; kernel_rfl) | (rw [if_neg (by decide +kernel)]; exact ⟨rfl, rfl⟩))
  (fun os started H enc _ => lifted os started H enc)
theorem proved : Rows.RecordReadsCardSaid :=
 Claim7.holds_tied_plain_at .later [] [.data] true _ false
  over (fun _ h => by cases h) (by kernel_rfl) (fun _ h => by cases h) recordReads_row_tie rfl ⟨rfl, rfl⟩ (by kernel_rfl) rfl
  (fun f fn hf hfn => by
   obtain rfl : f = 6 := Option.some.inj ((show Tryz.prog.funcNamed "graphdb/graphdblaw41.RecordReads" = some 6 by kernel_rfl).symm.trans hf) |>.symm
   obtain rfl : fn = Tryz.f6 := (Option.some.inj (Tryz.func6.symm.trans hfn)).symm
   exact ⟨by kernel_rfl, fun j t ht => by
    rw [Tryz.params6] at ht
    have hm : t ∈ [32, 3] := by simpa using Array.mem_of_getElem? ht
    have hall : ([32, 3].all fun u => !Tryz.prog.wantsStandIn u) = true := by kernel_rfl
    exact (show Tryz.prog.wantsStandIn t = false by simpa using List.all_eq_true.1 hall t hm)⟩)
  (by kernel_rfl)
end Go.Proofs.YtaoggblfedekeaaGreatDoor.recordReads
namespace Go.Fw
open Go
set_option linter.unusedVariables false
set_option linter.unusedSimpArgs false
structure At (b : List UInt8) (q : Nat) (w : List UInt8) : Prop where
 le : q ≤ b.length
 eq : b.drop q = w
theorem At.step {b : List UInt8} {q : Nat} {u w : List UInt8} (h : At b q (u ++ w)) : At b (q + u.length) w := by
 have h1 := congrArg List.length h.eq
 simp only [List.length_drop, List.length_append] at h1
 refine ⟨by have := h.le; omega, ?_⟩
 rw [← List.drop_drop, h.eq, List.drop_left]
theorem At.split {b : List UInt8} {q : Nat} {u w : List UInt8} (h : At b q (u ++ w)) : b = b.take q ++ u ++ w ∧ (b.take q).length = q := by
 refine ⟨?_, by have := h.le; simp; omega⟩
 rw [List.append_assoc, ← h.eq, List.take_append_drop]
theorem At.cons {b : List UInt8} {q : Nat} {c : UInt8} {w : List UInt8} (h : At b q (c :: w)) : b[q]? = some c ∧ At b (q + 1) w := by
 refine ⟨?_, At.step (u := [c]) h⟩
 have := congrArg (·[0]?) h.eq
 simpa using this
theorem rk_at {b : List UInt8} {q : Nat} {k limit : Int} {w : List UInt8} (h : At b q (UInt8.ofNat k.toNat :: w)) (hk : 1 ≤ k ∧ k ≤ limit ∧ k ≤ 255) : rkI b q 0 limit = (k, ((q + 1 : Nat) : Int), 0) := by
 obtain ⟨h1, h2⟩ := h.cons
 have hlt := (List.getElem?_eq_some_iff.1 h1).1
 unfold rkI rkS
 rw [if_neg (by simp), if_neg (by simp), Int.toNat_natCast, if_neg (by omega), h1, Option.getD_some, V4 (by omega), if_neg (by omega)]
 simp only [Prod.mk.injEq, and_true]
 constructor
 ·omega
 ·omega
theorem uint_at {b : List UInt8} {q : Nat} {n : Int} {w : List UInt8} (h : At b q (Xe n ++ w)) (hn : 0 ≤ n ∧ n ≤ 9223372036854775807) : rnS b q 0 = (n, ((q + (Xe n).length : Nat) : Int), 0) := by
 obtain ⟨h1, h2⟩ := h.split
 have := X2K hn (b.take q) w
 rw [X15]
 rw [← h1, h2] at this
 rw [this]
 simp
theorem int_at {b : List UInt8} {q : Nat} {n : Int} {w : List UInt8} (h : At b q (XD n ++ w)) (hn : -9223372036854775808 ≤ n ∧ n ≤ 9223372036854775807) : riS b q 0 = (n, ((q + (XD n).length : Nat) : Int), 0) := by
 obtain ⟨h1, h2⟩ := h.split
 have := X1G hn (b.take q) w
 rw [X2p]
 rw [← h1, h2] at this
 rw [this]
 simp
theorem str_at {b : List UInt8} {q : Nat} {s : List UInt8} {w : List UInt8} (h : At b q (Xo s ++ w)) (hn : s.length ≤ 20) : rsS b q 0 = (s, ((q + (Xo s).length : Nat) : Int), 0) := by
 obtain ⟨h1, h2⟩ := h.split
 have := X7i (s := s) (most := 20) (by omega) (by omega) (b.take q) w
 rw [X3d]
 rw [← h1, h2] at this
 rw [this]
 simp
theorem value_at {b : List UInt8} {q : Nat} {v : Val} {w : List UInt8} (h : At b q (XV v ++ w)) (hv : X6 8 v = true) : rvS b q 0 = (v, ((q + (XV v).length : Nat) : Int), 0) := by
 obtain ⟨h1, h2⟩ := h.split
 have := X9j hv (b.take q) w
 rw [X3P]
 rw [← h1, h2] at this
 rw [this]
 simp
theorem zeroV_eq {v : Val} (h : U0 v = true) : v = zV := by
 obtain ⟨k, n, d, s, l⟩ := v
 unfold U0 at h
 rw [Bool.and_eq_true] at h
 obtain ⟨h1, h0⟩ := h
 obtain rfl : k = 0 := of_decide_eq_true h0
 rw [X6] at h1
 simp at h1
 obtain ⟨⟨⟨h2, h3⟩, h4⟩, h5⟩ := h1
 subst h2; subst h3; subst h4; subst h5
 rfl
theorem chg_ok2 {c : Chg} (h : Y8 c = 0) : (c.op ≠ 6 → c.src = 0 ∧ c.dst = 0) ∧ (XC c.op = false → c.name = []) ∧ (Xz c.op = false → c.v = zV) := by
 unfold Y8 at h
 split at h
 ·omega
 rename_i h1
 split at h
 ·omega
 rename_i h2
 split at h
 ·omega
 rename_i h3
 refine ⟨fun hk => ⟨?_, ?_⟩, fun hn => ?_, fun hv => ?_⟩
 ·by_cases he : c.src = 0
  ·exact he
  ·exact absurd (.inr ⟨hk, .inl he⟩) h2
 ·by_cases he : c.dst = 0
  ·exact he
  ·exact absurd (.inr ⟨hk, .inr he⟩) h2
 ·by_cases he : c.name = []
  ·exact he
  ·exact absurd (.inl ⟨hn, he⟩) h3
 ·refine zeroV_eq ?_
  cases hz : U0 c.v with
  | true => rfl
  | false => exact absurd (.inr ⟨hv, hz⟩) h3
theorem At.eqv {b : List UInt8} {q q' : Nat} {w w' : List UInt8} (h : At b q w) (hq : q = q') (hw : w = w') : At b q' w' := hq ▸ hw ▸ h
theorem rch_at {b : List UInt8} {q : Nat} {c : Chg} {w : List UInt8} (hc : Y8 c = 0) (h : At b q (XK c ++ w)) : XO b q 0 = (c, ((q + (XK c).length : Nat) : Int), 0) ∧ At b (q + (XK c).length) w := by
 refine ⟨?_, h.step⟩
 obtain ⟨o1, o2, o3, o4, o5⟩ := X2C hc
 obtain ⟨z1, z2, z3⟩ := chg_ok2 hc
 obtain ⟨op, id, src, dst, name, v⟩ := c
 simp only at o1 o2 o3 o4 o5 z1 z2 z3
 have hput : XK ⟨op, id, src, dst, name, v⟩ = UInt8.ofNat op.toNat :: (Xe id ++ ((if op = 6 then Xe src ++ Xe dst else []) ++ ((if XC op = true then Xo name else []) ++ (if Xz op = true then XV v else [])))) := by
  unfold XK; simp only [List.append_assoc]
 rw [hput] at h ⊢
 rw [List.cons_append] at h
 have k1 := rk_at h (limit := 8) (by omega)
 have h1 := h.cons.2
 rw [List.append_assoc] at h1
 have k2 := uint_at h1 (by omega)
 have h2 := h1.step
 unfold XO
 rw [k1]
 simp only
 rw [k2]
 simp only
 by_cases h6 : op = 6
 ·subst h6
  have s3 := o3 rfl
  have hn := o4 rfl
  have hv := z3 rfl
  subst hv
  simp only [if_true, show XC 6 = true by decide, show Xz 6 = false by decide, Bool.false_eq_true, if_false, List.append_nil] at h2 ⊢
  rw [List.append_assoc, List.append_assoc] at h2
  have k3 := uint_at h2 (by omega)
  have h3 := h2.step
  have k4 := uint_at h3 (by omega)
  have h4 := h3.step
  have k5 := str_at h4 hn
  rw [k3]
  simp only
  rw [k4]
  simp only
  rw [k5]
  simp only [Prod.mk.injEq, true_and, and_true, List.length_cons, List.length_append]
  omega
 ·have z1 := z1 h6
  obtain ⟨rfl, rfl⟩ := z1
  simp only [if_neg h6, List.nil_append] at h2 ⊢
  by_cases hn : XC op = true
  ·simp only [if_pos hn] at h2 ⊢
   rw [List.append_assoc] at h2
   have k5 := str_at h2 (o4 hn)
   have h3 := h2.step
   rw [k5]
   simp only
   by_cases hv : Xz op = true
   ·simp only [if_pos hv] at h3 ⊢
    have k6 := value_at h3 (o5 hv).1
    rw [k6]
    simp only [Prod.mk.injEq, true_and, and_true, List.length_cons, List.length_append]
    omega
   ·simp only [if_neg hv, List.append_nil] at h3 ⊢
    have := z3 (by simpa using hv)
    subst this
    simp only [Prod.mk.injEq, true_and, and_true, List.length_cons, List.length_append]
    omega
  ·have hv : ¬ Xz op = true := by revert hn; unfold XC Xz; simp; omega
   simp only [if_neg hn, if_neg hv, List.append_nil, List.nil_append] at h2 ⊢
   have e1 := z2 (by simpa using hn)
   have e2 := z3 (by simpa using hv)
   subst e1
   subst e2
   simp only [Prod.mk.injEq, true_and, and_true, List.length_cons, List.length_append]
   omega
theorem rrl_at {b : List UInt8} {q : Nat} {r : Rul} {w : List UInt8} (hr : YS r = 0) (h : At b q (Ym r ++ w)) : Y6 b q 0 = (r, ((q + (Ym r).length : Nat) : Int), 0) ∧ At b (q + (Ym r).length) w := by
 refine ⟨?_, h.step⟩
 obtain ⟨o1, ⟨l1, l2, l3, l4⟩, o3⟩ := X0y hr
 obtain ⟨k, n, name, key, src, dst⟩ := r
 simp only at o1 l1 l2 l3 l4 o3
 have hput : Ym ⟨k, n, name, key, src, dst⟩ = UInt8.ofNat k.toNat :: (Xo name ++ (Xo key ++ (Xo src ++ (Xo dst ++ XD n)))) := by
  unfold Ym; simp only [List.append_assoc]
 rw [hput] at h ⊢
 rw [List.cons_append] at h
 have k1 := rk_at h (limit := 7) (by omega)
 have h1 := h.cons.2
 simp only [List.append_assoc] at h1
 have k2 := str_at h1 l1
 have h2 := h1.step
 have k3 := str_at h2 l2
 have h3 := h2.step
 have k4 := str_at h3 l3
 have h4 := h3.step
 have k5 := str_at h4 l4
 have h5 := h4.step
 have k6 := int_at h5 o1
 unfold Y6
 rw [k1]
 simp only
 rw [k2]
 simp only
 rw [k3]
 simp only
 rw [k4]
 simp only
 rw [k5]
 simp only
 rw [k6]
 simp only [Prod.mk.injEq, true_and, and_true, List.length_cons, List.length_append]
 omega
theorem rchL_at {b : List UInt8} : ∀ (l : List Chg) (q : Nat) (w : List UInt8), (∀ c ∈ l, Y8 c = 0) → At b q (Yl l ++ w) → Yq b l.length q 0 = (l, ((q + (Yl l).length : Nat) : Int), 0) ∧ At b (q + (Yl l).length) w
 | [], q, w, _, h => ⟨rfl, h⟩
 | c :: l, q, w, hc, h => by
  have hput : Yl (c :: l) = XK c ++ Yl l := rfl
  rw [hput, List.append_assoc] at h
  obtain ⟨h1, h2⟩ := rch_at (hc c (by simp)) h
  obtain ⟨h3, h4⟩ := rchL_at l _ w (fun x hx => hc x (by simp [hx])) h2
  rw [hput, List.length_append]
  refine ⟨?_, by rw [← Nat.add_assoc]; exact h4⟩
  rw [List.length_cons, Yq, if_neg (by simp), h1]
  simp only
  rw [h3]
  simp only [Prod.mk.injEq, true_and, and_true]
  omega
theorem rulZ_eq {r : Rul} (h : Vu r = true) : r = zR := by
 obtain ⟨k, n, name, key, src, dst⟩ := r
 unfold Vu at h
 have := of_decide_eq_true h
 simp only at this
 obtain ⟨rfl, rfl, rfl, rfl, rfl, rfl⟩ := this
 rfl
theorem rd_back {r : Rcd} (h : Yj r = 0) : rdS (YB r) = (r, 0) := by
 obtain ⟨hkd, hts, h1, h2, h3, h4⟩ := X2f h
 have hX : rdX (YB r) = (r, ((YB r).length : Int), 0) := by
  obtain ⟨kd, ts, l, rl, off⟩ := r
  simp only at hkd hts h1 h2 h3 h4
  generalize hb : YB ⟨kd, ts, l, rl, off⟩ = b
  have hA : At b 0 (YB ⟨kd, ts, l, rl, off⟩) := ⟨by omega, by rw [hb]; rfl⟩
  unfold YB at hA hb
  simp only at hA hb
  have k1 := rk_at hA (limit := 3) (by omega)
  have a1 := hA.cons.2
  have k2 := uint_at a1 (by omega)
  have a2 := a1.step
  unfold rdX
  rw [show ((0 : Nat) : Int) = 0 from rfl] at k1
  rw [k1]
  simp only
  rw [k2]
  simp only
  rcases hkd with rfl | rfl | rfl
  ·obtain ⟨h1, hl⟩ := h1 (by decide)
   simp only [if_true] at a2 hb ⊢
   have k3 := uint_at a2 (n := (l.length : Nat)) (by omega)
   have a3 := a2.step
   rw [k3]
   simp only [Int.toNat_natCast]
   obtain ⟨k4, a4⟩ := rchL_at l _ [] h1 (by rw [List.append_nil]; exact a3)
   rw [k4]
   obtain ⟨e1, e2⟩ := h4 (by decide)
   subst e1
   have e2 := rulZ_eq e2
   subst e2
   simp only [Prod.mk.injEq, true_and, and_true]
   rw [← hb]
   simp only [List.length_cons, List.length_append]
   omega
  ·have h2 := h2 rfl
   obtain rfl := h3 (by decide)
   simp only [show ¬ ((2 : Int) = 1) by omega, if_false, if_true] at a2 hb ⊢
   obtain ⟨k4, a4⟩ := rrl_at h2 a2
   rw [k4]
   simp only
   have hro : roS b ((0 + 1 + (Xe ts).length + (Ym rl).length : Nat) : Int) 0 = (off, ((0 + 1 + (Xe ts).length + (Ym rl).length + 1 : Nat) : Int), 0) := by
    obtain ⟨c1, c2⟩ := a4.cons
    have hlt := (List.getElem?_eq_some_iff.1 c1).1
    unfold roS
    rw [if_neg (by simp), if_neg (by omega), Int.toNat_natCast, c1, Option.getD_some]
    cases off <;> simp <;> omega
   rw [hro]
   simp only [Prod.mk.injEq, true_and, and_true]
   rw [← hb]
   simp only [List.length_cons, List.length_append, List.length_nil]
   omega
  ·obtain rfl := h3 (by decide)
   obtain ⟨e1, e2⟩ := h4 (by decide)
   subst e1
   have e2 := rulZ_eq e2
   subst e2
   simp only [show ¬ ((3 : Int) = 1) by omega, show ¬ ((3 : Int) = 2) by omega, if_false] at a2 hb ⊢
   simp only [Prod.mk.injEq, true_and, and_true]
   rw [← hb]
   simp only [List.length_cons, List.length_append, List.length_nil]
   omega
 unfold rdS
 rw [hX]
 exact X23 (by omega) h
end Go.Fw
namespace Go.Fw
open Go Go.Proofs
set_option maxRecDepth 100000
set_option linter.unusedVariables false
set_option linter.unusedSimpArgs false
theorem putRcd_len {r : Rcd} (h : Yj r = 0) : (YB r).length ≤ 1000000 := by
 obtain ⟨hkd, hts, h1, h2, h3, h4⟩ := X2f h
 have hu := Vv (n := r.ts) (by omega)
 unfold YB
 rcases hkd with hk | hk | hk
 ·obtain ⟨h1, hl⟩ := h1 (by omega)
  have hw := Vv (n := (r.changes.length : Nat)) (by omega)
  have hc := X1H h1
  rw [if_pos hk]
  simp only [List.length_cons, List.length_append]
  omega
 ·have hr := X3X (h2 hk)
  rw [if_neg (by omega), if_pos hk]
  simp only [List.length_cons, List.length_append, List.length_nil]
  omega
 ·rw [if_neg (by omega), if_neg (by omega)]
  simp only [List.length_cons, List.length_append, List.length_nil]
  omega
theorem back_con (r : Rcd) (hok : UE r) : Con Tryz.prog 5 [] [XZ r] [] (ab true) := by
 refine X8 (xs := [ab true]) Tryz.func5 rfl Tryz.ntmps5 rfl rfl rfl (fun E => ?_)
 have ha := X2w
 have hf := X7q r hok
 have hc := X1C r hok
 have he := X4B r hok
 have hs := X7s r hok
 generalize VE r.changes (60 : Nat) = fw at *
 by_cases h : Yj r = 0
 ·have hd := X3L (YB r) (by have := putRcd_len h; omega)
  rw [rd_back h] at hd
  unfold X0B at he
  rw [if_pos h] at he
  rw [h] at hc
  generalize YB r = w at *
  obtain ⟨kd, ts, l, ⟨k, n, name, key, src, dst⟩, off⟩ := r
  simp only [XZ] at hf hc he hd hs ⊢
  cases fw with
  | false =>
   refine X0 ?_; refine JR ?_; refine Zy (γ := 100) ?_; refine Z0 ?_; refine JD ?_; refine X0 ?_; refine X0 ?_; refine JR ?_; refine ZL ?_; refine Z9 (hcon := hf) ?_; refine Zr ?_; refine Z1 ?_; refine Zl ?_
   refine Zl ?_; refine Zl ?_; refine Zk ?_; refine JD ?_; refine JT ?_; refine X0 ?_; refine JR ?_; refine Z9 (hcon := ha) ?_; refine Z0 ?_; refine JD ?_
   exact X1 ⟨_, St.le_refl _, ⟨rfl, trivial⟩, X2 _⟩
  | true =>
   refine X0 ?_; refine JR ?_; refine Zy (γ := 100) ?_; refine Z0 ?_; refine JD ?_; refine X0 ?_; refine X0 ?_; refine JR ?_; refine ZL ?_; refine Z9 (hcon := hf) ?_; refine Zr ?_; refine Z1 ?_; refine ZL ?_
   refine Z9 (hcon := hc) ?_; refine Zs ?_; refine Zn ?_; refine JD ?_; refine JF ?_; refine X3 ?_; refine X0 ?_; refine JR ?_; refine ZL ?_; refine Z9 (hcon := he) ?_; refine Z9 (hcon := hd) ?_; refine Z1 ?_
   refine ZD ?_; refine ZD ?_; refine Zt (γ := 101) ?_; refine Zw ?_; refine Z0 ?_; refine JD ?_; refine X0 ?_; refine JR ?_; refine Z1 ?_; refine Zu ?_; refine Z1 ?_; refine ZL ?_; refine ZL ?_
   refine Z9 (hcon := hs) ?_; refine Zk ?_; refine Z1 ?_; refine Z9 (hcon := ha) ?_; refine Zk ?_; refine Z0 ?_; refine JD ?_
   exact X1 ⟨_, St.le_refl _, ⟨rfl, trivial⟩, X2 _⟩
 ·clear he
  generalize Yj r = e at *
  obtain ⟨kd, ts, l, ⟨k, n, name, key, src, dst⟩, off⟩ := r
  simp only [XZ] at hf hc ⊢
  cases fw with
  | false =>
   refine X0 ?_; refine JR ?_; refine Zy (γ := 100) ?_; refine Z0 ?_; refine JD ?_; refine X0 ?_; refine X0 ?_; refine JR ?_; refine ZL ?_; refine Z9 (hcon := hf) ?_; refine Zr ?_; refine Z1 ?_; refine Zl ?_
   refine Zl ?_; refine Zl ?_; refine Zk ?_; refine JD ?_; refine JT ?_; refine X0 ?_; refine JR ?_; refine Z9 (hcon := ha) ?_; refine Z0 ?_; refine JD ?_
   exact X1 ⟨_, St.le_refl _, ⟨rfl, trivial⟩, X2 _⟩
  | true =>
   refine X0 ?_; refine JR ?_; refine Zy (γ := 100) ?_; refine Z0 ?_; refine JD ?_; refine X0 ?_; refine X0 ?_; refine JR ?_; refine ZL ?_; refine Z9 (hcon := hf) ?_; refine Zr ?_; refine Z1 ?_; refine ZL ?_
   refine Z9 (hcon := hc) ?_; refine Zs ?_; refine Zn ?_; refine JD ?_; refine JT ?_; refine X0 ?_; refine JR ?_; refine Z9 (hcon := ha) ?_; refine Z0 ?_; refine JD ?_
   exact X1 ⟨_, St.le_refl _, ⟨rfl, trivial⟩, X2 _⟩
end Go.Fw
