/- RecordChecks: for all records with few changes, the program's check and encoding are the reference's. No condition. -/
import Derived.Test.YtaoggblfedekeaaGreatDoorRows
import Derived.Test.YtaoggblfedekeaaGreatDoorG26
import Derived.Test.YtaoggblfedekeaaGreatDoorG07
import Derived.Test.YtaoggblfedekeaaGreatDoorCards
import Derived.Test.YtaoggblfedekeaaGreatDoorTie
import Derived.WalkKit
import Derived.ProofKit
import Derived.OpenShut
import Derived.LaidMore
import Derived.LaidHandle
import Derived.Stop.Joined
import Derived.SevenTiedAt
import Derived.Test.YtaoggblfedekeaaGreatDoorG23
import Derived.Test.YtaoggblfedekeaaGreatDoorG16
import Derived.Test.YtaoggblfedekeaaGreatDoorG18
import Derived.Test.YtaoggblfedekeaaGreatDoorG08
import Derived.Test.YtaoggblfedekeaaGreatDoorG22
set_option maxHeartbeats 16000000
namespace Go.Proofs.YtaoggblfedekeaaGreatDoor.recordChecks
open Go.ChangeShapes Go.WideShapes Go.ChangeAt Go.RowKit Go.Fw
set_option linter.unusedVariables false
set_option linter.unusedSimpArgs false
theorem own : ownKnob Tryz.prog.godebug = none := by kernel_rfl
theorem full : ∀ t e, t < Tryz.prog.types.size → Tryz.prog.underlying t = some (.slice e) → 0 < Tryz.prog.cellsOf e := slices_full_of Tryz.prog (by kernel_rfl)
theorem kids : Kids Tryz.prog (· < Tryz.prog.types.size) := kids_rows (by kernel_rfl) (by kernel_rfl)
set_option maxRecDepth 100000 in
theorem contract (H : Type) (enc : TypeId × Value → H) (W : World) (base : Nat) (args : Array Value) (ds gs : List (DataW H)) (before : List MemPlace)
  (hval : ∀ (j : Nat) t v, Tryz.f4.params[j]? = some t → args[j]? = some v → Value.okWide Tryz.prog W .any base t v)
  (hW : DataW.Whole enc Tryz.prog Tryz.f4.params.toList Rows.recordChecksSpec.vars false W args.toList ds gs before) :
  Calls Tryz.prog 4 args W fun e W' => ∃ v, e = .returned v ∧ Rows.recordChecksSpec.post enc Tryz.prog Tryz.f4 false true false false W args v W' := by
 have hW' := hW
 obtain ⟨p, q, hA0, hV, rfl, hfz, hnd⟩ := hW
 have hA : DataW.TrodAll enc Tryz.prog W 0 (fun _ => true) true Tryz.f4.params.toList args.toList ds p := hA0
 rw [Tryz.params4] at hA hval
 obtain ⟨v0, vs0, d0, ds0, p0, q0, hargs, rfl, rfl, h0, r0⟩ := trodAll_cons hA
 obtain ⟨rfl, rfl, rfl⟩ := trodAll_nil r0
 obtain rfl : args = #[v0] := by cases args; simp_all
 obtain ⟨rfl, rfl⟩ := trodVars_none hV
 obtain ⟨x0, px0, s0⟩ := X1Q Tryz.underlying37 (hval 0 37 v0 rfl rfl) h0 opens_rcd
 rw [← aRcd_open] at s0
 refine (X1L (W := W) (args := #[v0]) (X9z x0 px0) W.cell? (fun _ _ h => h) ?_).mono ?_
 ·exact ⟨s0, trivial⟩
 rintro e W' ⟨v, g', rfl, hv, hk⟩
 have hv' : v = .bool true := by
  simp only [AVal.sat, D.rep] at hv
  exact hv.1
 subst hv'
 exact ⟨_, rfl, X2b hW' rfl rfl rfl rfl rfl Tryz.underlying4 hk kids full (by decide +kernel)⟩
theorem door_met (os : Os) (args : Array Value) : laidMetH Tryz.prog [("graphdb/frac.zero", Rows.laid_graphdb_frac_zero)] ((World.doorLaid Tryz.prog 400 os).forCall (fun _ _ => 0) ⟨#[], args, []⟩).memory :=
 laidMetH_of_parts3 (fuel := 8) (laidMet_of_run' 8 (by kernel_rfl) (by kernel_rfl)) (by kernel_rfl) (by kernel_rfl)
set_option maxRecDepth 100000 in
theorem lifted (os : Os) (started : os.Started) (H : Type) (enc : TypeId × Value → H) :
  ReturnsInHanded {} Tryz.checked os 4 .any (fun w args => (Rows.recordChecksSpec.pre enc Tryz.prog Tryz.f4 [] false w args ∧ laidMetH Tryz.prog [("graphdb/frac.zero", Rows.laid_graphdb_frac_zero)] w) ∧ sizedMet enc Tryz.prog Tryz.f4 (OpenSpec.ofChange Rows.recordChecksSpec) false w args)
   (Rows.recordChecksSpec.post enc Tryz.prog Tryz.f4 false true false false) := by
 refine returnsInHanded_of_change_and (C := Tryz.checked) (X := fun w _ => laidMetH Tryz.prog [("graphdb/frac.zero", Rows.laid_graphdb_frac_zero)] w) (fun _ _ _ hh h => h.of_heap hh) own started (by kernel_rfl) Tryz.func4
  (ChangeSpec.witness_shaped (enc := enc) (C := Tryz.checked) (os := os) (X := fun w _ => laidMetH Tryz.prog [("graphdb/frac.zero", Rows.laid_graphdb_frac_zero)] w) false (World.doorLaid Tryz.prog 400 os) #[.agg #[.int .i64 0, .int .i64 0, .slice none 0 0, .int .i64 0, .int .i64 0, .string ⟨#[]⟩, .string ⟨#[]⟩, .string ⟨#[]⟩, .string ⟨#[]⟩, .bool false]] 8 rfl (World.shaped_of_RefB (by kernel_rfl) (by kernel_rfl)) (by kernel_rfl) (by kernel_rfl) (by kernel_rfl) (door_met os _)) ?_
 intro W base args ds gs before hval hW _ _ hL _
 exact contract H enc W base args ds gs before hval hW
theorem over : Rows.RecordChecksSaid :=
 OpenClaim.holds_of_wide 4 Tryz.f4 rfl rfl rfl rfl rfl rfl rfl ⟨rfl, rfl, rfl, rfl, rfl⟩ rfl rfl rfl rfl rfl (by kernel_rfl) Tryz.func4 (by kernel_rfl)
  (of_decide_eq_true (by kernel_rfl)) (by unfold Func.isWrapper; first | (rw [if_pos (by decide +kernel)]; kernel_rfl) | (rw [if_neg (by decide +kernel)]; exact ⟨rfl, rfl⟩))
  (fun os started H enc _ => lifted os started H enc)
theorem proved : Rows.RecordChecksCardSaid :=
 Claim7.holds_tied_plain_at .later [] [.data] true _ false
  over (fun _ h => by cases h) (by kernel_rfl) (fun _ h => by cases h) recordChecks_row_tie rfl ⟨rfl, rfl⟩ (by kernel_rfl) rfl
  (fun f fn hf hfn => by
   obtain rfl : f = 4 := Option.some.inj ((show Tryz.prog.funcNamed "graphdb/graphdblaw41.RecordChecks" = some 4 by kernel_rfl).symm.trans hf) |>.symm
   obtain rfl : fn = Tryz.f4 := (Option.some.inj (Tryz.func4.symm.trans hfn)).symm
   exact ⟨by kernel_rfl, fun j t ht => by
    rw [Tryz.params4] at ht
    have hm : t ∈ [37] := by simpa using Array.mem_of_getElem? ht
    have hall : ([37].all fun u => !Tryz.prog.wantsStandIn u) = true := by kernel_rfl
    exact (show Tryz.prog.wantsStandIn t = false by simpa using List.all_eq_true.1 hall t hm)⟩)
  (by kernel_rfl)
end Go.Proofs.YtaoggblfedekeaaGreatDoor.recordChecks
namespace Go.Fw
open Go
set_option linter.unusedVariables false
def fixE (r : Val × Int × Int) : Val × Int × Int := if r.2.2 ≠ 0 then (zV, 0, r.2.2) else r
def elemsR (g : Nat → Int → Val × Int × Int) (b : List UInt8) (a k : Int) : Val × Int × Int :=
 let c := Xg b a
 if c.2.2 ≠ 0 then (.mk k 0 0 [] [], 0, c.2.2) else if YC k c.1 then (.mk k 0 0 [] [], 0, 2) else
  let p := Xq g c.2.1 c.1.toNat; if p.2.2 ≠ 0 then (.mk k 0 0 [] p.1.dropLast, 0, p.2.2) else (.mk k 0 0 [] p.1, p.2.1, 0)
def contentR (gl gp : Nat → Int → Val × Int × Int) (b : List UInt8) (a k : Int) : Val × Int × Int :=
 if k = 7 ∨ k = 8 then elemsR (if k = 8 then gl else gp) b a k else XS gl gp b a k
theorem content_fix (gl gp : Nat → Int → Val × Int × Int) (b : List UInt8) (a k : Int) :
  (contentR gl gp b a k).2.2 = (XS gl gp b a k).2.2 ∧ ((XS gl gp b a k).2.2 = 0 → contentR gl gp b a k = XS gl gp b a k) := by
 unfold contentR
 by_cases h : k = 7 ∨ k = 8
 ·rw [if_pos h]
  have h1 : ¬(k = 1 ∨ k = 2 ∨ k = 5 ∨ k = 6) := by omega
  have h3 : ¬ k = 3 := by omega
  have h4 : ¬ k = 4 := by omega
  unfold elemsR XS
  rw [if_neg h1, if_neg h3, if_neg h4, if_pos h]
  simp only
  by_cases e1 : (Xg b a).2.2 = 0
  ·have e1' : ¬ (Xg b a).2.2 ≠ 0 := fun h => h e1
   simp only [if_neg e1']
   by_cases e2 : YC k (Xg b a).1 = true
   ·simp only [if_pos e2]
    exact ⟨trivial, fun h => absurd h (by decide)⟩
   ·simp only [if_neg e2]
    generalize Xq (if k = 8 then gl else gp) (Xg b a).2.1 (Xg b a).1.toNat = p
    by_cases e3 : p.2.2 = 0
    ·have e3' : ¬ p.2.2 ≠ 0 := fun h => h e3
     simp only [if_neg e3']
     exact ⟨e3.symm, fun _ => by rw [← e3]⟩
    ·have e3' : p.2.2 ≠ 0 := e3
     simp only [if_pos e3']
     exact ⟨trivial, fun h => absurd h e3⟩
  ·have e1' : (Xg b a).2.2 ≠ 0 := e1
   simp only [if_pos e1']
   exact ⟨trivial, fun h => absurd h e1⟩
 ·rw [if_neg h]
  exact ⟨rfl, fun _ => rfl⟩
theorem val_fix (gl gp : Nat → Int → Val × Int × Int) (m : Nat) (b : List UInt8) (a want : Int) : fixE (Yw gl gp m b a want) =
  if a = b.length then (zV, 0, 3) else
  if 8 < ((((b[a.toNat]?).getD 0).toNat : Nat) : Int) ∨ (((((b[a.toNat]?).getD 0).toNat : Nat) : Int) = 8 ∧ m = 0) ∨ (want ≠ 0 ∧ ((((b[a.toNat]?).getD 0).toNat : Nat) : Int) ≠ want) then (zV, 0, 2) else
   if (contentR gl gp b (a + 1) (((b[a.toNat]?).getD 0).toNat : Nat)).2.2 ≠ 0 then (zV, 0, (contentR gl gp b (a + 1) (((b[a.toNat]?).getD 0).toNat : Nat)).2.2) else
   if X6 8 (contentR gl gp b (a + 1) (((b[a.toNat]?).getD 0).toNat : Nat)).1 = false then (zV, 0, 2) else contentR gl gp b (a + 1) (((b[a.toNat]?).getD 0).toNat : Nat) := by
 unfold Yw
 by_cases h1 : a = b.length
 ·rw [if_pos h1, if_pos h1]; rfl
 rw [if_neg h1, if_neg h1]
 simp only
 generalize ((((b[a.toNat]?).getD 0).toNat : Nat) : Int) = k
 by_cases h2 : 8 < k ∨ (k = 8 ∧ m = 0) ∨ (want ≠ 0 ∧ k ≠ want)
 ·rw [if_pos h2, if_pos h2]; rfl
 rw [if_neg h2, if_neg h2]
 obtain ⟨e1, e2⟩ := content_fix gl gp b (a + 1) k
 generalize XS gl gp b (a + 1) k = c at *
 by_cases e3 : c.2.2 = 0
 ·have e3' : ¬ c.2.2 ≠ 0 := fun h => h e3
  rw [e2 e3, if_neg e3']
  by_cases e4 : X6 8 c.1 = false
  ·rw [if_pos ⟨e3, e4⟩, if_pos e4]; rfl
  ·rw [if_neg (fun h => e4 h.2), if_neg e4]
   unfold fixE
   rw [if_neg e3']
 ·rw [if_neg (fun h => e3 h.1), e1, if_pos e3]
  unfold fixE
  rw [if_pos e3]
theorem value_fix (b : List UInt8) (a : Int) : Y5 b a = if a < 0 ∨ (b.length : Int) < a then (zV, 0, 1) else fixE (U9 b 8 a) := rfl
theorem int_err0 {b : List UInt8} {a : Int} (h : (Xl b a).2.2 ≠ 0) : (Xl b a).2.1 = 0 := by
 unfold Xl at h ⊢
 simp only at h ⊢
 split
 ·rfl
 ·rename_i h1
  rw [if_neg h1] at h
  split
  ·rfl
  ·rename_i h2
   rw [if_neg h2] at h
   exact absurd rfl h
end Go.Fw
namespace Go.Fw
open Go Go.Proofs
set_option maxRecDepth 100000
set_option linter.unusedVariables false
set_option linter.unusedSimpArgs false
def NestC (b : List UInt8) (a : Nat) (lists path : Int) (r : Val × Int × Int) : Prop :=
 Con Tryz.prog 123 [] [.d (Xh b), ai a, ai lists, ai path] [] (.tup [Xb r.1, ai r.2.1, ai r.2.2])
def ElemC (b : List UInt8) (a : Int) (k lists : Int) (r : Val × Int × Int) : Prop :=
 Con Tryz.prog 145 [] [.d (Xh b), ai a, ai k, ai lists] [] (.tup [Xb r.1, ai r.2.1, ai r.2.2])
theorem relem_k8 (b : List UInt8) (m : Nat) (a : Int) (gl : Nat → Int → Val × Int × Int) (R : Val × Int × Int) (hm : m ≤ 8) (hb : b.length ≤ 281474976710656)
  (hge : ∀ i q : Nat, q ≤ b.length → YI b (gl i q).2) (hg : ∀ i q : Nat, q ≤ b.length → NestC b q (8 - m + 1) (-1) (fixE (gl i q))) (hG : R = elemsR gl b a 8) : ElemC b a 8 (8 - m) R := by
 refine X8 (xs := [Xb R.1, ai R.2.1, ai R.2.2]) Tryz.func145 rfl Tryz.ntmps145 rfl rfl rfl (fun E => ?_)
 have hc := X2q b a hb
 have hue := VJ b a
 unfold elemsR at hG
 simp only at hG
 obtain ⟨N, hN⟩ := X13 b a
 generalize Xg b a = u at *
 obtain ⟨n, a2, e2⟩ := u
 simp only at hN
 subst hN
 simp only [Int.toNat_natCast] at hc hG hue
 by_cases he2 : e2 = 0
 case neg =>
  rw [if_pos he2] at hG
  subst hG
  repeat first | refine X0 ?_ | (refine JR ?_; (repeat first | refine Z1 ?_ | refine Z0 ?_ | refine ZL ?_ | refine Zs ?_ | refine Zt (γ := 100) ?_ | refine Zt (γ := 101) ?_ | refine Zw ?_ | refine Zv ?_ | refine ZD ?_ | refine Z9 (hcon := hc) ?_); refine JD ?_) | refine JT ?_
  exact X1 ⟨_, Xm 100 (cs := [ai 8, ai 0, ai 0, .d (.v (.string (X4 []))), ani]) (cs' := [ai 8, ai 0, ai 0, .d (.v (.string (X4 []))), .d (.sl 5 [])]) rfl ⟨AVal.le_refl _, AVal.le_refl _, AVal.le_refl _, AVal.le_refl _, AVal.le_nil 5, trivial⟩ rfl, ⟨⟨100, 0, _, rfl, rfl, .inr ⟨5, _, rfl, rfl, rfl, rfl⟩⟩, rfl, rfl, trivial⟩, X2 _⟩
 subst he2
 rw [if_neg (by simp)] at hG
 have h00 := hue rfl
 simp only at h00
 clear hue
 by_cases hN : 64 < N
 ·rw [if_pos (by simp [YC]; omega)] at hG
  subst hG
  have hN' : (N : Int) > 64 := by omega
  repeat first | refine X0 ?_ | (refine JR ?_; (repeat first | refine Z1 ?_ | refine Z0 ?_ | refine ZL ?_ | refine Zp ?_ | refine Zu ?_ | refine Zs ?_ | refine Zt (γ := 100) ?_ | refine Zt (γ := 101) ?_ | refine Zw ?_ | refine Zv ?_ | refine ZD ?_ | refine Zk ?_ | refine Zl ?_ | refine Zm ?_ | refine Z9 (hcon := hc) ?_); refine JD ?_) | refine JT ?_ | refine JF ?_ | refine X3 ?_
  exact X1 ⟨_, Xm 100 (cs := [ai 8, ai 0, ai 0, .d (.v (.string (X4 []))), ani]) (cs' := [ai 8, ai 0, ai 0, .d (.v (.string (X4 []))), .d (.sl 5 [])]) rfl ⟨AVal.le_refl _, AVal.le_refl _, AVal.le_refl _, AVal.le_refl _, AVal.le_nil 5, trivial⟩ rfl, ⟨⟨100, 0, _, rfl, rfl, .inr ⟨5, _, rfl, rfl, rfl, rfl⟩⟩, rfl, rfl, trivial⟩, X2 _⟩
 rw [if_neg (by simp [YC]; omega)] at hG
 have hN' : ¬ (N : Int) > 64 := by omega
 repeat first | refine X0 ?_ | (refine JR ?_; (repeat first | refine Z1 ?_ | refine Z0 ?_ | refine Zp ?_ | refine Zu ?_ | refine Zs ?_ | refine Zt (γ := 100) ?_ | refine Zt (γ := 101) ?_ | refine Zw ?_ | refine Zv ?_ | refine ZD ?_ | refine Zk ?_ | refine Zn ?_ | refine Zl ?_ | refine Zm ?_ | refine Z9 (hcon := hc) ?_); refine JD ?_) | refine JF ?_ | refine X5 ?_ | refine X3 ?_
 refine Xu (X10 101 4 121 5 (cs := [ai 8, ai 0, ai 0, .d (.v (.string (X4 []))), ani]) rfl rfl rfl rfl rfl) ?_
 refine XR (fun i : Nat => i ≤ N ∧ (Xq gl a2 i).2.2 = 0 ∧ (Xq gl a2 i).1.length = i) (fun i => ⟨87, [(0, .d (Xh b)), (2, ai 8), (3, ai (8 - m)), (8, .ptr 100 0), (11, .ptr 101 0), (12, ai N), (13, ai (Xq gl a2 i).2.1), (15, ai i)], [(100, .box [ai 0, ai 0, ai 0, .d (.v (.string (X4 []))), ani]), (101, .box [ai 8, ai 0, ai 0, .d (.v (.string (X4 []))), .own 121 (Xq gl a2 i).1.length]), (121, .row 5 (Xs (Xq gl a2 i).1))]⟩) (fun i => N - i) 0 ⟨by omega, rfl, rfl⟩
  (Xc rfl ⟨JL, JL, JL, JL, JL, JL, JL, JL, trivial⟩ ⟨rfl, rfl, rfl, trivial⟩) ?_
 intro i hi
 obtain ⟨hi, hpe, hil⟩ := hi
 have hlen := U2 (Xq gl a2 i).1
 by_cases hiN : i < N
 case neg =>
  obtain rfl : i = N := by omega
  rw [if_neg (by simpa using hpe)] at hG
  generalize Xq gl a2 i = p at *
  obtain ⟨l, pa, pe⟩ := p
  simp only at hpe hil hG hlen
  subst hpe hG
  refine Xu (Y1 121 rfl) ?_
  refine Xu (UT 101 4 121 (cs := [ai 8, ai 0, ai 0, .d (.v (.string (X4 []))), .own 121 l.length]) (sz := 5) (xs := Xs l) rfl rfl rfl hlen.symm) ?_
  refine X0 ?_; refine X0 ?_; refine JR ?_; refine Z1 ?_; refine Z1 ?_; refine Z8 ?_; refine JD ?_; refine JF ?_; refine Xv ?_; refine X0 ?_; refine JR ?_; refine ZL ?_; refine Z1 ?_; refine Zw ?_
  refine Z0 ?_; refine Z0 ?_; refine JD ?_
  exact X1 ⟨_, St.le_refl _, ⟨⟨100, 0, _, rfl, rfl, .inr ⟨5, _, rfl, rfl, rfl, rfl⟩⟩, rfl, rfl, trivial⟩, X2 _⟩
 obtain ⟨q, hq1, hq2⟩ := X0p hge h00 i hpe
 have hcall := hg i q hq2
 unfold NestC at hcall
 have hsucc := Vg hpe
 have hsl := X24 hpe
 rw [hq1] at hsucc
 generalize gl i q = r at hcall hsucc
 by_cases hre : r.2.2 = 0
 case neg =>
  have hst := Vz (g := gl) (a := a2) (k := i + 1) (by rw [hsucc]; exact hre) N (by omega)
  rw [hst, if_pos (by rw [hsucc]; exact hre), hsucc] at hG
  unfold fixE at hcall
  rw [if_pos hre] at hcall
  generalize Xq gl a2 i = p at *
  obtain ⟨l, pa, pe⟩ := p
  obtain ⟨x, xa, xe⟩ := r
  simp only [List.dropLast_concat] at hq1 hpe hil hG hlen hcall hre
  clear hsucc hst hsl
  subst hG hq1 hpe
  simp only [Xb, Xs] at hcall
  refine Xu (Y1 121 rfl) ?_
  refine Xu (UT 101 4 121 (cs := [ai 8, ai 0, ai 0, .d (.v (.string (X4 []))), .own 121 l.length]) (sz := 5) (xs := Xs l) rfl rfl rfl hlen.symm) ?_
  repeat first | refine X0 ?_ | (refine JR ?_; (repeat first | refine Z1 ?_ | refine Z0 ?_ | refine ZL ?_ | refine Z8 ?_ | refine Zu ?_ | refine Zs ?_ | refine Zb ?_ | refine Zt (γ := 102) ?_ | refine Zw ?_ | refine ZD ?_ | refine Z9 (hcon := hcall) ?_); refine JD ?_) | refine JT ?_ | refine JF ?_ | refine X5 ?_ | refine X3 ?_
  exact X1 ⟨_, St.le_refl _, ⟨⟨100, 0, _, rfl, rfl, .inr ⟨5, _, rfl, rfl, rfl, rfl⟩⟩, rfl, rfl, trivial⟩, X2 _⟩
 have hpe2 : (Xq gl a2 (i + 1)).2.2 = 0 := by rw [hsucc]; exact hre
 unfold fixE at hcall
 rw [if_neg (by simpa using hre)] at hcall
 generalize Xq gl a2 i = p at *
 obtain ⟨l, pa, pe⟩ := p
 obtain ⟨x, xa, xe⟩ := r
 simp only at hq1 hpe hil hsucc hlen hcall hre
 subst hq1 hpe hre
 obtain ⟨xk, xn, xd, xs, xl⟩ := x
 simp only [Xb] at hcall
 skip
 repeat first | refine X0 ?_ | (refine JR ?_; (repeat first | refine Z1 ?_ | refine Z0 ?_ | refine Zz ?_ | refine ZA ?_ | refine ZL ?_ | refine Z8 ?_ | refine Zu ?_ | refine Zs ?_ | refine Zb ?_ | refine Zt (γ := 102) ?_ | refine Zw ?_ | refine ZD ?_ | refine Z5 ?_ | refine Z6 ?_ | refine Z9 (hcon := hcall) ?_); refine JD ?_) | refine JT ?_ | refine JF ?_ | refine X5 ?_ | refine X3 ?_
 refine ⟨i + 1, ⟨by omega, hpe2, hsl⟩, by omega, ?_⟩
 dsimp only
 rw [hsucc]
 refine Xc rfl ⟨JL, JL, JL, JL, JL, JL, JL, JL, trivial⟩ ⟨rfl, ?_, ?_, trivial⟩
 ·refine Eq.trans (b := AObj.box ([ai 8, ai 0, ai 0, .d (.v (.string (X4 []))), .own 121 _])) rfl ?_
  congr 6; simp [hlen]
 ·exact congrArg (AObj.row 5) (X2z l xk xn xd xs xl)
end Go.Fw
namespace Go.Fw
open Go Go.Proofs
set_option maxRecDepth 100000
set_option linter.unusedVariables false
set_option linter.unusedSimpArgs false
theorem relem_k7 (b : List UInt8) (m : Nat) (a : Int) (gp : Nat → Int → Val × Int × Int) (R : Val × Int × Int) (hm : m ≤ 8) (hb : b.length ≤ 281474976710656)
  (hge : ∀ i q : Nat, q ≤ b.length → YI b (gp i q).2) (hg : ∀ i q : Nat, q ≤ b.length → NestC b q (8 - m) i (fixE (gp i q))) (hG : R = elemsR gp b a 7) : ElemC b a 7 (8 - m) R := by
 refine X8 (xs := [Xb R.1, ai R.2.1, ai R.2.2]) Tryz.func145 rfl Tryz.ntmps145 rfl rfl rfl (fun E => ?_)
 have hc := X2q b a hb
 have hue := VJ b a
 unfold elemsR at hG
 simp only at hG
 obtain ⟨N, hN⟩ := X13 b a
 generalize Xg b a = u at *
 obtain ⟨n, a2, e2⟩ := u
 simp only at hN
 subst hN
 simp only [Int.toNat_natCast] at hc hG hue
 by_cases he2 : e2 = 0
 case neg =>
  rw [if_pos he2] at hG
  subst hG
  repeat first | refine X0 ?_ | (refine JR ?_; (repeat first | refine Z1 ?_ | refine Z0 ?_ | refine ZL ?_ | refine Zs ?_ | refine Zt (γ := 100) ?_ | refine Zt (γ := 101) ?_ | refine Zw ?_ | refine Zv ?_ | refine ZD ?_ | refine Z9 (hcon := hc) ?_); refine JD ?_) | refine JT ?_
  exact X1 ⟨_, Xm 100 (cs := [ai 7, ai 0, ai 0, .d (.v (.string (X4 []))), ani]) (cs' := [ai 7, ai 0, ai 0, .d (.v (.string (X4 []))), .d (.sl 5 [])]) rfl ⟨AVal.le_refl _, AVal.le_refl _, AVal.le_refl _, AVal.le_refl _, AVal.le_nil 5, trivial⟩ rfl, ⟨⟨100, 0, _, rfl, rfl, .inr ⟨5, _, rfl, rfl, rfl, rfl⟩⟩, rfl, rfl, trivial⟩, X2 _⟩
 subst he2
 rw [if_neg (by simp)] at hG
 have h00 := hue rfl
 simp only at h00
 clear hue
 by_cases hN : 25 < N
 ·rw [if_pos (by simp [YC]; omega)] at hG
  subst hG
  have hN' : (N : Int) > 25 := by omega
  repeat first | refine X0 ?_ | (refine JR ?_; (repeat first | refine Z1 ?_ | refine Z0 ?_ | refine ZL ?_ | refine Zp ?_ | refine Zu ?_ | refine Zs ?_ | refine Zt (γ := 100) ?_ | refine Zt (γ := 101) ?_ | refine Zw ?_ | refine Zv ?_ | refine ZD ?_ | refine Zk ?_ | refine Zn ?_ | refine Zl ?_ | refine Z9 (hcon := hc) ?_); refine JD ?_) | refine JT ?_ | refine JF ?_ | refine X3 ?_
  exact X1 ⟨_, Xm 100 (cs := [ai 7, ai 0, ai 0, .d (.v (.string (X4 []))), ani]) (cs' := [ai 7, ai 0, ai 0, .d (.v (.string (X4 []))), .d (.sl 5 [])]) rfl ⟨AVal.le_refl _, AVal.le_refl _, AVal.le_refl _, AVal.le_refl _, AVal.le_nil 5, trivial⟩ rfl, ⟨⟨100, 0, _, rfl, rfl, .inr ⟨5, _, rfl, rfl, rfl, rfl⟩⟩, rfl, rfl, trivial⟩, X2 _⟩
 have hN' : ¬ (N : Int) > 25 := by omega
 by_cases hN3 : N % 2 = 0
 ·rw [if_pos (by simp [YC]; omega)] at hG
  subst hG
  have hN4 : ((N % 2 : Nat) : Int) = 0 := by omega
  refine X0 ?_; refine JR ?_; refine Zt (γ := 100) ?_; refine Z0 ?_; refine Z0 ?_; refine JD ?_; refine X0 ?_; refine JR ?_; refine Z1 ?_; refine Zv ?_; refine Zt (γ := 101) ?_; refine Zw ?_; refine JD ?_
  refine X0 ?_; refine JR ?_; refine Z1 ?_; refine Z1 ?_; refine Z9 (hcon := hc) ?_; refine Z1 ?_; refine ZD ?_; refine ZD ?_; refine ZD ?_; refine Z0 ?_; refine Z0 ?_; refine Z0 ?_; refine JD ?_; refine X0 ?_
  refine X0 ?_; refine JR ?_; refine Z1 ?_; refine Zs ?_; refine JD ?_; refine JF ?_; refine X3 ?_; refine X0 ?_; refine X0 ?_; refine JR ?_; refine Z1 ?_; refine Zu ?_; refine Z1 ?_; refine Zl ?_
  refine Zl ?_; refine Zn ?_; refine Z1 ?_; refine Z1 ?_; refine Zu ?_; refine Z1 ?_; refine Z1 ?_; refine Zp ?_; refine Z1 ?_; refine Z1 ?_
  refine Z02 (op := .rem) (r' := .int .i64 ((N % 2 : Nat) : Int)) (u := .int .i64 N) (v := .int .i64 2) ?_ (hr' := by exact congrArg (Value.int .i64) (show ((N : Int) % 2) = ((N % 2 : Nat) : Int) by omega)); refine Zu ?_
  refine Zn ?_; refine Zk ?_; refine Zn ?_; refine JD ?_; refine JT ?_; refine X0 ?_; refine JR ?_; refine ZL ?_; refine Zw ?_; refine Z0 ?_; refine Z0 ?_; refine JD ?_
  exact X1 ⟨_, Xm 100 (cs := [ai 7, ai 0, ai 0, .d (.v (.string (X4 []))), ani]) (cs' := [ai 7, ai 0, ai 0, .d (.v (.string (X4 []))), .d (.sl 5 [])]) rfl ⟨AVal.le_refl _, AVal.le_refl _, AVal.le_refl _, AVal.le_refl _, AVal.le_nil 5, trivial⟩ rfl, ⟨⟨100, 0, _, rfl, rfl, .inr ⟨5, _, rfl, rfl, rfl, rfl⟩⟩, rfl, rfl, trivial⟩, X2 _⟩
 rw [if_neg (by simp [YC]; omega)] at hG
 have hN4 : ¬ ((N % 2 : Nat) : Int) = 0 := by omega
 repeat first | refine X0 ?_ | (refine JR ?_; (repeat first | refine Z02 (op := .rem) (r' := .int .i64 ((N % 2 : Nat) : Int)) (u := .int .i64 N) (v := .int .i64 2) ?_ (hr' := by exact congrArg (Value.int .i64) (show ((N : Int) % 2) = ((N % 2 : Nat) : Int) by omega)) | refine Z1 ?_ | refine Z0 ?_ | refine Zp ?_ | refine Zu ?_ | refine Zs ?_ | refine Zt (γ := 100) ?_ | refine Zt (γ := 101) ?_ | refine Zw ?_ | refine Zv ?_ | refine ZD ?_ | refine Zk ?_ | refine Zn ?_ | refine Zl ?_ | refine Z9 (hcon := hc) ?_); refine JD ?_) | refine JF ?_ | refine X5 ?_ | refine X3 ?_
 refine Xu (X10 101 4 121 5 (cs := [ai 7, ai 0, ai 0, .d (.v (.string (X4 []))), ani]) rfl rfl rfl rfl rfl) ?_
 refine XR (fun i : Nat => i ≤ N ∧ (Xq gp a2 i).2.2 = 0 ∧ (Xq gp a2 i).1.length = i) (fun i => ⟨87, [(0, .d (Xh b)), (2, ai 7), (3, ai (8 - m)), (8, .ptr 100 0), (11, .ptr 101 0), (12, ai N), (13, ai (Xq gp a2 i).2.1), (15, ai i)], [(100, .box [ai 0, ai 0, ai 0, .d (.v (.string (X4 []))), ani]), (101, .box [ai 7, ai 0, ai 0, .d (.v (.string (X4 []))), .own 121 (Xq gp a2 i).1.length]), (121, .row 5 (Xs (Xq gp a2 i).1))]⟩) (fun i => N - i) 0 ⟨by omega, rfl, rfl⟩
  (Xc rfl ⟨JL, JL, JL, JL, JL, JL, JL, JL, trivial⟩ ⟨rfl, rfl, rfl, trivial⟩) ?_
 intro i hi
 obtain ⟨hi, hpe, hil⟩ := hi
 have hlen := U2 (Xq gp a2 i).1
 by_cases hiN : i < N
 case neg =>
  obtain rfl : i = N := by omega
  rw [if_neg (by simpa using hpe)] at hG
  generalize Xq gp a2 i = p at *
  obtain ⟨l, pa, pe⟩ := p
  simp only at hpe hil hG hlen
  subst hpe hG
  refine Xu (Y1 121 rfl) ?_
  refine Xu (UT 101 4 121 (cs := [ai 7, ai 0, ai 0, .d (.v (.string (X4 []))), .own 121 l.length]) (sz := 5) (xs := Xs l) rfl rfl rfl hlen.symm) ?_
  refine X0 ?_; refine X0 ?_; refine JR ?_; refine Z1 ?_; refine Z1 ?_; refine Z8 ?_; refine JD ?_; refine JF ?_; refine Xv ?_; refine X0 ?_; refine JR ?_; refine ZL ?_; refine Z1 ?_; refine Zw ?_
  refine Z0 ?_; refine Z0 ?_; refine JD ?_
  exact X1 ⟨_, St.le_refl _, ⟨⟨100, 0, _, rfl, rfl, .inr ⟨5, _, rfl, rfl, rfl, rfl⟩⟩, rfl, rfl, trivial⟩, X2 _⟩
 obtain ⟨q, hq1, hq2⟩ := X0p hge h00 i hpe
 have hcall := hg i q hq2
 unfold NestC at hcall
 have hsucc := Vg hpe
 have hsl := X24 hpe
 rw [hq1] at hsucc
 generalize gp i q = r at hcall hsucc
 by_cases hre : r.2.2 = 0
 case neg =>
  have hst := Vz (g := gp) (a := a2) (k := i + 1) (by rw [hsucc]; exact hre) N (by omega)
  rw [hst, if_pos (by rw [hsucc]; exact hre), hsucc] at hG
  unfold fixE at hcall
  rw [if_pos hre] at hcall
  generalize Xq gp a2 i = p at *
  obtain ⟨l, pa, pe⟩ := p
  obtain ⟨x, xa, xe⟩ := r
  simp only [List.dropLast_concat] at hq1 hpe hil hG hlen hcall hre
  clear hsucc hst hsl
  subst hG hq1 hpe
  simp only [Xb, Xs] at hcall
  refine Xu (Y1 121 rfl) ?_
  refine Xu (UT 101 4 121 (cs := [ai 7, ai 0, ai 0, .d (.v (.string (X4 []))), .own 121 l.length]) (sz := 5) (xs := Xs l) rfl rfl rfl hlen.symm) ?_
  repeat first | refine X0 ?_ | (refine JR ?_; (repeat first | refine Z1 ?_ | refine Z0 ?_ | refine ZL ?_ | refine Z8 ?_ | refine Zu ?_ | refine Zs ?_ | refine Zb ?_ | refine Zt (γ := 102) ?_ | refine Zw ?_ | refine ZD ?_ | refine Z9 (hcon := hcall) ?_); refine JD ?_) | refine JT ?_ | refine X5 ?_ | refine X3 ?_
  exact X1 ⟨_, St.le_refl _, ⟨⟨100, 0, _, rfl, rfl, .inr ⟨5, _, rfl, rfl, rfl, rfl⟩⟩, rfl, rfl, trivial⟩, X2 _⟩
 have hpe2 : (Xq gp a2 (i + 1)).2.2 = 0 := by rw [hsucc]; exact hre
 unfold fixE at hcall
 rw [if_neg (by simpa using hre)] at hcall
 generalize Xq gp a2 i = p at *
 obtain ⟨l, pa, pe⟩ := p
 obtain ⟨x, xa, xe⟩ := r
 simp only at hq1 hpe hil hsucc hlen hcall hre
 subst hq1 hpe hre
 obtain ⟨xk, xn, xd, xs, xl⟩ := x
 simp only [Xb] at hcall
 skip
 repeat first | refine X0 ?_ | (refine JR ?_; (repeat first | refine Z1 ?_ | refine Z0 ?_ | refine Zz ?_ | refine ZA ?_ | refine ZL ?_ | refine Z8 ?_ | refine Zu ?_ | refine Zs ?_ | refine Zb ?_ | refine Zt (γ := 102) ?_ | refine Zw ?_ | refine ZD ?_ | refine Z5 ?_ | refine Z6 ?_ | refine Z9 (hcon := hcall) ?_); refine JD ?_) | refine JT ?_ | refine JF ?_ | refine X5 ?_ | refine X3 ?_
 refine ⟨i + 1, ⟨by omega, hpe2, hsl⟩, by omega, ?_⟩
 dsimp only
 rw [hsucc]
 refine Xc rfl ⟨JL, JL, JL, JL, JL, JL, JL, JL, trivial⟩ ⟨rfl, ?_, ?_, trivial⟩
 ·refine Eq.trans (b := AObj.box ([ai 7, ai 0, ai 0, .d (.v (.string (X4 []))), .own 121 _])) rfl ?_
  congr 6; simp [hlen]
 ·exact congrArg (AObj.row 5) (X2z l xk xn xd xs xl)
end Go.Fw
namespace Go.Fw
open Go Go.Proofs
set_option maxRecDepth 100000
set_option linter.unusedVariables false
set_option linter.unusedSimpArgs false
def ContC (b : List UInt8) (a : Int) (k lists : Int) (r : Val × Int × Int) : Prop :=
 Con Tryz.prog 139 [] [.d (Xh b), ai a, ai k, ai lists] [] (.tup [Xb r.1, ai r.2.1, ai r.2.2])
theorem rcontent_of (b : List UInt8) (m k : Nat) (a : Int) (gl gp : Nat → Int → Val × Int × Int) (R : Val × Int × Int) (hm : m ≤ 8) (hb : b.length ≤ 281474976710656) (hk : k ≤ 8)
  (h8 : k = 8 → ∀ R, R = elemsR gl b a 8 → ElemC b a 8 (8 - m) R) (h7 : k = 7 → ∀ R, R = elemsR gp b a 7 → ElemC b a 7 (8 - m) R) (hG : R = contentR gl gp b a k) : ContC b a k (8 - m) R := by
 refine X8 (xs := [Xb R.1, ai R.2.1, ai R.2.2]) Tryz.func139 rfl Tryz.ntmps139 rfl rfl rfl (fun E => ?_)
 by_cases hk8 : k = 8
 ·subst hk8
  have hcall := h8 rfl R (by rw [hG]; simp [contentR])
  unfold ElemC at hcall
  obtain ⟨⟨xk, xn, xd, xs, xl⟩, xa, xe⟩ := R
  simp only [Xb] at hcall
  rw [show (((8 : Nat) : Int)) = 8 from rfl]
  repeat first | refine X0 ?_ | (refine JR ?_; (repeat first | refine Z1 ?_ | refine Z0 ?_ | refine Zu ?_ | refine Zt (γ := 100) ?_ | refine Zt (γ := 101) ?_ | refine Zw ?_ | refine Zv ?_ | refine ZD ?_ | refine Z9 (hcon := hcall) ?_); refine JD ?_) | refine JT ?_ | refine JF ?_ | refine X5 ?_ | refine X3 ?_
  exact X1 ⟨_, St.le_refl _, ⟨⟨100, 0, _, rfl, rfl, .inr ⟨5, _, rfl, rfl, rfl, rfl⟩⟩, rfl, rfl, trivial⟩, X2 _⟩
 by_cases hk7 : k = 7
 ·subst hk7
  have hcall := h7 rfl R (by rw [hG]; simp [contentR])
  unfold ElemC at hcall
  obtain ⟨⟨xk, xn, xd, xs, xl⟩, xa, xe⟩ := R
  simp only [Xb] at hcall
  rw [show (((7 : Nat) : Int)) = 7 from rfl]
  repeat first | refine X0 ?_ | (refine JR ?_; (repeat first | refine Z1 ?_ | refine Z0 ?_ | refine Zu ?_ | refine Zt (γ := 100) ?_ | refine Zt (γ := 101) ?_ | refine Zw ?_ | refine Zv ?_ | refine ZD ?_ | refine Z9 (hcon := hcall) ?_); refine JD ?_) | refine JT ?_ | refine JF ?_ | refine X5 ?_
  exact X1 ⟨_, St.le_refl _, ⟨⟨100, 0, _, rfl, rfl, .inr ⟨5, _, rfl, rfl, rfl, rfl⟩⟩, rfl, rfl, trivial⟩, X2 _⟩
 by_cases hk0 : k = 0
 ·subst hk0
  obtain rfl : R = (.mk 0 0 0 [] [], (a : Int), 0) := by rw [hG]; simp [contentR, XS]
  rw [show (((0 : Nat) : Int)) = 0 from rfl]
  repeat first | refine X0 ?_ | (refine JR ?_; (repeat first | refine Z1 ?_ | refine Z0 ?_ | refine ZL ?_ | refine Zu ?_ | refine Zt (γ := 100) ?_ | refine Zt (γ := 101) ?_ | refine Zw ?_ | refine Zv ?_); refine JD ?_) | refine JF ?_ | refine X5 ?_ | refine X3 ?_
  exact X1 ⟨_, Xm 100 (cs := [ai 0, ai 0, ai 0, .d (.v (.string (X4 []))), ani]) (cs' := [ai 0, ai 0, ai 0, .d (.v (.string (X4 []))), .d (.sl 5 [])]) rfl ⟨AVal.le_refl _, AVal.le_refl _, AVal.le_refl _, AVal.le_refl _, AVal.le_nil 5, trivial⟩ rfl, ⟨⟨100, 0, _, rfl, rfl, .inr ⟨5, _, rfl, rfl, rfl, rfl⟩⟩, rfl, rfl, trivial⟩, X2 _⟩
 by_cases hk1 : k = 1
 ·subst hk1
  have hn := X01 b a hb
  rw [show contentR gl gp b a ((1 : Nat) : Int) = (.mk 1 (Xl b a).1 0 [] [], (Xl b a).2.1, (Xl b a).2.2) by simp [contentR, XS]] at hG
  generalize Xl b a = u at *
  obtain ⟨n, a2, e2⟩ := u
  subst hG
  rw [show (((1 : Nat) : Int)) = 1 from rfl]
  try simp only at hn
  repeat first | refine X0 ?_ | (refine JR ?_; (repeat first | refine Z1 ?_ | refine Z0 ?_ | refine Zz ?_ | refine ZL ?_ | refine Zu ?_ | refine Zt (γ := 100) ?_ | refine Zt (γ := 101) ?_ | refine Zw ?_ | refine Zv ?_ | refine ZD ?_ | refine Z9 (hcon := hn) ?_); refine JD ?_) | refine JT ?_ | refine X5 ?_ | refine X3 ?_
  exact X1 ⟨_, Xm 100 (cs := [ai 1, ai n, ai 0, .d (.v (.string (X4 []))), ani]) (cs' := [ai 1, ai n, ai 0, .d (.v (.string (X4 []))), .d (.sl 5 [])]) rfl ⟨AVal.le_refl _, AVal.le_refl _, AVal.le_refl _, AVal.le_refl _, AVal.le_nil 5, trivial⟩ rfl, ⟨⟨100, 0, _, rfl, rfl, .inr ⟨5, _, rfl, rfl, rfl, rfl⟩⟩, rfl, rfl, trivial⟩, X2 _⟩
 by_cases hk2 : k = 2
 ·subst hk2
  have hn := X01 b a hb
  rw [show contentR gl gp b a ((2 : Nat) : Int) = (.mk 2 (Xl b a).1 0 [] [], (Xl b a).2.1, (Xl b a).2.2) by simp [contentR, XS]] at hG
  generalize Xl b a = u at *
  obtain ⟨n, a2, e2⟩ := u
  subst hG
  rw [show (((2 : Nat) : Int)) = 2 from rfl]
  try simp only at hn
  repeat first | refine X0 ?_ | (refine JR ?_; (repeat first | refine Z1 ?_ | refine Z0 ?_ | refine Zz ?_ | refine ZL ?_ | refine Zu ?_ | refine Zt (γ := 100) ?_ | refine Zt (γ := 101) ?_ | refine Zw ?_ | refine Zv ?_ | refine ZD ?_ | refine Z9 (hcon := hn) ?_); refine JD ?_) | refine JT ?_ | refine JF ?_ | refine X5 ?_ | refine X3 ?_
  exact X1 ⟨_, Xm 100 (cs := [ai 2, ai n, ai 0, .d (.v (.string (X4 []))), ani]) (cs' := [ai 2, ai n, ai 0, .d (.v (.string (X4 []))), .d (.sl 5 [])]) rfl ⟨AVal.le_refl _, AVal.le_refl _, AVal.le_refl _, AVal.le_refl _, AVal.le_nil 5, trivial⟩ rfl, ⟨⟨100, 0, _, rfl, rfl, .inr ⟨5, _, rfl, rfl, rfl, rfl⟩⟩, rfl, rfl, trivial⟩, X2 _⟩
 by_cases hk5 : k = 5
 ·subst hk5
  have hn := X01 b a hb
  rw [show contentR gl gp b a ((5 : Nat) : Int) = (.mk 5 (Xl b a).1 0 [] [], (Xl b a).2.1, (Xl b a).2.2) by simp [contentR, XS]] at hG
  generalize Xl b a = u at *
  obtain ⟨n, a2, e2⟩ := u
  subst hG
  rw [show (((5 : Nat) : Int)) = 5 from rfl]
  try simp only at hn
  repeat first | refine X0 ?_ | (refine JR ?_; (repeat first | refine Z1 ?_ | refine Z0 ?_ | refine Zz ?_ | refine ZL ?_ | refine Zu ?_ | refine Zt (γ := 100) ?_ | refine Zt (γ := 101) ?_ | refine Zw ?_ | refine Zv ?_ | refine ZD ?_ | refine Z9 (hcon := hn) ?_); refine JD ?_) | refine JT ?_ | refine JF ?_ | refine X5 ?_ | refine X3 ?_
  exact X1 ⟨_, Xm 100 (cs := [ai 5, ai n, ai 0, .d (.v (.string (X4 []))), ani]) (cs' := [ai 5, ai n, ai 0, .d (.v (.string (X4 []))), .d (.sl 5 [])]) rfl ⟨AVal.le_refl _, AVal.le_refl _, AVal.le_refl _, AVal.le_refl _, AVal.le_nil 5, trivial⟩ rfl, ⟨⟨100, 0, _, rfl, rfl, .inr ⟨5, _, rfl, rfl, rfl, rfl⟩⟩, rfl, rfl, trivial⟩, X2 _⟩
 by_cases hk6 : k = 6
 ·subst hk6
  have hn := X01 b a hb
  rw [show contentR gl gp b a ((6 : Nat) : Int) = (.mk 6 (Xl b a).1 0 [] [], (Xl b a).2.1, (Xl b a).2.2) by simp [contentR, XS]] at hG
  generalize Xl b a = u at *
  obtain ⟨n, a2, e2⟩ := u
  subst hG
  rw [show (((6 : Nat) : Int)) = 6 from rfl]
  try simp only at hn
  repeat first | refine X0 ?_ | (refine JR ?_; (repeat first | refine Z1 ?_ | refine Z0 ?_ | refine Zz ?_ | refine ZL ?_ | refine Zu ?_ | refine Zt (γ := 100) ?_ | refine Zt (γ := 101) ?_ | refine Zw ?_ | refine Zv ?_ | refine ZD ?_ | refine Z9 (hcon := hn) ?_); refine JD ?_) | refine JT ?_ | refine JF ?_ | refine X5 ?_
  exact X1 ⟨_, Xm 100 (cs := [ai 6, ai n, ai 0, .d (.v (.string (X4 []))), ani]) (cs' := [ai 6, ai n, ai 0, .d (.v (.string (X4 []))), .d (.sl 5 [])]) rfl ⟨AVal.le_refl _, AVal.le_refl _, AVal.le_refl _, AVal.le_refl _, AVal.le_nil 5, trivial⟩ rfl, ⟨⟨100, 0, _, rfl, rfl, .inr ⟨5, _, rfl, rfl, rfl, rfl⟩⟩, rfl, rfl, trivial⟩, X2 _⟩
 by_cases hk4 : k = 4
 ·subst hk4
  have hn := X53 b a 100 hb
  rw [show contentR gl gp b a ((4 : Nat) : Int) = (.mk 4 0 0 (Y3 b a 100).1 [], (Y3 b a 100).2.1, (Y3 b a 100).2.2) by simp [contentR, XS]] at hG
  generalize Y3 b a 100 = u at *
  obtain ⟨s, a2, e2⟩ := u
  subst hG
  rw [show (((4 : Nat) : Int)) = 4 from rfl]
  try simp only at hn
  repeat first | refine X0 ?_ | (refine JR ?_; (repeat first | refine Z1 ?_ | refine Z0 ?_ | refine Zz ?_ | refine ZL ?_ | refine Zu ?_ | refine Zt (γ := 100) ?_ | refine Zt (γ := 101) ?_ | refine Zw ?_ | refine Zv ?_ | refine ZD ?_ | refine Z9 (hcon := hn) ?_); refine JD ?_) | refine JT ?_ | refine JF ?_ | refine X5 ?_
  exact X1 ⟨_, Xm 100 (cs := [ai 4, ai 0, ai 0, .d (.v (.string (X4 s))), ani]) (cs' := [ai 4, ai 0, ai 0, .d (.v (.string (X4 s))), .d (.sl 5 [])]) rfl ⟨AVal.le_refl _, AVal.le_refl _, AVal.le_refl _, AVal.le_refl _, AVal.le_nil 5, trivial⟩ rfl, ⟨⟨100, 0, _, rfl, rfl, .inr ⟨5, _, rfl, rfl, rfl, rfl⟩⟩, rfl, rfl, trivial⟩, X2 _⟩
 obtain rfl : k = 3 := by omega
 have hn := X01 b a hb
 have hne := X2d b a
 rw [show contentR gl gp b a ((3 : Nat) : Int) = if (Xl b a).2.2 ≠ 0 then (.mk 3 0 0 [] [], (Xl b a).2.1, (Xl b a).2.2) else (.mk 3 (Xl b a).1 (Xl b (Xl b a).2.1).1 [] [], (Xl b (Xl b a).2.1).2.1, (Xl b (Xl b a).2.1).2.2) by simp [contentR, XS]] at hG
 have hz := int_err0 (b := b) (a := a)
 generalize Xl b a = u at *
 obtain ⟨n, a2, e2⟩ := u
 simp only at hn hG hne hz
 rw [show (((3 : Nat) : Int)) = 3 from rfl]
 by_cases he : e2 = 0
 ·subst he
  rw [if_neg (by simp)] at hG
  obtain ⟨q, hq1, hq2⟩ := hne rfl
  simp only at hq1
  subst hq1
  have hd := X01 b q hb
  generalize Xl b q = u2 at *
  obtain ⟨d, a3, e3⟩ := u2
  simp only at hd hG
  subst hG
  repeat first | refine X0 ?_ | (refine JR ?_; (repeat first | refine Z1 ?_ | refine Z0 ?_ | refine Zz ?_ | refine ZL ?_ | refine Zu ?_ | refine Zs ?_ | refine Zt (γ := 100) ?_ | refine Zt (γ := 101) ?_ | refine Zw ?_ | refine Zv ?_ | refine ZD ?_ | refine Z9 (hcon := hn) ?_ | refine Z9 (hcon := hd) ?_); refine JD ?_) | refine JT ?_ | refine JF ?_ | refine X5 ?_ | refine X3 ?_
  exact X1 ⟨_, Xm 100 (cs := [ai 3, ai n, ai d, .d (.v (.string (X4 []))), ani]) (cs' := [ai 3, ai n, ai d, .d (.v (.string (X4 []))), .d (.sl 5 [])]) rfl ⟨AVal.le_refl _, AVal.le_refl _, AVal.le_refl _, AVal.le_refl _, AVal.le_nil 5, trivial⟩ rfl, ⟨⟨100, 0, _, rfl, rfl, .inr ⟨5, _, rfl, rfl, rfl, rfl⟩⟩, rfl, rfl, trivial⟩, X2 _⟩
 ·rw [if_pos he] at hG
  obtain rfl := hz he
  subst hG
  repeat first | refine X0 ?_ | (refine JR ?_; (repeat first | refine Z1 ?_ | refine Z0 ?_ | refine ZL ?_ | refine Zu ?_ | refine Zs ?_ | refine Zt (γ := 100) ?_ | refine Zt (γ := 101) ?_ | refine Zw ?_ | refine Zv ?_ | refine ZD ?_ | refine Z9 (hcon := hn) ?_); refine JD ?_) | refine JT ?_ | refine JF ?_ | refine X5 ?_
  exact X1 ⟨_, Xm 100 (cs := [ai 3, ai 0, ai 0, .d (.v (.string (X4 []))), ani]) (cs' := [ai 3, ai 0, ai 0, .d (.v (.string (X4 []))), .d (.sl 5 [])]) rfl ⟨AVal.le_refl _, AVal.le_refl _, AVal.le_refl _, AVal.le_refl _, AVal.le_nil 5, trivial⟩ rfl, ⟨⟨100, 0, _, rfl, rfl, .inr ⟨5, _, rfl, rfl, rfl, rfl⟩⟩, rfl, rfl, trivial⟩, X2 _⟩
end Go.Fw
