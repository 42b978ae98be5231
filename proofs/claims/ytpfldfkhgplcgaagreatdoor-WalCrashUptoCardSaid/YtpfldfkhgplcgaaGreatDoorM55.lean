/- The law WalCrash, for lists that a machine can count. -/
import Derived.Test.YtpfldfkhgplcgaaGreatDoorM54
set_option maxHeartbeats 32000000
namespace Go.Fw
open Go Go.Proofs
set_option maxRecDepth 100000
set_option linter.unusedVariables false
set_option linter.unusedSimpArgs false
section
variable {P : Program}
theorem X9L {t : TypeId} {x y : Operand} {k : IntKind} {a b : Int} (hb : b ≠ 0) (w : World) : (do eqGuard .rem t x y (.int k a) (.int k b); binOp .rem t (.int k a) (.int k b) : Sem Value).run P w = .ok (.int k (Int.tmod a b)) w := by
 simp [eqGuard, binOp, Op.intDiv, hb, go_sem]
end
theorem XeN (q : Ask) (hq : X1o q) (hB : Ut q.a ∧ Ut q.b) : Con Tryz.prog 8 [] [U9 q] [] (ab true) := by
 refine Xa (xs := [ab true]) Tryz.func8 rfl Tryz.ntmps8 rfl rfl rfl (fun E => ?_)
 have hs := X48 Y8 q hq
 have hl := X45
 by_cases hb : Vg Y8 q = true
 case neg =>
  have hb : Vg Y8 q = false := by simpa using hb
  rw [hb] at hs
  clear hq hB
  obtain ⟨f, t, ep, tail, other, pick, a, b, keep⟩ := q
  unfold U9 at *
  simp only [Y8] at *
  refine QFf ?_
  (show AWP Tryz.prog E _ _ _; refine X1 ?_; exact (show Xn _ _ _ _ _ from ⟨_, St.le_refl _, ⟨rfl, trivial⟩, X3 _⟩))
 rw [hb] at hs
 obtain ⟨⟨ka, la⟩, ⟨kb, lb⟩, lk⟩ := X6W hq hB hb
 have hR := X5G q ka la
 by_cases hr : (XW q).2.2 = true
 case neg =>
  have hr : (XW q).2.2 = false := by simpa using hr
  rw [hr] at hR
  generalize (XW q).1 = X at *
  generalize (XW q).2.1 = z at *
  clear hq hB hb ka la kb lb lk hr
  obtain ⟨xs, xp, xo⟩ := X
  obtain ⟨f, t, ep, tail, other, pick, a, b, keep⟩ := q
  unfold U9 at *
  simp only [Y8] at *
  refine QHf ?_; refine Zu ?_; refine QBf ?_
  (show AWP Tryz.prog E _ _ _; refine X1 ?_; exact (show Xn _ _ _ _ _ from ⟨_, St.le_refl _, ⟨rfl, trivial⟩, X3 _⟩))
 have L := X5E hr
 rw [hr] at hR
 have h3 := X5t (XW q).1 q.f q.t q.ep (XW q).2.1 q.b L.few kb (by omega)
 by_cases he : (XB (XW q).1 q.f q.t q.ep (XW q).2.1 q.b).2.2 = 0
 case neg =>
  rw [(X2j (by rw [X0m] at he; exact he)).1] at h3
  simp only [List.map_nil] at h3
  clear L he
  generalize (XW q).1 = X at *
  generalize (XW q).2.1 = z at *
  clear hq hB hb ka la kb lb lk hr
  obtain ⟨xs, xp, xo⟩ := X
  obtain ⟨f, t, ep, tail, other, pick, a, b, keep⟩ := q
  unfold U9 at *
  simp only [Y8] at *
  have hz0 : (((([] : List (List D)).length : Nat)) : Int) = 0 := rfl
  refine QLf ?_; refine QBf ?_
  (show AWP Tryz.prog E _ _ _; refine X1 ?_; exact (show Xn _ _ _ _ _ from ⟨_, St.le_refl _, ⟨rfl, trivial⟩, X3 _⟩))
 have hv : ∀ r ∈ q.a ++ q.b, (U7 r).length ≤ 60000 := Xbo fun r hr => (List.mem_append.1 hr).elim (ka r) (kb r)
 have hTn : (Xr (XW q).1 q.f q.t q.ep (XW q).2.1 q.b).1.length ≤ 5000 := X63 L.few
 have hTp : 2 ≤ (Xr (XW q).1 q.f q.t q.ep (XW q).2.1 q.b).1.length := by rw [(L.trace he).1]; omega
 have hroom : (XW q).2.1 + (Xg q.ep q.b).length ≤ (q.t - q.f) * 64 := (X0A (by rw [X0m] at he; exact he)).2.2.1
 have hem : Y2 q.b = 0 := (X0A (by rw [X0m] at he; exact he)).2.1
 have hz0 : 0 ≤ (XW q).2.1 := by rw [L.tl]; omega
 have hf0 := L.f0
 have ht24 := L.t24
 have hsz := fun k => X9e (l := q.b.take k) L.ep0 L.ep1 (Xij hem k)
 have htorn := fun i hi => L.torn he hv i hi q.keep
 have hsteps := fun i x (hx : (Xr (XW q).1 q.f q.t q.ep (XW q).2.1 q.b).1[i]? = some x) => L.steps he hx q.keep
 clear L he hv hem
 generalize (XW q).1 = X at *
 generalize (XW q).2.1 = z at *
 generalize (Xr X q.f q.t q.ep z q.b).1 = T at *
 have hT : (T.map Xt).length = T.length := List.length_map ..
 have hm1 := Int.tmod_lt_of_pos q.pick (b := ((T.map Xt).length : Int)) (by omega)
 have hm2 := Int.lt_tmod_of_pos q.pick (b := ((T.map Xt).length : Int)) (by omega)
 obtain ⟨k, hk, hkm⟩ : ∃ k : Nat, k < T.length ∧ ((k : Int) = if Int.tmod q.pick ((T.map Xt).length : Int) < 0 then Int.tmod q.pick ((T.map Xt).length : Int) + ((T.map Xt).length : Int) else Int.tmod q.pick ((T.map Xt).length : Int)) := by
  split
  ·exact ⟨(Int.tmod q.pick ((T.map Xt).length : Int) + ((T.map Xt).length : Int)).toNat, by omega, by omega⟩
  ·exact ⟨(Int.tmod q.pick ((T.map Xt).length : Int)).toNat, by omega, by omega⟩
 obtain ⟨x, j, hx, hj, hlast, hscan⟩ := htorn k hk
 obtain ⟨x1, x2, x3⟩ := hsteps k x hx
 clear htorn hsteps
 have hla : (q.a.map Xq).length = q.a.length := List.length_map ..
 have hlb : (q.b.map Xq).length = q.b.length := List.length_map ..
 have hC : ((q.a ++ q.b.take j).map Xq).length = (q.a.map Xq).length + j := by rw [List.length_map, List.length_append, List.length_take, hla]; omega
 have htk : ((q.b.map Xq).take j).drop 0 = (q.b.take j).map Xq := by rw [List.drop_zero, List.map_take]
 have hn : z + (Xg q.ep (q.b.take j)).length ≤ 10000 := by
  have e : (Xg q.ep q.b).length = (Xg q.ep (q.b.take j)).length + (Xg q.ep (q.b.drop j)).length := by
   conv => lhs; rw [← List.take_append_drop j q.b, X0Z, List.length_append]
  omega
 have h4 := XgB x q.keep x1
 have h5 := Xhg (YU x q.keep) x2
 have h6 := X32 (U1 (YU x q.keep)) q.f q.t q.ep x3
 rw [hscan] at h6
 simp only at h6
 have h7 := X9E q.a (q.b.take j) (by omega) (by rw [List.length_take]; omega)
 have h8 := X5K (q.a ++ q.b.take j) (by rw [List.length_append, List.length_take]; omega) (fun r hr => (List.mem_append.1 hr).elim (fun h => (ka r h).1) (fun h => (kb r (List.mem_of_mem_take h)).1))
 have h9 := X3U q.ep (q.b.take j) (fun r hr => kb r (List.mem_of_mem_take hr)) (by rw [List.length_take]; omega)
 rw [hsz j] at h9
 have hsub : (((q.a ++ q.b.take j).map Xq).length : Int) - ((q.a.map Xq).length : Int) = (j : Nat) := by omega
 clear hsz hscan x1 x2 x3 hroom
 generalize U1 (YU x q.keep) = x'' at *
 generalize YU x q.keep = x' at *
 generalize (Xg q.ep (q.b.take j)).length = n at *
 generalize (q.a ++ q.b.take j).map Xq = C at *
 generalize (q.b.take j).map Xq = Bj at *
 clear hq hB hb ka kb lk hr hf0 ht24
 have hjb : j ≤ (q.b.map Xq).length := by omega
 have hal : (q.a.map Xq).length ≤ 60 := by omega
 have hbl : (q.b.map Xq).length ≤ 60 := by omega
 clear la lb
 obtain ⟨f, t, ep, tail, other, pick, a, b, keep⟩ := q
 obtain ⟨xs, xp, xo⟩ := X
 obtain ⟨ds, dp, do_⟩ := x
 obtain ⟨es, epd, eo⟩ := x'
 obtain ⟨fs, fp, fo⟩ := x''
 unfold U9 at *
 simp only [Y8] at *
 have hne0 : ((T.map Xt).length : Int) ≠ 0 := by omega
 by_cases hneg : Int.tmod pick ((T.map Xt).length : Int) < 0
 case pos =>
  rw [if_pos hneg] at hkm
  obtain ⟨m, hmm⟩ : ∃ m, Int.tmod pick ((T.map Xt).length : Int) = m := ⟨_, rfl⟩
  rw [hmm] at hneg hkm hm1 hm2
  refine QLf ?_; refine Qs ?_; refine QYa ?_; refine Zd ?_; refine Z4 (op := .rem) (r' := .int .i64 m) (u := .int .i64 pick) (v := .int .i64 ((T.map Xt).length : Nat)) ?_ (hr' := by exact congrArg (Value.int .i64) hmm) (hr := by exact X9L hne0); refine Qw ?_; refine Z8 ?_; refine Qh ?_; refine Qgc ?_; refine Zd ?_; refine Z4 (op := .add) (r' := .int .i64 (k : Nat)) (u := .int .i64 m) (v := .int .i64 ((T.map Xt).length : Nat)) ?_ (hr' := by exact congrArg (Value.int .i64) hkm.symm) (hr := by exact X0g (by unfold U6; omega)); refine Qc ?_; refine X0 ?_
  clear hs hR h3
  refine Qgc ?_; refine QVa ?_; refine QHa ?_; refine Z9 (hcon := h4) ?_; refine Z9 (hcon := h5) ?_; refine QWd ?_; refine Qgb ?_; refine Qfd ?_; refine Z9 (hcon := h6) ?_; refine Qcc ?_; refine QNb ?_; refine X0 ?_
  clear h4 h5 h6
  refine Ql ?_; refine Zd ?_; refine QHd ?_; refine QMf ?_; refine Qc ?_; refine X0 ?_; refine X0 ?_
  by_cases hz : k + 1 = T.length
  case pos =>
   have hjl := hlast hz
   have o1 : (j : Int) = ((b.map Xq).length : Nat) := by omega
   have o2 : (k : Int) = ((T.map Xt).length : Nat) - 1 := by omega
   refine QNf ?_; refine QSa ?_; refine QHd ?_; refine Zv ?_; refine Zn ?_; refine QOf ?_
   refine .done (fun _ => by kernel_rfl) ?_
   (show AWP Tryz.prog E _ _ _; refine X1 ?_; exact (show Xn _ _ _ _ _ from ⟨_, St.le_refl _, ⟨rfl, trivial⟩, X3 _⟩))
  have o2 : ¬ (k : Int) = ((T.map Xt).length : Nat) - 1 := by omega
  refine QNf ?_; refine Zl ?_; refine Qca ?_; refine QLa ?_; refine QOf ?_
  refine .done (fun _ => by kernel_rfl) ?_
  (show AWP Tryz.prog E _ _ _; refine X1 ?_; exact (show Xn _ _ _ _ _ from ⟨_, St.le_refl _, ⟨rfl, trivial⟩, X3 _⟩))
 rw [if_neg hneg] at hkm
 have hkn : ¬ (k : Int) < 0 := by omega
 refine QLf ?_; refine Qs ?_; refine QYa ?_; refine Zd ?_; refine Z4 (op := .rem) (r' := .int .i64 (k : Nat)) (u := .int .i64 pick) (v := .int .i64 ((T.map Xt).length : Nat)) ?_ (hr' := by exact congrArg (Value.int .i64) hkm.symm) (hr := by exact X9L hne0); refine Qw ?_; refine Z8 ?_; refine Qs ?_; refine X0 ?_
 clear hs hR h3
 refine Qgc ?_; refine QVa ?_; refine QHa ?_; refine Z9 (hcon := h4) ?_; refine Z9 (hcon := h5) ?_; refine QWd ?_; refine Qgb ?_; refine Qfd ?_; refine Z9 (hcon := h6) ?_; refine Qcc ?_; refine QNb ?_; refine X0 ?_
 clear h4 h5 h6
 refine Ql ?_; refine Zd ?_; refine QHd ?_; refine QMf ?_; refine Qc ?_; refine X0 ?_; refine X0 ?_
 by_cases hz : k + 1 = T.length
 case pos =>
  have hjl := hlast hz
  have o1 : (j : Int) = ((b.map Xq).length : Nat) := by omega
  have o2 : (k : Int) = ((T.map Xt).length : Nat) - 1 := by omega
  refine QNf ?_; refine QSa ?_; refine QHd ?_; refine Zv ?_; refine Zn ?_; refine QOf ?_
  refine .done (fun _ => by kernel_rfl) ?_
  (show AWP Tryz.prog E _ _ _; refine X1 ?_; exact (show Xn _ _ _ _ _ from ⟨_, St.le_refl _, ⟨rfl, trivial⟩, X3 _⟩))
 have o2 : ¬ (k : Int) = ((T.map Xt).length : Nat) - 1 := by omega
 refine QNf ?_; refine Zl ?_; refine Qca ?_; refine QLa ?_; refine QOf ?_
 refine .done (fun _ => by kernel_rfl) ?_
 (show AWP Tryz.prog E _ _ _; refine X1 ?_; exact (show Xn _ _ _ _ _ from ⟨_, St.le_refl _, ⟨rfl, trivial⟩, X3 _⟩))
end Go.Fw
