/- Values put. -/
import Derived.Test.YtaoggblfedekeaaDoorG08
import Derived.Test.YtaoggblfedekeaaDoorG11
import Derived.Test.YtaoggblfedekeaaDoorG12
import Derived.Test.YtaoggblfedekeaaDoorG14
import Derived.Test.YtaoggblfedekeaaDoorG07
import Derived.Test.YtaoggblfedekeaaDoorG13
set_option maxHeartbeats 8000000
namespace Go.Fw
open Go Go.Proofs
set_option maxRecDepth 100000
set_option linter.unusedVariables false
set_option linter.unusedSimpArgs false
theorem X4X {l : List Val} {i : Nat} {x : Val} (h : l[i]? = some x) : XE (l.take (i + 1)) = XE (l.take i) ++ Xq x := by
 induction l generalizing i with
 | nil => simp at h
 | cons y l ih =>
  cases i with
  | zero => simp at h; subst h; simp [XE]
  | succ i => simp only [List.take_succ_cons, XE]; rw [ih (by simpa using h), List.append_assoc]
theorem X3v (l : List Val) (i : Nat) : (XE (l.take i)).length ≤ (XE l).length := by
 induction l generalizing i with
 | nil => simp
 | cons y l ih =>
  cases i with
  | zero => simp [XE]
  | succ i => simp only [List.take_succ_cons, XE, List.length_append]; have := ih i; omega
def X2i (v : Val) : Prop := ∀ r : List UInt8, r.length + (Xq v).length ≤ 140737488355328 →
 Con Tryd.prog 54 [(0, .row 1 (r.map Xa))] [.own 0 r.length, Xh v] [(0, .row 1 ((r ++ Xq v).map Xa))] (.own 0 (r ++ Xq v).length)
theorem X6z (v : Val) (hv : X6 8 v = true) (ih : ∀ x ∈ v.l, X2i x) : X2i v := by
 obtain ⟨k, n, d, s, l⟩ := v
 intro r hr
 have hlen := U3 l
 simp only [Val.l] at ih
 refine Xb (xs := [.own 0 (r ++ Xq (.mk k n d s l)).length]) Tryd.func54 rfl Tryd.ntmps54 rfl rfl rfl (fun E => ?_)
 rw [X6] at hv
 have hbig : ∀ (x : Int), -1000000000000000 ≤ x ∧ x ≤ 1000000000000000 → -9223372036854775808 ≤ x ∧ x ≤ 9223372036854775807 := fun x h => by omega
 by_cases hk0 : k = 0
 ·subst hk0
  have hput : Xq (.mk 0 n d s l) = [UInt8.ofNat 0] := by rw [Xq]; simp
  rw [hput] at hr ⊢
  simp only [List.length_append, List.length_cons, List.length_nil] at hr
  repeat first | refine X0 ?_ | (refine JR ?_; (repeat first | refine Z3 (u := nj 0) (r := n8 0) ?_ (hr := by exact Yi rfl rfl) | refine Z1 ?_ | refine Z0 ?_ | refine Zy ?_ | refine Zz ?_ | refine Zs ?_ | refine Zx (γ := 100) ?_ | refine Z5 ?_ | refine Z6 ?_); refine JD ?_) | refine JF ?_ | refine X5 ?_ | refine X3 ?_
  refine X1 ⟨_, Xi 4 (y := .own 0 (r ++ UInt8.ofNat 0 :: []).length) (AVal.le_of_eq ?_), ⟨rfl, trivial⟩, Xc ⟨?_, trivial⟩⟩
  ·refine Eq.trans (b := AVal.own 0 (_ + _)) rfl ?_
   congr 1
   simp only [List.length_append, List.length_map, List.length_cons, List.length_nil] <;> omega
  ·refine Eq.trans (b := AObj.row 1 (_ ++ _)) rfl ?_
   simp only [List.map_append, List.map_cons, List.map_nil, List.append_assoc, List.cons_append, List.nil_append]; rfl
 by_cases hk1 : k = 1
 ·subst hk1
  have hput : Xq (.mk 1 n d s l) = UInt8.ofNat 1 :: XF n := by rw [Xq]; simp
  have hn : -9223372036854775808 ≤ n ∧ n ≤ 9223372036854775807 := by simp at hv; omega
  have hpi := VG n hn
  rw [hput] at hr ⊢
  generalize XF n = q at *
  simp only [List.length_append, List.length_cons, List.length_nil] at hr
  refine X0 ?_; refine JR ?_; refine Zx (γ := 100) ?_; refine Z0 ?_; refine JD ?_; refine X0 ?_; refine JR ?_; refine Z1 ?_; refine Zy ?_; refine Zz ?_
  refine Z3 (u := nj 1) (r := n8 1) ?_ (hr := by exact Yi rfl rfl); refine Z5 ?_; refine Z6 ?_; refine Z0 ?_; refine JD ?_; refine X0 ?_; refine X0 ?_; refine JR ?_; refine Zy ?_; refine Zz ?_; refine JD ?_
  refine X5 ?_; refine X0 ?_; refine X0 ?_; refine JR ?_; refine Zs ?_; refine Z0 ?_; refine JD ?_; refine JT ?_; refine X3 ?_; refine JT ?_; refine X0 ?_; refine JR ?_; refine Z1 ?_
  refine Zy ?_; refine Zz ?_; refine Z8 (hcon := hpi) ?_; refine Z6 ?_; refine Z0 ?_; refine JD ?_
  refine X1 ⟨_, Xi 4 (y := .own 0 (r ++ UInt8.ofNat 1 :: q).length) (AVal.le_of_eq ?_), ⟨rfl, trivial⟩, Xc ⟨?_, trivial⟩⟩
  ·refine Eq.trans (b := AVal.own 0 (_ + _)) rfl ?_
   congr 1
   simp only [List.length_append, List.length_map, List.length_cons, List.length_nil] <;> omega
  ·refine Eq.trans (b := AObj.row 1 (_ ++ _ ++ _)) rfl ?_
   simp only [List.map_append, List.map_cons, List.map_nil, List.append_assoc, List.cons_append, List.nil_append]; rfl
 by_cases hk2 : k = 2
 ·subst hk2
  have hput : Xq (.mk 2 n d s l) = UInt8.ofNat 2 :: XF n := by rw [Xq]; simp
  have hn : -9223372036854775808 ≤ n ∧ n ≤ 9223372036854775807 := by simp at hv; omega
  have hpi := VG n hn
  rw [hput] at hr ⊢
  generalize XF n = q at *
  simp only [List.length_append, List.length_cons, List.length_nil] at hr
  repeat first | refine X0 ?_ | (refine JR ?_; (repeat first | refine Z3 (u := nj 2) (r := n8 2) ?_ (hr := by exact Yi rfl rfl) | refine Z1 ?_ | refine Z0 ?_ | refine Zy ?_ | refine Zz ?_ | refine Zs ?_ | refine Zx (γ := 100) ?_ | refine Z5 ?_ | refine Z6 ?_ | refine Z8 (hcon := hpi) ?_); refine JD ?_) | refine JT ?_ | refine JF ?_ | refine X5 ?_ | refine X3 ?_
  refine X1 ⟨_, Xi 4 (y := .own 0 (r ++ UInt8.ofNat 2 :: q).length) (AVal.le_of_eq ?_), ⟨rfl, trivial⟩, Xc ⟨?_, trivial⟩⟩
  ·refine Eq.trans (b := AVal.own 0 (_ + _)) rfl ?_
   congr 1
   simp only [List.length_append, List.length_map, List.length_cons, List.length_nil] <;> omega
  ·refine Eq.trans (b := AObj.row 1 (_ ++ _ ++ _)) rfl ?_
   simp only [List.map_append, List.map_cons, List.map_nil, List.append_assoc, List.cons_append, List.nil_append]; rfl
 by_cases hk3 : k = 3
 ·subst hk3
  have hput : Xq (.mk 3 n d s l) = UInt8.ofNat 3 :: (XF n ++ XF d) := by rw [Xq]; simp
  have hnd : (-9223372036854775808 ≤ n ∧ n ≤ 9223372036854775807) ∧ -9223372036854775808 ≤ d ∧ d ≤ 9223372036854775807 := by simp [YV] at hv; omega
  have hpi := VG n hnd.1
  have hpd := VG d hnd.2
  rw [hput] at hr ⊢
  generalize XF n = q at *
  generalize XF d = q2 at *
  simp only [List.length_append, List.length_cons, List.length_nil] at hr
  repeat first | refine X0 ?_ | (refine JR ?_; (repeat first | refine Z3 (u := nj 3) (r := n8 3) ?_ (hr := by exact Yi rfl rfl) | refine Z1 ?_ | refine Z0 ?_ | refine Zy ?_ | refine Zz ?_ | refine Zs ?_ | refine Zx (γ := 100) ?_ | refine Z5 ?_ | refine Z6 ?_ | refine Z8 (hcon := hpi) ?_ | refine Z8 (hcon := hpd) ?_); refine JD ?_) | refine JT ?_ | refine JF ?_ | refine X5 ?_
  refine X1 ⟨_, Xi 4 (y := .own 0 (r ++ UInt8.ofNat 3 :: (q ++ q2)).length) (AVal.le_of_eq ?_), ⟨rfl, trivial⟩, Xc ⟨?_, trivial⟩⟩
  ·refine Eq.trans (b := AVal.own 0 (_ + _)) rfl ?_
   congr 1
   simp only [List.length_append, List.length_map, List.length_cons, List.length_nil] <;> omega
  ·refine Eq.trans (b := AObj.row 1 (_ ++ _ ++ _ ++ _)) rfl ?_
   simp only [List.map_append, List.map_cons, List.map_nil, List.append_assoc, List.cons_append, List.nil_append]; rfl
 by_cases hk4 : k = 4
 ·subst hk4
  have hput : Xq (.mk 4 n d s l) = UInt8.ofNat 4 :: Xo s := by rw [Xq]; simp
  have hs : s.length ≤ 65536 := by simp at hv; omega
  have hpi := VB s hs
  rw [hput] at hr ⊢
  generalize Xo s = q at *
  simp only [List.length_append, List.length_cons, List.length_nil] at hr
  repeat first | refine X0 ?_ | (refine JR ?_; (repeat first | refine Z3 (u := nj 4) (r := n8 4) ?_ (hr := by exact Yi rfl rfl) | refine Z1 ?_ | refine Z0 ?_ | refine Zy ?_ | refine Zz ?_ | refine Zs ?_ | refine Zx (γ := 100) ?_ | refine Z5 ?_ | refine Z6 ?_ | refine Z8 (hcon := hpi) ?_); refine JD ?_) | refine JT ?_ | refine JF ?_ | refine X5 ?_
  refine X1 ⟨_, Xi 4 (y := .own 0 (r ++ UInt8.ofNat 4 :: q).length) (AVal.le_of_eq ?_), ⟨rfl, trivial⟩, Xc ⟨?_, trivial⟩⟩
  ·refine Eq.trans (b := AVal.own 0 (_ + _)) rfl ?_
   congr 1
   simp only [List.length_append, List.length_map, List.length_cons, List.length_nil] <;> omega
  ·refine Eq.trans (b := AObj.row 1 (_ ++ _ ++ _)) rfl ?_
   simp only [List.map_append, List.map_cons, List.map_nil, List.append_assoc, List.cons_append, List.nil_append]; rfl
 by_cases hk5 : k = 5
 ·subst hk5
  have hput : Xq (.mk 5 n d s l) = UInt8.ofNat 5 :: XF n := by rw [Xq]; simp
  have hn : -9223372036854775808 ≤ n ∧ n ≤ 9223372036854775807 := by simp at hv; omega
  have hpi := VG n hn
  rw [hput] at hr ⊢
  generalize XF n = q at *
  simp only [List.length_append, List.length_cons, List.length_nil] at hr
  repeat first | refine X0 ?_ | (refine JR ?_; (repeat first | refine Z3 (u := nj 5) (r := n8 5) ?_ (hr := by exact Yi rfl rfl) | refine Z1 ?_ | refine Z0 ?_ | refine Zy ?_ | refine Zz ?_ | refine Zs ?_ | refine Zx (γ := 100) ?_ | refine Z5 ?_ | refine Z6 ?_ | refine Z8 (hcon := hpi) ?_); refine JD ?_) | refine JT ?_ | refine JF ?_ | refine X5 ?_ | refine X3 ?_
  refine X1 ⟨_, Xi 4 (y := .own 0 (r ++ UInt8.ofNat 5 :: q).length) (AVal.le_of_eq ?_), ⟨rfl, trivial⟩, Xc ⟨?_, trivial⟩⟩
  ·refine Eq.trans (b := AVal.own 0 (_ + _)) rfl ?_
   congr 1
   simp only [List.length_append, List.length_map, List.length_cons, List.length_nil] <;> omega
  ·refine Eq.trans (b := AObj.row 1 (_ ++ _ ++ _)) rfl ?_
   simp only [List.map_append, List.map_cons, List.map_nil, List.append_assoc, List.cons_append, List.nil_append]; rfl
 by_cases hk6 : k = 6
 ·subst hk6
  have hput : Xq (.mk 6 n d s l) = UInt8.ofNat 6 :: XF n := by rw [Xq]; simp
  have hn : -9223372036854775808 ≤ n ∧ n ≤ 9223372036854775807 := by simp at hv; omega
  have hpi := VG n hn
  rw [hput] at hr ⊢
  generalize XF n = q at *
  simp only [List.length_append, List.length_cons, List.length_nil] at hr
  repeat first | refine X0 ?_ | (refine JR ?_; (repeat first | refine Z3 (u := nj 6) (r := n8 6) ?_ (hr := by exact Yi rfl rfl) | refine Z1 ?_ | refine Z0 ?_ | refine Zy ?_ | refine Zz ?_ | refine Zs ?_ | refine Zx (γ := 100) ?_ | refine Z5 ?_ | refine Z6 ?_ | refine Z8 (hcon := hpi) ?_); refine JD ?_) | refine JT ?_ | refine JF ?_ | refine X5 ?_
  refine X1 ⟨_, Xi 4 (y := .own 0 (r ++ UInt8.ofNat 6 :: q).length) (AVal.le_of_eq ?_), ⟨rfl, trivial⟩, Xc ⟨?_, trivial⟩⟩
  ·refine Eq.trans (b := AVal.own 0 (_ + _)) rfl ?_
   congr 1
   simp only [List.length_append, List.length_map, List.length_cons, List.length_nil] <;> omega
  ·refine Eq.trans (b := AObj.row 1 (_ ++ _ ++ _)) rfl ?_
   simp only [List.map_append, List.map_cons, List.map_nil, List.append_assoc, List.cons_append, List.nil_append]; rfl
 by_cases hk7 : k = 7
 ·subst hk7
  have hput : Xq (.mk 7 n d s l) = UInt8.ofNat 7 :: (Xk l.length ++ XE l) := by rw [Xq]; simp
  have hll : l.length ≤ 64 := by simp at hv; omega
  have hpu := Vu (Xm l).length (by omega)
  rw [← hlen] at hput
  rw [hput] at hr ⊢
  generalize Xk ((Xm l).length : Int) = q at *
  simp only [List.length_append, List.length_cons, List.length_nil] at hr
  repeat first | refine X0 ?_ | (refine JR ?_; (repeat first | refine Z3 (u := nj 7) (r := n8 7) ?_ (hr := by exact Yi rfl rfl) | refine Z1 ?_ | refine Z0 ?_ | refine Zy ?_ | refine Zz ?_ | refine Zb ?_ | refine Zs ?_ | refine Zx (γ := 100) ?_ | refine Z5 ?_ | refine Z6 ?_ | refine Z8 (hcon := hpu) ?_); refine JD ?_) | refine JT ?_ | refine JF ?_ | refine X5 ?_
  generalize hbase : r ++ UInt8.ofNat 7 :: q = base at *
  have hbl : base.length = r.length + q.length + 1 := by rw [← hbase]; simp; omega
  have hgoal : r ++ UInt8.ofNat 7 :: (q ++ XE l) = base ++ XE l := by rw [← hbase]; simp
  rw [hgoal]
  refine XR (fun i : Nat => i ≤ l.length) (fun i => ⟨64, [(0, .own 0 (base ++ XE (l.take i)).length), (53, .d (.sl 5 (Xm l))), (54, ai l.length), (55, ai i)], [(0, .row 1 ((base ++ XE (l.take i)).map Xa))]⟩) (fun i => l.length - i) 0 (by omega)
   (Xg rfl ⟨(by refine AVal.le_of_eq ?_; refine Eq.trans (b := AVal.own 0 (_ + _)) rfl ?_; congr 1; simp only [List.take_zero, XE, List.append_nil, hbl, List.length_append, List.length_map, List.length_cons, List.length_nil] <;> omega), JL, (by refine AVal.le_of_eq ?_; refine Eq.trans (b := ai ((Xm l).length : Nat)) rfl ?_; rw [hlen]), JL, trivial⟩ ⟨?_, trivial⟩) ?_
  ·refine Eq.trans (b := AObj.row 1 (_ ++ _ ++ _)) rfl ?_
   simp only [List.take_zero, XE, List.append_nil, ← hbase, List.map_append, List.map_cons, List.append_assoc, List.cons_append, List.nil_append]; rfl
  intro i hi
  by_cases hlt : i < l.length
  ·obtain ⟨x, hx⟩ := XX (l := l) hlt
   have hgx := X0d hx
   have htk := X4X hx
   have hle := X3v l (i + 1)
   have hpx := ih x (List.mem_of_getElem? hx) (base ++ XE (l.take i)) (by rw [htk] at hle; simp only [List.length_append] at hle ⊢; omega)
   rw [List.append_assoc, ← htk] at hpx
   obtain ⟨k', n', d', s', q'⟩ := x
   simp only [Xh] at hpx
   rw [YK] at hgx
   refine X0 ?_; refine JR ?_; refine Z7 ?_; refine JD ?_; refine X0 ?_; refine JT ?_; refine X3 ?_; refine X0 ?_; refine X5 ?_; refine X0 ?_; refine JR ?_; refine ZH ?_; refine ZI ?_
   refine Zr (γ := 100) ?_; refine Zu ?_; refine JD ?_; refine JR ?_; refine Z1 ?_; refine ZK ?_; refine Z8 (hcon := hpx) ?_; refine Z0 ?_; refine JD ?_; refine JR ?_; refine Zc ?_; refine Z1 ?_; refine JD ?_
   exact ⟨i + 1, by omega, by omega, Xg rfl ⟨JL, JL, JL, JL, trivial⟩ ⟨rfl, trivial⟩⟩
  obtain rfl : i = l.length := by omega
  rw [List.take_length]
  refine X0 ?_; refine JR ?_; refine Z7 ?_; refine JD ?_; refine X0 ?_; refine JF ?_; refine Xt ?_; refine X0 ?_; refine JR ?_; refine Z1 ?_; refine Z0 ?_; refine JD ?_
  exact X1 ⟨_, St.le_refl _, ⟨rfl, trivial⟩, Xc ⟨rfl, trivial⟩⟩
 by_cases hk8 : k = 8
 ·subst hk8
  have hput : Xq (.mk 8 n d s l) = UInt8.ofNat 8 :: (Xk l.length ++ XE l) := by rw [Xq]; simp
  have hll : l.length ≤ 64 := by simp at hv; omega
  have hpu := Vu (Xm l).length (by omega)
  rw [← hlen] at hput
  rw [hput] at hr ⊢
  generalize Xk ((Xm l).length : Int) = q at *
  simp only [List.length_append, List.length_cons, List.length_nil] at hr
  repeat first | refine X0 ?_ | (refine JR ?_; (repeat first | refine Z3 (u := nj 8) (r := n8 8) ?_ (hr := by exact Yi rfl rfl) | refine Z1 ?_ | refine Z0 ?_ | refine Zy ?_ | refine Zz ?_ | refine Zb ?_ | refine Zs ?_ | refine Zx (γ := 100) ?_ | refine Z5 ?_ | refine Z6 ?_ | refine Z8 (hcon := hpu) ?_); refine JD ?_) | refine JT ?_ | refine JF ?_ | refine X5 ?_ | refine X3 ?_
  generalize hbase : r ++ UInt8.ofNat 8 :: q = base at *
  have hbl : base.length = r.length + q.length + 1 := by rw [← hbase]; simp; omega
  have hgoal : r ++ UInt8.ofNat 8 :: (q ++ XE l) = base ++ XE l := by rw [← hbase]; simp
  rw [hgoal]
  refine XR (fun i : Nat => i ≤ l.length) (fun i => ⟨64, [(0, .own 0 (base ++ XE (l.take i)).length), (53, .d (.sl 5 (Xm l))), (54, ai l.length), (55, ai i)], [(0, .row 1 ((base ++ XE (l.take i)).map Xa))]⟩) (fun i => l.length - i) 0 (by omega)
   (Xg rfl ⟨(by refine AVal.le_of_eq ?_; refine Eq.trans (b := AVal.own 0 (_ + _)) rfl ?_; congr 1; simp only [List.take_zero, XE, List.append_nil, hbl, List.length_append, List.length_map, List.length_cons, List.length_nil] <;> omega), JL, (by refine AVal.le_of_eq ?_; refine Eq.trans (b := ai ((Xm l).length : Nat)) rfl ?_; rw [hlen]), JL, trivial⟩ ⟨?_, trivial⟩) ?_
  ·refine Eq.trans (b := AObj.row 1 (_ ++ _ ++ _)) rfl ?_
   simp only [List.take_zero, XE, List.append_nil, ← hbase, List.map_append, List.map_cons, List.append_assoc, List.cons_append, List.nil_append]; rfl
  intro i hi
  by_cases hlt : i < l.length
  ·obtain ⟨x, hx⟩ := XX (l := l) hlt
   have hgx := X0d hx
   have htk := X4X hx
   have hle := X3v l (i + 1)
   have hpx := ih x (List.mem_of_getElem? hx) (base ++ XE (l.take i)) (by rw [htk] at hle; simp only [List.length_append] at hle ⊢; omega)
   rw [List.append_assoc, ← htk] at hpx
   obtain ⟨k', n', d', s', q'⟩ := x
   simp only [Xh] at hpx
   rw [YK] at hgx
   refine X0 ?_; refine JR ?_; refine Z7 ?_; refine JD ?_; refine X0 ?_; refine JT ?_; refine X3 ?_; refine X0 ?_; refine X5 ?_; refine X0 ?_; refine JR ?_; refine ZH ?_; refine ZI ?_
   refine Zr (γ := 100) ?_; refine Zu ?_; refine JD ?_; refine JR ?_; refine Z1 ?_; refine ZK ?_; refine Z8 (hcon := hpx) ?_; refine Z0 ?_; refine JD ?_; refine JR ?_; refine Zc ?_; refine Z1 ?_; refine JD ?_
   exact ⟨i + 1, by omega, by omega, Xg rfl ⟨JL, JL, JL, JL, trivial⟩ ⟨rfl, trivial⟩⟩
  obtain rfl : i = l.length := by omega
  rw [List.take_length]
  refine X0 ?_; refine JR ?_; refine Z7 ?_; refine JD ?_; refine X0 ?_; refine JF ?_; refine Xt ?_; refine X0 ?_; refine JR ?_; refine Z1 ?_; refine Z0 ?_; refine JD ?_
  exact X1 ⟨_, St.le_refl _, ⟨rfl, trivial⟩, Xc ⟨rfl, trivial⟩⟩
 simp [*] at hv
end Go.Fw
namespace Go.Fw
open Go Go.Proofs
set_option maxRecDepth 100000
set_option linter.unusedVariables false
set_option linter.unusedSimpArgs false
theorem X3k {m : Nat} : ∀ {l : List Val} {x : Val}, Yk m l = true → x ∈ l → X6 m x = true
 | [], x, _, h => by simp at h
 | v :: r, x, h, hx => by
  rw [Yk, Bool.and_eq_true] at h
  rcases List.mem_cons.1 hx with rfl | hx
  ·exact h.1
  ·exact X3k h.2 hx
theorem X4v : ∀ {l : List Val} {i : Nat} {x : Val}, Yh i l = true → x ∈ l → X6 0 x = true
 | [], _, x, _, h => by simp at h
 | v :: r, i, x, h, hx => by
  rw [Yh, Bool.and_eq_true, Bool.and_eq_true] at h
  rcases List.mem_cons.1 hx with rfl | hx
  ·exact h.1.2
  ·exact X4v h.2 hx
theorem X3P {m : Nat} {k n d : Int} {s : List UInt8} {l : List Val} (h : X6 m (.mk k n d s l) = true) : ∀ x ∈ l, X6 m x = true := by
 intro x hx
 rw [X6] at h
 by_cases h7 : k = 7
 ·subst h7
  simp at h
  exact X37 x 0 m (by omega) (X4v h.2.2 hx)
 ·by_cases h8 : k = 8
  ·subst h8
   simp at h
   exact X37 x (m - 1) m (by omega) (X3k h.2.2 hx)
  ·have : l = [] := by
    simp [h7, h8] at h
    exact h.1.2
   subst this; simp at hx
theorem X5d : ∀ v : Val, X6 8 v = true → X2i v
 | .mk k n d s l => fun hv => X6z (.mk k n d s l) hv fun x hx => X5d x (X3P hv x hx)
termination_by v => SizeOf.sizeOf v
decreasing_by
 have h1 := List.sizeOf_lt_of_mem (show x ∈ l from hx)
 simp only [Val.mk.sizeOf_spec]
 omega
theorem X8t (v : Val) (hv : X6 8 v = true) (hb : (Xq v).length ≤ 140737488355328) : Con Tryd.prog 54 [] [ani, Xh v] [] (.d (Xv (Xq v))) := by
 have h := X5d v hv [] (by simpa using hb)
 have h2 := Con.adopt (sz := 1) (args := [Xh v]) h (by obtain ⟨k, n, d, s, l⟩ := v; rfl)
 exact h2.data (by simp)
theorem X4Z (v : Val) (hb : (Xq v).length ≤ 140737488355328) : Con Tryd.prog 34 [] [Xh v] [] (.d (Xv (Y4 v))) := by
 refine Xb (xs := [.d (Xv (Y4 v))]) Tryd.func34 rfl Tryd.ntmps34 rfl rfl rfl (fun E => ?_)
 have hval := Ur v
 cases hv : X6 8 v with
 | false =>
  rw [hv] at hval
  rw [show Y4 v = [] by unfold Y4; rw [hv]; rfl]
  obtain ⟨k, n, d, s, l⟩ := v
  simp only [Xh] at hval
  refine X0 ?_; refine JR ?_; refine Zx (γ := 100) ?_; refine Z0 ?_; refine JD ?_; refine X0 ?_; refine X0 ?_; refine JR ?_; refine ZK ?_; refine Z8 (hcon := hval) ?_; refine Zp ?_; refine JD ?_
  refine JT ?_; refine X0 ?_; refine JR ?_; refine Z0 ?_; refine JD ?_
  exact X1 ⟨_, Xi 2 (y := .d (Xv [])) (AVal.le_nil 1), ⟨rfl, trivial⟩, X2 _⟩
 | true =>
  rw [hv] at hval
  rw [show Y4 v = Xq v by unfold Y4; rw [hv]; rfl]
  have hp := X8t v hv hb
  obtain ⟨k, n, d, s, l⟩ := v
  simp only [Xh] at hval hp
  generalize Xq (.mk k n d s l) = q at *
  refine X0 ?_; refine JR ?_; refine Zx (γ := 100) ?_; refine Z0 ?_; refine JD ?_; refine X0 ?_; refine X0 ?_; refine JR ?_; refine ZK ?_; refine Z8 (hcon := hval) ?_; refine Zp ?_; refine JD ?_
  refine JF ?_; refine X3 ?_; refine X0 ?_; refine JR ?_; refine ZK ?_; refine Z8 (hcon := hp) ?_; refine Z0 ?_; refine JD ?_
  exact X1 ⟨_, St.le_refl _, ⟨rfl, trivial⟩, X2 _⟩
end Go.Fw
namespace Go.Fw
open Go Go.Proofs
set_option maxRecDepth 100000
set_option linter.unusedVariables false
set_option linter.unusedSimpArgs false
theorem XaF (n : Int) : Ue n = 0 ∨ Ue n = 1 ∨ Ue n = -1 := by
 unfold Ue
 split
 ·exact .inr (.inr rfl)
 ·split
  ·exact .inr (.inl rfl)
  ·exact .inl rfl
theorem X72 (n d : Int) : Con Tryd.prog 49 [] [X0w n d, X0w n d] [] (ai 0) := by
 refine Xb (xs := [ai 0]) Tryd.func49 rfl Tryd.ntmps49 rfl rfl rfl (fun E => ?_)
 have hv := X43 n d
 cases hb : YV n d with
 | true =>
  rw [hb] at hv
  simp [YV] at hb
  obtain ⟨D, rfl⟩ : ∃ D : Nat, d = D := ⟨d.toNat, by omega⟩
  have hsz := X20 n (by omega)
  have hsg := X3F n
  have hr := XaF n
  have ht := X6b n.natAbs D (by omega) (by omega)
  have hsum := X51 (Ue n) hr (Ys 14 (n.natAbs * D)) (X2r _ _) (X2D _ _)
  generalize Ue n = s at *
  generalize Ys 14 (n.natAbs * D) = x at *
  generalize VK s x = y at *
  generalize n.natAbs = N at *
  have hr1 : -1 ≤ s ∧ s ≤ 1 := by omega
  clear hr hb
  repeat first | refine X0 ?_ | (refine JR ?_; (repeat first | refine Z1 ?_ | refine Z0 ?_ | refine Zy ?_ | refine Zz ?_ | refine ZK ?_ | refine Zp ?_ | refine Zx (γ := 100) ?_ | refine Zx (γ := 101) ?_ | refine ZC ?_ | refine Z8 (hcon := hv) ?_ | refine Z8 (hcon := hsz) ?_ | refine Z8 (hcon := hsg) ?_ | refine Z8 (hcon := ht) ?_ | refine Z8 (hcon := hsum) ?_); refine JD ?_) | refine JF ?_ | refine X3 ?_
  exact X1 ⟨_, St.le_refl _, ⟨rfl, trivial⟩, X2 _⟩
 | false =>
  rw [hb] at hv
  clear hb
  have hsz : Con Tryd.prog 64 [] [ai 0] [] (ai 0) := X20 0 (by omega)
  have hsg : Con Tryd.prog 62 [] [ai 0] [] (ai 0) := X3F 0
  have ht : Con Tryd.prog 63 [] [ai 0, ai 1] [] (.d (Yw (Ys 14 (0 * 1)))) := X6b 0 1 (by omega) (by omega)
  have hsum : Con Tryd.prog 61 [] [ai 0, .d (Yw (Ys 14 (0 * 1))), ai 0, .d (Yw (Ys 14 (0 * 1)))] [] (.tup [ai 0, .d (Yw (VK 0 (Ys 14 (0 * 1))))]) := X51 0 (.inl rfl) (Ys 14 (0 * 1)) (X2r _ _) (X2D _ _)
  generalize Ys 14 (0 * 1) = x at *
  generalize VK 0 x = y at *
  repeat first | refine X0 ?_ | (refine JR ?_; (repeat first | refine Z1 ?_ | refine Z0 ?_ | refine Zy ?_ | refine Zz ?_ | refine ZK ?_ | refine Zp ?_ | refine Zx (γ := 100) ?_ | refine Zx (γ := 101) ?_ | refine Zu ?_ | refine Zt ?_ | refine ZC ?_ | refine Z8 (hcon := hv) ?_ | refine Z8 (hcon := hsz) ?_ | refine Z8 (hcon := hsg) ?_ | refine Z8 (hcon := ht) ?_ | refine Z8 (hcon := hsum) ?_); refine JD ?_) | refine JT ?_
  exact X1 ⟨_, St.le_refl _, ⟨rfl, trivial⟩, X2 _⟩
theorem X0X (n : Int) : Con Tryd.prog 46 [] [ai n, ai n] [] (ai 0) := by
 refine Xb (xs := [ai 0]) Tryd.func46 rfl Tryd.ntmps46 rfl rfl rfl (fun E => ?_)
 have h : ¬ n < n := by omega
 repeat first | refine X0 ?_ | (refine JR ?_; (repeat first | refine Z1 ?_ | refine Z0 ?_ | refine Z7 ?_ | refine Zn ?_); refine JD ?_) | refine JF ?_ | refine X3 ?_
 exact X1 ⟨_, St.le_refl _, ⟨rfl, trivial⟩, X2 _⟩
theorem X28 : ∀ s : List UInt8, Op.bytesLess s s = false
 | [] => rfl
 | b :: s => by simp [Op.bytesLess, X28 s]
theorem X9Y {t : TypeId} {x y : Operand} {s : List UInt8} (w : World) : (do eqGuard .lss t x y (.string (X4 s)) (.string (X4 s)); binOp .lss t (.string (X4 s)) (.string (X4 s)) : Sem Value).run Tryd.prog w = .ok (.bool false) w := by
 simp [go_sem, X09, X28]
theorem X9O {t : TypeId} {x y : Operand} {s : List UInt8} (w : World) : (do eqGuard .gtr t x y (.string (X4 s)) (.string (X4 s)); binOp .gtr t (.string (X4 s)) (.string (X4 s)) : Sem Value).run Tryd.prog w = .ok (.bool false) w := by
 simp [go_sem, binOp, Op.stringOp, X09, X28]
theorem Xao (s : List UInt8) : Con Tryd.prog 58 [] [X8 s, X8 s] [] (ai 0) := by
 refine Xb (xs := [ai 0]) Tryd.func58 rfl Tryd.ntmps58 rfl rfl rfl (fun E => ?_)
 refine X0 ?_; refine JR ?_; refine Z0 ?_; refine JD ?_; refine X0 ?_; refine X0 ?_; refine JR ?_; refine Z1 ?_; refine Z1 ?_
 refine Zw (op := .lss) (r' := .bool false) (u := .string (X4 s)) (v := .string (X4 s)) ?_ (hr := by exact X9Y); refine JD ?_; refine JF ?_; refine X3 ?_; refine X0 ?_; refine X0 ?_; refine JR ?_
 refine Z1 ?_; refine Z1 ?_; refine Zw (op := .gtr) (r' := .bool false) (u := .string (X4 s)) (v := .string (X4 s)) ?_ (hr := by exact X9O); refine JD ?_; refine JF ?_; refine X3 ?_; refine X0 ?_
 refine JR ?_; refine Z0 ?_; refine JD ?_
 exact X1 ⟨_, St.le_refl _, ⟨rfl, trivial⟩, X2 _⟩
def X0t (k : Int) : Int := if k = 0 then 0 else if k = 1 then 1 else if k = 2 ∨ k = 3 then 2 else if k = 4 then 3 else if k = 5 then 4 else if k = 6 then 5 else if k = 8 then 6 else 7
theorem X8u (k : Int) : Con Tryd.prog 47 [] [ai k] [] (ai (X0t k)) := by
 refine Xb (xs := [ai (X0t k)]) Tryd.func47 rfl Tryd.ntmps47 rfl rfl rfl (fun E => ?_)
 by_cases h0 : k = 0
 ·subst h0
  refine X0 ?_; refine JR ?_; refine Z0 ?_; refine JD ?_; refine X0 ?_; refine X0 ?_; refine JR ?_; refine Z1 ?_; refine JD ?_; refine X5 ?_; refine X0 ?_; refine JR ?_; refine Zs ?_
  refine Z0 ?_; refine JD ?_; refine JT ?_; refine X0 ?_; refine JR ?_; refine Z0 ?_; refine JD ?_
  exact X1 ⟨_, St.le_refl _, ⟨rfl, trivial⟩, X2 _⟩
 by_cases h1 : k = 1
 ·subst h1
  repeat first | refine X0 ?_ | (refine JR ?_; (repeat first | refine Z1 ?_ | refine Z0 ?_ | refine Zs ?_); refine JD ?_) | refine JT ?_ | refine JF ?_ | refine X5 ?_
  exact X1 ⟨_, St.le_refl _, ⟨rfl, trivial⟩, X2 _⟩
 by_cases h2 : k = 2
 ·subst h2
  repeat first | refine X0 ?_ | (refine JR ?_; (repeat first | refine Z1 ?_ | refine Z0 ?_ | refine Zs ?_); refine JD ?_) | refine JT ?_ | refine JF ?_ | refine X5 ?_ | refine X3 ?_
  exact X1 ⟨_, St.le_refl _, ⟨rfl, trivial⟩, X2 _⟩
 by_cases h3 : k = 3
 ·subst h3
  repeat first | refine X0 ?_ | (refine JR ?_; (repeat first | refine Z1 ?_ | refine Z0 ?_ | refine Zs ?_); refine JD ?_) | refine JT ?_ | refine JF ?_ | refine X5 ?_
  exact X1 ⟨_, St.le_refl _, ⟨rfl, trivial⟩, X2 _⟩
 by_cases h4 : k = 4
 ·subst h4
  repeat first | refine X0 ?_ | (refine JR ?_; (repeat first | refine Z1 ?_ | refine Z0 ?_ | refine Zs ?_); refine JD ?_) | refine JT ?_ | refine JF ?_ | refine X5 ?_
  exact X1 ⟨_, St.le_refl _, ⟨rfl, trivial⟩, X2 _⟩
 by_cases h5 : k = 5
 ·subst h5
  repeat first | refine X0 ?_ | (refine JR ?_; (repeat first | refine Z1 ?_ | refine Z0 ?_ | refine Zs ?_); refine JD ?_) | refine JT ?_ | refine JF ?_ | refine X5 ?_
  exact X1 ⟨_, St.le_refl _, ⟨rfl, trivial⟩, X2 _⟩
 by_cases h6 : k = 6
 ·subst h6
  repeat first | refine X0 ?_ | (refine JR ?_; (repeat first | refine Z1 ?_ | refine Z0 ?_ | refine Zs ?_); refine JD ?_) | refine JT ?_ | refine JF ?_ | refine X5 ?_
  exact X1 ⟨_, St.le_refl _, ⟨rfl, trivial⟩, X2 _⟩
 by_cases h8 : k = 8
 ·subst h8
  repeat first | refine X0 ?_ | (refine JR ?_; (repeat first | refine Z1 ?_ | refine Z0 ?_ | refine Zs ?_); refine JD ?_) | refine JT ?_ | refine JF ?_ | refine X5 ?_
  exact X1 ⟨_, St.le_refl _, ⟨rfl, trivial⟩, X2 _⟩
 rw [show X0t k = 7 by simp [X0t, *]]
 repeat first | refine X0 ?_ | (refine JR ?_; (repeat first | refine Z1 ?_ | refine Z0 ?_ | refine Zs ?_); refine JD ?_) | refine JF ?_ | refine X5 ?_ | refine X3 ?_
 exact X1 ⟨_, St.le_refl _, ⟨rfl, trivial⟩, X2 _⟩
end Go.Fw
namespace Go.Fw
open Go Go.Proofs
set_option maxRecDepth 100000
set_option linter.unusedVariables false
set_option linter.unusedSimpArgs false
theorem X8o {m : Nat} {k n d : Int} {s : List UInt8} {l : List Val} (h : X6 m (.mk k n d s l) = true) (hk : k = 0) : n = 0 ∧ d = 0 ∧ s = [] ∧ l = [] := by
 subst hk
 rw [X6] at h
 simp at h
 exact ⟨h.2, h.1.1.1, h.1.1.2, h.1.2⟩
theorem X6h {m : Nat} {k n d : Int} {s : List UInt8} {l : List Val} (h : X6 m (.mk k n d s l) = true) : 0 ≤ k ∧ k ≤ 8 := by
 refine Classical.byContradiction fun hn => ?_
 rw [X6] at h
 rw [if_neg (by omega), if_neg (by omega), if_neg (by omega), if_neg (by omega), if_neg (by omega), if_neg (by omega), if_neg (by omega), if_neg (by omega)] at h
 simp at h
theorem X6K (f : FuncId) : Con Tryd.prog 73 [] [.d (.sl 5 []), .d (.sl 5 []), .fn f []] [] (ai 0) := by
 refine Xb (xs := [ai 0]) Tryd.func73 rfl Tryd.ntmps73 rfl rfl rfl (fun E => ?_)
 refine X0 ?_; refine JR ?_; refine Z0 ?_; refine JD ?_; refine X0 ?_; refine X0 ?_; refine JR ?_; refine Z1 ?_; refine Zb ?_; refine Z1 ?_; refine JD ?_; refine X5 ?_
 refine XR (fun _ : Unit => True) (fun _ => ⟨39, [(0, .d (.sl 5 [])), (1, .d (.sl 5 [])), (12, ai 0), (13, ai 0)], []⟩) (fun _ => 0) () trivial
  (Xg rfl ⟨JL, JL, JL, JL, trivial⟩ trivial) ?_
 intro _ _
 refine X0 ?_; refine JR ?_; refine Z7 ?_; refine JD ?_; refine X0 ?_; refine JF ?_; refine Xt ?_; refine X0 ?_; refine X0 ?_; refine JR ?_; refine Z1 ?_; refine Zb ?_; refine Z1 ?_; refine Zb ?_
 refine Z7 ?_; refine JD ?_; refine JF ?_; refine X3 ?_; refine X0 ?_; refine JR ?_; refine Z0 ?_; refine JD ?_
 exact X1 ⟨_, St.le_refl _, ⟨rfl, trivial⟩, X2 _⟩
theorem Xaa (k n d : Int) (s : List UInt8) (l : List Val) (h : YC k ≠ 0) : Con Tryd.prog 69 [] [Xh (.mk k n d s l), Xh zV] [] (ai (YN (YC k) 0)) := by
 refine Xb (xs := [ai (YN (YC k) 0)]) Tryd.func69 rfl Tryd.ntmps69 rfl rfl rfl (fun E => ?_)
 have c1 := X32 k n d s l
 have c2 := X32 0 0 0 [] []
 have c3 := X4b (YC k) 0
 rw [show YC 0 = 0 from rfl] at c2
 have hz : YN (YC k) 0 ≠ 0 := by
  unfold YN
  split
  ·omega
  ·split
   ·omega
   ·omega
 generalize YN (YC k) 0 = z at *
 generalize YC k = c at *
 simp only [Xh, Xm] at c1 c2 ⊢
 refine X0 ?_; refine JR ?_; refine Zx (γ := 100) ?_; refine Zx (γ := 101) ?_; refine Z0 ?_; refine JD ?_; refine X0 ?_; refine X0 ?_; refine JR ?_; refine ZK ?_; refine Z8 (hcon := c1) ?_; refine ZK ?_
 refine Z8 (hcon := c2) ?_; refine Z8 (hcon := c3) ?_; refine Z0 ?_; refine JD ?_; refine X0 ?_; refine JR ?_; refine Z1 ?_; refine Zq ?_; refine JD ?_; refine JT ?_; refine X0 ?_; refine JR ?_; refine Z1 ?_
 refine Z0 ?_; refine JD ?_
 exact X1 ⟨_, St.le_refl _, ⟨rfl, trivial⟩, X2 _⟩
theorem X84 : Con Tryd.prog 69 [] [Xh zV, Xh zV] [] (ai 0) := by
 refine Xb (xs := [ai 0]) Tryd.func69 rfl Tryd.ntmps69 rfl rfl rfl (fun E => ?_)
 have c2 := X32 0 0 0 [] []
 have c3 := X4b 0 0
 have c4 := X96 []
 have c5 := X6K 69
 have c6 := X8a [0, 0, 0] (by decide)
 rw [show YC 0 = 0 from rfl] at c2
 rw [show YN 0 0 = 0 from rfl] at c3
 rw [show orI [0, 0, 0] = 0 from rfl] at c6
 simp only [Xh, Xm, List.map_cons, List.map_nil] at c2 c6 ⊢
 repeat first | refine X0 ?_ | (refine JR ?_; (repeat first | refine Z1 ?_ | refine Z0 ?_ | refine Zy ?_ | refine Zz ?_ | refine ZK ?_ | refine Zs ?_ | refine Zq ?_ | refine Zx (γ := 100) ?_ | refine Zx (γ := 101) ?_ | refine Z5 ?_ | refine Z8 (hcon := c2) ?_ | refine Z8 (hcon := c3) ?_ | refine Z8 (hcon := c4) ?_ | refine Z8 (hcon := c5) ?_ | refine Z8 (hcon := c6) ?_); refine JD ?_) | refine JF ?_ | refine X3 ?_
 exact X1 ⟨_, St.le_refl _, ⟨rfl, trivial⟩, X2 _⟩
def X0m (v : Val) : Int := if X6 8 v = false then 1 else YN (YC v.kind) 0
theorem X9E (v : Val) : decide (X0m v = 0) = Uq v := by
 unfold X0m Uq
 cases h : X6 8 v with
 | false => simp
 | true =>
  obtain ⟨k, n, d, s, l⟩ := v
  have hk := X6h h
  simp only [Val.kind, Bool.true_and]
  refine decide_eq_decide.2 ?_
  rw [if_neg (by simp)]
  unfold YN YC
  constructor
  ·intro h1
   split at h1
   ·omega
   split at h1
   ·split at h1
    ·omega
    ·split at h1 <;> omega
   ·split at h1 <;> omega
  ·intro h1
   subst h1
   rfl
theorem X8H (v : Val) : Con Tryd.prog 55 [] [Xh v, Xh zV] [] (ai (X0m v)) := by
 refine Xb (xs := [ai (X0m v)]) Tryd.func55 rfl Tryd.ntmps55 rfl rfl rfl (fun E => ?_)
 have hv := Ur v
 have hz := Ur zV
 rw [show X6 8 zV = true by rw [X6]; simp] at hz
 unfold X0m
 cases h : X6 8 v with
 | false =>
  rw [h] at hv
  rw [if_pos rfl]
  obtain ⟨k, n, d, s, l⟩ := v
  simp only [Xh, Xm] at hv hz ⊢
  repeat first | refine X0 ?_ | (refine JR ?_; (repeat first | refine Z1 ?_ | refine Z0 ?_ | refine ZK ?_ | refine Zx (γ := 100) ?_ | refine Zx (γ := 101) ?_ | refine Zl ?_ | refine Zj ?_ | refine Z8 (hcon := hv) ?_ | refine Z8 (hcon := hz) ?_); refine JD ?_) | refine JT ?_ | refine JF ?_ | refine X5 ?_
  exact X1 ⟨_, St.le_refl _, ⟨rfl, trivial⟩, X2 _⟩
 | true =>
  rw [h] at hv
  rw [if_neg (by simp)]
  obtain ⟨k, n, d, s, l⟩ := v
  simp only [Val.kind]
  by_cases hk : YC k = 0
  ·have hk0 : k = 0 := by
    have := X6h h
    unfold YC at hk
    split at hk
    ·omega
    ·split at hk <;> omega
   obtain ⟨rfl, rfl, rfl, rfl⟩ := X8o h hk0
   subst hk0
   have ho := X84
   rw [show YN (YC 0) 0 = 0 from rfl]
   simp only [Xh, Xm] at hv hz ho ⊢
   refine X0 ?_; refine JR ?_; refine Zx (γ := 100) ?_; refine Zx (γ := 101) ?_; refine Z0 ?_; refine JD ?_; refine X0 ?_; refine JR ?_; refine ZK ?_; refine Z8 (hcon := hv) ?_; refine ZK ?_
   refine Z8 (hcon := hv) ?_; refine Z0 ?_; refine Z0 ?_; refine JD ?_; refine X0 ?_; refine X5 ?_; refine X0 ?_; refine JR ?_; refine Z1 ?_; refine Z1 ?_; refine Z1 ?_; refine Zi ?_; refine Z0 ?_
   refine JD ?_; refine JT ?_; refine X0 ?_; refine JR ?_; refine ZK ?_; refine ZK ?_; refine Z8 (hcon := ho) ?_; refine Z0 ?_; refine JD ?_
   exact X1 ⟨_, St.le_refl _, ⟨rfl, trivial⟩, X2 _⟩
  ·have ho := Xaa k n d s l hk
   generalize YN (YC k) 0 = z at *
   simp only [Xh, Xm] at hv hz ho ⊢
   refine X0 ?_; refine JR ?_; refine Zx (γ := 100) ?_; refine Zx (γ := 101) ?_; refine Z0 ?_; refine JD ?_; refine X0 ?_; refine JR ?_; refine ZK ?_; refine Z8 (hcon := hv) ?_; refine ZK ?_
   refine Z8 (hcon := hz) ?_; refine Z0 ?_; refine Z0 ?_; refine JD ?_; refine X0 ?_; refine X5 ?_; refine X0 ?_; refine JR ?_; refine Z1 ?_; refine Z1 ?_; refine Z1 ?_; refine Zi ?_; refine Z0 ?_
   refine JD ?_; refine JT ?_; refine X0 ?_; refine JR ?_; refine ZK ?_; refine ZK ?_; refine Z8 (hcon := ho) ?_; refine Z0 ?_; refine JD ?_
   exact X1 ⟨_, St.le_refl _, ⟨rfl, trivial⟩, X2 _⟩
theorem X9D (v : Val) : Con Tryd.prog 38 [] [Xh v] [] (ab (Uq v)) := by
 refine Xb (xs := [ab (Uq v)]) Tryd.func38 rfl Tryd.ntmps38 rfl rfl rfl (fun E => ?_)
 have ho := X8H v
 rw [← X9E v]
 generalize X0m v = z at *
 obtain ⟨k, n, d, s, l⟩ := v
 simp only [Xh, Xm] at ho ⊢
 refine X0 ?_; refine JR ?_; refine Zx (γ := 100) ?_; refine Z0 ?_; refine JD ?_; refine X0 ?_; refine JR ?_; refine ZK ?_; refine Zt ?_; refine Z8 (hcon := ho) ?_; refine Zs ?_; refine Z0 ?_; refine JD ?_
 exact X1 ⟨_, St.le_refl _, ⟨rfl, trivial⟩, X2 _⟩
end Go.Fw
namespace Go.Fw
open Go Go.Proofs
set_option maxRecDepth 100000
set_option linter.unusedVariables false
set_option linter.unusedSimpArgs false
def X67 (b : Bool) (k n d : Int) : Int × Int × Bool := if b = false then (0, 0, false) else if k = 2 then (n, 1, true) else if k = 3 then (n, d, true) else (0, 0, false)
def UP (v : Val) : Int × Int × Bool := X67 (X6 8 v) v.kind v.n v.d
theorem X6B (v : Val) (hok : XU v) : Con Tryd.prog 48 [] [Xh v] [] (.tup [X0w (UP v).1 (UP v).2.1, ab (UP v).2.2]) := by
 have hv := X4m v hok
 refine Xb (xs := [X0w (UP v).1 (UP v).2.1, ab (UP v).2.2]) Tryd.func48 rfl Tryd.ntmps48 rfl rfl rfl (fun E => ?_)
 unfold UP
 generalize X6 8 v = bb at *
 obtain ⟨k, n, d, s, l⟩ := v
 simp only [Xh, Val.kind, Val.n, Val.d] at hv ⊢
 unfold X67
 cases bb with
 | false =>
  rw [if_pos rfl]
  refine X0 ?_; refine JR ?_; refine Zx (γ := 100) ?_; refine Zr (γ := 101) ?_; refine Z0 ?_; refine JD ?_; refine X0 ?_; refine X0 ?_; refine JR ?_; refine ZK ?_; refine Z8 (hcon := hv) ?_; refine Zp ?_
  refine JD ?_; refine JT ?_; refine X0 ?_; refine JR ?_; refine Zt ?_; refine Zu ?_; refine Z0 ?_; refine JD ?_
  exact X1 ⟨_, St.le_refl _, ⟨⟨101, 0, _, rfl, rfl, .inr ⟨2, _, rfl, rfl, rfl, rfl⟩⟩, rfl, trivial⟩, X2 _⟩
 | true =>
  rw [if_neg (by simp)]
  by_cases h2 : k = 2
  ·rw [if_pos h2]
   refine X0 ?_; refine JR ?_; refine Zx (γ := 100) ?_; refine Zr (γ := 101) ?_; refine Z0 ?_; refine JD ?_; refine X0 ?_; refine X0 ?_; refine JR ?_; refine ZK ?_; refine Z8 (hcon := hv) ?_; refine Zp ?_
   refine JD ?_; refine JF ?_; refine X3 ?_; refine X0 ?_; refine X0 ?_; refine JR ?_; refine Zy ?_; refine Zz ?_; refine Zs ?_; refine JD ?_; refine JT ?_; refine X0 ?_; refine JR ?_; refine Zy ?_
   refine Zz ?_; refine Zt ?_; refine Zu ?_; refine Z0 ?_; refine JD ?_
   exact X1 ⟨_, St.le_refl _, ⟨⟨101, 0, _, rfl, rfl, .inr ⟨2, _, rfl, rfl, rfl, rfl⟩⟩, rfl, trivial⟩, X2 _⟩
  rw [if_neg h2]
  by_cases h3 : k = 3
  ·rw [if_pos h3]
   repeat first | refine X0 ?_ | (refine JR ?_; (repeat first | refine Z0 ?_ | refine Zy ?_ | refine Zz ?_ | refine ZK ?_ | refine Zs ?_ | refine Zp ?_ | refine Zr (γ := 101) ?_ | refine Zx (γ := 100) ?_ | refine Zu ?_ | refine Zt ?_ | refine Z8 (hcon := hv) ?_); refine JD ?_) | refine JT ?_ | refine JF ?_ | refine X3 ?_
   exact X1 ⟨_, St.le_refl _, ⟨⟨101, 0, _, rfl, rfl, .inr ⟨2, _, rfl, rfl, rfl, rfl⟩⟩, rfl, trivial⟩, X2 _⟩
  rw [if_neg h3]
  repeat first | refine X0 ?_ | (refine JR ?_; (repeat first | refine Z0 ?_ | refine Zy ?_ | refine Zz ?_ | refine ZK ?_ | refine Zs ?_ | refine Zp ?_ | refine Zr (γ := 101) ?_ | refine Zx (γ := 100) ?_ | refine Zu ?_ | refine Zt ?_ | refine Z8 (hcon := hv) ?_); refine JD ?_) | refine JF ?_ | refine X3 ?_
  exact X1 ⟨_, St.le_refl _, ⟨⟨101, 0, _, rfl, rfl, .inr ⟨2, _, rfl, rfl, rfl, rfl⟩⟩, rfl, trivial⟩, X2 _⟩
def X0h (v : Val) : Prop := Con Tryd.prog 26 [] [Xh v, Xh v] [] (ai 0)
theorem X8V (l : List Val) (hl : l.length ≤ 9223372036854775807) (ih : ∀ x ∈ l, X0h x) : Con Tryd.prog 59 [] [.d (.sl 5 (Xm l)), .d (.sl 5 (Xm l))] [] (ai 0) := by
 refine Xb (xs := [ai 0]) Tryd.func59 rfl Tryd.ntmps59 rfl rfl rfl (fun E => ?_)
 have hlen := U3 l
 have hi := X0X (Xm l).length
 refine X0 ?_; refine JR ?_; refine Z0 ?_; refine JD ?_; refine X0 ?_; refine X0 ?_; refine JR ?_; refine Z0 ?_; refine JD ?_; refine X5 ?_
 refine XR (fun i : Nat => i ≤ l.length) (fun i => ⟨36, [(0, .d (.sl 5 (Xm l))), (1, .d (.sl 5 (Xm l))), (5, ai i)], []⟩) (fun i => l.length - i) 0 (by omega)
  (Xg rfl ⟨JL, JL, JL, trivial⟩ trivial) ?_
 intro i hi2
 by_cases hil : i < l.length
 case neg =>
  have hn : ¬ (i : Int) < (Xm l).length := by omega
  refine X0 ?_; refine X0 ?_; refine JR ?_; refine Z1 ?_; refine Z1 ?_; refine Zb ?_; refine Z7 ?_; refine Z1 ?_; refine Zj ?_; refine Zj ?_; refine Zj ?_; refine Zj ?_; refine Zl ?_; refine JD ?_; refine JF ?_
  refine Xt ?_; refine X0 ?_; refine JR ?_; refine Z1 ?_; refine Zb ?_; refine Z1 ?_; refine Zb ?_; refine Z8 (hcon := hi) ?_; refine Z0 ?_; refine JD ?_
  exact X1 ⟨_, St.le_refl _, ⟨rfl, trivial⟩, X2 _⟩
 obtain ⟨x, hx⟩ := XX (l := l) hil
 have hxc : (Xm l)[i]? = some (YK x) := by rw [Vl]; exact Ua hx
 have hc := ih x (List.mem_of_getElem? hx)
 unfold X0h at hc
 have hn : (i : Int) < (Xm l).length := by omega
 obtain ⟨k, n, d, s, q⟩ := x
 simp only [Xh, YK] at hc hxc
 repeat first | refine X0 ?_ | (refine JR ?_; (repeat first | refine Z1 ?_ | refine Z0 ?_ | refine ZI ?_ | refine Zb ?_ | refine Z7 ?_ | refine Zq ?_ | refine Zc ?_ | refine Zi ?_ | refine ZH ?_ | refine Z8 (hcon := hc) ?_); refine JD ?_) | refine JT ?_ | refine JF ?_ | refine X5 ?_ | refine X3 ?_
 exact ⟨i + 1, by omega, by omega, Xg rfl ⟨JL, JL, JL, trivial⟩ trivial⟩
theorem X9p (v : Val) (hl : v.l.length ≤ 9223372036854775807) (ih : ∀ x ∈ v.l, X0h x) : Con Tryd.prog 45 [] [Xh v, Xh v] [] (ai 0) := by
 obtain ⟨k, n, d, s, l⟩ := v
 simp only [Val.l] at hl ih
 have hl := X8V l hl ih
 have hk := X0X k
 have hn := X0X n
 have hd := X0X d
 have hs := Xao s
 refine Xb (xs := [ai 0]) Tryd.func45 rfl Tryd.ntmps45 rfl rfl rfl (fun E => ?_)
 simp only [Xh]
 repeat first | refine X0 ?_ | (refine JR ?_; (repeat first | refine Z1 ?_ | refine Z0 ?_ | refine Zy ?_ | refine Zz ?_ | refine Zq ?_ | refine Zx (γ := 100) ?_ | refine Zx (γ := 101) ?_ | refine Z8 (hcon := hk) ?_ | refine Z8 (hcon := hn) ?_ | refine Z8 (hcon := hd) ?_ | refine Z8 (hcon := hs) ?_ | refine Z8 (hcon := hl) ?_); refine JD ?_) | refine JF ?_ | refine X3 ?_
 exact X1 ⟨_, St.le_refl _, ⟨rfl, trivial⟩, X2 _⟩
theorem X6M (v : Val) (hok : XU v) (hf : Con Tryd.prog 45 [] [Xh v, Xh v] [] (ai 0)) : X0h v := by
 have hv := X4m v hok
 have hn := X6B v hok
 have hcl := X8u v.kind
 have hi := X0X (X0t v.kind)
 have hcmp := X72 (UP v).1 (UP v).2.1
 refine Xb (xs := [ai 0]) Tryd.func26 rfl Tryd.ntmps26 rfl rfl rfl (fun E => ?_)
 generalize UP v = u at *
 generalize X6 8 v = bb at *
 obtain ⟨k, n, d, s, l⟩ := v
 obtain ⟨p, q, is⟩ := u
 simp only [Xh, Val.kind] at hv hn hcl hi hcmp hf ⊢
 generalize X0t k = c at *
 cases bb with
 | false =>
  repeat first | refine X0 ?_ | (refine JR ?_; (repeat first | refine Z1 ?_ | refine Z0 ?_ | refine ZK ?_ | refine ZW ?_ | refine Zp ?_ | refine Zx (γ := 100) ?_ | refine Zx (γ := 101) ?_ | refine Z8 (hcon := hv) ?_ | refine Z8 (hcon := hf) ?_); refine JD ?_) | refine JT ?_ | refine JF ?_ | refine X3 ?_
  exact X1 ⟨_, St.le_refl _, ⟨rfl, trivial⟩, X2 _⟩
 | true =>
  cases is with
  | true =>
   repeat first | refine X0 ?_ | (refine JR ?_; (repeat first | refine Z1 ?_ | refine Z0 ?_ | refine Zy ?_ | refine Zz ?_ | refine ZK ?_ | refine Zq ?_ | refine ZW ?_ | refine Zp ?_ | refine Zr (γ := 102) ?_ | refine Zr (γ := 103) ?_ | refine Zx (γ := 100) ?_ | refine Zx (γ := 101) ?_ | refine Zu ?_ | refine ZC ?_ | refine Z8 (hcon := hv) ?_ | refine Z8 (hcon := hcl) ?_ | refine Z8 (hcon := hi) ?_ | refine Z8 (hcon := hn) ?_ | refine Z8 (hcon := hcmp) ?_); refine JD ?_) | refine JT ?_ | refine JF ?_ | refine X3 ?_
   exact X1 ⟨_, St.le_refl _, ⟨rfl, trivial⟩, X2 _⟩
  | false =>
   repeat first | refine X0 ?_ | (refine JR ?_; (repeat first | refine Z1 ?_ | refine Z0 ?_ | refine Zy ?_ | refine Zz ?_ | refine ZK ?_ | refine Zq ?_ | refine ZW ?_ | refine Zp ?_ | refine Zr (γ := 102) ?_ | refine Zr (γ := 103) ?_ | refine Zx (γ := 100) ?_ | refine Zx (γ := 101) ?_ | refine Zu ?_ | refine ZC ?_ | refine Z8 (hcon := hv) ?_ | refine Z8 (hcon := hcl) ?_ | refine Z8 (hcon := hi) ?_ | refine Z8 (hcon := hn) ?_ | refine Z8 (hcon := hf) ?_); refine JD ?_) | refine JF ?_ | refine X3 ?_
   exact X1 ⟨_, St.le_refl _, ⟨rfl, trivial⟩, X2 _⟩
theorem X5O : ∀ v : Val, XU v → X0h v
 | .mk k n d s l => fun hok => X6M (.mk k n d s l) hok (X9p (.mk k n d s l) (by rw [XU] at hok; exact hok.2.1) fun x hx => X5O x (VS (by rw [XU] at hok; exact hok.2.2) hx))
termination_by v => SizeOf.sizeOf v
decreasing_by
 have h1 := List.sizeOf_lt_of_mem (show x ∈ l from hx)
 simp only [Val.mk.sizeOf_spec]
 omega
end Go.Fw
namespace Go.Fw
open Go Go.Proofs
set_option maxRecDepth 100000
set_option linter.unusedVariables false
set_option linter.unusedSimpArgs false
theorem X8D (v : Val) : Con Tryd.prog 40 [] [Xh v] [] (ab (Vt v)) := by
 refine Xb (xs := [ab (Vt v)]) Tryd.func40 rfl Tryd.ntmps40 rfl rfl rfl (fun E => ?_)
 have hv := Ur v
 unfold Vt
 generalize X6 8 v = b at *
 obtain ⟨k, n, d, s, l⟩ := v
 simp only [Xh, Val.kind] at hv ⊢
 unfold X21
 by_cases h1 : k = 1
 ·rw [decide_eq_true (by omega), Bool.true_and]
  cases b with
  | true =>
   refine X0 ?_; refine JR ?_; refine Zx (γ := 100) ?_; refine Z0 ?_; refine JD ?_; refine X0 ?_; refine JR ?_; refine Zy ?_; refine Zz ?_; refine Zs ?_; refine Z1 ?_; refine Zj ?_; refine Zj ?_; refine Zj ?_
   refine Zi ?_; refine Z1 ?_; refine Zj ?_; refine Zj ?_; refine Zj ?_; refine Zi ?_; refine Z1 ?_; refine ZK ?_; refine Z8 (hcon := hv) ?_; refine Zi ?_; refine Z0 ?_; refine JD ?_
   first | exact X1 ⟨_, St.le_refl _, ⟨rfl, trivial⟩, X2 _⟩ | exact X1 ⟨_, Xi 2 (y := ab true) (AVal.le_of_eq (by refine Eq.trans (b := ab (decide _)) rfl ?_; exact congrArg ab (by simp; omega))), ⟨rfl, trivial⟩, X2 _⟩ | fail
  | false =>
   refine X0 ?_; refine JR ?_; refine Zx (γ := 100) ?_; refine Z0 ?_; refine JD ?_; refine X0 ?_; refine JR ?_; refine Zy ?_; refine Zz ?_; refine Zs ?_; refine Z1 ?_; refine Zj ?_; refine Zj ?_; refine Zj ?_
   refine Zi ?_; refine Z1 ?_; refine Zj ?_; refine Zj ?_; refine Zj ?_; refine Zi ?_; refine Z1 ?_; refine ZK ?_; refine Z8 (hcon := hv) ?_; refine Zi ?_; refine Z0 ?_; refine JD ?_
   first | exact X1 ⟨_, St.le_refl _, ⟨rfl, trivial⟩, X2 _⟩ | exact X1 ⟨_, Xi 2 (y := ab false) (AVal.le_of_eq (by refine Eq.trans (b := ab (decide _)) rfl ?_; exact congrArg ab (by simp; omega))), ⟨rfl, trivial⟩, X2 _⟩ | fail
 by_cases h2 : k = 2
 ·rw [decide_eq_true (by omega), Bool.true_and]
  cases b with
  | true =>
   refine X0 ?_; refine JR ?_; refine Zx (γ := 100) ?_; refine Z0 ?_; refine JD ?_; refine X0 ?_; refine JR ?_; refine Zy ?_; refine Zz ?_; refine Zs ?_; refine Z1 ?_; refine Zy ?_; refine Zz ?_; refine Zs ?_
   refine Zl ?_; refine Z1 ?_; refine Zj ?_; refine Zj ?_; refine Zj ?_; refine Zi ?_; refine Z1 ?_; refine ZK ?_; refine Z8 (hcon := hv) ?_; refine Zi ?_; refine Z0 ?_; refine JD ?_
   first | exact X1 ⟨_, St.le_refl _, ⟨rfl, trivial⟩, X2 _⟩ | exact X1 ⟨_, Xi 2 (y := ab true) (AVal.le_of_eq (by refine Eq.trans (b := ab (decide _)) rfl ?_; exact congrArg ab (by simp; omega))), ⟨rfl, trivial⟩, X2 _⟩ | fail
  | false =>
   refine X0 ?_; refine JR ?_; refine Zx (γ := 100) ?_; refine Z0 ?_; refine JD ?_; refine X0 ?_; refine JR ?_; refine Zy ?_; refine Zz ?_; refine Zs ?_; refine Z1 ?_; refine Zy ?_; refine Zz ?_; refine Zs ?_
   refine Zl ?_; refine Z1 ?_; refine Zj ?_; refine Zj ?_; refine Zj ?_; refine Zi ?_; refine Z1 ?_; refine ZK ?_; refine Z8 (hcon := hv) ?_; refine Zi ?_; refine Z0 ?_; refine JD ?_
   first | exact X1 ⟨_, St.le_refl _, ⟨rfl, trivial⟩, X2 _⟩ | exact X1 ⟨_, Xi 2 (y := ab false) (AVal.le_of_eq (by refine Eq.trans (b := ab (decide _)) rfl ?_; exact congrArg ab (by simp; omega))), ⟨rfl, trivial⟩, X2 _⟩ | fail
 by_cases h4 : k = 4
 ·rw [decide_eq_true (by omega), Bool.true_and]
  cases b with
  | true =>
   refine X0 ?_; refine JR ?_; refine Zx (γ := 100) ?_; refine Z0 ?_; refine JD ?_; refine X0 ?_; refine JR ?_; refine Zy ?_; refine Zz ?_; refine Zs ?_; refine Z1 ?_; refine Zy ?_; refine Zz ?_; refine Zs ?_
   refine Zl ?_; refine Z1 ?_; refine Zy ?_; refine Zz ?_; refine Zs ?_; refine Zl ?_; refine Z1 ?_; refine ZK ?_; refine Z8 (hcon := hv) ?_; refine Zi ?_; refine Z0 ?_; refine JD ?_
   first | exact X1 ⟨_, St.le_refl _, ⟨rfl, trivial⟩, X2 _⟩ | exact X1 ⟨_, Xi 2 (y := ab true) (AVal.le_of_eq (by refine Eq.trans (b := ab (decide _)) rfl ?_; exact congrArg ab (by simp; omega))), ⟨rfl, trivial⟩, X2 _⟩ | fail
  | false =>
   refine X0 ?_; refine JR ?_; refine Zx (γ := 100) ?_; refine Z0 ?_; refine JD ?_; refine X0 ?_; refine JR ?_; refine Zy ?_; refine Zz ?_; refine Zs ?_; refine Z1 ?_; refine Zy ?_; refine Zz ?_; refine Zs ?_
   refine Zl ?_; refine Z1 ?_; refine Zy ?_; refine Zz ?_; refine Zs ?_; refine Zl ?_; refine Z1 ?_; refine ZK ?_; refine Z8 (hcon := hv) ?_; refine Zi ?_; refine Z0 ?_; refine JD ?_
   first | exact X1 ⟨_, St.le_refl _, ⟨rfl, trivial⟩, X2 _⟩ | exact X1 ⟨_, Xi 2 (y := ab false) (AVal.le_of_eq (by refine Eq.trans (b := ab (decide _)) rfl ?_; exact congrArg ab (by simp; omega))), ⟨rfl, trivial⟩, X2 _⟩ | fail
 rw [decide_eq_false (by omega), Bool.false_and]
 refine X0 ?_; refine JR ?_; refine Zx (γ := 100) ?_; refine Z0 ?_; refine JD ?_; refine X0 ?_; refine JR ?_; refine Zy ?_; refine Zz ?_; refine Zs ?_; refine Z1 ?_; refine Zy ?_; refine Zz ?_; refine Zs ?_
 refine Zl ?_; refine Z1 ?_; refine Zy ?_; refine Zz ?_; refine Zs ?_; refine Zl ?_; refine Z1 ?_; refine Zj ?_; refine Zj ?_; refine Zl ?_; refine Z0 ?_; refine JD ?_
 first | exact X1 ⟨_, St.le_refl _, ⟨rfl, trivial⟩, X2 _⟩ | exact X1 ⟨_, Xi 2 (y := ab false) (AVal.le_of_eq (by refine Eq.trans (b := ab (decide _)) rfl ?_; exact congrArg ab (by simp; omega))), ⟨rfl, trivial⟩, X2 _⟩ | fail
end Go.Fw
