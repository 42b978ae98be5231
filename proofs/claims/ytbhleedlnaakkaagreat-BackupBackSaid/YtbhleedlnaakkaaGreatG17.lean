/- Changes and rules put: the program's. -/
import Derived.Test.YtbhleedlnaakkaaGreatG16
set_option maxHeartbeats 16000000
namespace Go.Fw
open Go Go.Proofs
set_option maxRecDepth 100000
set_option linter.unusedVariables false
set_option linter.unusedSimpArgs false
abbrev cS (s : List UInt8) : List D := [.v (.string (X5 s))]
def VN (l : List (List UInt8)) : List UInt8 := (l.map Xz).flatten
theorem XfY {l : List (List UInt8)} {i : Nat} {x : List UInt8} (h : l[i]? = some x) : VN (l.take (i + 1)) = VN (l.take i) ++ Xz x := by
 unfold VN
 rw [List.take_add_one, h]
 simp
theorem Ug {s : List UInt8} (h : s.length ≤ 20) : (Xz s).length ≤ 30 := by
 have := X8M (n := s.length) (by omega)
 unfold Xz
 rw [List.length_append]
 omega
theorem Xad : ∀ {l : List (List UInt8)}, (∀ x ∈ l, x.length ≤ 20) → (VN l).length ≤ 30 * l.length
 | [], _ => by simp [VN]
 | x :: r, h => by
  have h1 := Ug (h x (by simp))
  have h2 := Xad (l := r) fun y hy => h y (by simp [hy])
  unfold VN at *
  simp only [List.map_cons, List.flatten_cons, List.length_append, List.length_cons]
  omega
theorem Xep (r : Rul) (h : YW r = 0) (hn : -9223372036854775808 ≤ r.n ∧ r.n ≤ 9223372036854775807) (hl : r.name.length ≤ 20 ∧ r.key.length ≤ 20 ∧ r.src.length ≤ 20 ∧ r.dst.length ≤ 20) (hk : 1 ≤ r.kind ∧ r.kind ≤ 7) :
  Con Tryz.prog 100 [] [XW r] [(130, .row 1 ((UA r).map X6))] (.own 130 ((UA r).map X6).length) := by
 obtain ⟨k, n, name, key, src, dst⟩ := r
 simp only at hn hl hk
 obtain ⟨m, rfl⟩ : ∃ m : Nat, k = m := ⟨k.toNat, by omega⟩
 simp only [XW] at *
 clear h
 refine X9 (xs := [.own 130 ((UA ⟨m, n, name, key, src, dst⟩).map X6).length]) Tryz.func100 rfl Tryz.ntmps100 rfl rfl rfl (fun E => ?_)
 have e8 : n8 (m % 256) = n8 (UInt8.ofNat m).toNat := by rw [UL (by omega), Nat.mod_eq_of_lt (by omega)]
 have hL : ∀ x ∈ [name, key, src, dst], x.length ≤ 20 := by
  intro x hx
  simp only [List.mem_cons, List.not_mem_nil, or_false] at hx
  rcases hx with rfl | rfl | rfl | rfl <;> omega
 have hput : UA ⟨m, n, name, key, src, dst⟩ = (UInt8.ofNat m :: VN [name, key, src, dst]) ++ XP n := by
  unfold UA VN
  simp
 have hpi := X1E n hn
 have hpl := X21 hn
 rw [hput]
 clear hput
 refine X0 ?_; refine JR ?_; refine ZA (γ := 100) ?_; refine Z0 ?_; refine JD ?_; refine X0 ?_; refine JR ?_; refine ZB ?_; refine ZC ?_
 refine Z3 (u := nj m) (r := n8 (UInt8.ofNat m).toNat) ?_ (hr := by exact by rw [← e8]; exact YJ rfl rfl); refine ZZ (γ := 130) ?_; refine Z0 ?_; refine JD ?_; refine X0 ?_; refine X0 ?_; refine JR ?_
 refine ZB ?_; refine ZC ?_; refine ZB ?_; refine ZC ?_; refine ZB ?_; refine ZC ?_; refine ZB ?_; refine ZC ?_; refine Z5 ?_; refine Zd ?_; refine Z1 ?_; refine JD ?_; refine X4 ?_
 generalize hLL : [name, key, src, dst] = L at *
 have hL4 : L.length = 4 := by rw [← hLL]; rfl
 have hlm : (L.map cS).length = L.length := by simp
 refine Xy (fun i : Nat => i ≤ L.length) (fun i => ⟨34, [(1, .ptr 100 0), (3, .own 130 ((UInt8.ofNat m :: VN (L.take i)).map X6).length), (18, .d (.sl 1 (L.map cS))), (19, ai (L.map cS).length), (20, ai i)],
   [(100, .box [ai m, ai n, .d (.v (.string (X5 name))), .d (.v (.string (X5 key))), .d (.v (.string (X5 src))), .d (.v (.string (X5 dst)))]), (130, .row 1 ((UInt8.ofNat m :: VN (L.take i)).map X6))]⟩) (fun i => L.length - i) 0 (by omega)
  (by subst hLL; exact X8 rfl ⟨JL, JL, JL, JL, JL, trivial⟩ ⟨rfl, rfl, trivial⟩) ?_
 intro i hi
 have hlen : ((UInt8.ofNat m :: VN (L.take i)).map X6).length ≤ 200 := by
  have h1 := Xad (l := L.take i) fun x hx => hL x (List.mem_of_mem_take hx)
  have h2 : (L.take i).length ≤ 4 := by simp; omega
  simp only [List.length_map, List.length_cons]
  omega
 by_cases hil : i < L.length
 case neg =>
  obtain rfl : i = L.length := by omega
  rw [List.take_length] at hlen ⊢
  have hnn : ¬ ((L.length : Nat) : Int) < (L.map cS).length := by omega
  generalize UInt8.ofNat m :: VN L = B at *
  generalize XP n = w at *
  refine X0 ?_; refine JR ?_; refine Z8 ?_; refine JD ?_; refine X0 ?_; refine JF ?_; refine Xj ?_; refine X0 ?_; refine JR ?_; refine Z1 ?_; refine ZB ?_; refine ZC ?_; refine Z9 (hcon := hpi) ?_
  refine Z6 ?_; refine Z0 ?_; refine JD ?_
  refine X1 ⟨_, Xh 2 (y := .own 130 ((B ++ w).map X6).length) (AVal.le_of_eq ?_), ⟨rfl, trivial⟩, Xd ⟨?_, trivial⟩⟩
  ·refine Eq.trans (b := AVal.own 130 (_ + _)) rfl ?_
   congr 1
   simp only [List.length_append, List.length_map] <;> omega
  ·refine Eq.trans (b := AObj.row 1 (_ ++ _)) rfl ?_
   simp only [List.map_append]
 have hnn : (i : Int) < (L.map cS).length := by omega
 obtain ⟨x, hx⟩ := Xu (l := L) hil
 have hxm : (L.map cS)[i]? = some (cS x) := XS hx
 have hxl := hL x (List.mem_of_getElem? hx)
 have hps := X2T x (by omega)
 have hpsl := Ug hxl
 have htk := XfY hx
 generalize Xz x = w at *
 refine X0 ?_; refine JR ?_; refine Z8 ?_; refine JD ?_; refine X0 ?_; refine JT ?_; refine X2 ?_; refine X0 ?_; refine X4 ?_; refine X0 ?_; refine JR ?_; refine Zj ?_; refine Zk ?_
 refine Z0 ?_; refine JD ?_; refine JR ?_; refine Z1 ?_; refine Z1 ?_; refine Z9 (hcon := hps) ?_; refine Z6 ?_; refine Z0 ?_; refine JD ?_; refine JR ?_; refine Zb ?_; refine Z1 ?_; refine JD ?_
 refine ⟨i + 1, by omega, by omega, ?_⟩
 try dsimp only
 rw [htk]
 refine X8 rfl ⟨JL, (by refine AVal.le_of_eq ?_; refine Eq.trans (b := AVal.own 130 (_ + _)) rfl ?_; congr 1; simp only [List.length_append, List.length_map, List.length_cons] <;> omega), JL, JL, JL, trivial⟩ ⟨rfl, ?_, trivial⟩
 refine Eq.trans (b := AObj.row 1 (_ ++ _)) rfl ?_
 simp only [List.map_append, List.map_cons, List.cons_append]
theorem X4z {s : List UInt8} (h : XG s = true) : s.length ≤ 20 := by
 unfold XG at h
 simp at h
 omega
theorem X29 {r : Rul} (h : YW r = 0) : (-9223372036854775808 ≤ r.n ∧ r.n ≤ 9223372036854775807) ∧ (r.name.length ≤ 20 ∧ r.key.length ≤ 20 ∧ r.src.length ≤ 20 ∧ r.dst.length ≤ 20) ∧ (1 ≤ r.kind ∧ r.kind ≤ 7) := by
 rw [X5G] at h
 unfold X17 at h
 split at h
 ·omega
 rename_i h1
 split at h
 ·omega
 rename_i h2
 split at h
 ·omega
 rename_i h3
 have i1 : 1 ≤ r.kind ∧ r.kind ≤ 7 := by
  cases hd : decide (1 ≤ r.kind ∧ r.kind ≤ 7) with
  | true => exact of_decide_eq_true hd
  | false => exact absurd (.inl hd) h1
 have i2 : Vf r.kind r.n = true := by
  cases hd : Vf r.kind r.n with
  | true => rfl
  | false => exact absurd (.inr hd) h1
 have nm : XG r.name = true := by
  cases hd : XG r.name with
  | true => rfl
  | false => exact absurd (.inl hd) h3
 have ky : r.key.length ≤ 20 := by
  by_cases hk : V2 r.kind = true
  ·refine X4z (s := r.key) ?_
   cases hd : XG r.key with
   | true => rfl
   | false => exact absurd (.inr (.inl ⟨hk, hd⟩)) h3
  ·by_cases he : r.key = []
   ·rw [he]; simp
   ·exact absurd (.inl ⟨by simpa using hk, he⟩) h2
 have sr : r.src.length ≤ 20 := by
  by_cases he : r.src = []
  ·rw [he]; simp
  ·refine X4z (s := r.src) ?_
   cases hd : XG r.src with
   | true => rfl
   | false => exact absurd (.inr (.inr (.inl ⟨he, hd⟩))) h3
 have ds : r.dst.length ≤ 20 := by
  by_cases he : r.dst = []
  ·rw [he]; simp
  ·refine X4z (s := r.dst) ?_
   cases hd : XG r.dst with
   | true => rfl
   | false => exact absurd (.inr (.inr (.inr ⟨he, hd⟩))) h3
 refine ⟨?_, ⟨X4z nm, ky, sr, ds⟩, i1⟩
 unfold Vf at i2
 split at i2
 ·have := of_decide_eq_true i2; omega
 ·split at i2
  ·have := of_decide_eq_true i2; omega
  ·have := of_decide_eq_true i2; omega
theorem Xd0 (r : Rul) (h : YW r = 0) : Con Tryz.prog 100 [] [XW r] [] (.d (Xa (UA r))) :=
 (Xep r h (X29 h).1 (X29 h).2.1 (X29 h).2.2).data (by simp)
theorem Xfv (r : Rul) : Con Tryz.prog 44 [] [XW r] [] (.d (Xa (XN r))) := by
 refine X9 (xs := [.d (Xa (XN r))]) Tryz.func44 rfl Tryz.ntmps44 rfl rfl rfl (fun E => ?_)
 have hc := X5n r
 unfold XN
 by_cases h : YW r = 0
 ·have hp := Xd0 r h
  rw [h] at hc
  rw [if_pos h]
  generalize UA r = w at *
  obtain ⟨k, n, name, key, src, dst⟩ := r
  simp only [XW] at *
  refine X0 ?_; refine JR ?_; refine ZA (γ := 100) ?_; refine Z0 ?_; refine JD ?_; refine X0 ?_; refine X0 ?_; refine JR ?_; refine ZL ?_; refine Z9 (hcon := hc) ?_; refine Zv ?_; refine JD ?_; refine JF ?_
  refine X2 ?_; refine X0 ?_; refine JR ?_; refine ZL ?_; refine Z9 (hcon := hp) ?_; refine Z0 ?_; refine JD ?_
  exact X1 ⟨_, St.le_refl _, ⟨rfl, trivial⟩, X3 _⟩
 ·rw [if_neg h]
  generalize YW r = e at *
  obtain ⟨k, n, name, key, src, dst⟩ := r
  simp only [XW] at *
  refine X0 ?_; refine JR ?_; refine ZA (γ := 100) ?_; refine Z0 ?_; refine JD ?_; refine X0 ?_; refine X0 ?_; refine JR ?_; refine ZL ?_; refine Z9 (hcon := hc) ?_; refine Zv ?_; refine JD ?_; refine JT ?_
  refine X0 ?_; refine JR ?_; refine Z0 ?_; refine JD ?_
  exact X1 ⟨_, Xh 2 (y := .d (Xa [])) (AVal.le_nil 1), ⟨rfl, trivial⟩, X3 _⟩
end Go.Fw
namespace Go.Fw
open Go Go.Proofs
set_option maxRecDepth 100000
set_option linter.unusedVariables false
set_option linter.unusedSimpArgs false
abbrev oRd (b : List UInt8) (a e : Int) : AObj := .box [.d (Xa b), ai a, ai e]
theorem Xay (b : List UInt8) (a e x : Int) : Con Tryz.prog 246 [(0, oRd b a e)] [.ptr 0 0, ai x] [(0, oRd b a (if e = 0 then x else e))] (.tup []) := by
 refine X9 (xs := []) Tryz.func246 rfl Tryz.ntmps246 rfl rfl rfl (fun E => ?_)
 by_cases h : e = 0
 ·rw [if_pos h]
  refine X0 ?_; refine JR ?_; refine Z1 ?_; refine Z01 ?_; refine ZB ?_; refine ZC ?_; refine Zl ?_; refine JD ?_; refine JT ?_; refine JR ?_; refine Z1 ?_; refine Z1 ?_; refine Z01 ?_; refine ZB ?_; refine Zy ?_
  refine JD ?_
  exact (show Yo _ _ _ _ _ from ⟨_, St.le_refl _, trivial, Xd ⟨rfl, trivial⟩⟩)
 ·rw [if_neg h]
  refine X0 ?_; refine JR ?_; refine Z1 ?_; refine Z01 ?_; refine ZB ?_; refine ZC ?_; refine Zl ?_; refine JD ?_; refine JF ?_; refine X2 ?_
  exact (show Yo _ _ _ _ _ from ⟨_, St.le_refl _, trivial, Xd ⟨rfl, trivial⟩⟩)
theorem X2K (b : List UInt8) (a e : Int) (hb : b.length ≤ 281474976710656) : Con Tryz.prog 231 [(0, oRd b a e)] [.ptr 0 0] [(0, if e = 0 then oRd b (Xq b a).2.1 (Xq b a).2.2 else oRd b a e)] (ai (if e = 0 then (Xq b a).1 else 0)) := by
 refine X9 (xs := [ai (if e = 0 then (Xq b a).1 else 0)]) Tryz.func231 rfl Tryz.ntmps231 rfl rfl rfl (fun E => ?_)
 by_cases h : e = 0
 ·rw [if_pos h, if_pos h]
  repeat first | refine X0 ?_ | (refine JR ?_; (repeat first | refine Z1 ?_ | refine Z0 ?_ | refine Z01 ?_ | refine ZB ?_ | refine ZC ?_ | refine Zv ?_ | refine Zy ?_ | refine ZF ?_ | refine Z9 (hcon := X7O b a hb) ?_); refine JD ?_) | refine JF ?_ | refine X2 ?_
  exact X1 ⟨_, St.le_refl _, ⟨rfl, trivial⟩, Xd ⟨rfl, trivial⟩⟩
 ·rw [if_neg h, if_neg h]
  refine X0 ?_; refine JR ?_; refine Z0 ?_; refine JD ?_; refine X0 ?_; refine X0 ?_; refine JR ?_; refine Z1 ?_; refine Z01 ?_; refine ZB ?_; refine ZC ?_; refine Zv ?_; refine JD ?_; refine JT ?_
  refine X0 ?_; refine JR ?_; refine Z0 ?_; refine JD ?_
  exact X1 ⟨_, St.le_refl _, ⟨rfl, trivial⟩, Xd ⟨rfl, trivial⟩⟩
end Go.Fw
namespace Go.Fw
open Go Go.Proofs
set_option maxRecDepth 100000
set_option linter.unusedVariables false
set_option linter.unusedSimpArgs false
def rkS (b : List UInt8) (a : Nat) (e limit : Int) : Int × Int × Int :=
 if e ≠ 0 then (0, (a : Int), e) else if b.length ≤ a then (0, (a : Int), 3) else
  if ((((b[a]?).getD 0).toNat : Nat) : Int) < 1 ∨ limit < ((((b[a]?).getD 0).toNat : Nat) : Int) then (0, (a : Int), 2) else ((((b[a]?).getD 0).toNat : Nat), (a : Int) + 1, 0)
theorem Xcd (b : List UInt8) (a : Nat) (e limit : Int) (hb : b.length ≤ 281474976710656) (ha : a ≤ 281474976710656) : Con Tryz.prog 167 [(0, oRd b a e)] [.ptr 0 0, ai limit] [(0, oRd b (rkS b a e limit).2.1 (rkS b a e limit).2.2)] (ai (rkS b a e limit).1) := by
 refine X9 (xs := [ai (rkS b a e limit).1]) Tryz.func167 rfl Tryz.ntmps167 rfl rfl rfl (fun E => ?_)
 have hlm : (b.map X6).length = b.length := by simp
 by_cases he : e = 0
 case neg =>
  rw [show rkS b a e limit = (0, (a : Int), e) by unfold rkS; rw [if_pos he]]
  refine X0 ?_; refine JR ?_; refine Z0 ?_; refine JD ?_; refine X0 ?_; refine X4 ?_; refine X0 ?_; refine JR ?_; refine Z1 ?_; refine Z01 ?_; refine ZB ?_; refine ZC ?_; refine Zv ?_; refine Z0 ?_
  refine JD ?_; refine JT ?_; refine X2 ?_; refine X0 ?_; refine JR ?_; refine Z0 ?_; refine JD ?_
  exact X1 ⟨_, St.le_refl _, ⟨rfl, trivial⟩, Xd ⟨rfl, trivial⟩⟩
 subst he
 by_cases h1 : b.length ≤ a
 ·rw [show rkS b a 0 limit = (0, (a : Int), 3) by unfold rkS; rw [if_neg (by simp), if_pos h1]]
  have h1' : ((b.map X6).length : Int) ≤ a := by omega
  repeat first | refine X0 ?_ | (refine JR ?_; (repeat first | refine Z1 ?_ | refine Z0 ?_ | refine Z01 ?_ | refine ZB ?_ | refine ZC ?_ | refine Zd ?_ | refine Z2 ?_ | refine Zv ?_ | refine Zy ?_); refine JD ?_) | refine JT ?_ | refine JF ?_ | refine X4 ?_
  exact X1 ⟨_, St.le_refl _, ⟨rfl, trivial⟩, Xd ⟨rfl, trivial⟩⟩
 have h1' : ¬ ((b.map X6).length : Int) ≤ a := by omega
 obtain ⟨c, hc⟩ := Xu (l := b) (k := a) (by omega)
 have hrk : rkS b a 0 limit = if ((c.toNat : Nat) : Int) < 1 ∨ limit < ((c.toNat : Nat) : Int) then (0, (a : Int), 2) else (((c.toNat : Nat) : Int), (a : Int) + 1, 0) := by
  unfold rkS; rw [if_neg (by simp), if_neg h1, hc, Option.getD_some]
 have hxm : (b.map X6)[a]? = some (X6 c) := XS hc
 by_cases h2 : ((c.toNat : Nat) : Int) < 1
 ·rw [hrk, if_pos (.inl h2)]
  repeat first | refine X0 ?_ | (refine JR ?_; (repeat first | refine Z1 ?_ | refine Z0 ?_ | refine Z01 ?_ | refine ZB ?_ | refine ZC ?_ | refine Zk ?_ | refine Zd ?_ | refine Z8 ?_ | refine Z2 ?_ | refine Zv ?_ | refine Zy ?_ | refine Zn ?_ | refine Zj ?_ | refine Zo ?_); refine JD ?_) | refine JT ?_ | refine JF ?_ | refine X4 ?_
  exact X1 ⟨_, St.le_refl _, ⟨rfl, trivial⟩, Xd ⟨rfl, trivial⟩⟩
 by_cases h3 : limit < ((c.toNat : Nat) : Int)
 ·rw [hrk, if_pos (.inr h3)]
  repeat first | refine X0 ?_ | (refine JR ?_; (repeat first | refine Z1 ?_ | refine Z0 ?_ | refine Z01 ?_ | refine ZB ?_ | refine ZC ?_ | refine Zk ?_ | refine Zd ?_ | refine Z8 ?_ | refine Zs ?_ | refine Z2 ?_ | refine Zv ?_ | refine Zy ?_ | refine Zq ?_ | refine Zj ?_ | refine ZY ?_); refine JD ?_) | refine JT ?_ | refine JF ?_ | refine X4 ?_
  exact X1 ⟨_, St.le_refl _, ⟨rfl, trivial⟩, Xd ⟨rfl, trivial⟩⟩
 rw [hrk, if_neg (by omega)]
 repeat first | refine X0 ?_ | (refine JR ?_; (repeat first | refine Z4 (op := .sub) (r' := nj a) (u := .int .i64 ((a : Int) + 1)) (v := .int .i64 1) ?_ (hr' := by exact congrArg (Value.int .i64) (show ((a : Int) + 1 - 1) = (a : Int) by omega)) (hr := by exact Ya (by unfold Y7; omega)) | refine Z1 ?_ | refine Z0 ?_ | refine Z01 ?_ | refine ZB ?_ | refine ZC ?_ | refine Zk ?_ | refine Zd ?_ | refine Z8 ?_ | refine Zs ?_ | refine Z2 ?_ | refine Zv ?_ | refine Zb ?_ | refine Zy ?_ | refine Zq ?_ | refine Zj ?_ | refine ZY ?_); refine JD ?_) | refine JF ?_ | refine X4 ?_
 exact X1 ⟨_, St.le_refl _, ⟨rfl, trivial⟩, Xd ⟨rfl, trivial⟩⟩
end Go.Fw
namespace Go.Fw
open Go Go.Proofs
set_option maxRecDepth 100000
set_option linter.unusedVariables false
set_option linter.unusedSimpArgs false
def U8 (k : Int) (u : Int × Int × Int) : Int := if u.2.2 ≠ 0 then u.2.2 else if Ul k u.1 then 2 else 0
theorem Xc7 (b : List UInt8) (a e : Int) (hb : b.length ≤ 281474976710656) : Con Tryz.prog 232 [(0, oRd b a e)] [.ptr 0 0, ai 64, ab false] [(0, oRd b (Xe b a).2.1 (U8 8 (Xe b a)))] (ai (Xe b a).1) := by
 have hu := X3e b a hb
 have hz : (Xe b a).2.2 ≠ 0 → (Xe b a).1 = 0 := by
  intro h; rw [X4j] at h ⊢
  split
  ·rfl
  ·split
   ·rfl
   ·rename_i h1 h2; simp [h1, h2] at h
 generalize Xe b a = u at *
 obtain ⟨n, at_, e'⟩ := u
 simp only at hz
 refine X9 (xs := [ai n]) Tryz.func232 rfl Tryz.ntmps232 rfl rfl rfl (fun E => ?_)
 by_cases h : 64 < n
 ·have he : e' = 0 := by
   by_cases h0 : e' = 0
   ·exact h0
   ·have := hz h0; omega
  subst he
  rw [show U8 8 (n, at_, 0) = 2 by simp [U8, Ul, h]]
  repeat first | refine X0 ?_ | (refine JR ?_; (repeat first | refine Z1 ?_ | refine Z0 ?_ | refine Z01 ?_ | refine ZB ?_ | refine ZC ?_ | refine Zs ?_ | refine Zy ?_ | refine ZF ?_ | refine Zn ?_ | refine Zo ?_ | refine Zp ?_ | refine Z9 (hcon := hu) ?_ | refine Z9 (hcon := Xay b at_ 0 2) ?_); refine JD ?_) | refine JT ?_
  exact X1 ⟨_, St.le_refl _, ⟨rfl, trivial⟩, Xd ⟨rfl, trivial⟩⟩
 ·rw [show U8 8 (n, at_, e') = e' by by_cases h0 : e' = 0 <;> simp [U8, Ul, h, h0]]
  repeat first | refine X0 ?_ | (refine JR ?_; (repeat first | refine Z1 ?_ | refine Z0 ?_ | refine Z01 ?_ | refine ZB ?_ | refine ZC ?_ | refine Zs ?_ | refine Zy ?_ | refine ZF ?_ | refine Zq ?_ | refine Zo ?_ | refine Z9 (hcon := hu) ?_); refine JD ?_) | refine JF ?_ | refine X2 ?_
  exact X1 ⟨_, St.le_refl _, ⟨rfl, trivial⟩, Xd ⟨rfl, trivial⟩⟩
theorem XdD (b : List UInt8) (a e : Int) (hb : b.length ≤ 281474976710656) : Con Tryz.prog 232 [(0, oRd b a e)] [.ptr 0 0, ai 25, ab true] [(0, oRd b (Xe b a).2.1 (U8 7 (Xe b a)))] (ai (Xe b a).1) := by
 have hu := X3e b a hb
 have hz : (Xe b a).2.2 ≠ 0 → (Xe b a).1 = 0 := by
  intro h; rw [X4j] at h ⊢
  split
  ·rfl
  ·split
   ·rfl
   ·rename_i h1 h2; simp [h1, h2] at h
 have hp : 0 ≤ (Xe b a).1 := by
  rw [X4j]
  split
  ·simp
  ·split <;> simp
 generalize Xe b a = u at *
 obtain ⟨n, at_, e'⟩ := u
 simp only at hz hp
 refine X9 (xs := [ai n]) Tryz.func232 rfl Tryz.ntmps232 rfl rfl rfl (fun E => ?_)
 have hf := Xay b at_ e' 2
 by_cases h : 25 < n
 ·have he : e' = 0 := by
   by_cases h0 : e' = 0
   ·exact h0
   ·have := hz h0; omega
  subst he
  rw [show U8 7 (n, at_, 0) = 2 by simp [U8, Ul, h]]
  rw [if_pos rfl] at hf
  repeat first | refine X0 ?_ | (refine JR ?_; (repeat first | refine Z1 ?_ | refine Z0 ?_ | refine Z01 ?_ | refine ZB ?_ | refine ZC ?_ | refine Zs ?_ | refine Zy ?_ | refine ZF ?_ | refine Zn ?_ | refine Zo ?_ | refine Zp ?_ | refine Z9 (hcon := hu) ?_ | refine Z9 (hcon := hf) ?_); refine JD ?_) | refine JT ?_
  exact X1 ⟨_, St.le_refl _, ⟨rfl, trivial⟩, Xd ⟨rfl, trivial⟩⟩
 ·by_cases h2 : n % 2 = 0
  ·rw [show U8 7 (n, at_, e') = if e' = 0 then 2 else e' by simp only [U8, Ul]; by_cases h0 : e' = 0 <;> simp [h0, h2]]
   repeat first | refine X0 ?_ | (refine JR ?_; (repeat first | refine Z1 ?_ | refine Z0 ?_ | refine Z01 ?_ | refine ZB ?_ | refine ZC ?_ | refine Zs ?_ | refine Zl ?_ | refine ZJ ?_ | refine Zy ?_ | refine ZF ?_ | refine Zn ?_ | refine Zq ?_ | refine Z9 (hcon := hu) ?_ | refine Z9 (hcon := hf) ?_); refine JD ?_) | refine JT ?_
   exact X1 ⟨_, St.le_refl _, ⟨rfl, trivial⟩, Xd ⟨rfl, trivial⟩⟩
  ·rw [show U8 7 (n, at_, e') = e' by by_cases h0 : e' = 0 <;> simp [U8, Ul, h, h2, h0]]
   repeat first | refine X0 ?_ | (refine JR ?_; (repeat first | refine Z1 ?_ | refine Z0 ?_ | refine Z01 ?_ | refine ZB ?_ | refine ZC ?_ | refine Zs ?_ | refine Zl ?_ | refine ZJ ?_ | refine Zy ?_ | refine ZF ?_ | refine Zn ?_ | refine Zq ?_ | refine Z9 (hcon := hu) ?_); refine JD ?_) | refine JF ?_ | refine X2 ?_
   exact X1 ⟨_, St.le_refl _, ⟨rfl, trivial⟩, Xd ⟨rfl, trivial⟩⟩
def V4 (b : List UInt8) (a : Nat) (m : Nat) (want : Int) : Int × Int × Int :=
 if a = b.length then (0, (a : Int), 3) else let k : Int := ((b[a]?).getD 0).toNat
  if 8 < k ∨ (k = 8 ∧ m = 0) ∨ (want ≠ 0 ∧ k ≠ want) then (0, (a : Int), 2) else (k, (a : Int) + 1, 0)
theorem XdT (b : List UInt8) (a m : Nat) (want : Int) (hm : m ≤ 8) (ha : a ≤ b.length) (hb : b.length ≤ 281474976710656) : Con Tryz.prog 230 [(0, oRd b a 0)] [.ptr 0 0, ai (8 - m), ai want] [(0, oRd b (V4 b a m want).2.1 (V4 b a m want).2.2)] (ai (V4 b a m want).1) := by
 refine X9 (xs := [ai (V4 b a m want).1]) Tryz.func230 rfl Tryz.ntmps230 rfl rfl rfl (fun E => ?_)
 by_cases ha' : a = b.length
 ·rw [show V4 b a m want = (0, (a : Int), 3) by unfold V4; rw [if_pos ha']]
  have hai : (a : Int) = b.length := by omega
  repeat first | refine X0 ?_ | (refine JR ?_; (repeat first | refine Z1 ?_ | refine Z0 ?_ | refine Z01 ?_ | refine ZB ?_ | refine ZC ?_ | refine Zd ?_ | refine Zl ?_ | refine Zv ?_ | refine Zy ?_); refine JD ?_) | refine JT ?_ | refine JF ?_ | refine X2 ?_
  exact X1 ⟨_, St.le_refl _, ⟨rfl, trivial⟩, Xd ⟨rfl, trivial⟩⟩
 obtain ⟨c, hc⟩ := Xu (l := b) (k := a) (by omega)
 have e1 : V4 b a m want = if 8 < (c.toNat : Int) ∨ ((c.toNat : Int) = 8 ∧ m = 0) ∨ (want ≠ 0 ∧ (c.toNat : Int) ≠ want) then (0, (a : Int), 2) else ((c.toNat : Int), (a : Int) + 1, 0) := by
  unfold V4; rw [if_neg ha', hc]; rfl
 have hai : (a : Int) ≠ b.length := by omega
 by_cases h8 : 8 < (c.toNat : Int)
 ·rw [e1, if_pos (.inl h8)]
  repeat first | refine X0 ?_ | (refine JR ?_; (repeat first | refine Z1 ?_ | refine Z0 ?_ | refine Z01 ?_ | refine ZB ?_ | refine ZC ?_ | refine Zk ?_ | refine Zd ?_ | refine Zs ?_ | refine Zl ?_ | refine Zv ?_ | refine Zy ?_ | refine Zn ?_ | refine Zj ?_ | refine ZY ?_ | refine Zo ?_ | refine Zp ?_); refine JD ?_) | refine JT ?_ | refine JF ?_ | refine X2 ?_
  exact X1 ⟨_, St.le_refl _, ⟨rfl, trivial⟩, Xd ⟨rfl, trivial⟩⟩
 by_cases hw : want ≠ 0 ∧ (c.toNat : Int) ≠ want
 ·rw [e1, if_pos (.inr (.inr hw))]
  obtain ⟨hw1, hw2⟩ := hw
  by_cases hk : (c.toNat : Int) = 8
  ·by_cases hm0 : m = 0
   ·have : (8 : Int) - m ≥ 8 := by omega
    repeat first | refine X0 ?_ | (refine JR ?_; (repeat first | refine Z1 ?_ | refine Z0 ?_ | refine Z01 ?_ | refine ZB ?_ | refine ZC ?_ | refine Zk ?_ | refine Zd ?_ | refine Zs ?_ | refine Z2 ?_ | refine Zl ?_ | refine Zv ?_ | refine Zy ?_ | refine Zn ?_ | refine Zq ?_ | refine Zj ?_ | refine ZY ?_ | refine Zo ?_ | refine Zp ?_); refine JD ?_) | refine JT ?_ | refine JF ?_ | refine X2 ?_
    exact X1 ⟨_, St.le_refl _, ⟨rfl, trivial⟩, Xd ⟨rfl, trivial⟩⟩
   ·have : ¬ (8 : Int) - m ≥ 8 := by omega
    repeat first | refine X0 ?_ | (refine JR ?_; (repeat first | refine Z1 ?_ | refine Z0 ?_ | refine Z01 ?_ | refine ZB ?_ | refine ZC ?_ | refine Zk ?_ | refine Zd ?_ | refine Zs ?_ | refine Z2 ?_ | refine Zl ?_ | refine Zv ?_ | refine Zy ?_ | refine Zn ?_ | refine Zq ?_ | refine Zj ?_ | refine ZY ?_); refine JD ?_) | refine JT ?_ | refine JF ?_ | refine X2 ?_
    exact X1 ⟨_, St.le_refl _, ⟨rfl, trivial⟩, Xd ⟨rfl, trivial⟩⟩
  ·repeat first | refine X0 ?_ | (refine JR ?_; (repeat first | refine Z1 ?_ | refine Z0 ?_ | refine Z01 ?_ | refine ZB ?_ | refine ZC ?_ | refine Zk ?_ | refine Zd ?_ | refine Zs ?_ | refine Zl ?_ | refine Zv ?_ | refine Zy ?_ | refine Zn ?_ | refine Zq ?_ | refine Zj ?_ | refine ZY ?_ | refine Zo ?_); refine JD ?_) | refine JT ?_ | refine JF ?_ | refine X2 ?_
   exact X1 ⟨_, St.le_refl _, ⟨rfl, trivial⟩, Xd ⟨rfl, trivial⟩⟩
 by_cases hk : (c.toNat : Int) = 8
 ·by_cases hm0 : m = 0
  ·rw [e1, if_pos (.inr (.inl ⟨hk, hm0⟩))]
   have : (8 : Int) - m ≥ 8 := by omega
   repeat first | refine X0 ?_ | (refine JR ?_; (repeat first | refine Z1 ?_ | refine Z0 ?_ | refine Z01 ?_ | refine ZB ?_ | refine ZC ?_ | refine Zk ?_ | refine Zd ?_ | refine Zs ?_ | refine Z2 ?_ | refine Zl ?_ | refine Zv ?_ | refine Zy ?_ | refine Zn ?_ | refine Zq ?_ | refine Zj ?_ | refine ZY ?_ | refine Zo ?_ | refine Zp ?_); refine JD ?_) | refine JT ?_ | refine JF ?_ | refine X2 ?_
   exact X1 ⟨_, St.le_refl _, ⟨rfl, trivial⟩, Xd ⟨rfl, trivial⟩⟩
  ·rw [e1, if_neg (by omega)]
   have : ¬ (8 : Int) - m ≥ 8 := by omega
   by_cases hw0 : want = 0
   ·repeat first | refine X0 ?_ | (refine JR ?_; (repeat first | refine Z1 ?_ | refine Z0 ?_ | refine Z01 ?_ | refine ZB ?_ | refine ZC ?_ | refine Zk ?_ | refine Zd ?_ | refine Zs ?_ | refine Z2 ?_ | refine Zl ?_ | refine Zv ?_ | refine Zb ?_ | refine Zy ?_ | refine Zn ?_ | refine Zq ?_ | refine Zj ?_ | refine ZY ?_ | refine Zo ?_); refine JD ?_) | refine JF ?_ | refine X2 ?_
    exact X1 ⟨_, St.le_refl _, ⟨rfl, trivial⟩, Xd ⟨rfl, trivial⟩⟩
   ·have hw1 : (c.toNat : Int) = want := by omega
    repeat first | refine X0 ?_ | (refine JR ?_; (repeat first | refine Z1 ?_ | refine Z0 ?_ | refine Z01 ?_ | refine ZB ?_ | refine ZC ?_ | refine Zk ?_ | refine Zd ?_ | refine Zs ?_ | refine Z2 ?_ | refine Zl ?_ | refine Zv ?_ | refine Zb ?_ | refine Zy ?_ | refine Zn ?_ | refine Zq ?_ | refine Zj ?_ | refine ZY ?_); refine JD ?_) | refine JF ?_ | refine X2 ?_
    exact X1 ⟨_, St.le_refl _, ⟨rfl, trivial⟩, Xd ⟨rfl, trivial⟩⟩
 ·rw [e1, if_neg (by omega)]
  by_cases hw0 : want = 0
  ·repeat first | refine X0 ?_ | (refine JR ?_; (repeat first | refine Z1 ?_ | refine Z0 ?_ | refine Z01 ?_ | refine ZB ?_ | refine ZC ?_ | refine Zk ?_ | refine Zd ?_ | refine Zs ?_ | refine Zl ?_ | refine Zv ?_ | refine Zb ?_ | refine Zy ?_ | refine Zq ?_ | refine Zj ?_ | refine ZY ?_ | refine Zo ?_); refine JD ?_) | refine JF ?_ | refine X2 ?_
   exact X1 ⟨_, St.le_refl _, ⟨rfl, trivial⟩, Xd ⟨rfl, trivial⟩⟩
  ·have hw1 : (c.toNat : Int) = want := by omega
   repeat first | refine X0 ?_ | (refine JR ?_; (repeat first | refine Z1 ?_ | refine Z0 ?_ | refine Z01 ?_ | refine ZB ?_ | refine ZC ?_ | refine Zk ?_ | refine Zd ?_ | refine Zs ?_ | refine Zl ?_ | refine Zv ?_ | refine Zb ?_ | refine Zy ?_ | refine Zn ?_ | refine Zq ?_ | refine Zj ?_ | refine ZY ?_ | refine Zo ?_); refine JD ?_) | refine JF ?_ | refine X2 ?_
   exact X1 ⟨_, St.le_refl _, ⟨rfl, trivial⟩, Xd ⟨rfl, trivial⟩⟩
end Go.Fw
namespace Go.Fw
open Go Go.Proofs
set_option maxRecDepth 100000
set_option linter.unusedVariables false
set_option linter.unusedSimpArgs false
def X0b (b : List UInt8) (a : Nat) (nest want : Int) (r : Val × Int × Int) : Prop :=
 Con Tryz.prog 213 [(0, oRd b a 0)] [.ptr 0 0, ai nest, ai want] [(0, oRd b r.2.1 r.2.2)] (Xv r.1)
def YF (c : Val × Int × Int) : Val × Int × Int := if c.2.2 = 0 ∧ X7 8 c.1 = false then (c.1, c.2.1, 2) else c
theorem X3F (l : List Val) (k n d : Int) (s : List UInt8) (q : List Val) : XJ l ++ [[.v (.int .i64 k), .v (.int .i64 n), .v (.int .i64 d), .v (.string (X5 s)), .sl 5 (XJ q)]] = XJ (l ++ [.mk k n d s q]) := by
 rw [X14 l, X14 (l ++ _), List.map_append, List.map_cons, List.map_nil, YO]
theorem Xeq {b : List UInt8} {a m : Nat} {want : Int} (h : (V4 b a m want).2.2 ≠ 0) (gl gp : Nat → Int → Val × Int × Int) : Ud gl gp m b a want = (zV, (V4 b a m want).2.1, (V4 b a m want).2.2) := by
 unfold V4 at *
 unfold Ud
 by_cases ha : a = b.length
 ·rw [if_pos ha] at *; rw [if_pos (by omega)]
 ·rw [if_neg ha] at *
  rw [if_neg (by omega), Int.toNat_natCast]
  simp only at *
  split
  ·rfl
  ·rename_i h2; rw [if_neg h2] at h; simp at h
theorem Xdc {b : List UInt8} {a m : Nat} {want : Int} (ha : a ≤ b.length) (h : (V4 b a m want).2.2 = 0) :
  ∃ k : Nat, V4 b a m want = ((k : Int), (a : Int) + 1, 0) ∧ a < b.length ∧ k ≤ 8 ∧ (k = 8 → m ≠ 0) ∧ (want ≠ 0 → (k : Int) = want) ∧ ∀ gl gp, Ud gl gp m b a want = YF (Y8 gl gp b (a + 1) k) := by
 unfold V4 at *
 by_cases ha' : a = b.length
 ·rw [if_pos ha'] at h; simp at h
 rw [if_neg ha'] at *
 simp only at *
 split at h
 ·simp at h
 rename_i h2
 refine ⟨_, by rw [if_neg h2], by omega, by omega, fun h3 h4 => h2 (.inr (.inl ⟨by omega, h4⟩)), fun h3 => Classical.byContradiction fun h4 => h2 (.inr (.inr ⟨h3, h4⟩)), fun gl gp => ?_⟩
 unfold Ud
 rw [if_neg (by omega), Int.toNat_natCast]
 simp only
 rw [if_neg h2]
 rfl
theorem Xhg (b : List UInt8) (m a : Nat) (want : Int) (gl gp : Nat → Int → Val × Int × Int) (R : Val × Int × Int) (hm : m ≤ 8) (ha : a < b.length) (hb : b.length ≤ 281474976710656)
  (hge : ∀ i q : Nat, q ≤ b.length → Uz b (gl i q).2) (hg : ∀ i q : Nat, q ≤ b.length → X0b b q (8 - m + 1) 0 (gl i q))
  (hk : Con Tryz.prog 230 [(0, oRd b a 0)] [.ptr 0 0, ai (8 - m), ai want] [(0, oRd b ((a : Int) + 1) 0)] (ai 8)) (hG : R = YF (Y8 gl gp b (a + 1) 8)) : X0b b a (8 - m) want R := by
 refine X9 (xs := [Xv R.1]) Tryz.func213 rfl Tryz.ntmps213 rfl rfl rfl (fun E => ?_)
 ·have hc := Xc7 b (a + 1) 0 hb
  have hcz : Y8 gl gp b (a + 1) 8 = if U8 8 (Xe b (a + 1)) ≠ 0 then (.mk 8 0 0 [] [], (Xe b (a + 1)).2.1, U8 8 (Xe b (a + 1))) else
    (.mk 8 0 0 [] (XC gl (Xe b (a + 1)).2.1 (Xe b (a + 1)).1.toNat).1, (XC gl (Xe b (a + 1)).2.1 (Xe b (a + 1)).1.toNat).2.1, (XC gl (Xe b (a + 1)).2.1 (Xe b (a + 1)).1.toNat).2.2) := by
   simp only [Y8, U8]
   by_cases e1 : (Xe b (a + 1)).2.2 = 0
   ·by_cases e2 : Ul 8 (Xe b (a + 1)).1 = true <;> simp [e1, e2]
   ·simp [e1]
  have hue := X1A b (a + 1)
  obtain ⟨N, hN⟩ := X2z b (a + 1)
  have hNb : U8 8 (Xe b (a + 1)) = 0 → (Xe b (a + 1)).2.2 = 0 ∧ N ≤ 64 := by
   unfold U8
   rw [hN]
   split
   ·intro h; contradiction
   ·rename_i h1
    split
    ·intro h; simp at h
    ·rename_i h2
     refine fun _ => ⟨Classical.not_not.1 h1, ?_⟩
     simp [Ul] at h2
     omega
  generalize U8 8 (Xe b (a + 1)) = ce at *
  generalize Xe b (a + 1) = u at *
  obtain ⟨n, a2, e2⟩ := u
  simp only at hN
  subst hN
  simp only [Int.toNat_natCast] at hc hcz hue hNb
  by_cases hce : ce = 0
  case neg =>
   rw [if_pos hce] at hcz
   rw [hcz] at hG
   obtain rfl : R = (.mk 8 0 0 [] [], a2, ce) := by rw [hG]; simp [YF, hce]
   repeat first | refine X0 ?_ | (refine JR ?_; (repeat first | refine Z1 ?_ | refine Z0 ?_ | refine Z01 ?_ | refine ZB ?_ | refine ZC ?_ | refine Zl ?_ | refine Zv ?_ | refine Zw (γ := 100) ?_ | refine Zw (γ := 101) ?_ | refine Zy ?_ | refine Zx ?_ | refine Z9 (hcon := hk) ?_ | refine Z9 (hcon := hc) ?_); refine JD ?_) | refine JT ?_ | refine JF ?_ | refine X4 ?_ | refine X2 ?_
   refine Xy (fun _ : Unit => True) (fun _ => ⟨135, [(0, .ptr 0 0), (1, ai (8 - m)), (2, ai want), (6, .ptr 100 0), (7, .ptr 101 0), (11, ai N), (12, ai 0)], [(0, oRd b a2 ce), (100, .box [ai 0, ai 0, ai 0, .d (.v (.string (X5 []))), ani]), (101, .box [ai 8, ai 0, ai 0, .d (.v (.string (X5 []))), ani])]⟩) (fun _ => 0) () trivial
    (X8 rfl ⟨JL, JL, JL, JL, JL, JL, JL, trivial⟩ ⟨rfl, rfl, rfl, trivial⟩) ?_
   intro _ _
   by_cases h0N : 0 < N
   ·refine X0 ?_; refine X0 ?_; refine JR ?_; refine Z1 ?_; refine Z1 ?_; refine Z8 ?_; refine Z1 ?_; refine Z1 ?_; refine Z01 ?_; refine ZB ?_; refine ZC ?_; refine Zl ?_; refine Zn ?_; refine JD ?_; refine JF ?_
    refine Xj ?_; refine X0 ?_; refine X0 ?_; refine JR ?_; refine Z1 ?_; refine Z01 ?_; refine ZB ?_; refine ZC ?_; refine Zl ?_; refine Z1 ?_; refine Zo ?_; refine Zo ?_; refine Zo ?_; refine Zq ?_
    refine JD ?_; refine JF ?_; refine X2 ?_; refine X0 ?_; refine JR ?_; refine ZL ?_; refine Zy ?_; refine JD ?_
    exact X1 ⟨_, XI 100 (cs := [ai 8, ai 0, ai 0, .d (.v (.string (X5 []))), ani]) (cs' := [ai 8, ai 0, ai 0, .d (.v (.string (X5 []))), .d (.sl 5 [])]) rfl ⟨AVal.le_refl _, AVal.le_refl _, AVal.le_refl _, AVal.le_refl _, AVal.le_nil 5, trivial⟩ rfl, ⟨⟨100, 0, _, rfl, rfl, .inr ⟨5, _, rfl, rfl, rfl, rfl⟩⟩, trivial⟩, Xd ⟨rfl, trivial⟩⟩
   ·refine X0 ?_; refine X0 ?_; refine JR ?_; refine Z1 ?_; refine Z1 ?_; refine Z8 ?_; refine Z1 ?_; refine Zo ?_; refine Zo ?_; refine Zo ?_; refine Zo ?_; refine Zo ?_; refine Zq ?_; refine JD ?_; refine JF ?_
    refine Xj ?_; refine X0 ?_; refine X0 ?_; refine JR ?_; refine Z1 ?_; refine Z01 ?_; refine ZB ?_; refine ZC ?_; refine Zl ?_; refine Z1 ?_; refine Zo ?_; refine Zo ?_; refine Zo ?_; refine Zq ?_
    refine JD ?_; refine JF ?_; refine X2 ?_; refine X0 ?_; refine JR ?_; refine ZL ?_; refine Zy ?_; refine JD ?_
    exact X1 ⟨_, XI 100 (cs := [ai 8, ai 0, ai 0, .d (.v (.string (X5 []))), ani]) (cs' := [ai 8, ai 0, ai 0, .d (.v (.string (X5 []))), .d (.sl 5 [])]) rfl ⟨AVal.le_refl _, AVal.le_refl _, AVal.le_refl _, AVal.le_refl _, AVal.le_nil 5, trivial⟩ rfl, ⟨⟨100, 0, _, rfl, rfl, .inr ⟨5, _, rfl, rfl, rfl, rfl⟩⟩, trivial⟩, Xd ⟨rfl, trivial⟩⟩
  subst hce
  obtain ⟨he2, hN⟩ := hNb rfl
  subst he2
  rw [if_neg (by simp)] at hcz
  rw [hcz] at hG
  clear hcz
  have h00 := hue rfl
  simp only at h00
  clear hue
  repeat first | refine X0 ?_ | (refine JR ?_; (repeat first | refine Z1 ?_ | refine Z0 ?_ | refine Z01 ?_ | refine ZB ?_ | refine ZC ?_ | refine Zl ?_ | refine Zv ?_ | refine Zw (γ := 100) ?_ | refine Zw (γ := 101) ?_ | refine Zy ?_ | refine Zx ?_ | refine Z9 (hcon := hk) ?_ | refine Z9 (hcon := hc) ?_); refine JD ?_) | refine JT ?_ | refine JF ?_ | refine X4 ?_ | refine X2 ?_
  refine Xm (X0u 101 4 121 5 (cs := [ai 8, ai 0, ai 0, .d (.v (.string (X5 []))), ani]) rfl rfl rfl rfl rfl) ?_
  refine Xy (fun i : Nat => i ≤ N ∧ (XC gl a2 i).1.length = i) (fun i => ⟨135, [(0, .ptr 0 0), (1, ai (8 - m)), (2, ai want), (6, .ptr 100 0), (7, .ptr 101 0), (11, ai N), (12, ai i)], [(0, oRd b (XC gl a2 i).2.1 (XC gl a2 i).2.2), (100, .box [ai 0, ai 0, ai 0, .d (.v (.string (X5 []))), ani]), (101, .box [ai 8, ai 0, ai 0, .d (.v (.string (X5 []))), .own 121 (XC gl a2 i).1.length]), (121, .row 5 (XJ (XC gl a2 i).1))]⟩) (fun i => N - i) 0 ⟨by omega, rfl⟩
   (X8 rfl ⟨JL, JL, JL, JL, JL, JL, JL, trivial⟩ ⟨rfl, rfl, rfl, rfl, trivial⟩) ?_
  intro i hi
  obtain ⟨hi, hil⟩ := hi
  have hlen := UR (XC gl a2 i).1
  by_cases hpe : (XC gl a2 i).2.2 = 0
  case neg =>
   have hst := X0D hpe N hi
   rw [hst] at hG
   generalize XC gl a2 i = p at *
   obtain ⟨l, pa, pe⟩ := p
   simp only at hpe hil hG hlen hst
   clear hst
   obtain rfl : R = (.mk 8 0 0 [] l, pa, pe) := by rw [hG]; simp [YF, hpe]
   refine Xm (Y0 121 rfl) ?_
   refine Xm (UG 101 4 121 (cs := [ai 8, ai 0, ai 0, .d (.v (.string (X5 []))), .own 121 l.length]) (sz := 5) (xs := XJ l) rfl rfl rfl hlen.symm) ?_
   by_cases hiN : i < N
   ·refine X0 ?_; refine X0 ?_; refine JR ?_; refine Z1 ?_; refine Z1 ?_; refine Z8 ?_; refine Z1 ?_; refine Z1 ?_; refine Z01 ?_; refine ZB ?_; refine ZC ?_; refine Zl ?_; refine Zn ?_; refine JD ?_; refine JF ?_
    refine Xj ?_; refine X0 ?_; refine X0 ?_; refine JR ?_; refine Z1 ?_; refine Z01 ?_; refine ZB ?_; refine ZC ?_; refine Zl ?_; refine Z1 ?_; refine Zo ?_; refine Zo ?_; refine Zo ?_; refine Zq ?_
    refine JD ?_; refine JF ?_; refine X2 ?_; refine X0 ?_; refine JR ?_; refine ZL ?_; refine Zy ?_; refine JD ?_
    exact X1 ⟨_, St.le_refl _, ⟨⟨100, 0, _, rfl, rfl, .inr ⟨5, _, rfl, rfl, rfl, rfl⟩⟩, trivial⟩, Xd ⟨rfl, trivial⟩⟩
   ·refine X0 ?_; refine X0 ?_; refine JR ?_; refine Z1 ?_; refine Z1 ?_; refine Z8 ?_; refine Z1 ?_; refine Zo ?_; refine Zo ?_; refine Zo ?_; refine Zo ?_; refine Zo ?_; refine Zq ?_; refine JD ?_; refine JF ?_
    refine Xj ?_; refine X0 ?_; refine X0 ?_; refine JR ?_; refine Z1 ?_; refine Z01 ?_; refine ZB ?_; refine ZC ?_; refine Zl ?_; refine Z1 ?_; refine Zo ?_; refine Zo ?_; refine Zo ?_; refine Zq ?_
    refine JD ?_; refine JF ?_; refine X2 ?_; refine X0 ?_; refine JR ?_; refine ZL ?_; refine Zy ?_; refine JD ?_
    exact X1 ⟨_, St.le_refl _, ⟨⟨100, 0, _, rfl, rfl, .inr ⟨5, _, rfl, rfl, rfl, rfl⟩⟩, trivial⟩, Xd ⟨rfl, trivial⟩⟩
  by_cases hiN : i < N
  case neg =>
   obtain rfl : i = N := by omega
   generalize XC gl a2 i = p at *
   obtain ⟨l, pa, pe⟩ := p
   simp only at hpe hil hG hlen
   subst hpe
   have hval := X0g (.mk 8 0 0 [] l)
   simp only [Xv] at hval
   refine Xm (Y0 121 rfl) ?_
   refine Xm (UG 101 4 121 (cs := [ai 8, ai 0, ai 0, .d (.v (.string (X5 []))), .own 121 l.length]) (sz := 5) (xs := XJ l) rfl rfl rfl hlen.symm) ?_
   cases hv : X7 8 (.mk 8 0 0 [] l) with
   | false =>
    rw [hv] at hval
    obtain rfl : R = (.mk 8 0 0 [] l, pa, 2) := by rw [hG]; simp [YF, hv]
    refine X0 ?_; refine X0 ?_; refine JR ?_; refine Z1 ?_; refine Z1 ?_; refine Z8 ?_; refine Z1 ?_; refine Zo ?_; refine Zo ?_; refine Zo ?_; refine Zo ?_; refine Zo ?_; refine Zq ?_; refine JD ?_; refine JF ?_
    refine Xj ?_; refine X0 ?_; refine X0 ?_; refine JR ?_; refine Z1 ?_; refine Z01 ?_; refine ZB ?_; refine ZC ?_; refine Zl ?_; refine Z1 ?_; refine ZL ?_; refine Z9 (hcon := hval) ?_; refine Zu ?_
    refine Zn ?_; refine JD ?_; refine JT ?_; refine JR ?_; refine Z1 ?_; refine Z01 ?_; refine ZB ?_; refine Zy ?_; refine JD ?_; refine X0 ?_; refine JR ?_; refine ZL ?_; refine Zy ?_; refine JD ?_
    exact X1 ⟨_, St.le_refl _, ⟨⟨100, 0, _, rfl, rfl, .inr ⟨5, _, rfl, rfl, rfl, rfl⟩⟩, trivial⟩, Xd ⟨rfl, trivial⟩⟩
   | true =>
    rw [hv] at hval
    obtain rfl : R = (.mk 8 0 0 [] l, pa, 0) := by rw [hG]; simp [YF, hv]
    refine X0 ?_; refine X0 ?_; refine JR ?_; refine Z1 ?_; refine Z1 ?_; refine Z8 ?_; refine Z1 ?_; refine Zo ?_; refine Zo ?_; refine Zo ?_; refine Zo ?_; refine Zo ?_; refine Zq ?_; refine JD ?_; refine JF ?_
    refine Xj ?_; refine X0 ?_; refine X0 ?_; refine JR ?_; refine Z1 ?_; refine Z01 ?_; refine ZB ?_; refine ZC ?_; refine Zl ?_; refine Z1 ?_; refine ZL ?_; refine Z9 (hcon := hval) ?_; refine Zu ?_
    refine Zn ?_; refine JD ?_; refine JF ?_; refine X2 ?_; refine X0 ?_; refine JR ?_; refine ZL ?_; refine Zy ?_; refine JD ?_
    exact X1 ⟨_, St.le_refl _, ⟨⟨100, 0, _, rfl, rfl, .inr ⟨5, _, rfl, rfl, rfl, rfl⟩⟩, trivial⟩, Xd ⟨rfl, trivial⟩⟩
  obtain ⟨q, hq1, hq2⟩ := X1U hge h00 i hpe
  have hcall := hg i q hq2
  unfold X0b at hcall
  have hsucc := X0x hpe
  have hsl := X4H hpe
  rw [hq1] at hsucc
  generalize gl i q = r at hcall hsucc
  generalize XC gl a2 i = p at *
  obtain ⟨l, pa, pe⟩ := p
  obtain ⟨x, xa, xe⟩ := r
  simp only at hq1 hpe hil hsucc hlen hcall
  subst hq1 hpe
  obtain ⟨xk, xn, xd, xs, xl⟩ := x
  simp only [Xv] at hcall
  skip
  refine X0 ?_; refine X0 ?_; refine JR ?_; refine Z1 ?_; refine Z1 ?_; refine Z8 ?_; refine Z1 ?_; refine Z1 ?_; refine Z01 ?_; refine ZB ?_; refine ZC ?_; refine Zl ?_; refine Zn ?_; refine JD ?_; refine JT ?_
  refine X2 ?_; refine X0 ?_; refine X4 ?_; refine JR ?_; refine ZB ?_; refine ZC ?_; refine Z1 ?_; refine Z1 ?_; refine Zb ?_; refine Z9 (hcon := hcall) ?_; refine Z5 ?_; refine Z6 ?_; refine ZB ?_
  refine Zy ?_; refine JD ?_; refine JR ?_; refine Z1 ?_; refine Zb ?_; refine Z0 ?_; refine JD ?_
  refine ⟨i + 1, ⟨by omega, hsl⟩, by omega, ?_⟩
  dsimp only
  rw [hsucc]
  refine X8 rfl ⟨JL, JL, JL, JL, JL, JL, JL, trivial⟩ ⟨rfl, rfl, ?_, ?_, trivial⟩
  ·refine Eq.trans (b := AObj.box ([ai 8, ai 0, ai 0, .d (.v (.string (X5 []))), .own 121 _])) rfl ?_
   congr 6; simp [hlen]
  ·exact congrArg (AObj.row 5) (X3F l xk xn xd xs xl)
end Go.Fw
namespace Go.Fw
open Go Go.Proofs
set_option maxRecDepth 100000
set_option linter.unusedVariables false
set_option linter.unusedSimpArgs false
theorem Xga (b : List UInt8) (m a : Nat) (want : Int) (gl gp : Nat → Int → Val × Int × Int) (R : Val × Int × Int) (hm : m ≤ 8) (ha : a < b.length) (hb : b.length ≤ 281474976710656)
  (hge : ∀ i q : Nat, q ≤ b.length → Uz b (gp i q).2) (hg : ∀ i q : Nat, q ≤ b.length → X0b b q (8 - m) (5 + (i % 2 : Nat)) (gp i q))
  (hk : Con Tryz.prog 230 [(0, oRd b a 0)] [.ptr 0 0, ai (8 - m), ai want] [(0, oRd b ((a : Int) + 1) 0)] (ai 7)) (hG : R = YF (Y8 gl gp b (a + 1) 7)) : X0b b a (8 - m) want R := by
 refine X9 (xs := [Xv R.1]) Tryz.func213 rfl Tryz.ntmps213 rfl rfl rfl (fun E => ?_)
 ·have hc := XdD b (a + 1) 0 hb
  have hcz : Y8 gl gp b (a + 1) 7 = if U8 7 (Xe b (a + 1)) ≠ 0 then (.mk 7 0 0 [] [], (Xe b (a + 1)).2.1, U8 7 (Xe b (a + 1))) else
    (.mk 7 0 0 [] (XC gp (Xe b (a + 1)).2.1 (Xe b (a + 1)).1.toNat).1, (XC gp (Xe b (a + 1)).2.1 (Xe b (a + 1)).1.toNat).2.1, (XC gp (Xe b (a + 1)).2.1 (Xe b (a + 1)).1.toNat).2.2) := by
   simp only [Y8, U8]
   by_cases e1 : (Xe b (a + 1)).2.2 = 0
   ·by_cases e2 : Ul 7 (Xe b (a + 1)).1 = true <;> simp [e1, e2]
   ·simp [e1]
  have hue := X1A b (a + 1)
  obtain ⟨N, hN⟩ := X2z b (a + 1)
  have hNb : U8 7 (Xe b (a + 1)) = 0 → (Xe b (a + 1)).2.2 = 0 ∧ N ≤ 64 := by
   unfold U8
   rw [hN]
   split
   ·intro h; contradiction
   ·rename_i h1
    split
    ·intro h; simp at h
    ·rename_i h2
     refine fun _ => ⟨Classical.not_not.1 h1, ?_⟩
     simp [Ul] at h2
     omega
  generalize U8 7 (Xe b (a + 1)) = ce at *
  generalize Xe b (a + 1) = u at *
  obtain ⟨n, a2, e2⟩ := u
  simp only at hN
  subst hN
  simp only [Int.toNat_natCast] at hc hcz hue hNb
  by_cases hce : ce = 0
  case neg =>
   rw [if_pos hce] at hcz
   rw [hcz] at hG
   obtain rfl : R = (.mk 7 0 0 [] [], a2, ce) := by rw [hG]; simp [YF, hce]
   repeat first | refine X0 ?_ | (refine JR ?_; (repeat first | refine Z1 ?_ | refine Z0 ?_ | refine Z01 ?_ | refine ZB ?_ | refine ZC ?_ | refine Zl ?_ | refine Zv ?_ | refine Zw (γ := 100) ?_ | refine Zw (γ := 101) ?_ | refine Zy ?_ | refine Zx ?_ | refine Z9 (hcon := hk) ?_ | refine Z9 (hcon := hc) ?_); refine JD ?_) | refine JT ?_ | refine JF ?_ | refine X4 ?_ | refine X2 ?_
   refine Xy (fun _ : Unit => True) (fun _ => ⟨135, [(0, .ptr 0 0), (1, ai (8 - m)), (2, ai want), (6, .ptr 100 0), (7, .ptr 101 0), (13, ai N), (14, ai 0)], [(0, oRd b a2 ce), (100, .box [ai 0, ai 0, ai 0, .d (.v (.string (X5 []))), ani]), (101, .box [ai 7, ai 0, ai 0, .d (.v (.string (X5 []))), ani])]⟩) (fun _ => 0) () trivial
    (X8 rfl ⟨JL, JL, JL, JL, JL, JL, JL, trivial⟩ ⟨rfl, rfl, rfl, trivial⟩) ?_
   intro _ _
   by_cases h0N : 0 < N
   ·refine X0 ?_; refine X0 ?_; refine JR ?_; refine Z1 ?_; refine Z1 ?_; refine Z8 ?_; refine Z1 ?_; refine Z1 ?_; refine Z01 ?_; refine ZB ?_; refine ZC ?_; refine Zl ?_; refine Zn ?_; refine JD ?_; refine JF ?_
    refine Xj ?_; refine X0 ?_; refine X0 ?_; refine JR ?_; refine Z1 ?_; refine Z01 ?_; refine ZB ?_; refine ZC ?_; refine Zl ?_; refine Z1 ?_; refine Zo ?_; refine Zo ?_; refine Zo ?_; refine Zq ?_
    refine JD ?_; refine JF ?_; refine X2 ?_; refine X0 ?_; refine JR ?_; refine ZL ?_; refine Zy ?_; refine JD ?_
    exact X1 ⟨_, XI 100 (cs := [ai 7, ai 0, ai 0, .d (.v (.string (X5 []))), ani]) (cs' := [ai 7, ai 0, ai 0, .d (.v (.string (X5 []))), .d (.sl 5 [])]) rfl ⟨AVal.le_refl _, AVal.le_refl _, AVal.le_refl _, AVal.le_refl _, AVal.le_nil 5, trivial⟩ rfl, ⟨⟨100, 0, _, rfl, rfl, .inr ⟨5, _, rfl, rfl, rfl, rfl⟩⟩, trivial⟩, Xd ⟨rfl, trivial⟩⟩
   ·refine X0 ?_; refine X0 ?_; refine JR ?_; refine Z1 ?_; refine Z1 ?_; refine Z8 ?_; refine Z1 ?_; refine Zo ?_; refine Zo ?_; refine Zo ?_; refine Zo ?_; refine Zo ?_; refine Zq ?_; refine JD ?_; refine JF ?_
    refine Xj ?_; refine X0 ?_; refine X0 ?_; refine JR ?_; refine Z1 ?_; refine Z01 ?_; refine ZB ?_; refine ZC ?_; refine Zl ?_; refine Z1 ?_; refine Zo ?_; refine Zo ?_; refine Zo ?_; refine Zq ?_
    refine JD ?_; refine JF ?_; refine X2 ?_; refine X0 ?_; refine JR ?_; refine ZL ?_; refine Zy ?_; refine JD ?_
    exact X1 ⟨_, XI 100 (cs := [ai 7, ai 0, ai 0, .d (.v (.string (X5 []))), ani]) (cs' := [ai 7, ai 0, ai 0, .d (.v (.string (X5 []))), .d (.sl 5 [])]) rfl ⟨AVal.le_refl _, AVal.le_refl _, AVal.le_refl _, AVal.le_refl _, AVal.le_nil 5, trivial⟩ rfl, ⟨⟨100, 0, _, rfl, rfl, .inr ⟨5, _, rfl, rfl, rfl, rfl⟩⟩, trivial⟩, Xd ⟨rfl, trivial⟩⟩
  subst hce
  obtain ⟨he2, hN⟩ := hNb rfl
  subst he2
  rw [if_neg (by simp)] at hcz
  rw [hcz] at hG
  clear hcz
  have h00 := hue rfl
  simp only at h00
  clear hue
  repeat first | refine X0 ?_ | (refine JR ?_; (repeat first | refine Z1 ?_ | refine Z0 ?_ | refine Z01 ?_ | refine ZB ?_ | refine ZC ?_ | refine Zl ?_ | refine Zv ?_ | refine Zw (γ := 100) ?_ | refine Zw (γ := 101) ?_ | refine Zy ?_ | refine Zx ?_ | refine Z9 (hcon := hk) ?_ | refine Z9 (hcon := hc) ?_); refine JD ?_) | refine JT ?_ | refine JF ?_ | refine X4 ?_ | refine X2 ?_
  refine Xm (X0u 101 4 121 5 (cs := [ai 7, ai 0, ai 0, .d (.v (.string (X5 []))), ani]) rfl rfl rfl rfl rfl) ?_
  refine Xy (fun i : Nat => i ≤ N ∧ (XC gp a2 i).1.length = i) (fun i => ⟨135, [(0, .ptr 0 0), (1, ai (8 - m)), (2, ai want), (6, .ptr 100 0), (7, .ptr 101 0), (13, ai N), (14, ai i)], [(0, oRd b (XC gp a2 i).2.1 (XC gp a2 i).2.2), (100, .box [ai 0, ai 0, ai 0, .d (.v (.string (X5 []))), ani]), (101, .box [ai 7, ai 0, ai 0, .d (.v (.string (X5 []))), .own 121 (XC gp a2 i).1.length]), (121, .row 5 (XJ (XC gp a2 i).1))]⟩) (fun i => N - i) 0 ⟨by omega, rfl⟩
   (X8 rfl ⟨JL, JL, JL, JL, JL, JL, JL, trivial⟩ ⟨rfl, rfl, rfl, rfl, trivial⟩) ?_
  intro i hi
  obtain ⟨hi, hil⟩ := hi
  have hlen := UR (XC gp a2 i).1
  by_cases hpe : (XC gp a2 i).2.2 = 0
  case neg =>
   have hst := X0D hpe N hi
   rw [hst] at hG
   generalize XC gp a2 i = p at *
   obtain ⟨l, pa, pe⟩ := p
   simp only at hpe hil hG hlen hst
   clear hst
   obtain rfl : R = (.mk 7 0 0 [] l, pa, pe) := by rw [hG]; simp [YF, hpe]
   refine Xm (Y0 121 rfl) ?_
   refine Xm (UG 101 4 121 (cs := [ai 7, ai 0, ai 0, .d (.v (.string (X5 []))), .own 121 l.length]) (sz := 5) (xs := XJ l) rfl rfl rfl hlen.symm) ?_
   by_cases hiN : i < N
   ·refine X0 ?_; refine X0 ?_; refine JR ?_; refine Z1 ?_; refine Z1 ?_; refine Z8 ?_; refine Z1 ?_; refine Z1 ?_; refine Z01 ?_; refine ZB ?_; refine ZC ?_; refine Zl ?_; refine Zn ?_; refine JD ?_; refine JF ?_
    refine Xj ?_; refine X0 ?_; refine X0 ?_; refine JR ?_; refine Z1 ?_; refine Z01 ?_; refine ZB ?_; refine ZC ?_; refine Zl ?_; refine Z1 ?_; refine Zo ?_; refine Zo ?_; refine Zo ?_; refine Zq ?_
    refine JD ?_; refine JF ?_; refine X2 ?_; refine X0 ?_; refine JR ?_; refine ZL ?_; refine Zy ?_; refine JD ?_
    exact X1 ⟨_, St.le_refl _, ⟨⟨100, 0, _, rfl, rfl, .inr ⟨5, _, rfl, rfl, rfl, rfl⟩⟩, trivial⟩, Xd ⟨rfl, trivial⟩⟩
   ·refine X0 ?_; refine X0 ?_; refine JR ?_; refine Z1 ?_; refine Z1 ?_; refine Z8 ?_; refine Z1 ?_; refine Zo ?_; refine Zo ?_; refine Zo ?_; refine Zo ?_; refine Zo ?_; refine Zq ?_; refine JD ?_; refine JF ?_
    refine Xj ?_; refine X0 ?_; refine X0 ?_; refine JR ?_; refine Z1 ?_; refine Z01 ?_; refine ZB ?_; refine ZC ?_; refine Zl ?_; refine Z1 ?_; refine Zo ?_; refine Zo ?_; refine Zo ?_; refine Zq ?_
    refine JD ?_; refine JF ?_; refine X2 ?_; refine X0 ?_; refine JR ?_; refine ZL ?_; refine Zy ?_; refine JD ?_
    exact X1 ⟨_, St.le_refl _, ⟨⟨100, 0, _, rfl, rfl, .inr ⟨5, _, rfl, rfl, rfl, rfl⟩⟩, trivial⟩, Xd ⟨rfl, trivial⟩⟩
  by_cases hiN : i < N
  case neg =>
   obtain rfl : i = N := by omega
   generalize XC gp a2 i = p at *
   obtain ⟨l, pa, pe⟩ := p
   simp only at hpe hil hG hlen
   subst hpe
   have hval := X0g (.mk 7 0 0 [] l)
   simp only [Xv] at hval
   refine Xm (Y0 121 rfl) ?_
   refine Xm (UG 101 4 121 (cs := [ai 7, ai 0, ai 0, .d (.v (.string (X5 []))), .own 121 l.length]) (sz := 5) (xs := XJ l) rfl rfl rfl hlen.symm) ?_
   cases hv : X7 8 (.mk 7 0 0 [] l) with
   | false =>
    rw [hv] at hval
    obtain rfl : R = (.mk 7 0 0 [] l, pa, 2) := by rw [hG]; simp [YF, hv]
    refine X0 ?_; refine X0 ?_; refine JR ?_; refine Z1 ?_; refine Z1 ?_; refine Z8 ?_; refine Z1 ?_; refine Zo ?_; refine Zo ?_; refine Zo ?_; refine Zo ?_; refine Zo ?_; refine Zq ?_; refine JD ?_; refine JF ?_
    refine Xj ?_; refine X0 ?_; refine X0 ?_; refine JR ?_; refine Z1 ?_; refine Z01 ?_; refine ZB ?_; refine ZC ?_; refine Zl ?_; refine Z1 ?_; refine ZL ?_; refine Z9 (hcon := hval) ?_; refine Zu ?_
    refine Zn ?_; refine JD ?_; refine JT ?_; refine JR ?_; refine Z1 ?_; refine Z01 ?_; refine ZB ?_; refine Zy ?_; refine JD ?_; refine X0 ?_; refine JR ?_; refine ZL ?_; refine Zy ?_; refine JD ?_
    exact X1 ⟨_, St.le_refl _, ⟨⟨100, 0, _, rfl, rfl, .inr ⟨5, _, rfl, rfl, rfl, rfl⟩⟩, trivial⟩, Xd ⟨rfl, trivial⟩⟩
   | true =>
    rw [hv] at hval
    obtain rfl : R = (.mk 7 0 0 [] l, pa, 0) := by rw [hG]; simp [YF, hv]
    refine X0 ?_; refine X0 ?_; refine JR ?_; refine Z1 ?_; refine Z1 ?_; refine Z8 ?_; refine Z1 ?_; refine Zo ?_; refine Zo ?_; refine Zo ?_; refine Zo ?_; refine Zo ?_; refine Zq ?_; refine JD ?_; refine JF ?_
    refine Xj ?_; refine X0 ?_; refine X0 ?_; refine JR ?_; refine Z1 ?_; refine Z01 ?_; refine ZB ?_; refine ZC ?_; refine Zl ?_; refine Z1 ?_; refine ZL ?_; refine Z9 (hcon := hval) ?_; refine Zu ?_
    refine Zn ?_; refine JD ?_; refine JF ?_; refine X2 ?_; refine X0 ?_; refine JR ?_; refine ZL ?_; refine Zy ?_; refine JD ?_
    exact X1 ⟨_, St.le_refl _, ⟨⟨100, 0, _, rfl, rfl, .inr ⟨5, _, rfl, rfl, rfl, rfl⟩⟩, trivial⟩, Xd ⟨rfl, trivial⟩⟩
  obtain ⟨q, hq1, hq2⟩ := X1U hge h00 i hpe
  have hcall := hg i q hq2
  unfold X0b at hcall
  have hsucc := X0x hpe
  have hsl := X4H hpe
  rw [hq1] at hsucc
  generalize gp i q = r at hcall hsucc
  generalize XC gp a2 i = p at *
  obtain ⟨l, pa, pe⟩ := p
  obtain ⟨x, xa, xe⟩ := r
  simp only at hq1 hpe hil hsucc hlen hcall
  subst hq1 hpe
  obtain ⟨xk, xn, xd, xs, xl⟩ := x
  simp only [Xv] at hcall
  have hi2 : ((i : Int) % 2) = ((i % 2 : Nat) : Int) := by omega
  refine X0 ?_; refine X0 ?_; refine JR ?_; refine Z1 ?_; refine Z1 ?_; refine Z8 ?_; refine Z1 ?_; refine Z1 ?_; refine Z01 ?_; refine ZB ?_; refine ZC ?_; refine Zl ?_; refine Zn ?_; refine JD ?_; refine JT ?_
  refine X2 ?_; refine X0 ?_; refine X4 ?_; refine JR ?_; refine ZB ?_; refine ZC ?_; refine Z1 ?_; refine Z1 ?_; refine Z1 ?_
  refine Z02 (op := .rem) (r' := .int .i64 ((i % 2 : Nat) : Int)) (u := .int .i64 i) (v := .int .i64 2) ?_ (hr' := by exact congrArg (Value.int .i64) hi2); refine Zb ?_; refine Z9 (hcon := hcall) ?_; refine Z5 ?_
  refine Z6 ?_; refine ZB ?_; refine Zy ?_; refine JD ?_; refine JR ?_; refine Z1 ?_; refine Zb ?_; refine Z0 ?_; refine JD ?_
  refine ⟨i + 1, ⟨by omega, hsl⟩, by omega, ?_⟩
  dsimp only
  rw [hsucc]
  refine X8 rfl ⟨JL, JL, JL, JL, JL, JL, JL, trivial⟩ ⟨rfl, rfl, ?_, ?_, trivial⟩
  ·refine Eq.trans (b := AObj.box ([ai 7, ai 0, ai 0, .d (.v (.string (X5 []))), .own 121 _])) rfl ?_
   congr 6; simp [hlen]
  ·exact congrArg (AObj.row 5) (X3F l xk xn xd xs xl)
end Go.Fw
