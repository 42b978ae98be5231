/- Changes and rules put: the program's. -/
import Derived.Test.YtpfldfkhgplcgaaGreatDoorK20
import Derived.Test.YtpfldfkhgplcgaaGreatDoorK21
set_option maxHeartbeats 16000000
namespace Go.Fw
open Go Go.Proofs
set_option maxRecDepth 100000
set_option linter.unusedVariables false
set_option linter.unusedSimpArgs false
abbrev cS (s : List UInt8) : List D := [.v (.string (X6 s))]
def X00 (l : List (List UInt8)) : List UInt8 := (l.map XM).flatten
theorem Xcz {l : List (List UInt8)} {i : Nat} {x : List UInt8} (h : l[i]? = some x) : X00 (l.take (i + 1)) = X00 (l.take i) ++ XM x := by
 unfold X00
 rw [List.take_add_one, h]
 simp
theorem X1U {s : List UInt8} (h : s.length ≤ 20) : (XM s).length ≤ 30 := by
 have := X1D (n := s.length) (by omega)
 unfold XM
 rw [List.length_append]
 omega
theorem X7i : ∀ {l : List (List UInt8)}, (∀ x ∈ l, x.length ≤ 20) → (X00 l).length ≤ 30 * l.length
 | [], _ => by simp [X00]
 | x :: r, h => by
  have h1 := X1U (h x (by simp))
  have h2 := X7i (l := r) fun y hy => h y (by simp [hy])
  unfold X00 at *
  simp only [List.map_cons, List.flatten_cons, List.length_append, List.length_cons]
  omega
theorem Xbw (r : Rul) (h : VS r = 0) (hn : -9223372036854775808 ≤ r.n ∧ r.n ≤ 9223372036854775807) (hl : r.name.length ≤ 20 ∧ r.key.length ≤ 20 ∧ r.src.length ≤ 20 ∧ r.dst.length ≤ 20) (hk : 1 ≤ r.kind ∧ r.kind ≤ 7) :
  Con Tryz.prog 117 [] [Uw r] [(130, .row 1 ((UD r).map X7))] (.own 130 ((UD r).map X7).length) := by
 obtain ⟨k, n, name, key, src, dst⟩ := r
 simp only at hn hl hk
 obtain ⟨m, rfl⟩ : ∃ m : Nat, k = m := ⟨k.toNat, by omega⟩
 simp only [Uw] at *
 clear h
 refine Xb (xs := [.own 130 ((UD ⟨m, n, name, key, src, dst⟩).map X7).length]) Tryz.func117 rfl Tryz.ntmps117 rfl rfl rfl (fun E => ?_)
 have e8 : n8 (m % 256) = n8 (UInt8.ofNat m).toNat := by rw [X02 (by omega), Nat.mod_eq_of_lt (by omega)]
 have hL : ∀ x ∈ [name, key, src, dst], x.length ≤ 20 := by
  intro x hx
  simp only [List.mem_cons, List.not_mem_nil, or_false] at hx
  rcases hx with rfl | rfl | rfl | rfl <;> omega
 have hput : UD ⟨m, n, name, key, src, dst⟩ = (UInt8.ofNat m :: X00 [name, key, src, dst]) ++ Yi n := by
  unfold UD X00
  simp
 have hpi := X1R n hn
 have hpl := X3o hn
 rw [hput]
 clear hput
 refine QHa ?_; refine Z3 (u := nj m) (r := n8 (UInt8.ofNat m).toNat) ?_ (hr := by exact by rw [← e8]; exact U4 rfl rfl); refine ZZ (γ := 130) ?_; refine Qc ?_; refine Qyb ?_; refine Qhd ?_; refine QFa ?_; refine Z5 ?_; refine Qz ?_
 generalize hLL : [name, key, src, dst] = L at *
 have hL4 : L.length = 4 := by rw [← hLL]; rfl
 have hlm : (L.map cS).length = L.length := by simp
 refine Xu (fun i : Nat => i ≤ L.length) (fun i => ⟨34, [(1, .ptr 100 0), (3, .own 130 ((UInt8.ofNat m :: X00 (L.take i)).map X7).length), (18, .d (.sl 1 (L.map cS))), (19, ai (L.map cS).length), (20, ai i)],
   [(100, .box [ai m, ai n, .d (.v (.string (X6 name))), .d (.v (.string (X6 key))), .d (.v (.string (X6 src))), .d (.v (.string (X6 dst)))]), (130, .row 1 ((UInt8.ofNat m :: X00 (L.take i)).map X7))]⟩) (fun i => L.length - i) 0 (by omega)
  (by subst hLL; exact Xa rfl ⟨JL, JL, JL, JL, JL, trivial⟩ ⟨rfl, rfl, trivial⟩) ?_
 intro i hi
 have hlen : ((UInt8.ofNat m :: X00 (L.take i)).map X7).length ≤ 200 := by
  have h1 := X7i (l := L.take i) fun x hx => hL x (List.mem_of_mem_take hx)
  have h2 : (L.take i).length ≤ 4 := by simp; omega
  simp only [List.length_map, List.length_cons]
  omega
 by_cases hil : i < L.length
 case neg =>
  obtain rfl : i = L.length := by omega
  rw [List.take_length] at hlen ⊢
  have hnn : ¬ ((L.length : Nat) : Int) < (L.map cS).length := by omega
  generalize UInt8.ofNat m :: X00 L = B at *
  generalize Yi n = w at *
  refine QK ?_; refine Qf ?_; refine QFa ?_; refine Z9 (hcon := hpi) ?_; refine Qkc ?_
  refine X1 ⟨_, Xc 2 (y := .own 130 ((B ++ w).map X7).length) (AVal.le_of_eq ?_), ⟨rfl, trivial⟩, Xh ⟨?_, trivial⟩⟩
  ·refine Qm ?_
   congr 1
   simp only [List.length_append, List.length_map] <;> omega
  ·refine Qjc ?_
   simp only [List.map_append]
 have hnn : (i : Int) < (L.map cS).length := by omega
 obtain ⟨x, hx⟩ := Xv (l := L) hil
 have hxm : (L.map cS)[i]? = some (cS x) := YF hx
 have hxl := hL x (List.mem_of_getElem? hx)
 have hps := X1J x (by omega)
 have hpsl := X1U hxl
 have htk := Xcz hx
 generalize XM x = w at *
 refine QC ?_; refine QD ?_; refine Qc ?_; refine Qgc ?_; refine Z9 (hcon := hps) ?_; refine Qkc ?_; refine QI ?_
 refine ⟨i + 1, by omega, by omega, ?_⟩
 try dsimp only
 rw [htk]
 refine Xa rfl ⟨JL, (by refine AVal.le_of_eq ?_; refine Eq.trans (b := AVal.own 130 (_ + _)) rfl ?_; congr 1; simp only [List.length_append, List.length_map, List.length_cons] <;> omega), JL, JL, JL, trivial⟩ ⟨rfl, ?_, trivial⟩
 refine Qjc ?_
 simp only [List.map_append, List.map_cons, List.cons_append]
theorem X45 {s : List UInt8} (h : Y2 s = true) : s.length ≤ 20 := by
 unfold Y2 at h
 simp at h
 omega
theorem X3c {r : Rul} (h : VS r = 0) : (-9223372036854775808 ≤ r.n ∧ r.n ≤ 9223372036854775807) ∧ (r.name.length ≤ 20 ∧ r.key.length ≤ 20 ∧ r.src.length ≤ 20 ∧ r.dst.length ≤ 20) ∧ (1 ≤ r.kind ∧ r.kind ≤ 7) := by
 rw [X5L] at h
 unfold X1a at h
 split at h
 ·omega
 rename_i h1
 split at h
 ·omega
 rename_i h2
 split at h
 ·omega
 rename_i h3
 have i1 : 1 ≤ r.kind ∧ r.kind ≤ 7 := by
  cases hd : decide (1 ≤ r.kind ∧ r.kind ≤ 7) with
  | true => exact of_decide_eq_true hd
  | false => exact absurd (.inl hd) h1
 have i2 : Vm r.kind r.n = true := by
  cases hd : Vm r.kind r.n with
  | true => rfl
  | false => exact absurd (.inr hd) h1
 have nm : Y2 r.name = true := by
  cases hd : Y2 r.name with
  | true => rfl
  | false => exact absurd (.inl hd) h3
 have ky : r.key.length ≤ 20 := by
  by_cases hk : UZ r.kind = true
  ·refine X45 (s := r.key) ?_
   cases hd : Y2 r.key with
   | true => rfl
   | false => exact absurd (.inr (.inl ⟨hk, hd⟩)) h3
  ·by_cases he : r.key = []
   ·rw [he]; simp
   ·exact absurd (.inl ⟨by simpa using hk, he⟩) h2
 have sr : r.src.length ≤ 20 := by
  by_cases he : r.src = []
  ·rw [he]; simp
  ·refine X45 (s := r.src) ?_
   cases hd : Y2 r.src with
   | true => rfl
   | false => exact absurd (.inr (.inr (.inl ⟨he, hd⟩))) h3
 have ds : r.dst.length ≤ 20 := by
  by_cases he : r.dst = []
  ·rw [he]; simp
  ·refine X45 (s := r.dst) ?_
   cases hd : Y2 r.dst with
   | true => rfl
   | false => exact absurd (.inr (.inr (.inr ⟨he, hd⟩))) h3
 refine ⟨?_, ⟨X45 nm, ky, sr, ds⟩, i1⟩
 unfold Vm at i2
 split at i2
 ·have := of_decide_eq_true i2; omega
 ·split at i2
  ·have := of_decide_eq_true i2; omega
  ·have := of_decide_eq_true i2; omega
theorem Xen (r : Rul) (h : VS r = 0) : Con Tryz.prog 117 [] [Uw r] [] (.d (Xg (UD r))) :=
 (Xbw r h (X3c h).1 (X3c h).2.1 (X3c h).2.2).data (by simp)
def XH : Chg → List D
 | ⟨op, id, src, dst, name, .mk k n d s l⟩ => [.v (.int .i64 op), .v (.int .i64 id), .v (.int .i64 src), .v (.int .i64 dst), .v (.string (X6 name)), .v (.int .i64 k), .v (.int .i64 n), .v (.int .i64 d), .v (.string (X6 s)), .sl 5 (Xy l)]
def X3v (c : Chg) : Prop := c.name.length ≤ 9223372036854775807 ∧ Yd c.v
abbrev oRd (b : List UInt8) (a e : Int) : AObj := .box [.d (Xg b), ai a, ai e]
theorem X7w (b : List UInt8) (a e x : Int) : Con Tryz.prog 199 [(0, oRd b a e)] [.ptr 0 0, ai x] [(0, oRd b a (if e = 0 then x else e))] (.tup []) := by
 refine Xb (xs := []) Tryz.func199 rfl Tryz.ntmps199 rfl rfl rfl (fun E => ?_)
 by_cases h : e = 0
 ·rw [if_pos h]
  refine Qf ?_; refine Qid ?_; refine Qh ?_; refine Qgc ?_; refine Z01 ?_; refine Qjd ?_; exact (show Xq _ _ _ _ _ from ⟨_, St.le_refl _, trivial, Xh ⟨rfl, trivial⟩⟩)
 ·rw [if_neg h]
  refine Qf ?_; refine Qid ?_; refine Qr ?_; exact (show Xq _ _ _ _ _ from ⟨_, St.le_refl _, trivial, Xh ⟨rfl, trivial⟩⟩)
theorem X2o (b : List UInt8) (a e : Int) (hb : b.length ≤ 281474976710656) : Con Tryz.prog 177 [(0, oRd b a e)] [.ptr 0 0] [(0, if e = 0 then oRd b (Xp b a).2.1 (Xp b a).2.2 else oRd b a e)] (ai (if e = 0 then (Xp b a).1 else 0)) := by
 refine Xb (xs := [ai (if e = 0 then (Xp b a).1 else 0)]) Tryz.func177 rfl Tryz.ntmps177 rfl rfl rfl (fun E => ?_)
 by_cases h : e = 0
 ·rw [if_pos h, if_pos h]
  repeat first | refine X0 ?_ | (refine JR ?_; (repeat first | refine Z1 ?_ | refine Z0 ?_ | refine Z01 ?_ | refine ZB ?_ | refine ZC ?_ | refine Zv ?_ | refine Zy ?_ | refine ZF ?_ | refine Z9 (hcon := X9t b a hb) ?_); refine JD ?_) | refine JF ?_ | refine X4 ?_
  exact Qq
 ·rw [if_neg h, if_neg h]
  refine Qy ?_; refine Z01 ?_; refine QFa ?_; refine Zv ?_; refine Qp ?_; exact Qq
def rkS (b : List UInt8) (a : Nat) (e limit : Int) : Int × Int × Int :=
 if e ≠ 0 then (0, (a : Int), e) else if b.length ≤ a then (0, (a : Int), 3) else
  if ((((b[a]?).getD 0).toNat : Nat) : Int) < 1 ∨ limit < ((((b[a]?).getD 0).toNat : Nat) : Int) then (0, (a : Int), 2) else ((((b[a]?).getD 0).toNat : Nat), (a : Int) + 1, 0)
theorem Xfy (b : List UInt8) (a : Nat) (e limit : Int) (hb : b.length ≤ 281474976710656) (ha : a ≤ 281474976710656) : Con Tryz.prog 94 [(0, oRd b a e)] [.ptr 0 0, ai limit] [(0, oRd b (rkS b a e limit).2.1 (rkS b a e limit).2.2)] (ai (rkS b a e limit).1) := by
 refine Xb (xs := [ai (rkS b a e limit).1]) Tryz.func94 rfl Tryz.ntmps94 rfl rfl rfl (fun E => ?_)
 have hlm : (b.map X7).length = b.length := by simp
 by_cases he : e = 0
 case neg =>
  rw [show rkS b a e limit = (0, (a : Int), e) by unfold rkS; rw [if_pos he]]
  exact Qkd
 subst he
 by_cases h1 : b.length ≤ a
 ·rw [show rkS b a 0 limit = (0, (a : Int), 3) by unfold rkS; rw [if_neg (by simp), if_pos h1]]
  have h1' : ((b.map X7).length : Int) ≤ a := by omega
  repeat first | refine X0 ?_ | (refine JR ?_; (repeat first | refine Z1 ?_ | refine Z0 ?_ | refine Z01 ?_ | refine ZB ?_ | refine ZC ?_ | refine Zd ?_ | refine Z2 ?_ | refine Zv ?_ | refine Zy ?_); refine JD ?_) | refine JT ?_ | refine JF ?_ | refine X5 ?_
  exact Qq
 have h1' : ¬ ((b.map X7).length : Int) ≤ a := by omega
 obtain ⟨c, hc⟩ := Xv (l := b) (k := a) (by omega)
 have hrk : rkS b a 0 limit = if ((c.toNat : Nat) : Int) < 1 ∨ limit < ((c.toNat : Nat) : Int) then (0, (a : Int), 2) else (((c.toNat : Nat) : Int), (a : Int) + 1, 0) := by
  unfold rkS; rw [if_neg (by simp), if_neg h1, hc, Option.getD_some]
 have hxm : (b.map X7)[a]? = some (X7 c) := YF hc
 by_cases h2 : ((c.toNat : Nat) : Int) < 1
 ·rw [hrk, if_pos (.inl h2)]
  repeat first | refine X0 ?_ | (refine JR ?_; (repeat first | refine Z1 ?_ | refine Z0 ?_ | refine Z01 ?_ | refine ZB ?_ | refine ZC ?_ | refine Zk ?_ | refine Zd ?_ | refine Z8 ?_ | refine Z2 ?_ | refine Zv ?_ | refine Zy ?_ | refine Zn ?_ | refine Zj ?_ | refine Zo ?_); refine JD ?_) | refine JT ?_ | refine JF ?_ | refine X5 ?_
  exact Qq
 by_cases h3 : limit < ((c.toNat : Nat) : Int)
 ·rw [hrk, if_pos (.inr h3)]
  repeat first | refine X0 ?_ | (refine JR ?_; (repeat first | refine Z1 ?_ | refine Z0 ?_ | refine Z01 ?_ | refine ZB ?_ | refine ZC ?_ | refine Zk ?_ | refine Zd ?_ | refine Z8 ?_ | refine Zs ?_ | refine Z2 ?_ | refine Zv ?_ | refine Zy ?_ | refine Zq ?_ | refine Zj ?_ | refine ZY ?_); refine JD ?_) | refine JT ?_ | refine JF ?_ | refine X5 ?_
  exact Qq
 rw [hrk, if_neg (by omega)]
 repeat first | refine X0 ?_ | (refine JR ?_; (repeat first | refine Z4 (op := .sub) (r' := nj a) (u := .int .i64 ((a : Int) + 1)) (v := .int .i64 1) ?_ (hr' := by exact congrArg (Value.int .i64) (show ((a : Int) + 1 - 1) = (a : Int) by omega)) (hr := by exact X0B (by unfold YP; omega)) | refine Z1 ?_ | refine Z0 ?_ | refine Z01 ?_ | refine ZB ?_ | refine ZC ?_ | refine Zk ?_ | refine Zd ?_ | refine Z8 ?_ | refine Zs ?_ | refine Z2 ?_ | refine Zv ?_ | refine Zb ?_ | refine Zy ?_ | refine Zq ?_ | refine Zj ?_ | refine ZY ?_); refine JD ?_) | refine JF ?_ | refine X5 ?_
 exact Qq
theorem XcM (b : List UInt8) (a e : Int) (hb : b.length ≤ 281474976710656) : Con Tryz.prog 95 [(0, oRd b a e)] [.ptr 0 0] [(0, if e = 0 then oRd b (Xf b a).2.1 (Xf b a).2.2 else oRd b a e)] (ai (if e = 0 then (Xf b a).1 else 0)) := by
 refine Xb (xs := [ai (if e = 0 then (Xf b a).1 else 0)]) Tryz.func95 rfl Tryz.ntmps95 rfl rfl rfl (fun E => ?_)
 by_cases h : e = 0
 ·rw [if_pos h, if_pos h]
  have hu := X24 b a hb
  generalize Xf b a = u at *
  obtain ⟨u1, u2, u3⟩ := u
  repeat first | refine X0 ?_ | (refine JR ?_; (repeat first | refine Z1 ?_ | refine Z0 ?_ | refine Z01 ?_ | refine ZB ?_ | refine ZC ?_ | refine Zl ?_ | refine Zy ?_ | refine ZF ?_ | refine Z9 (hcon := hu) ?_); refine JD ?_) | refine JT ?_
  exact Qq
 ·rw [if_neg h, if_neg h]
  refine Qd ?_; refine Qy ?_; refine Qid ?_; refine Qr ?_; exact Qmc
def Ua (k : Int) (u : Int × Int × Int) : Int := if u.2.2 ≠ 0 then u.2.2 else if Uh k u.1 then 2 else 0
theorem XgP (b : List UInt8) (a e : Int) (hb : b.length ≤ 281474976710656) : Con Tryz.prog 178 [(0, oRd b a e)] [.ptr 0 0, ai 64, ab false] [(0, oRd b (Xf b a).2.1 (Ua 8 (Xf b a)))] (ai (Xf b a).1) := by
 have hu := X24 b a hb
 have hz : (Xf b a).2.2 ≠ 0 → (Xf b a).1 = 0 := by
  intro h; rw [X4f] at h ⊢
  split
  ·rfl
  ·split
   ·rfl
   ·rename_i h1 h2; simp [h1, h2] at h
 generalize Xf b a = u at *
 obtain ⟨n, at_, e'⟩ := u
 simp only at hz
 refine Xb (xs := [ai n]) Tryz.func178 rfl Tryz.ntmps178 rfl rfl rfl (fun E => ?_)
 by_cases h : 64 < n
 ·have he : e' = 0 := by
   by_cases h0 : e' = 0
   ·exact h0
   ·have := hz h0; omega
  subst he
  rw [show Ua 8 (n, at_, 0) = 2 by simp [Ua, Uh, h]]
  repeat first | refine X0 ?_ | (refine JR ?_; (repeat first | refine Z1 ?_ | refine Z0 ?_ | refine Z01 ?_ | refine ZB ?_ | refine ZC ?_ | refine Zs ?_ | refine Zy ?_ | refine ZF ?_ | refine Zn ?_ | refine Zo ?_ | refine Zp ?_ | refine Z9 (hcon := hu) ?_ | refine Z9 (hcon := X7w b at_ 0 2) ?_); refine JD ?_) | refine JT ?_
  exact Qq
 ·rw [show Ua 8 (n, at_, e') = e' by by_cases h0 : e' = 0 <;> simp [Ua, Uh, h, h0]]
  repeat first | refine X0 ?_ | (refine JR ?_; (repeat first | refine Z1 ?_ | refine Z0 ?_ | refine Z01 ?_ | refine ZB ?_ | refine ZC ?_ | refine Zs ?_ | refine Zy ?_ | refine ZF ?_ | refine Zq ?_ | refine Zo ?_ | refine Z9 (hcon := hu) ?_); refine JD ?_) | refine JF ?_ | refine X4 ?_
  exact Qq
theorem Xgw (b : List UInt8) (a e : Int) (hb : b.length ≤ 281474976710656) : Con Tryz.prog 178 [(0, oRd b a e)] [.ptr 0 0, ai 25, ab true] [(0, oRd b (Xf b a).2.1 (Ua 7 (Xf b a)))] (ai (Xf b a).1) := by
 have hu := X24 b a hb
 have hz : (Xf b a).2.2 ≠ 0 → (Xf b a).1 = 0 := by
  intro h; rw [X4f] at h ⊢
  split
  ·rfl
  ·split
   ·rfl
   ·rename_i h1 h2; simp [h1, h2] at h
 have hp : 0 ≤ (Xf b a).1 := by
  rw [X4f]
  split
  ·simp
  ·split <;> simp
 generalize Xf b a = u at *
 obtain ⟨n, at_, e'⟩ := u
 simp only at hz hp
 refine Xb (xs := [ai n]) Tryz.func178 rfl Tryz.ntmps178 rfl rfl rfl (fun E => ?_)
 have hf := X7w b at_ e' 2
 by_cases h : 25 < n
 ·have he : e' = 0 := by
   by_cases h0 : e' = 0
   ·exact h0
   ·have := hz h0; omega
  subst he
  rw [show Ua 7 (n, at_, 0) = 2 by simp [Ua, Uh, h]]
  rw [if_pos rfl] at hf
  repeat first | refine X0 ?_ | (refine JR ?_; (repeat first | refine Z1 ?_ | refine Z0 ?_ | refine Z01 ?_ | refine ZB ?_ | refine ZC ?_ | refine Zs ?_ | refine Zy ?_ | refine ZF ?_ | refine Zn ?_ | refine Zo ?_ | refine Zp ?_ | refine Z9 (hcon := hu) ?_ | refine Z9 (hcon := hf) ?_); refine JD ?_) | refine JT ?_
  exact Qq
 ·by_cases h2 : n % 2 = 0
  ·rw [show Ua 7 (n, at_, e') = if e' = 0 then 2 else e' by simp only [Ua, Uh]; by_cases h0 : e' = 0 <;> simp [h0, h2]]
   repeat first | refine X0 ?_ | (refine JR ?_; (repeat first | refine Z1 ?_ | refine Z0 ?_ | refine Z01 ?_ | refine ZB ?_ | refine ZC ?_ | refine Zs ?_ | refine Zl ?_ | refine ZJ ?_ | refine Zy ?_ | refine ZF ?_ | refine Zn ?_ | refine Zq ?_ | refine Z9 (hcon := hu) ?_ | refine Z9 (hcon := hf) ?_); refine JD ?_) | refine JT ?_
   exact Qq
  ·rw [show Ua 7 (n, at_, e') = e' by by_cases h0 : e' = 0 <;> simp [Ua, Uh, h, h2, h0]]
   repeat first | refine X0 ?_ | (refine JR ?_; (repeat first | refine Z1 ?_ | refine Z0 ?_ | refine Z01 ?_ | refine ZB ?_ | refine ZC ?_ | refine Zs ?_ | refine Zl ?_ | refine ZJ ?_ | refine Zy ?_ | refine ZF ?_ | refine Zn ?_ | refine Zq ?_ | refine Z9 (hcon := hu) ?_); refine JD ?_) | refine JF ?_ | refine X4 ?_
   exact Qq
def V2 (b : List UInt8) (a : Nat) (m : Nat) (want : Int) : Int × Int × Int :=
 if a = b.length then (0, (a : Int), 3) else let k : Int := ((b[a]?).getD 0).toNat
  if 8 < k ∨ (k = 8 ∧ m = 0) ∨ (want ≠ 0 ∧ k ≠ want) then (0, (a : Int), 2) else (k, (a : Int) + 1, 0)
theorem Xfa (b : List UInt8) (a m : Nat) (want : Int) (hm : m ≤ 8) (ha : a ≤ b.length) (hb : b.length ≤ 281474976710656) : Con Tryz.prog 176 [(0, oRd b a 0)] [.ptr 0 0, ai (8 - m), ai want] [(0, oRd b (V2 b a m want).2.1 (V2 b a m want).2.2)] (ai (V2 b a m want).1) := by
 refine Xb (xs := [ai (V2 b a m want).1]) Tryz.func176 rfl Tryz.ntmps176 rfl rfl rfl (fun E => ?_)
 by_cases ha' : a = b.length
 ·rw [show V2 b a m want = (0, (a : Int), 3) by unfold V2; rw [if_pos ha']]
  have hai : (a : Int) = b.length := by omega
  repeat first | refine X0 ?_ | (refine JR ?_; (repeat first | refine Z1 ?_ | refine Z0 ?_ | refine Z01 ?_ | refine ZB ?_ | refine ZC ?_ | refine Zd ?_ | refine Zl ?_ | refine Zv ?_ | refine Zy ?_); refine JD ?_) | refine JT ?_ | refine JF ?_ | refine X4 ?_
  exact Qq
 obtain ⟨c, hc⟩ := Xv (l := b) (k := a) (by omega)
 have e1 : V2 b a m want = if 8 < (c.toNat : Int) ∨ ((c.toNat : Int) = 8 ∧ m = 0) ∨ (want ≠ 0 ∧ (c.toNat : Int) ≠ want) then (0, (a : Int), 2) else ((c.toNat : Int), (a : Int) + 1, 0) := by
  unfold V2; rw [if_neg ha', hc]; rfl
 have hai : (a : Int) ≠ b.length := by omega
 by_cases h8 : 8 < (c.toNat : Int)
 ·rw [e1, if_pos (.inl h8)]
  repeat first | refine X0 ?_ | (refine JR ?_; (repeat first | refine Z1 ?_ | refine Z0 ?_ | refine Z01 ?_ | refine ZB ?_ | refine ZC ?_ | refine Zk ?_ | refine Zd ?_ | refine Zs ?_ | refine Zl ?_ | refine Zv ?_ | refine Zy ?_ | refine Zn ?_ | refine Zj ?_ | refine ZY ?_ | refine Zo ?_ | refine Zp ?_); refine JD ?_) | refine JT ?_ | refine JF ?_ | refine X4 ?_
  exact Qq
 by_cases hw : want ≠ 0 ∧ (c.toNat : Int) ≠ want
 ·rw [e1, if_pos (.inr (.inr hw))]
  obtain ⟨hw1, hw2⟩ := hw
  by_cases hk : (c.toNat : Int) = 8
  ·by_cases hm0 : m = 0
   ·have : (8 : Int) - m ≥ 8 := by omega
    repeat first | refine X0 ?_ | (refine JR ?_; (repeat first | refine Z1 ?_ | refine Z0 ?_ | refine Z01 ?_ | refine ZB ?_ | refine ZC ?_ | refine Zk ?_ | refine Zd ?_ | refine Zs ?_ | refine Z2 ?_ | refine Zl ?_ | refine Zv ?_ | refine Zy ?_ | refine Zn ?_ | refine Zq ?_ | refine Zj ?_ | refine ZY ?_ | refine Zo ?_ | refine Zp ?_); refine JD ?_) | refine JT ?_ | refine JF ?_ | refine X4 ?_
    exact Qq
   ·have : ¬ (8 : Int) - m ≥ 8 := by omega
    repeat first | refine X0 ?_ | (refine JR ?_; (repeat first | refine Z1 ?_ | refine Z0 ?_ | refine Z01 ?_ | refine ZB ?_ | refine ZC ?_ | refine Zk ?_ | refine Zd ?_ | refine Zs ?_ | refine Z2 ?_ | refine Zl ?_ | refine Zv ?_ | refine Zy ?_ | refine Zn ?_ | refine Zq ?_ | refine Zj ?_ | refine ZY ?_); refine JD ?_) | refine JT ?_ | refine JF ?_ | refine X4 ?_
    exact Qq
  ·repeat first | refine X0 ?_ | (refine JR ?_; (repeat first | refine Z1 ?_ | refine Z0 ?_ | refine Z01 ?_ | refine ZB ?_ | refine ZC ?_ | refine Zk ?_ | refine Zd ?_ | refine Zs ?_ | refine Zl ?_ | refine Zv ?_ | refine Zy ?_ | refine Zn ?_ | refine Zq ?_ | refine Zj ?_ | refine ZY ?_ | refine Zo ?_); refine JD ?_) | refine JT ?_ | refine JF ?_ | refine X4 ?_
   exact Qq
 by_cases hk : (c.toNat : Int) = 8
 ·by_cases hm0 : m = 0
  ·rw [e1, if_pos (.inr (.inl ⟨hk, hm0⟩))]
   have : (8 : Int) - m ≥ 8 := by omega
   repeat first | refine X0 ?_ | (refine JR ?_; (repeat first | refine Z1 ?_ | refine Z0 ?_ | refine Z01 ?_ | refine ZB ?_ | refine ZC ?_ | refine Zk ?_ | refine Zd ?_ | refine Zs ?_ | refine Z2 ?_ | refine Zl ?_ | refine Zv ?_ | refine Zy ?_ | refine Zn ?_ | refine Zq ?_ | refine Zj ?_ | refine ZY ?_ | refine Zo ?_ | refine Zp ?_); refine JD ?_) | refine JT ?_ | refine JF ?_ | refine X4 ?_
   exact Qq
  ·rw [e1, if_neg (by omega)]
   have : ¬ (8 : Int) - m ≥ 8 := by omega
   by_cases hw0 : want = 0
   ·repeat first | refine X0 ?_ | (refine JR ?_; (repeat first | refine Z1 ?_ | refine Z0 ?_ | refine Z01 ?_ | refine ZB ?_ | refine ZC ?_ | refine Zk ?_ | refine Zd ?_ | refine Zs ?_ | refine Z2 ?_ | refine Zl ?_ | refine Zv ?_ | refine Zb ?_ | refine Zy ?_ | refine Zn ?_ | refine Zq ?_ | refine Zj ?_ | refine ZY ?_ | refine Zo ?_); refine JD ?_) | refine JF ?_ | refine X4 ?_
    exact Qq
   ·have hw1 : (c.toNat : Int) = want := by omega
    repeat first | refine X0 ?_ | (refine JR ?_; (repeat first | refine Z1 ?_ | refine Z0 ?_ | refine Z01 ?_ | refine ZB ?_ | refine ZC ?_ | refine Zk ?_ | refine Zd ?_ | refine Zs ?_ | refine Z2 ?_ | refine Zl ?_ | refine Zv ?_ | refine Zb ?_ | refine Zy ?_ | refine Zn ?_ | refine Zq ?_ | refine Zj ?_ | refine ZY ?_); refine JD ?_) | refine JF ?_ | refine X4 ?_
    exact Qq
 ·rw [e1, if_neg (by omega)]
  by_cases hw0 : want = 0
  ·repeat first | refine X0 ?_ | (refine JR ?_; (repeat first | refine Z1 ?_ | refine Z0 ?_ | refine Z01 ?_ | refine ZB ?_ | refine ZC ?_ | refine Zk ?_ | refine Zd ?_ | refine Zs ?_ | refine Zl ?_ | refine Zv ?_ | refine Zb ?_ | refine Zy ?_ | refine Zq ?_ | refine Zj ?_ | refine ZY ?_ | refine Zo ?_); refine JD ?_) | refine JF ?_ | refine X4 ?_
   exact Qq
  ·have hw1 : (c.toNat : Int) = want := by omega
   repeat first | refine X0 ?_ | (refine JR ?_; (repeat first | refine Z1 ?_ | refine Z0 ?_ | refine Z01 ?_ | refine ZB ?_ | refine ZC ?_ | refine Zk ?_ | refine Zd ?_ | refine Zs ?_ | refine Zl ?_ | refine Zv ?_ | refine Zb ?_ | refine Zy ?_ | refine Zn ?_ | refine Zq ?_ | refine Zj ?_ | refine ZY ?_ | refine Zo ?_); refine JD ?_) | refine JF ?_ | refine X4 ?_
   exact Qq
def X0c (b : List UInt8) (a : Nat) (nest want : Int) (r : Val × Int × Int) : Prop :=
 Con Tryz.prog 157 [(0, oRd b a 0)] [.ptr 0 0, ai nest, ai want] [(0, oRd b r.2.1 r.2.2)] (Xi r.1)
def YA (c : Val × Int × Int) : Val × Int × Int := if c.2.2 = 0 ∧ X8 8 c.1 = false then (c.1, c.2.1, 2) else c
theorem X4j (l : List Val) (k n d : Int) (s : List UInt8) (q : List Val) : Xy l ++ [[.v (.int .i64 k), .v (.int .i64 n), .v (.int .i64 d), .v (.string (X6 s)), .sl 5 (Xy q)]] = Xy (l ++ [.mk k n d s q]) := by
 rw [X1A l, X1A (l ++ _), List.map_append, List.map_cons, List.map_nil, Vb]
theorem XbO {b : List UInt8} {a m : Nat} {want : Int} (h : (V2 b a m want).2.2 ≠ 0) (gl gp : Nat → Int → Val × Int × Int) : U9 gl gp m b a want = (zV, (V2 b a m want).2.1, (V2 b a m want).2.2) := by
 unfold V2 at *
 unfold U9
 by_cases ha : a = b.length
 ·rw [if_pos ha] at *; rw [if_pos (by omega)]
 ·rw [if_neg ha] at *
  rw [if_neg (by omega), Int.toNat_natCast]
  simp only at *
  split
  ·rfl
  ·rename_i h2; rw [if_neg h2] at h; simp at h
theorem Xcf {b : List UInt8} {a m : Nat} {want : Int} (ha : a ≤ b.length) (h : (V2 b a m want).2.2 = 0) :
  ∃ k : Nat, V2 b a m want = ((k : Int), (a : Int) + 1, 0) ∧ a < b.length ∧ k ≤ 8 ∧ (k = 8 → m ≠ 0) ∧ (want ≠ 0 → (k : Int) = want) ∧ ∀ gl gp, U9 gl gp m b a want = YA (XV gl gp b (a + 1) k) := by
 unfold V2 at *
 by_cases ha' : a = b.length
 ·rw [if_pos ha'] at h; simp at h
 rw [if_neg ha'] at *
 simp only at *
 split at h
 ·simp at h
 rename_i h2
 refine ⟨_, by rw [if_neg h2], by omega, by omega, fun h3 h4 => h2 (.inr (.inl ⟨by omega, h4⟩)), fun h3 => Classical.byContradiction fun h4 => h2 (.inr (.inr ⟨h3, h4⟩)), fun gl gp => ?_⟩
 unfold U9
 rw [if_neg (by omega), Int.toNat_natCast]
 simp only
 rw [if_neg h2]
 rfl
theorem Xca (b : List UInt8) (m a : Nat) (want : Int) (gl gp : Nat → Int → Val × Int × Int) (R : Val × Int × Int) (hm : m ≤ 8) (ha : a < b.length) (hb : b.length ≤ 281474976710656)
  (hge : ∀ i q : Nat, q ≤ b.length → Uo b (gl i q).2) (hg : ∀ i q : Nat, q ≤ b.length → X0c b q (8 - m + 1) 0 (gl i q))
  (hk : Con Tryz.prog 176 [(0, oRd b a 0)] [.ptr 0 0, ai (8 - m), ai want] [(0, oRd b ((a : Int) + 1) 0)] (ai 8)) (hG : R = YA (XV gl gp b (a + 1) 8)) : X0c b a (8 - m) want R := by
 refine Xb (xs := [Xi R.1]) Tryz.func157 rfl Tryz.ntmps157 rfl rfl rfl (fun E => ?_)
 ·have hc := XgP b (a + 1) 0 hb
  have hcz : XV gl gp b (a + 1) 8 = if Ua 8 (Xf b (a + 1)) ≠ 0 then (.mk 8 0 0 [] [], (Xf b (a + 1)).2.1, Ua 8 (Xf b (a + 1))) else
    (.mk 8 0 0 [] (Xt gl (Xf b (a + 1)).2.1 (Xf b (a + 1)).1.toNat).1, (Xt gl (Xf b (a + 1)).2.1 (Xf b (a + 1)).1.toNat).2.1, (Xt gl (Xf b (a + 1)).2.1 (Xf b (a + 1)).1.toNat).2.2) := by
   simp only [XV, Ua]
   by_cases e1 : (Xf b (a + 1)).2.2 = 0
   ·by_cases e2 : Uh 8 (Xf b (a + 1)).1 = true <;> simp [e1, e2]
   ·simp [e1]
  have hue := X0k b (a + 1)
  obtain ⟨N, hN⟩ := X1Z b (a + 1)
  have hNb : Ua 8 (Xf b (a + 1)) = 0 → (Xf b (a + 1)).2.2 = 0 ∧ N ≤ 64 := by
   unfold Ua
   rw [hN]
   split
   ·intro h; contradiction
   ·rename_i h1
    split
    ·intro h; simp at h
    ·rename_i h2
     refine fun _ => ⟨Classical.not_not.1 h1, ?_⟩
     simp [Uh] at h2
     omega
  generalize Ua 8 (Xf b (a + 1)) = ce at *
  generalize Xf b (a + 1) = u at *
  obtain ⟨n, a2, e2⟩ := u
  simp only at hN
  subst hN
  simp only [Int.toNat_natCast] at hc hcz hue hNb
  by_cases hce : ce = 0
  case neg =>
   rw [if_pos hce] at hcz
   rw [hcz] at hG
   obtain rfl : R = (.mk 8 0 0 [] [], a2, ce) := by rw [hG]; simp [YA, hce]
   repeat first | refine X0 ?_ | (refine JR ?_; (repeat first | refine Z1 ?_ | refine Z0 ?_ | refine Z01 ?_ | refine ZB ?_ | refine ZC ?_ | refine Zl ?_ | refine Zv ?_ | refine Zw (γ := 100) ?_ | refine Zw (γ := 101) ?_ | refine Zy ?_ | refine Zx ?_ | refine Z9 (hcon := hk) ?_ | refine Z9 (hcon := hc) ?_); refine JD ?_) | refine JT ?_ | refine JF ?_ | refine X5 ?_ | refine X4 ?_
   refine Xu (fun _ : Unit => True) (fun _ => ⟨135, [(0, .ptr 0 0), (1, ai (8 - m)), (2, ai want), (6, .ptr 100 0), (7, .ptr 101 0), (11, ai N), (12, ai 0)], [(0, oRd b a2 ce), (100, .box [ai 0, ai 0, ai 0, .d (.v (.string (X6 []))), ani]), (101, .box [ai 8, ai 0, ai 0, .d (.v (.string (X6 []))), ani])]⟩) (fun _ => 0) () trivial
    (Xa rfl ⟨JL, JL, JL, JL, JL, JL, JL, trivial⟩ ⟨rfl, rfl, rfl, trivial⟩) ?_
   intro _ _
   by_cases h0N : 0 < N
   ·refine Qnd ?_; exact Qod
   ·refine Qpd ?_; exact Qod
  subst hce
  obtain ⟨he2, hN⟩ := hNb rfl
  subst he2
  rw [if_neg (by simp)] at hcz
  rw [hcz] at hG
  clear hcz
  have h00 := hue rfl
  simp only at h00
  clear hue
  repeat first | refine X0 ?_ | (refine JR ?_; (repeat first | refine Z1 ?_ | refine Z0 ?_ | refine Z01 ?_ | refine ZB ?_ | refine ZC ?_ | refine Zl ?_ | refine Zv ?_ | refine Zw (γ := 100) ?_ | refine Zw (γ := 101) ?_ | refine Zy ?_ | refine Zx ?_ | refine Z9 (hcon := hk) ?_ | refine Z9 (hcon := hc) ?_); refine JD ?_) | refine JT ?_ | refine JF ?_ | refine X5 ?_ | refine X4 ?_
  refine Xm (Vx 101 4 121 5 (cs := [ai 8, ai 0, ai 0, .d (.v (.string (X6 []))), ani]) rfl rfl rfl rfl rfl) ?_
  refine Xu (fun i : Nat => i ≤ N ∧ (Xt gl a2 i).1.length = i) (fun i => ⟨135, [(0, .ptr 0 0), (1, ai (8 - m)), (2, ai want), (6, .ptr 100 0), (7, .ptr 101 0), (11, ai N), (12, ai i)], [(0, oRd b (Xt gl a2 i).2.1 (Xt gl a2 i).2.2), (100, .box [ai 0, ai 0, ai 0, .d (.v (.string (X6 []))), ani]), (101, .box [ai 8, ai 0, ai 0, .d (.v (.string (X6 []))), .own 121 (Xt gl a2 i).1.length]), (121, .row 5 (Xy (Xt gl a2 i).1))]⟩) (fun i => N - i) 0 ⟨by omega, rfl⟩
   (Xa rfl ⟨JL, JL, JL, JL, JL, JL, JL, trivial⟩ ⟨rfl, rfl, rfl, rfl, trivial⟩) ?_
  intro i hi
  obtain ⟨hi, hil⟩ := hi
  have hlen := Va (Xt gl a2 i).1
  by_cases hpe : (Xt gl a2 i).2.2 = 0
  case neg =>
   have hst := X0z hpe N hi
   rw [hst] at hG
   generalize Xt gl a2 i = p at *
   obtain ⟨l, pa, pe⟩ := p
   simp only at hpe hil hG hlen hst
   clear hst
   obtain rfl : R = (.mk 8 0 0 [] l, pa, pe) := by rw [hG]; simp [YA, hpe]
   refine Qqd ?_
   by_cases hiN : i < N
   ·refine Qnd ?_; exact Qrd
   ·refine Qpd ?_; exact Qrd
  by_cases hiN : i < N
  case neg =>
   obtain rfl : i = N := by omega
   generalize Xt gl a2 i = p at *
   obtain ⟨l, pa, pe⟩ := p
   simp only at hpe hil hG hlen
   subst hpe
   have hval := VG (.mk 8 0 0 [] l)
   simp only [Xi] at hval
   refine Qqd ?_
   cases hv : X8 8 (.mk 8 0 0 [] l) with
   | false =>
    rw [hv] at hval
    obtain rfl : R = (.mk 8 0 0 [] l, pa, 2) := by rw [hG]; simp [YA, hv]
    refine Qsd ?_; refine Qh ?_; refine Qk ?_; refine Z01 ?_; refine Qjd ?_; exact Qtd
   | true =>
    rw [hv] at hval
    obtain rfl : R = (.mk 8 0 0 [] l, pa, 0) := by rw [hG]; simp [YA, hv]
    refine Qsd ?_; refine Qr ?_; exact Qtd
  obtain ⟨q, hq1, hq2⟩ := X1Q hge h00 i hpe
  have hcall := hg i q hq2
  unfold X0c at hcall
  have hsucc := X0u hpe
  have hsl := X42 hpe
  rw [hq1] at hsucc
  generalize gl i q = r at hcall hsucc
  generalize Xt gl a2 i = p at *
  obtain ⟨l, pa, pe⟩ := p
  obtain ⟨x, xa, xe⟩ := r
  simp only at hq1 hpe hil hsucc hlen hcall
  subst hq1 hpe
  obtain ⟨xk, xn, xd, xs, xl⟩ := x
  simp only [Xi] at hcall
  skip
  refine Qld ?_; refine Qw ?_; refine Qid ?_; refine Zn ?_; refine Qkb ?_; refine QWc ?_; refine Qw ?_; refine Zb ?_; refine Z9 (hcon := hcall) ?_; refine Qud ?_
  refine ⟨i + 1, ⟨by omega, hsl⟩, by omega, ?_⟩
  dsimp only
  rw [hsucc]
  refine Xa rfl ⟨JL, JL, JL, JL, JL, JL, JL, trivial⟩ ⟨rfl, rfl, ?_, ?_, trivial⟩
  ·refine Eq.trans (b := AObj.box ([ai 8, ai 0, ai 0, .d (.v (.string (X6 []))), .own 121 _])) rfl ?_
   congr 6; simp [hlen]
  ·exact Qvd
theorem XdS (b : List UInt8) (m a : Nat) (want : Int) (gl gp : Nat → Int → Val × Int × Int) (R : Val × Int × Int) (hm : m ≤ 8) (ha : a < b.length) (hb : b.length ≤ 281474976710656)
  (hge : ∀ i q : Nat, q ≤ b.length → Uo b (gp i q).2) (hg : ∀ i q : Nat, q ≤ b.length → X0c b q (8 - m) (5 + (i % 2 : Nat)) (gp i q))
  (hk : Con Tryz.prog 176 [(0, oRd b a 0)] [.ptr 0 0, ai (8 - m), ai want] [(0, oRd b ((a : Int) + 1) 0)] (ai 7)) (hG : R = YA (XV gl gp b (a + 1) 7)) : X0c b a (8 - m) want R := by
 refine Xb (xs := [Xi R.1]) Tryz.func157 rfl Tryz.ntmps157 rfl rfl rfl (fun E => ?_)
 ·have hc := Xgw b (a + 1) 0 hb
  have hcz : XV gl gp b (a + 1) 7 = if Ua 7 (Xf b (a + 1)) ≠ 0 then (.mk 7 0 0 [] [], (Xf b (a + 1)).2.1, Ua 7 (Xf b (a + 1))) else
    (.mk 7 0 0 [] (Xt gp (Xf b (a + 1)).2.1 (Xf b (a + 1)).1.toNat).1, (Xt gp (Xf b (a + 1)).2.1 (Xf b (a + 1)).1.toNat).2.1, (Xt gp (Xf b (a + 1)).2.1 (Xf b (a + 1)).1.toNat).2.2) := by
   simp only [XV, Ua]
   by_cases e1 : (Xf b (a + 1)).2.2 = 0
   ·by_cases e2 : Uh 7 (Xf b (a + 1)).1 = true <;> simp [e1, e2]
   ·simp [e1]
  have hue := X0k b (a + 1)
  obtain ⟨N, hN⟩ := X1Z b (a + 1)
  have hNb : Ua 7 (Xf b (a + 1)) = 0 → (Xf b (a + 1)).2.2 = 0 ∧ N ≤ 64 := by
   unfold Ua
   rw [hN]
   split
   ·intro h; contradiction
   ·rename_i h1
    split
    ·intro h; simp at h
    ·rename_i h2
     refine fun _ => ⟨Classical.not_not.1 h1, ?_⟩
     simp [Uh] at h2
     omega
  generalize Ua 7 (Xf b (a + 1)) = ce at *
  generalize Xf b (a + 1) = u at *
  obtain ⟨n, a2, e2⟩ := u
  simp only at hN
  subst hN
  simp only [Int.toNat_natCast] at hc hcz hue hNb
  by_cases hce : ce = 0
  case neg =>
   rw [if_pos hce] at hcz
   rw [hcz] at hG
   obtain rfl : R = (.mk 7 0 0 [] [], a2, ce) := by rw [hG]; simp [YA, hce]
   repeat first | refine X0 ?_ | (refine JR ?_; (repeat first | refine Z1 ?_ | refine Z0 ?_ | refine Z01 ?_ | refine ZB ?_ | refine ZC ?_ | refine Zl ?_ | refine Zv ?_ | refine Zw (γ := 100) ?_ | refine Zw (γ := 101) ?_ | refine Zy ?_ | refine Zx ?_ | refine Z9 (hcon := hk) ?_ | refine Z9 (hcon := hc) ?_); refine JD ?_) | refine JT ?_ | refine JF ?_ | refine X5 ?_ | refine X4 ?_
   refine Xu (fun _ : Unit => True) (fun _ => ⟨135, [(0, .ptr 0 0), (1, ai (8 - m)), (2, ai want), (6, .ptr 100 0), (7, .ptr 101 0), (13, ai N), (14, ai 0)], [(0, oRd b a2 ce), (100, .box [ai 0, ai 0, ai 0, .d (.v (.string (X6 []))), ani]), (101, .box [ai 7, ai 0, ai 0, .d (.v (.string (X6 []))), ani])]⟩) (fun _ => 0) () trivial
    (Xa rfl ⟨JL, JL, JL, JL, JL, JL, JL, trivial⟩ ⟨rfl, rfl, rfl, trivial⟩) ?_
   intro _ _
   by_cases h0N : 0 < N
   ·refine Qnd ?_; exact Qwd
   ·refine Qpd ?_; exact Qwd
  subst hce
  obtain ⟨he2, hN⟩ := hNb rfl
  subst he2
  rw [if_neg (by simp)] at hcz
  rw [hcz] at hG
  clear hcz
  have h00 := hue rfl
  simp only at h00
  clear hue
  repeat first | refine X0 ?_ | (refine JR ?_; (repeat first | refine Z1 ?_ | refine Z0 ?_ | refine Z01 ?_ | refine ZB ?_ | refine ZC ?_ | refine Zl ?_ | refine Zv ?_ | refine Zw (γ := 100) ?_ | refine Zw (γ := 101) ?_ | refine Zy ?_ | refine Zx ?_ | refine Z9 (hcon := hk) ?_ | refine Z9 (hcon := hc) ?_); refine JD ?_) | refine JT ?_ | refine JF ?_ | refine X5 ?_ | refine X4 ?_
  refine Xm (Vx 101 4 121 5 (cs := [ai 7, ai 0, ai 0, .d (.v (.string (X6 []))), ani]) rfl rfl rfl rfl rfl) ?_
  refine Xu (fun i : Nat => i ≤ N ∧ (Xt gp a2 i).1.length = i) (fun i => ⟨135, [(0, .ptr 0 0), (1, ai (8 - m)), (2, ai want), (6, .ptr 100 0), (7, .ptr 101 0), (13, ai N), (14, ai i)], [(0, oRd b (Xt gp a2 i).2.1 (Xt gp a2 i).2.2), (100, .box [ai 0, ai 0, ai 0, .d (.v (.string (X6 []))), ani]), (101, .box [ai 7, ai 0, ai 0, .d (.v (.string (X6 []))), .own 121 (Xt gp a2 i).1.length]), (121, .row 5 (Xy (Xt gp a2 i).1))]⟩) (fun i => N - i) 0 ⟨by omega, rfl⟩
   (Xa rfl ⟨JL, JL, JL, JL, JL, JL, JL, trivial⟩ ⟨rfl, rfl, rfl, rfl, trivial⟩) ?_
  intro i hi
  obtain ⟨hi, hil⟩ := hi
  have hlen := Va (Xt gp a2 i).1
  by_cases hpe : (Xt gp a2 i).2.2 = 0
  case neg =>
   have hst := X0z hpe N hi
   rw [hst] at hG
   generalize Xt gp a2 i = p at *
   obtain ⟨l, pa, pe⟩ := p
   simp only at hpe hil hG hlen hst
   clear hst
   obtain rfl : R = (.mk 7 0 0 [] l, pa, pe) := by rw [hG]; simp [YA, hpe]
   refine Qxd ?_
   by_cases hiN : i < N
   ·refine Qnd ?_; exact Qrd
   ·refine Qpd ?_; exact Qrd
  by_cases hiN : i < N
  case neg =>
   obtain rfl : i = N := by omega
   generalize Xt gp a2 i = p at *
   obtain ⟨l, pa, pe⟩ := p
   simp only at hpe hil hG hlen
   subst hpe
   have hval := VG (.mk 7 0 0 [] l)
   simp only [Xi] at hval
   refine Qxd ?_
   cases hv : X8 8 (.mk 7 0 0 [] l) with
   | false =>
    rw [hv] at hval
    obtain rfl : R = (.mk 7 0 0 [] l, pa, 2) := by rw [hG]; simp [YA, hv]
    refine Qsd ?_; refine Qh ?_; refine Qk ?_; refine Z01 ?_; refine Qjd ?_; exact Qtd
   | true =>
    rw [hv] at hval
    obtain rfl : R = (.mk 7 0 0 [] l, pa, 0) := by rw [hG]; simp [YA, hv]
    refine Qsd ?_; refine Qr ?_; exact Qtd
  obtain ⟨q, hq1, hq2⟩ := X1Q hge h00 i hpe
  have hcall := hg i q hq2
  unfold X0c at hcall
  have hsucc := X0u hpe
  have hsl := X42 hpe
  rw [hq1] at hsucc
  generalize gp i q = r at hcall hsucc
  generalize Xt gp a2 i = p at *
  obtain ⟨l, pa, pe⟩ := p
  obtain ⟨x, xa, xe⟩ := r
  simp only at hq1 hpe hil hsucc hlen hcall
  subst hq1 hpe
  obtain ⟨xk, xn, xd, xs, xl⟩ := x
  simp only [Xi] at hcall
  have hi2 : ((i : Int) % 2) = ((i % 2 : Nat) : Int) := by omega
  refine Qld ?_; refine Qw ?_; refine Qid ?_; refine Zn ?_; refine Qkb ?_; refine QWc ?_; refine QBa ?_; refine Z02 (op := .rem) (r' := .int .i64 ((i % 2 : Nat) : Int)) (u := .int .i64 i) (v := .int .i64 2) ?_ (hr' := by exact congrArg (Value.int .i64) hi2); refine Zb ?_; refine Z9 (hcon := hcall) ?_; refine Qud ?_
  refine ⟨i + 1, ⟨by omega, hsl⟩, by omega, ?_⟩
  dsimp only
  rw [hsucc]
  refine Xa rfl ⟨JL, JL, JL, JL, JL, JL, JL, trivial⟩ ⟨rfl, rfl, ?_, ?_, trivial⟩
  ·refine Eq.trans (b := AObj.box ([ai 7, ai 0, ai 0, .d (.v (.string (X6 []))), .own 121 _])) rfl ?_
   congr 6; simp [hlen]
  ·exact Qvd
end Go.Fw
