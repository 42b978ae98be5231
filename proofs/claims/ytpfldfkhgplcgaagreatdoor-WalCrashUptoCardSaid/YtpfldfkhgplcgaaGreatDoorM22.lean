/- Changes and rules put: the program's. -/
import Derived.Test.YtpfldfkhgplcgaaGreatDoorM20
import Derived.Test.YtpfldfkhgplcgaaGreatDoorM21
set_option maxHeartbeats 16000000
namespace Go.Fw
open Go Go.Proofs
set_option maxRecDepth 100000
set_option linter.unusedVariables false
set_option linter.unusedSimpArgs false
abbrev cS (s : List UInt8) : List D := [.v (.string (X7 s))]
def X03 (l : List (List UInt8)) : List UInt8 := (l.map Xw).flatten
theorem Xhp {l : List (List UInt8)} {i : Nat} {x : List UInt8} (h : l[i]? = some x) : X03 (l.take (i + 1)) = X03 (l.take i) ++ Xw x := by
 unfold X03
 rw [List.take_add_one, h]
 simp
theorem Vk {s : List UInt8} (h : s.length ≤ 20) : (Xw s).length ≤ 30 := by
 have := X1O (n := s.length) (by omega)
 unfold Xw
 rw [List.length_append]
 omega
theorem X7y : ∀ {l : List (List UInt8)}, (∀ x ∈ l, x.length ≤ 20) → (X03 l).length ≤ 30 * l.length
 | [], _ => by simp [X03]
 | x :: r, h => by
  have h1 := Vk (h x (by simp))
  have h2 := X7y (l := r) fun y hy => h y (by simp [hy])
  unfold X03 at *
  simp only [List.map_cons, List.flatten_cons, List.length_append, List.length_cons]
  omega
theorem Xi9 (r : Rul) (h : V2 r = 0) (hn : -9223372036854775808 ≤ r.n ∧ r.n ≤ 9223372036854775807) (hl : r.name.length ≤ 20 ∧ r.key.length ≤ 20 ∧ r.src.length ≤ 20 ∧ r.dst.length ≤ 20) (hk : 1 ≤ r.kind ∧ r.kind ≤ 7) :
  Con Tryz.prog 117 [] [Uv r] [(130, .row 1 ((Ua r).map X6))] (.own 130 ((Ua r).map X6).length) := by
 obtain ⟨k, n, name, key, src, dst⟩ := r
 simp only at hn hl hk
 obtain ⟨m, rfl⟩ : ∃ m : Nat, k = m := ⟨k.toNat, by omega⟩
 simp only [Uv] at *
 clear h
 refine Xa (xs := [.own 130 ((Ua ⟨m, n, name, key, src, dst⟩).map X6).length]) Tryz.func117 rfl Tryz.ntmps117 rfl rfl rfl (fun E => ?_)
 have e8 : n8 (m % 256) = n8 (UInt8.ofNat m).toNat := by rw [UZ (by omega), Nat.mod_eq_of_lt (by omega)]
 have hL : ∀ x ∈ [name, key, src, dst], x.length ≤ 20 := by
  intro x hx
  simp only [List.mem_cons, List.not_mem_nil, or_false] at hx
  rcases hx with rfl | rfl | rfl | rfl <;> omega
 have hput : Ua ⟨m, n, name, key, src, dst⟩ = (UInt8.ofNat m :: X03 [name, key, src, dst]) ++ XS n := by
  unfold Ua X03
  simp
 have hpi := X1L n hn
 have hpl := X2r hn
 rw [hput]
 clear hput
 refine QJa ?_; refine Z3 (u := nj m) (r := n8 (UInt8.ofNat m).toNat) ?_ (hr := by exact by rw [← e8]; exact Y6 rfl rfl); refine ZZ (γ := 130) ?_; refine Qc ?_; refine Qzb ?_; refine Qfd ?_; refine Z5 ?_; refine QA ?_
 generalize hLL : [name, key, src, dst] = L at *
 have hL4 : L.length = 4 := by rw [← hLL]; rfl
 have hlm : (L.map cS).length = L.length := by simp
 refine Xu (fun i : Nat => i ≤ L.length) (fun i => ⟨34, [(1, .ptr 100 0), (3, .own 130 ((UInt8.ofNat m :: X03 (L.take i)).map X6).length), (18, .d (.sl 1 (L.map cS))), (19, ai (L.map cS).length), (20, ai i)],
   [(100, .box [ai m, ai n, .d (.v (.string (X7 name))), .d (.v (.string (X7 key))), .d (.v (.string (X7 src))), .d (.v (.string (X7 dst)))]), (130, .row 1 ((UInt8.ofNat m :: X03 (L.take i)).map X6))]⟩) (fun i => L.length - i) 0 (by omega)
  (by subst hLL; exact X9 rfl ⟨JL, JL, JL, JL, JL, trivial⟩ ⟨rfl, rfl, trivial⟩) ?_
 intro i hi
 have hlen : ((UInt8.ofNat m :: X03 (L.take i)).map X6).length ≤ 200 := by
  have h1 := X7y (l := L.take i) fun x hx => hL x (List.mem_of_mem_take hx)
  have h2 : (L.take i).length ≤ 4 := by simp; omega
  simp only [List.length_map, List.length_cons]
  omega
 by_cases hil : i < L.length
 case neg =>
  obtain rfl : i = L.length := by omega
  rw [List.take_length] at hlen ⊢
  have hnn : ¬ ((L.length : Nat) : Int) < (L.map cS).length := by omega
  generalize UInt8.ofNat m :: X03 L = B at *
  generalize XS n = w at *
  refine QM ?_; refine Qf ?_; refine QHa ?_; refine Z9 (hcon := hpi) ?_; refine Qj ?_
  refine X1 ⟨_, Xb 2 (y := .own 130 ((B ++ w).map X6).length) (AVal.le_of_eq ?_), ⟨rfl, trivial⟩, Xj ⟨?_, trivial⟩⟩
  ·refine Qn ?_
   congr 1
   simp only [List.length_append, List.length_map] <;> omega
  ·refine Qic ?_
   simp only [List.map_append]
 have hnn : (i : Int) < (L.map cS).length := by omega
 obtain ⟨x, hx⟩ := Xx (l := L) hil
 have hxm : (L.map cS)[i]? = some (cS x) := YR hx
 have hxl := hL x (List.mem_of_getElem? hx)
 have hps := X20 x (by omega)
 have hpsl := Vk hxl
 have htk := Xhp hx
 generalize Xw x = w at *
 refine QD ?_; refine QF ?_; refine Qgc ?_; refine Z9 (hcon := hps) ?_; refine Qj ?_; refine QK ?_
 refine ⟨i + 1, by omega, by omega, ?_⟩
 try dsimp only
 rw [htk]
 refine X9 rfl ⟨JL, (by refine AVal.le_of_eq ?_; refine Eq.trans (b := AVal.own 130 (_ + _)) rfl ?_; congr 1; simp only [List.length_append, List.length_map, List.length_cons] <;> omega), JL, JL, JL, trivial⟩ ⟨rfl, ?_, trivial⟩
 refine Qic ?_
 simp only [List.map_append, List.map_cons, List.cons_append]
theorem X42 {s : List UInt8} (h : Yl s = true) : s.length ≤ 20 := by
 unfold Yl at h
 simp at h
 omega
theorem X2o {r : Rul} (h : V2 r = 0) : (-9223372036854775808 ≤ r.n ∧ r.n ≤ 9223372036854775807) ∧ (r.name.length ≤ 20 ∧ r.key.length ≤ 20 ∧ r.src.length ≤ 20 ∧ r.dst.length ≤ 20) ∧ (1 ≤ r.kind ∧ r.kind ≤ 7) := by
 rw [X7j] at h
 unfold X1s at h
 split at h
 ·omega
 rename_i h1
 split at h
 ·omega
 rename_i h2
 split at h
 ·omega
 rename_i h3
 have i1 : 1 ≤ r.kind ∧ r.kind ≤ 7 := by
  cases hd : decide (1 ≤ r.kind ∧ r.kind ≤ 7) with
  | true => exact of_decide_eq_true hd
  | false => exact absurd (.inl hd) h1
 have i2 : Vy r.kind r.n = true := by
  cases hd : Vy r.kind r.n with
  | true => rfl
  | false => exact absurd (.inr hd) h1
 have nm : Yl r.name = true := by
  cases hd : Yl r.name with
  | true => rfl
  | false => exact absurd (.inl hd) h3
 have ky : r.key.length ≤ 20 := by
  by_cases hk : V9 r.kind = true
  ·refine X42 (s := r.key) ?_
   cases hd : Yl r.key with
   | true => rfl
   | false => exact absurd (.inr (.inl ⟨hk, hd⟩)) h3
  ·by_cases he : r.key = []
   ·rw [he]; simp
   ·exact absurd (.inl ⟨by simpa using hk, he⟩) h2
 have sr : r.src.length ≤ 20 := by
  by_cases he : r.src = []
  ·rw [he]; simp
  ·refine X42 (s := r.src) ?_
   cases hd : Yl r.src with
   | true => rfl
   | false => exact absurd (.inr (.inr (.inl ⟨he, hd⟩))) h3
 have ds : r.dst.length ≤ 20 := by
  by_cases he : r.dst = []
  ·rw [he]; simp
  ·refine X42 (s := r.dst) ?_
   cases hd : Yl r.dst with
   | true => rfl
   | false => exact absurd (.inr (.inr (.inr ⟨he, hd⟩))) h3
 refine ⟨?_, ⟨X42 nm, ky, sr, ds⟩, i1⟩
 unfold Vy at i2
 split at i2
 ·have := of_decide_eq_true i2; omega
 ·split at i2
  ·have := of_decide_eq_true i2; omega
  ·have := of_decide_eq_true i2; omega
theorem Xf0 (r : Rul) (h : V2 r = 0) : Con Tryz.prog 117 [] [Uv r] [] (.d (Xf (Ua r))) :=
 (Xi9 r h (X2o h).1 (X2o h).2.1 (X2o h).2.2).data (by simp)
def XT : Chg → List D
 | ⟨op, id, src, dst, name, .mk k n d s l⟩ => [.v (.int .i64 op), .v (.int .i64 id), .v (.int .i64 src), .v (.int .i64 dst), .v (.string (X7 name)), .v (.int .i64 k), .v (.int .i64 n), .v (.int .i64 d), .v (.string (X7 s)), .sl 5 (XF l)]
def X3C (c : Chg) : Prop := c.name.length ≤ 9223372036854775807 ∧ YD c.v
abbrev oRd (b : List UInt8) (a e : Int) : AObj := .box [.d (Xf b), ai a, ai e]
theorem Xbh (b : List UInt8) (a e x : Int) : Con Tryz.prog 199 [(0, oRd b a e)] [.ptr 0 0, ai x] [(0, oRd b a (if e = 0 then x else e))] (.tup []) := by
 refine Xa (xs := []) Tryz.func199 rfl Tryz.ntmps199 rfl rfl rfl (fun E => ?_)
 by_cases h : e = 0
 ·rw [if_pos h]
  refine Qf ?_; refine Qgd ?_; refine Qh ?_; refine Qgc ?_; refine Z01 ?_; refine Qhd ?_; exact (show Xn _ _ _ _ _ from ⟨_, St.le_refl _, trivial, Xj ⟨rfl, trivial⟩⟩)
 ·rw [if_neg h]
  refine Qf ?_; refine Qgd ?_; refine Qs ?_; exact (show Xn _ _ _ _ _ from ⟨_, St.le_refl _, trivial, Xj ⟨rfl, trivial⟩⟩)
theorem X2N (b : List UInt8) (a e : Int) (hb : b.length ≤ 281474976710656) : Con Tryz.prog 177 [(0, oRd b a e)] [.ptr 0 0] [(0, if e = 0 then oRd b (XO b a).2.1 (XO b a).2.2 else oRd b a e)] (ai (if e = 0 then (XO b a).1 else 0)) := by
 refine Xa (xs := [ai (if e = 0 then (XO b a).1 else 0)]) Tryz.func177 rfl Tryz.ntmps177 rfl rfl rfl (fun E => ?_)
 by_cases h : e = 0
 ·rw [if_pos h, if_pos h]
  repeat first | refine X0 ?_ | (refine JR ?_; (repeat first | refine Z1 ?_ | refine Z0 ?_ | refine Z01 ?_ | refine ZB ?_ | refine ZC ?_ | refine Zv ?_ | refine Zy ?_ | refine ZF ?_ | refine Z9 (hcon := X7M b a hb) ?_); refine JD ?_) | refine JF ?_ | refine X4 ?_
  exact Qr
 ·rw [if_neg h, if_neg h]
  refine Qo ?_; refine Z01 ?_; refine QHa ?_; refine Zv ?_; refine Qq ?_; exact Qr
def rkS (b : List UInt8) (a : Nat) (e limit : Int) : Int × Int × Int :=
 if e ≠ 0 then (0, (a : Int), e) else if b.length ≤ a then (0, (a : Int), 3) else
  if ((((b[a]?).getD 0).toNat : Nat) : Int) < 1 ∨ limit < ((((b[a]?).getD 0).toNat : Nat) : Int) then (0, (a : Int), 2) else ((((b[a]?).getD 0).toNat : Nat), (a : Int) + 1, 0)
theorem Xi0 (b : List UInt8) (a : Nat) (e limit : Int) (hb : b.length ≤ 281474976710656) (ha : a ≤ 281474976710656) : Con Tryz.prog 94 [(0, oRd b a e)] [.ptr 0 0, ai limit] [(0, oRd b (rkS b a e limit).2.1 (rkS b a e limit).2.2)] (ai (rkS b a e limit).1) := by
 refine Xa (xs := [ai (rkS b a e limit).1]) Tryz.func94 rfl Tryz.ntmps94 rfl rfl rfl (fun E => ?_)
 have hlm : (b.map X6).length = b.length := by simp
 by_cases he : e = 0
 case neg =>
  rw [show rkS b a e limit = (0, (a : Int), e) by unfold rkS; rw [if_pos he]]
  exact Qid
 subst he
 by_cases h1 : b.length ≤ a
 ·rw [show rkS b a 0 limit = (0, (a : Int), 3) by unfold rkS; rw [if_neg (by simp), if_pos h1]]
  have h1' : ((b.map X6).length : Int) ≤ a := by omega
  repeat first | refine X0 ?_ | (refine JR ?_; (repeat first | refine Z1 ?_ | refine Z0 ?_ | refine Z01 ?_ | refine ZB ?_ | refine ZC ?_ | refine Zd ?_ | refine Z2 ?_ | refine Zv ?_ | refine Zy ?_); refine JD ?_) | refine JT ?_ | refine JF ?_ | refine X5 ?_
  exact Qr
 have h1' : ¬ ((b.map X6).length : Int) ≤ a := by omega
 obtain ⟨c, hc⟩ := Xx (l := b) (k := a) (by omega)
 have hrk : rkS b a 0 limit = if ((c.toNat : Nat) : Int) < 1 ∨ limit < ((c.toNat : Nat) : Int) then (0, (a : Int), 2) else (((c.toNat : Nat) : Int), (a : Int) + 1, 0) := by
  unfold rkS; rw [if_neg (by simp), if_neg h1, hc, Option.getD_some]
 have hxm : (b.map X6)[a]? = some (X6 c) := YR hc
 by_cases h2 : ((c.toNat : Nat) : Int) < 1
 ·rw [hrk, if_pos (.inl h2)]
  repeat first | refine X0 ?_ | (refine JR ?_; (repeat first | refine Z1 ?_ | refine Z0 ?_ | refine Z01 ?_ | refine ZB ?_ | refine ZC ?_ | refine Zk ?_ | refine Zd ?_ | refine Z8 ?_ | refine Z2 ?_ | refine Zv ?_ | refine Zy ?_ | refine Zn ?_ | refine Zj ?_ | refine Zo ?_); refine JD ?_) | refine JT ?_ | refine JF ?_ | refine X5 ?_
  exact Qr
 by_cases h3 : limit < ((c.toNat : Nat) : Int)
 ·rw [hrk, if_pos (.inr h3)]
  repeat first | refine X0 ?_ | (refine JR ?_; (repeat first | refine Z1 ?_ | refine Z0 ?_ | refine Z01 ?_ | refine ZB ?_ | refine ZC ?_ | refine Zk ?_ | refine Zd ?_ | refine Z8 ?_ | refine Zs ?_ | refine Z2 ?_ | refine Zv ?_ | refine Zy ?_ | refine Zq ?_ | refine Zj ?_ | refine ZY ?_); refine JD ?_) | refine JT ?_ | refine JF ?_ | refine X5 ?_
  exact Qr
 rw [hrk, if_neg (by omega)]
 repeat first | refine X0 ?_ | (refine JR ?_; (repeat first | refine Z4 (op := .sub) (r' := nj a) (u := .int .i64 ((a : Int) + 1)) (v := .int .i64 1) ?_ (hr' := by exact congrArg (Value.int .i64) (show ((a : Int) + 1 - 1) = (a : Int) by omega)) (hr := by exact X0M (by unfold U6; omega)) | refine Z1 ?_ | refine Z0 ?_ | refine Z01 ?_ | refine ZB ?_ | refine ZC ?_ | refine Zk ?_ | refine Zd ?_ | refine Z8 ?_ | refine Zs ?_ | refine Z2 ?_ | refine Zv ?_ | refine Zb ?_ | refine Zy ?_ | refine Zq ?_ | refine Zj ?_ | refine ZY ?_); refine JD ?_) | refine JF ?_ | refine X5 ?_
 exact Qr
theorem XeG (b : List UInt8) (a e : Int) (hb : b.length ≤ 281474976710656) : Con Tryz.prog 95 [(0, oRd b a e)] [.ptr 0 0] [(0, if e = 0 then oRd b (Xk b a).2.1 (Xk b a).2.2 else oRd b a e)] (ai (if e = 0 then (Xk b a).1 else 0)) := by
 refine Xa (xs := [ai (if e = 0 then (Xk b a).1 else 0)]) Tryz.func95 rfl Tryz.ntmps95 rfl rfl rfl (fun E => ?_)
 by_cases h : e = 0
 ·rw [if_pos h, if_pos h]
  have hu := X2v b a hb
  generalize Xk b a = u at *
  obtain ⟨u1, u2, u3⟩ := u
  repeat first | refine X0 ?_ | (refine JR ?_; (repeat first | refine Z1 ?_ | refine Z0 ?_ | refine Z01 ?_ | refine ZB ?_ | refine ZC ?_ | refine Zl ?_ | refine Zy ?_ | refine ZF ?_ | refine Z9 (hcon := hu) ?_); refine JD ?_) | refine JT ?_
  exact Qr
 ·rw [if_neg h, if_neg h]
  refine Qd ?_; refine Qo ?_; refine Qgd ?_; refine Qs ?_; refine Qz ?_; exact Qr
def Ug (k : Int) (u : Int × Int × Int) : Int := if u.2.2 ≠ 0 then u.2.2 else if VM k u.1 then 2 else 0
theorem Xgr (b : List UInt8) (a e : Int) (hb : b.length ≤ 281474976710656) : Con Tryz.prog 178 [(0, oRd b a e)] [.ptr 0 0, ai 64, ab false] [(0, oRd b (Xk b a).2.1 (Ug 8 (Xk b a)))] (ai (Xk b a).1) := by
 have hu := X2v b a hb
 have hz : (Xk b a).2.2 ≠ 0 → (Xk b a).1 = 0 := by
  intro h; rw [X4T] at h ⊢
  split
  ·rfl
  ·split
   ·rfl
   ·rename_i h1 h2; simp [h1, h2] at h
 generalize Xk b a = u at *
 obtain ⟨n, at_, e'⟩ := u
 simp only at hz
 refine Xa (xs := [ai n]) Tryz.func178 rfl Tryz.ntmps178 rfl rfl rfl (fun E => ?_)
 by_cases h : 64 < n
 ·have he : e' = 0 := by
   by_cases h0 : e' = 0
   ·exact h0
   ·have := hz h0; omega
  subst he
  rw [show Ug 8 (n, at_, 0) = 2 by simp [Ug, VM, h]]
  repeat first | refine X0 ?_ | (refine JR ?_; (repeat first | refine Z1 ?_ | refine Z0 ?_ | refine Z01 ?_ | refine ZB ?_ | refine ZC ?_ | refine Zs ?_ | refine Zy ?_ | refine ZF ?_ | refine Zn ?_ | refine Zo ?_ | refine Zp ?_ | refine Z9 (hcon := hu) ?_ | refine Z9 (hcon := Xbh b at_ 0 2) ?_); refine JD ?_) | refine JT ?_
  exact Qr
 ·rw [show Ug 8 (n, at_, e') = e' by by_cases h0 : e' = 0 <;> simp [Ug, VM, h, h0]]
  repeat first | refine X0 ?_ | (refine JR ?_; (repeat first | refine Z1 ?_ | refine Z0 ?_ | refine Z01 ?_ | refine ZB ?_ | refine ZC ?_ | refine Zs ?_ | refine Zy ?_ | refine ZF ?_ | refine Zq ?_ | refine Zo ?_ | refine Z9 (hcon := hu) ?_); refine JD ?_) | refine JF ?_ | refine X4 ?_
  exact Qr
theorem XfY (b : List UInt8) (a e : Int) (hb : b.length ≤ 281474976710656) : Con Tryz.prog 178 [(0, oRd b a e)] [.ptr 0 0, ai 25, ab true] [(0, oRd b (Xk b a).2.1 (Ug 7 (Xk b a)))] (ai (Xk b a).1) := by
 have hu := X2v b a hb
 have hz : (Xk b a).2.2 ≠ 0 → (Xk b a).1 = 0 := by
  intro h; rw [X4T] at h ⊢
  split
  ·rfl
  ·split
   ·rfl
   ·rename_i h1 h2; simp [h1, h2] at h
 have hp : 0 ≤ (Xk b a).1 := by
  rw [X4T]
  split
  ·simp
  ·split <;> simp
 generalize Xk b a = u at *
 obtain ⟨n, at_, e'⟩ := u
 simp only at hz hp
 refine Xa (xs := [ai n]) Tryz.func178 rfl Tryz.ntmps178 rfl rfl rfl (fun E => ?_)
 have hf := Xbh b at_ e' 2
 by_cases h : 25 < n
 ·have he : e' = 0 := by
   by_cases h0 : e' = 0
   ·exact h0
   ·have := hz h0; omega
  subst he
  rw [show Ug 7 (n, at_, 0) = 2 by simp [Ug, VM, h]]
  rw [if_pos rfl] at hf
  repeat first | refine X0 ?_ | (refine JR ?_; (repeat first | refine Z1 ?_ | refine Z0 ?_ | refine Z01 ?_ | refine ZB ?_ | refine ZC ?_ | refine Zs ?_ | refine Zy ?_ | refine ZF ?_ | refine Zn ?_ | refine Zo ?_ | refine Zp ?_ | refine Z9 (hcon := hu) ?_ | refine Z9 (hcon := hf) ?_); refine JD ?_) | refine JT ?_
  exact Qr
 ·by_cases h2 : n % 2 = 0
  ·rw [show Ug 7 (n, at_, e') = if e' = 0 then 2 else e' by simp only [Ug, VM]; by_cases h0 : e' = 0 <;> simp [h0, h2]]
   repeat first | refine X0 ?_ | (refine JR ?_; (repeat first | refine Z1 ?_ | refine Z0 ?_ | refine Z01 ?_ | refine ZB ?_ | refine ZC ?_ | refine Zs ?_ | refine Zl ?_ | refine ZJ ?_ | refine Zy ?_ | refine ZF ?_ | refine Zn ?_ | refine Zq ?_ | refine Z9 (hcon := hu) ?_ | refine Z9 (hcon := hf) ?_); refine JD ?_) | refine JT ?_
   exact Qr
  ·rw [show Ug 7 (n, at_, e') = e' by by_cases h0 : e' = 0 <;> simp [Ug, VM, h, h2, h0]]
   repeat first | refine X0 ?_ | (refine JR ?_; (repeat first | refine Z1 ?_ | refine Z0 ?_ | refine Z01 ?_ | refine ZB ?_ | refine ZC ?_ | refine Zs ?_ | refine Zl ?_ | refine ZJ ?_ | refine Zy ?_ | refine ZF ?_ | refine Zn ?_ | refine Zq ?_ | refine Z9 (hcon := hu) ?_); refine JD ?_) | refine JF ?_ | refine X4 ?_
   exact Qr
def Vh (b : List UInt8) (a : Nat) (m : Nat) (want : Int) : Int × Int × Int :=
 if a = b.length then (0, (a : Int), 3) else let k : Int := ((b[a]?).getD 0).toNat
  if 8 < k ∨ (k = 8 ∧ m = 0) ∨ (want ≠ 0 ∧ k ≠ want) then (0, (a : Int), 2) else (k, (a : Int) + 1, 0)
theorem Xi8 (b : List UInt8) (a m : Nat) (want : Int) (hm : m ≤ 8) (ha : a ≤ b.length) (hb : b.length ≤ 281474976710656) : Con Tryz.prog 176 [(0, oRd b a 0)] [.ptr 0 0, ai (8 - m), ai want] [(0, oRd b (Vh b a m want).2.1 (Vh b a m want).2.2)] (ai (Vh b a m want).1) := by
 refine Xa (xs := [ai (Vh b a m want).1]) Tryz.func176 rfl Tryz.ntmps176 rfl rfl rfl (fun E => ?_)
 by_cases ha' : a = b.length
 ·rw [show Vh b a m want = (0, (a : Int), 3) by unfold Vh; rw [if_pos ha']]
  have hai : (a : Int) = b.length := by omega
  repeat first | refine X0 ?_ | (refine JR ?_; (repeat first | refine Z1 ?_ | refine Z0 ?_ | refine Z01 ?_ | refine ZB ?_ | refine ZC ?_ | refine Zd ?_ | refine Zl ?_ | refine Zv ?_ | refine Zy ?_); refine JD ?_) | refine JT ?_ | refine JF ?_ | refine X4 ?_
  exact Qr
 obtain ⟨c, hc⟩ := Xx (l := b) (k := a) (by omega)
 have e1 : Vh b a m want = if 8 < (c.toNat : Int) ∨ ((c.toNat : Int) = 8 ∧ m = 0) ∨ (want ≠ 0 ∧ (c.toNat : Int) ≠ want) then (0, (a : Int), 2) else ((c.toNat : Int), (a : Int) + 1, 0) := by
  unfold Vh; rw [if_neg ha', hc]; rfl
 have hai : (a : Int) ≠ b.length := by omega
 by_cases h8 : 8 < (c.toNat : Int)
 ·rw [e1, if_pos (.inl h8)]
  repeat first | refine X0 ?_ | (refine JR ?_; (repeat first | refine Z1 ?_ | refine Z0 ?_ | refine Z01 ?_ | refine ZB ?_ | refine ZC ?_ | refine Zk ?_ | refine Zd ?_ | refine Zs ?_ | refine Zl ?_ | refine Zv ?_ | refine Zy ?_ | refine Zn ?_ | refine Zj ?_ | refine ZY ?_ | refine Zo ?_ | refine Zp ?_); refine JD ?_) | refine JT ?_ | refine JF ?_ | refine X4 ?_
  exact Qr
 by_cases hw : want ≠ 0 ∧ (c.toNat : Int) ≠ want
 ·rw [e1, if_pos (.inr (.inr hw))]
  obtain ⟨hw1, hw2⟩ := hw
  by_cases hk : (c.toNat : Int) = 8
  ·by_cases hm0 : m = 0
   ·have : (8 : Int) - m ≥ 8 := by omega
    repeat first | refine X0 ?_ | (refine JR ?_; (repeat first | refine Z1 ?_ | refine Z0 ?_ | refine Z01 ?_ | refine ZB ?_ | refine ZC ?_ | refine Zk ?_ | refine Zd ?_ | refine Zs ?_ | refine Z2 ?_ | refine Zl ?_ | refine Zv ?_ | refine Zy ?_ | refine Zn ?_ | refine Zq ?_ | refine Zj ?_ | refine ZY ?_ | refine Zo ?_ | refine Zp ?_); refine JD ?_) | refine JT ?_ | refine JF ?_ | refine X4 ?_
    exact Qr
   ·have : ¬ (8 : Int) - m ≥ 8 := by omega
    repeat first | refine X0 ?_ | (refine JR ?_; (repeat first | refine Z1 ?_ | refine Z0 ?_ | refine Z01 ?_ | refine ZB ?_ | refine ZC ?_ | refine Zk ?_ | refine Zd ?_ | refine Zs ?_ | refine Z2 ?_ | refine Zl ?_ | refine Zv ?_ | refine Zy ?_ | refine Zn ?_ | refine Zq ?_ | refine Zj ?_ | refine ZY ?_); refine JD ?_) | refine JT ?_ | refine JF ?_ | refine X4 ?_
    exact Qr
  ·repeat first | refine X0 ?_ | (refine JR ?_; (repeat first | refine Z1 ?_ | refine Z0 ?_ | refine Z01 ?_ | refine ZB ?_ | refine ZC ?_ | refine Zk ?_ | refine Zd ?_ | refine Zs ?_ | refine Zl ?_ | refine Zv ?_ | refine Zy ?_ | refine Zn ?_ | refine Zq ?_ | refine Zj ?_ | refine ZY ?_ | refine Zo ?_); refine JD ?_) | refine JT ?_ | refine JF ?_ | refine X4 ?_
   exact Qr
 by_cases hk : (c.toNat : Int) = 8
 ·by_cases hm0 : m = 0
  ·rw [e1, if_pos (.inr (.inl ⟨hk, hm0⟩))]
   have : (8 : Int) - m ≥ 8 := by omega
   repeat first | refine X0 ?_ | (refine JR ?_; (repeat first | refine Z1 ?_ | refine Z0 ?_ | refine Z01 ?_ | refine ZB ?_ | refine ZC ?_ | refine Zk ?_ | refine Zd ?_ | refine Zs ?_ | refine Z2 ?_ | refine Zl ?_ | refine Zv ?_ | refine Zy ?_ | refine Zn ?_ | refine Zq ?_ | refine Zj ?_ | refine ZY ?_ | refine Zo ?_ | refine Zp ?_); refine JD ?_) | refine JT ?_ | refine JF ?_ | refine X4 ?_
   exact Qr
  ·rw [e1, if_neg (by omega)]
   have : ¬ (8 : Int) - m ≥ 8 := by omega
   by_cases hw0 : want = 0
   ·repeat first | refine X0 ?_ | (refine JR ?_; (repeat first | refine Z1 ?_ | refine Z0 ?_ | refine Z01 ?_ | refine ZB ?_ | refine ZC ?_ | refine Zk ?_ | refine Zd ?_ | refine Zs ?_ | refine Z2 ?_ | refine Zl ?_ | refine Zv ?_ | refine Zb ?_ | refine Zy ?_ | refine Zn ?_ | refine Zq ?_ | refine Zj ?_ | refine ZY ?_ | refine Zo ?_); refine JD ?_) | refine JF ?_ | refine X4 ?_
    exact Qr
   ·have hw1 : (c.toNat : Int) = want := by omega
    repeat first | refine X0 ?_ | (refine JR ?_; (repeat first | refine Z1 ?_ | refine Z0 ?_ | refine Z01 ?_ | refine ZB ?_ | refine ZC ?_ | refine Zk ?_ | refine Zd ?_ | refine Zs ?_ | refine Z2 ?_ | refine Zl ?_ | refine Zv ?_ | refine Zb ?_ | refine Zy ?_ | refine Zn ?_ | refine Zq ?_ | refine Zj ?_ | refine ZY ?_); refine JD ?_) | refine JF ?_ | refine X4 ?_
    exact Qr
 ·rw [e1, if_neg (by omega)]
  by_cases hw0 : want = 0
  ·repeat first | refine X0 ?_ | (refine JR ?_; (repeat first | refine Z1 ?_ | refine Z0 ?_ | refine Z01 ?_ | refine ZB ?_ | refine ZC ?_ | refine Zk ?_ | refine Zd ?_ | refine Zs ?_ | refine Zl ?_ | refine Zv ?_ | refine Zb ?_ | refine Zy ?_ | refine Zq ?_ | refine Zj ?_ | refine ZY ?_ | refine Zo ?_); refine JD ?_) | refine JF ?_ | refine X4 ?_
   exact Qr
  ·have hw1 : (c.toNat : Int) = want := by omega
   repeat first | refine X0 ?_ | (refine JR ?_; (repeat first | refine Z1 ?_ | refine Z0 ?_ | refine Z01 ?_ | refine ZB ?_ | refine ZC ?_ | refine Zk ?_ | refine Zd ?_ | refine Zs ?_ | refine Zl ?_ | refine Zv ?_ | refine Zb ?_ | refine Zy ?_ | refine Zn ?_ | refine Zq ?_ | refine Zj ?_ | refine ZY ?_ | refine Zo ?_); refine JD ?_) | refine JF ?_ | refine X4 ?_
   exact Qr
def X0t (b : List UInt8) (a : Nat) (nest want : Int) (r : Val × Int × Int) : Prop :=
 Con Tryz.prog 157 [(0, oRd b a 0)] [.ptr 0 0, ai nest, ai want] [(0, oRd b r.2.1 r.2.2)] (Xo r.1)
def YN (c : Val × Int × Int) : Val × Int × Int := if c.2.2 = 0 ∧ X8 8 c.1 = false then (c.1, c.2.1, 2) else c
theorem X9M (l : List Val) (k n d : Int) (s : List UInt8) (q : List Val) : XF l ++ [[.v (.int .i64 k), .v (.int .i64 n), .v (.int .i64 d), .v (.string (X7 s)), .sl 5 (XF q)]] = XF (l ++ [.mk k n d s q]) := by
 rw [X25 l, X25 (l ++ _), List.map_append, List.map_cons, List.map_nil, V5]
theorem Xe6 {b : List UInt8} {a m : Nat} {want : Int} (h : (Vh b a m want).2.2 ≠ 0) (gl gp : Nat → Int → Val × Int × Int) : Uw gl gp m b a want = (zV, (Vh b a m want).2.1, (Vh b a m want).2.2) := by
 unfold Vh at *
 unfold Uw
 by_cases ha : a = b.length
 ·rw [if_pos ha] at *; rw [if_pos (by omega)]
 ·rw [if_neg ha] at *
  rw [if_neg (by omega), Int.toNat_natCast]
  simp only at *
  split
  ·rfl
  ·rename_i h2; rw [if_neg h2] at h; simp at h
theorem Xdb {b : List UInt8} {a m : Nat} {want : Int} (ha : a ≤ b.length) (h : (Vh b a m want).2.2 = 0) :
  ∃ k : Nat, Vh b a m want = ((k : Int), (a : Int) + 1, 0) ∧ a < b.length ∧ k ≤ 8 ∧ (k = 8 → m ≠ 0) ∧ (want ≠ 0 → (k : Int) = want) ∧ ∀ gl gp, Uw gl gp m b a want = YN (YJ gl gp b (a + 1) k) := by
 unfold Vh at *
 by_cases ha' : a = b.length
 ·rw [if_pos ha'] at h; simp at h
 rw [if_neg ha'] at *
 simp only at *
 split at h
 ·simp at h
 rename_i h2
 refine ⟨_, by rw [if_neg h2], by omega, by omega, fun h3 h4 => h2 (.inr (.inl ⟨by omega, h4⟩)), fun h3 => Classical.byContradiction fun h4 => h2 (.inr (.inr ⟨h3, h4⟩)), fun gl gp => ?_⟩
 unfold Uw
 rw [if_neg (by omega), Int.toNat_natCast]
 simp only
 rw [if_neg h2]
 rfl
theorem Xdu (b : List UInt8) (m a : Nat) (want : Int) (gl gp : Nat → Int → Val × Int × Int) (R : Val × Int × Int) (hm : m ≤ 8) (ha : a < b.length) (hb : b.length ≤ 281474976710656)
  (hge : ∀ i q : Nat, q ≤ b.length → UN b (gl i q).2) (hg : ∀ i q : Nat, q ≤ b.length → X0t b q (8 - m + 1) 0 (gl i q))
  (hk : Con Tryz.prog 176 [(0, oRd b a 0)] [.ptr 0 0, ai (8 - m), ai want] [(0, oRd b ((a : Int) + 1) 0)] (ai 8)) (hG : R = YN (YJ gl gp b (a + 1) 8)) : X0t b a (8 - m) want R := by
 refine Xa (xs := [Xo R.1]) Tryz.func157 rfl Tryz.ntmps157 rfl rfl rfl (fun E => ?_)
 ·have hc := Xgr b (a + 1) 0 hb
  have hcz : YJ gl gp b (a + 1) 8 = if Ug 8 (Xk b (a + 1)) ≠ 0 then (.mk 8 0 0 [] [], (Xk b (a + 1)).2.1, Ug 8 (Xk b (a + 1))) else
    (.mk 8 0 0 [] (Y1 gl (Xk b (a + 1)).2.1 (Xk b (a + 1)).1.toNat).1, (Y1 gl (Xk b (a + 1)).2.1 (Xk b (a + 1)).1.toNat).2.1, (Y1 gl (Xk b (a + 1)).2.1 (Xk b (a + 1)).1.toNat).2.2) := by
   simp only [YJ, Ug]
   by_cases e1 : (Xk b (a + 1)).2.2 = 0
   ·by_cases e2 : VM 8 (Xk b (a + 1)).1 = true <;> simp [e1, e2]
   ·simp [e1]
  have hue := X1W b (a + 1)
  obtain ⟨N, hN⟩ := X3R b (a + 1)
  have hNb : Ug 8 (Xk b (a + 1)) = 0 → (Xk b (a + 1)).2.2 = 0 ∧ N ≤ 64 := by
   unfold Ug
   rw [hN]
   split
   ·intro h; contradiction
   ·rename_i h1
    split
    ·intro h; simp at h
    ·rename_i h2
     refine fun _ => ⟨Classical.not_not.1 h1, ?_⟩
     simp [VM] at h2
     omega
  generalize Ug 8 (Xk b (a + 1)) = ce at *
  generalize Xk b (a + 1) = u at *
  obtain ⟨n, a2, e2⟩ := u
  simp only at hN
  subst hN
  simp only [Int.toNat_natCast] at hc hcz hue hNb
  by_cases hce : ce = 0
  case neg =>
   rw [if_pos hce] at hcz
   rw [hcz] at hG
   obtain rfl : R = (.mk 8 0 0 [] [], a2, ce) := by rw [hG]; simp [YN, hce]
   repeat first | refine X0 ?_ | (refine JR ?_; (repeat first | refine Z1 ?_ | refine Z0 ?_ | refine Z01 ?_ | refine ZB ?_ | refine ZC ?_ | refine Zl ?_ | refine Zv ?_ | refine Zw (γ := 100) ?_ | refine Zw (γ := 101) ?_ | refine Zy ?_ | refine Zx ?_ | refine Z9 (hcon := hk) ?_ | refine Z9 (hcon := hc) ?_); refine JD ?_) | refine JT ?_ | refine JF ?_ | refine X5 ?_ | refine X4 ?_
   refine Xu (fun _ : Unit => True) (fun _ => ⟨135, [(0, .ptr 0 0), (1, ai (8 - m)), (2, ai want), (6, .ptr 100 0), (7, .ptr 101 0), (11, ai N), (12, ai 0)], [(0, oRd b a2 ce), (100, .box [ai 0, ai 0, ai 0, .d (.v (.string (X7 []))), ani]), (101, .box [ai 8, ai 0, ai 0, .d (.v (.string (X7 []))), ani])]⟩) (fun _ => 0) () trivial
    (X9 rfl ⟨JL, JL, JL, JL, JL, JL, JL, trivial⟩ ⟨rfl, rfl, rfl, trivial⟩) ?_
   intro _ _
   by_cases h0N : 0 < N
   ·refine Qkd ?_; exact Qld
   ·refine Qmd ?_; exact Qld
  subst hce
  obtain ⟨he2, hN⟩ := hNb rfl
  subst he2
  rw [if_neg (by simp)] at hcz
  rw [hcz] at hG
  clear hcz
  have h00 := hue rfl
  simp only at h00
  clear hue
  repeat first | refine X0 ?_ | (refine JR ?_; (repeat first | refine Z1 ?_ | refine Z0 ?_ | refine Z01 ?_ | refine ZB ?_ | refine ZC ?_ | refine Zl ?_ | refine Zv ?_ | refine Zw (γ := 100) ?_ | refine Zw (γ := 101) ?_ | refine Zy ?_ | refine Zx ?_ | refine Z9 (hcon := hk) ?_ | refine Z9 (hcon := hc) ?_); refine JD ?_) | refine JT ?_ | refine JF ?_ | refine X5 ?_ | refine X4 ?_
  refine Xi (X0a 101 4 121 5 (cs := [ai 8, ai 0, ai 0, .d (.v (.string (X7 []))), ani]) rfl rfl rfl rfl rfl) ?_
  refine Xu (fun i : Nat => i ≤ N ∧ (Y1 gl a2 i).1.length = i) (fun i => ⟨135, [(0, .ptr 0 0), (1, ai (8 - m)), (2, ai want), (6, .ptr 100 0), (7, .ptr 101 0), (11, ai N), (12, ai i)], [(0, oRd b (Y1 gl a2 i).2.1 (Y1 gl a2 i).2.2), (100, .box [ai 0, ai 0, ai 0, .d (.v (.string (X7 []))), ani]), (101, .box [ai 8, ai 0, ai 0, .d (.v (.string (X7 []))), .own 121 (Y1 gl a2 i).1.length]), (121, .row 5 (XF (Y1 gl a2 i).1))]⟩) (fun i => N - i) 0 ⟨by omega, rfl⟩
   (X9 rfl ⟨JL, JL, JL, JL, JL, JL, JL, trivial⟩ ⟨rfl, rfl, rfl, rfl, trivial⟩) ?_
  intro i hi
  obtain ⟨hi, hil⟩ := hi
  have hlen := Vr (Y1 gl a2 i).1
  by_cases hpe : (Y1 gl a2 i).2.2 = 0
  case neg =>
   have hst := X2m hpe N hi
   rw [hst] at hG
   generalize Y1 gl a2 i = p at *
   obtain ⟨l, pa, pe⟩ := p
   simp only at hpe hil hG hlen hst
   clear hst
   obtain rfl : R = (.mk 8 0 0 [] l, pa, pe) := by rw [hG]; simp [YN, hpe]
   refine Xi (XL 121 rfl) ?_; refine Xi (Vn 101 4 121 (cs := [ai 8, ai 0, ai 0, .d (.v (.string (X7 []))), .own 121 l.length]) (sz := 5) (xs := XF l) rfl rfl rfl hlen.symm) ?_
   by_cases hiN : i < N
   ·refine Qkd ?_; exact Qnd
   ·refine Qmd ?_; exact Qnd
  by_cases hiN : i < N
  case neg =>
   obtain rfl : i = N := by omega
   generalize Y1 gl a2 i = p at *
   obtain ⟨l, pa, pe⟩ := p
   simp only at hpe hil hG hlen
   subst hpe
   have hval := VR (.mk 8 0 0 [] l)
   simp only [Xo] at hval
   refine Xi (XL 121 rfl) ?_; refine Xi (Vn 101 4 121 (cs := [ai 8, ai 0, ai 0, .d (.v (.string (X7 []))), .own 121 l.length]) (sz := 5) (xs := XF l) rfl rfl rfl hlen.symm) ?_
   cases hv : X8 8 (.mk 8 0 0 [] l) with
   | false =>
    rw [hv] at hval
    obtain rfl : R = (.mk 8 0 0 [] l, pa, 2) := by rw [hG]; simp [YN, hv]
    refine Qod ?_; refine Qh ?_; refine Ql ?_; refine Z01 ?_; refine Qhd ?_; refine Qjd ?_; exact Qnd
   | true =>
    rw [hv] at hval
    obtain rfl : R = (.mk 8 0 0 [] l, pa, 0) := by rw [hG]; simp [YN, hv]
    refine Qod ?_; refine Qs ?_; refine Qjd ?_; exact Qnd
  obtain ⟨q, hq1, hq2⟩ := X3w hge h00 i hpe
  have hcall := hg i q hq2
  unfold X0t at hcall
  have hsucc := X1S hpe
  have hsl := X8l hpe
  rw [hq1] at hsucc
  generalize gl i q = r at hcall hsucc
  generalize Y1 gl a2 i = p at *
  obtain ⟨l, pa, pe⟩ := p
  obtain ⟨x, xa, xe⟩ := r
  simp only at hq1 hpe hil hsucc hlen hcall
  subst hq1 hpe
  obtain ⟨xk, xn, xd, xs, xl⟩ := x
  simp only [Xo] at hcall
  skip
  refine Qkb ?_; refine QOa ?_; refine Qgd ?_; refine Zn ?_; refine Qlb ?_; refine QUc ?_; refine Qy ?_; refine Zb ?_; refine Z9 (hcon := hcall) ?_; refine Qpd ?_; refine Qhd ?_; refine Qnb ?_
  refine ⟨i + 1, ⟨by omega, hsl⟩, by omega, ?_⟩
  dsimp only
  rw [hsucc]
  refine X9 rfl ⟨JL, JL, JL, JL, JL, JL, JL, trivial⟩ ⟨rfl, rfl, ?_, ?_, trivial⟩
  ·refine Eq.trans (b := AObj.box ([ai 8, ai 0, ai 0, .d (.v (.string (X7 []))), .own 121 _])) rfl ?_
   congr 6; simp [hlen]
  ·exact congrArg (AObj.row 5) (X9M l xk xn xd xs xl)
theorem XhZ (b : List UInt8) (m a : Nat) (want : Int) (gl gp : Nat → Int → Val × Int × Int) (R : Val × Int × Int) (hm : m ≤ 8) (ha : a < b.length) (hb : b.length ≤ 281474976710656)
  (hge : ∀ i q : Nat, q ≤ b.length → UN b (gp i q).2) (hg : ∀ i q : Nat, q ≤ b.length → X0t b q (8 - m) (5 + (i % 2 : Nat)) (gp i q))
  (hk : Con Tryz.prog 176 [(0, oRd b a 0)] [.ptr 0 0, ai (8 - m), ai want] [(0, oRd b ((a : Int) + 1) 0)] (ai 7)) (hG : R = YN (YJ gl gp b (a + 1) 7)) : X0t b a (8 - m) want R := by
 refine Xa (xs := [Xo R.1]) Tryz.func157 rfl Tryz.ntmps157 rfl rfl rfl (fun E => ?_)
 ·have hc := XfY b (a + 1) 0 hb
  have hcz : YJ gl gp b (a + 1) 7 = if Ug 7 (Xk b (a + 1)) ≠ 0 then (.mk 7 0 0 [] [], (Xk b (a + 1)).2.1, Ug 7 (Xk b (a + 1))) else
    (.mk 7 0 0 [] (Y1 gp (Xk b (a + 1)).2.1 (Xk b (a + 1)).1.toNat).1, (Y1 gp (Xk b (a + 1)).2.1 (Xk b (a + 1)).1.toNat).2.1, (Y1 gp (Xk b (a + 1)).2.1 (Xk b (a + 1)).1.toNat).2.2) := by
   simp only [YJ, Ug]
   by_cases e1 : (Xk b (a + 1)).2.2 = 0
   ·by_cases e2 : VM 7 (Xk b (a + 1)).1 = true <;> simp [e1, e2]
   ·simp [e1]
  have hue := X1W b (a + 1)
  obtain ⟨N, hN⟩ := X3R b (a + 1)
  have hNb : Ug 7 (Xk b (a + 1)) = 0 → (Xk b (a + 1)).2.2 = 0 ∧ N ≤ 64 := by
   unfold Ug
   rw [hN]
   split
   ·intro h; contradiction
   ·rename_i h1
    split
    ·intro h; simp at h
    ·rename_i h2
     refine fun _ => ⟨Classical.not_not.1 h1, ?_⟩
     simp [VM] at h2
     omega
  generalize Ug 7 (Xk b (a + 1)) = ce at *
  generalize Xk b (a + 1) = u at *
  obtain ⟨n, a2, e2⟩ := u
  simp only at hN
  subst hN
  simp only [Int.toNat_natCast] at hc hcz hue hNb
  by_cases hce : ce = 0
  case neg =>
   rw [if_pos hce] at hcz
   rw [hcz] at hG
   obtain rfl : R = (.mk 7 0 0 [] [], a2, ce) := by rw [hG]; simp [YN, hce]
   repeat first | refine X0 ?_ | (refine JR ?_; (repeat first | refine Z1 ?_ | refine Z0 ?_ | refine Z01 ?_ | refine ZB ?_ | refine ZC ?_ | refine Zl ?_ | refine Zv ?_ | refine Zw (γ := 100) ?_ | refine Zw (γ := 101) ?_ | refine Zy ?_ | refine Zx ?_ | refine Z9 (hcon := hk) ?_ | refine Z9 (hcon := hc) ?_); refine JD ?_) | refine JT ?_ | refine JF ?_ | refine X5 ?_ | refine X4 ?_
   refine Xu (fun _ : Unit => True) (fun _ => ⟨135, [(0, .ptr 0 0), (1, ai (8 - m)), (2, ai want), (6, .ptr 100 0), (7, .ptr 101 0), (13, ai N), (14, ai 0)], [(0, oRd b a2 ce), (100, .box [ai 0, ai 0, ai 0, .d (.v (.string (X7 []))), ani]), (101, .box [ai 7, ai 0, ai 0, .d (.v (.string (X7 []))), ani])]⟩) (fun _ => 0) () trivial
    (X9 rfl ⟨JL, JL, JL, JL, JL, JL, JL, trivial⟩ ⟨rfl, rfl, rfl, trivial⟩) ?_
   intro _ _
   by_cases h0N : 0 < N
   ·refine Qkd ?_; exact Qqd
   ·refine Qmd ?_; exact Qqd
  subst hce
  obtain ⟨he2, hN⟩ := hNb rfl
  subst he2
  rw [if_neg (by simp)] at hcz
  rw [hcz] at hG
  clear hcz
  have h00 := hue rfl
  simp only at h00
  clear hue
  repeat first | refine X0 ?_ | (refine JR ?_; (repeat first | refine Z1 ?_ | refine Z0 ?_ | refine Z01 ?_ | refine ZB ?_ | refine ZC ?_ | refine Zl ?_ | refine Zv ?_ | refine Zw (γ := 100) ?_ | refine Zw (γ := 101) ?_ | refine Zy ?_ | refine Zx ?_ | refine Z9 (hcon := hk) ?_ | refine Z9 (hcon := hc) ?_); refine JD ?_) | refine JT ?_ | refine JF ?_ | refine X5 ?_ | refine X4 ?_
  refine Xi (X0a 101 4 121 5 (cs := [ai 7, ai 0, ai 0, .d (.v (.string (X7 []))), ani]) rfl rfl rfl rfl rfl) ?_
  refine Xu (fun i : Nat => i ≤ N ∧ (Y1 gp a2 i).1.length = i) (fun i => ⟨135, [(0, .ptr 0 0), (1, ai (8 - m)), (2, ai want), (6, .ptr 100 0), (7, .ptr 101 0), (13, ai N), (14, ai i)], [(0, oRd b (Y1 gp a2 i).2.1 (Y1 gp a2 i).2.2), (100, .box [ai 0, ai 0, ai 0, .d (.v (.string (X7 []))), ani]), (101, .box [ai 7, ai 0, ai 0, .d (.v (.string (X7 []))), .own 121 (Y1 gp a2 i).1.length]), (121, .row 5 (XF (Y1 gp a2 i).1))]⟩) (fun i => N - i) 0 ⟨by omega, rfl⟩
   (X9 rfl ⟨JL, JL, JL, JL, JL, JL, JL, trivial⟩ ⟨rfl, rfl, rfl, rfl, trivial⟩) ?_
  intro i hi
  obtain ⟨hi, hil⟩ := hi
  have hlen := Vr (Y1 gp a2 i).1
  by_cases hpe : (Y1 gp a2 i).2.2 = 0
  case neg =>
   have hst := X2m hpe N hi
   rw [hst] at hG
   generalize Y1 gp a2 i = p at *
   obtain ⟨l, pa, pe⟩ := p
   simp only at hpe hil hG hlen hst
   clear hst
   obtain rfl : R = (.mk 7 0 0 [] l, pa, pe) := by rw [hG]; simp [YN, hpe]
   refine Xi (XL 121 rfl) ?_; refine Xi (Vn 101 4 121 (cs := [ai 7, ai 0, ai 0, .d (.v (.string (X7 []))), .own 121 l.length]) (sz := 5) (xs := XF l) rfl rfl rfl hlen.symm) ?_
   by_cases hiN : i < N
   ·refine Qkd ?_; exact Qnd
   ·refine Qmd ?_; exact Qnd
  by_cases hiN : i < N
  case neg =>
   obtain rfl : i = N := by omega
   generalize Y1 gp a2 i = p at *
   obtain ⟨l, pa, pe⟩ := p
   simp only at hpe hil hG hlen
   subst hpe
   have hval := VR (.mk 7 0 0 [] l)
   simp only [Xo] at hval
   refine Xi (XL 121 rfl) ?_; refine Xi (Vn 101 4 121 (cs := [ai 7, ai 0, ai 0, .d (.v (.string (X7 []))), .own 121 l.length]) (sz := 5) (xs := XF l) rfl rfl rfl hlen.symm) ?_
   cases hv : X8 8 (.mk 7 0 0 [] l) with
   | false =>
    rw [hv] at hval
    obtain rfl : R = (.mk 7 0 0 [] l, pa, 2) := by rw [hG]; simp [YN, hv]
    refine Qod ?_; refine Qh ?_; refine Ql ?_; refine Z01 ?_; refine Qhd ?_; refine Qjd ?_; exact Qnd
   | true =>
    rw [hv] at hval
    obtain rfl : R = (.mk 7 0 0 [] l, pa, 0) := by rw [hG]; simp [YN, hv]
    refine Qod ?_; refine Qs ?_; refine Qjd ?_; exact Qnd
  obtain ⟨q, hq1, hq2⟩ := X3w hge h00 i hpe
  have hcall := hg i q hq2
  unfold X0t at hcall
  have hsucc := X1S hpe
  have hsl := X8l hpe
  rw [hq1] at hsucc
  generalize gp i q = r at hcall hsucc
  generalize Y1 gp a2 i = p at *
  obtain ⟨l, pa, pe⟩ := p
  obtain ⟨x, xa, xe⟩ := r
  simp only at hq1 hpe hil hsucc hlen hcall
  subst hq1 hpe
  obtain ⟨xk, xn, xd, xs, xl⟩ := x
  simp only [Xo] at hcall
  have hi2 : ((i : Int) % 2) = ((i % 2 : Nat) : Int) := by omega
  refine Qkb ?_; refine QOa ?_; refine Qgd ?_; refine Zn ?_; refine Qlb ?_; refine QUc ?_; refine QCa ?_; refine Z02 (op := .rem) (r' := .int .i64 ((i % 2 : Nat) : Int)) (u := .int .i64 i) (v := .int .i64 2) ?_ (hr' := by exact congrArg (Value.int .i64) hi2); refine Zb ?_; refine Z9 (hcon := hcall) ?_; refine Qpd ?_; refine Qhd ?_; refine Qnb ?_
  refine ⟨i + 1, ⟨by omega, hsl⟩, by omega, ?_⟩
  dsimp only
  rw [hsucc]
  refine X9 rfl ⟨JL, JL, JL, JL, JL, JL, JL, trivial⟩ ⟨rfl, rfl, ?_, ?_, trivial⟩
  ·refine Eq.trans (b := AObj.box ([ai 7, ai 0, ai 0, .d (.v (.string (X7 []))), .own 121 _])) rfl ?_
   congr 6; simp [hlen]
  ·exact congrArg (AObj.row 5) (X9M l xk xn xd xs xl)
end Go.Fw
