/- The check of a record: the program's and the reference's. -/
import Derived.Test.YtaoggblfedekeaaDoorG08
import Derived.Test.YtaoggblfedekeaaDoorG19
import Derived.Test.YtaoggblfedekeaaDoorG17
import Derived.Test.YtaoggblfedekeaaDoorG18
import Derived.Test.YtaoggblfedekeaaDoorG16
set_option maxHeartbeats 16000000
namespace Go.Fw
open Go Go.Proofs
set_option maxRecDepth 100000
set_option linter.unusedVariables false
set_option linter.unusedSimpArgs false
theorem X0u : X0z Tryd.prog 26 = some [.i .i64, .i .i64, .s, .s, .s, .s] := by kernel_rfl
def YW : Rcd → AVal
 | ⟨kd, ts, l, ⟨k, n, name, key, src, dst⟩, off⟩ => .agg [ai kd, ai ts, .d (.sl 10 (l.map XD)), ai k, ai n, X8 name, X8 key, X8 src, X8 dst, ab off]
def X0G (r : Rcd) : Prop := r.changes.length ≤ 9223372036854775807 ∧ ∀ c ∈ r.changes, X01 c
theorem X9T (s : List UInt8) : (X4 s).data.toList = s := by simp [X4]
theorem eqZ (k n : Int) (name key src dst : List UInt8) : Uh [.int .i64 k, .int .i64 n, .string (X4 name), .string (X4 key), .string (X4 src), .string (X4 dst)] [.int .i64 0, .int .i64 0, .string (X4 []), .string (X4 []), .string (X4 []), .string (X4 [])] = X03 ⟨k, n, name, key, src, dst⟩ := by
 unfold X03
 simp only [Uh, UQ, X9T, Bool.and_true]
 by_cases h1 : k = 0 <;> by_cases h2 : n = 0 <;> by_cases h3 : name = [] <;> by_cases h4 : key = [] <;> by_cases h5 : src = [] <;> by_cases h6 : dst = [] <;> simp [*]
theorem XaN {l : List Chg} {i : Nat} {x : Chg} (h : l[i]? = some x) : UA (l.drop i) = if Y9 x ≠ 0 then Y9 x else UA (l.drop (i + 1)) := by
 rw [List.drop_eq_getElem_cons (List.getElem?_eq_some_iff.1 h).1, (List.getElem?_eq_some_iff.1 h).2, UA]
theorem X60 (r : Rcd) (hok : X0G r) : Con Tryd.prog 19 [] [YW r] [] (ai (YI r)) := by
 obtain ⟨kd, ts, l, ⟨k, n, name, key, src, dst⟩, off⟩ := r
 obtain ⟨hlen, hch⟩ := hok
 simp only at hlen hch
 have hlm : (l.map XD).length = l.length := by simp
 refine Xb (xs := [ai (YI ⟨kd, ts, l, ⟨k, n, name, key, src, dst⟩, off⟩)]) Tryd.func19 rfl Tryd.ntmps19 rfl rfl rfl (fun E => ?_)
 have hz := eqZ k n name key src dst
 have hr := X2M ⟨k, n, name, key, src, dst⟩
 unfold YI
 simp only [YW, Y3] at hr ⊢
 generalize X03 ⟨k, n, name, key, src, dst⟩ = z at *
 generalize YU ⟨k, n, name, key, src, dst⟩ = re at *
 by_cases h1 : ¬ (1 ≤ kd ∧ kd ≤ 3 ∧ 0 ≤ ts ∧ ts ≤ 1000000000000000)
 ·rw [if_pos h1]
  refine X0 ?_; refine JR ?_; refine Zx (γ := 100) ?_; refine Z0 ?_; refine JD ?_; refine X0 ?_; refine X0 ?_; refine JR ?_; refine Zy ?_; refine Zz ?_; refine Z7 ?_; refine Z1 ?_
  refine XV rfl rfl (fun hq => ?_) (fun hq => ?_); refine Zj ?_; refine Zj ?_; refine Zj ?_; refine Zi ?_; refine Z1 ?_; refine Zj ?_; refine Zj ?_; refine Zj ?_; refine Zi ?_; refine Z1 ?_; refine Zj ?_; refine Zj ?_
  refine Zj ?_; refine Zi ?_; refine JD ?_; refine JT ?_; refine X0 ?_; refine JR ?_; refine Z0 ?_; refine JD ?_; exact X1 ⟨_, St.le_refl _, ⟨rfl, trivial⟩, X2 _⟩; refine Zy ?_; refine Zz ?_; refine Zn ?_
  refine Zl ?_; refine Z1 ?_; refine XV rfl rfl (fun hq => ?_) (fun hq => ?_); refine Zj ?_; refine Zj ?_; refine Zj ?_; refine Zi ?_; refine Z1 ?_; refine Zj ?_; refine Zj ?_; refine Zj ?_; refine Zi ?_; refine JD ?_
  refine JT ?_; refine X0 ?_; refine JR ?_; refine Z0 ?_; refine JD ?_; exact X1 ⟨_, St.le_refl _, ⟨rfl, trivial⟩, X2 _⟩; refine Zy ?_; refine Zz ?_; refine Z7 ?_; refine Zl ?_; refine Z1 ?_
  refine XV rfl rfl (fun hq => ?_) (fun hq => ?_); refine Zj ?_; refine Zj ?_; refine Zj ?_; refine Zi ?_; refine JD ?_; refine JT ?_; refine X0 ?_; refine JR ?_; refine Z0 ?_; refine JD ?_
  exact X1 ⟨_, St.le_refl _, ⟨rfl, trivial⟩, X2 _⟩; refine Zy ?_; refine Zz ?_; refine Zn ?_; refine Zl ?_; refine JD ?_; refine JT ?_; refine X0 ?_; refine JR ?_; refine Z0 ?_; refine JD ?_
  exact X1 ⟨_, St.le_refl _, ⟨rfl, trivial⟩, X2 _⟩
 rw [if_neg h1]
 by_cases h2 : (kd ≠ 1 ∧ 0 < l.length) ∨ (kd ≠ 2 ∧ (off = true ∨ z = false))
 ·rw [if_pos h2]
  refine X0 ?_; refine JR ?_; refine Zx (γ := 100) ?_; refine Z0 ?_; refine JD ?_; refine X0 ?_; refine X0 ?_; refine JR ?_; refine Zy ?_; refine Zz ?_; refine Z7 ?_; refine Z1 ?_; refine Zy ?_; refine Zz ?_
  refine Zn ?_; refine Zl ?_; refine Z1 ?_; refine Zy ?_; refine Zz ?_; refine Z7 ?_; refine Zl ?_; refine Z1 ?_; refine Zy ?_; refine Zz ?_; refine Zn ?_; refine Zl ?_; refine JD ?_; refine JF ?_; refine X3 ?_
  refine X0 ?_; refine X0 ?_; refine JR ?_; refine Zy ?_; refine Zz ?_; refine Zq ?_; refine Z1 ?_; refine XV rfl rfl (fun hq => ?_) (fun hq => ?_); refine Zy ?_; refine Zz ?_; refine Zb ?_; refine Zn ?_
  refine Zi ?_; refine Z1 ?_; refine XV rfl rfl (fun hq => ?_) (fun hq => ?_); refine Zj ?_; refine Zj ?_; refine Zj ?_; refine Zj ?_; refine Zk ?_; refine Zk ?_; refine Zk ?_; refine Zk ?_; refine Zk ?_; refine Zk ?_
  refine Zk ?_; refine Zk ?_; refine Zj ?_; refine Zi ?_; refine JD ?_; refine JT ?_; refine X0 ?_; refine JR ?_; refine Z0 ?_; refine JD ?_; exact X1 ⟨_, St.le_refl _, ⟨rfl, trivial⟩, X2 _⟩; refine Zy ?_
  refine Zz ?_; refine Zq ?_; refine Z1 ?_; refine Zy ?_; refine Zz ?_; refine Z1 ?_; refine VO rfl rfl (fun hq => ?_) (fun hq => ?_); refine Zj ?_; refine Zj ?_; refine Zj ?_; refine Zj ?_; refine Zi ?_
  refine Zi ?_; refine Zl ?_; refine JD ?_; refine JT ?_; refine X0 ?_; refine JR ?_; refine Z0 ?_; refine JD ?_; exact X1 ⟨_, St.le_refl _, ⟨rfl, trivial⟩, X2 _⟩; refine Zy ?_; refine ZK ?_; refine Zt ?_
  refine Z05 (us := [.int .i64 k, .int .i64 n, .string (X4 name), .string (X4 key), .string (X4 src), .string (X4 dst)]) (vs := [.int .i64 0, .int .i64 0, .string (X4 []), .string (X4 []), .string (X4 []), .string (X4 [])]) (r := z) ?_ (hk := by exact X0u) (hr := by exact hz)
  refine Zl ?_; refine Zi ?_; refine Zl ?_; refine JD ?_; refine XB rfl (fun hq => ?_) (fun hq => ?_); refine X0 ?_; refine JR ?_; refine Z0 ?_; refine JD ?_
  exact X1 ⟨_, St.le_refl _, ⟨rfl, trivial⟩, X2 _⟩; refine X3 ?_; refine X0 ?_; refine X0 ?_; refine JR ?_; refine Zy ?_; refine Zz ?_; refine Zs ?_; refine JD ?_; refine JF ?_
  refine X3 ?_; refine X0 ?_; refine X0 ?_; refine JR ?_; refine Zy ?_; refine Zz ?_; refine Zb ?_; refine Z1 ?_; refine JD ?_; refine X5 ?_; (exfalso; clear hr hz; simp_all <;> omega); refine Zj ?_
  refine Zj ?_; refine Zj ?_; refine Zj ?_; refine Zl ?_; refine Z1 ?_; refine Zy ?_; refine Zz ?_; refine Zq ?_; refine Z1 ?_; refine Zy ?_; refine Zz ?_; refine Z1 ?_
  refine VO rfl rfl (fun hq => ?_) (fun hq => ?_); refine Zj ?_; refine Zj ?_; refine Zj ?_; refine Zj ?_; refine Zi ?_; refine Zi ?_; refine Zl ?_; refine JD ?_; refine JT ?_; refine X0 ?_; refine JR ?_
  refine Z0 ?_; refine JD ?_; exact X1 ⟨_, St.le_refl _, ⟨rfl, trivial⟩, X2 _⟩; refine Zy ?_; refine ZK ?_; refine Zt ?_
  refine Z05 (us := [.int .i64 k, .int .i64 n, .string (X4 name), .string (X4 key), .string (X4 src), .string (X4 dst)]) (vs := [.int .i64 0, .int .i64 0, .string (X4 []), .string (X4 []), .string (X4 []), .string (X4 [])]) (r := z) ?_ (hk := by exact X0u) (hr := by exact hz)
  refine Zl ?_; refine Zi ?_; refine Zl ?_; refine JD ?_; refine XB rfl (fun hq => ?_) (fun hq => ?_); refine X0 ?_; refine JR ?_; refine Z0 ?_; refine JD ?_
  exact X1 ⟨_, St.le_refl _, ⟨rfl, trivial⟩, X2 _⟩; refine X3 ?_; refine X0 ?_; refine X0 ?_; refine JR ?_; refine Zy ?_; refine Zz ?_; refine Zs ?_; refine JD ?_; refine JF ?_
  refine X3 ?_; refine X0 ?_; refine X0 ?_; refine JR ?_; refine Zy ?_; refine Zz ?_; refine Zb ?_; refine Z1 ?_; refine JD ?_; refine X5 ?_; (exfalso; clear hr hz; simp_all <;> omega)
 rw [if_neg h2]
 by_cases h3 : kd = 2
 ·subst h3
  rw [if_pos rfl]
  have h4 : ¬ 0 < l.length := by omega
  repeat first | refine X0 ?_ | (refine JR ?_; (repeat first | refine Z1 ?_ | refine Z0 ?_ | refine Zy ?_ | refine Zz ?_ | refine ZK ?_ | refine Zb ?_ | refine Z7 ?_ | refine Zn ?_ | refine Zs ?_ | refine Zq ?_ | refine Zx (γ := 100) ?_ | refine Zi ?_ | refine Zl ?_ | refine Zj ?_ | refine Zk ?_ | refine Z8 (hcon := hr) ?_); refine JD ?_) | refine JT ?_ | refine JF ?_ | refine X3 ?_
  exact X1 ⟨_, St.le_refl _, ⟨rfl, trivial⟩, X2 _⟩
 rw [if_neg h3]
 have hoz : off = false ∧ z = true := by cases off <;> cases z <;> simp_all
 obtain ⟨ho, hz1⟩ := hoz
 have hk : kd = 1 ∨ (kd = 3 ∧ ¬ 0 < l.length) := by omega
 rcases hk with hk1 | ⟨hk1, hn0⟩
 case inr =>
  obtain rfl : l = [] := List.eq_nil_of_length_eq_zero (by omega)
  clear h2 hlm hch hlen
  repeat first | refine X0 ?_ | (refine JR ?_; (repeat first | refine Z05 (us := [.int .i64 k, .int .i64 n, .string (X4 name), .string (X4 key), .string (X4 src), .string (X4 dst)]) (vs := [.int .i64 0, .int .i64 0, .string (X4 []), .string (X4 []), .string (X4 []), .string (X4 [])]) (r := z) ?_ (hk := by exact X0u) (hr := by exact hz) | refine Z1 ?_ | refine Z0 ?_ | refine Zy ?_ | refine Zz ?_ | refine ZK ?_ | refine Zb ?_ | refine Z7 ?_ | refine Zn ?_ | refine Zs ?_ | refine Zq ?_ | refine Zx (γ := 100) ?_ | refine Zt ?_ | refine Zi ?_ | refine Zl ?_); refine JD ?_) | refine JF ?_ | refine X5 ?_ | refine X3 ?_
  refine XR (ι := Nat) (fun i => i = 0) (fun i => ⟨71, [(1, .ptr 100 0), (55, .d (.sl 10 [])), (56, ai 0), (57, ai i)], [(100, .box [ai kd, ai ts, .d (.sl 10 []), ai k, ai n, X8 name, X8 key, X8 src, X8 dst, ab off])]⟩) (fun i => 0) 0 rfl
   (Xg rfl JM ⟨rfl, trivial⟩) ?_
  rintro i rfl
  refine X0 ?_; refine JR ?_; refine Z7 ?_; refine JD ?_; refine X0 ?_; refine JF ?_; refine Xt ?_; refine X0 ?_; refine X0 ?_; refine JR ?_; refine Zy ?_; refine Zz ?_; refine Zb ?_; refine Zn ?_
  refine JD ?_; refine JF ?_; refine X3 ?_; refine X0 ?_; refine JR ?_; refine Z0 ?_; refine JD ?_
  exact X1 ⟨_, St.le_refl _, ⟨rfl, trivial⟩, X2 _⟩
 generalize hG : UA l = G
 repeat first | refine X0 ?_ | (refine JR ?_; (repeat first | refine Z05 (us := [.int .i64 k, .int .i64 n, .string (X4 name), .string (X4 key), .string (X4 src), .string (X4 dst)]) (vs := [.int .i64 0, .int .i64 0, .string (X4 []), .string (X4 []), .string (X4 []), .string (X4 [])]) (r := z) ?_ (hk := by exact X0u) (hr := by exact hz) | refine Z1 ?_ | refine Z0 ?_ | refine Zy ?_ | refine Zz ?_ | refine ZK ?_ | refine Zb ?_ | refine Z7 ?_ | refine Zn ?_ | refine Zs ?_ | refine Zq ?_ | refine Zx (γ := 100) ?_ | refine Zt ?_ | refine Zi ?_ | refine Zl ?_ | refine Zj ?_); refine JD ?_) | refine JF ?_ | refine X5 ?_ | refine X3 ?_
 refine XR (ι := Nat) (fun i => i ≤ l.length ∧ UA (l.drop i) = G) (fun i => ⟨71, [(1, .ptr 100 0), (55, .d (.sl 10 (l.map XD))), (56, ai (l.map XD).length), (57, ai i)], [(100, .box [ai kd, ai ts, .d (.sl 10 (l.map XD)), ai k, ai n, X8 name, X8 key, X8 src, X8 dst, ab off])]⟩) (fun i => l.length - i) 0 ⟨by omega, hG⟩
  (Xg rfl JM ⟨rfl, trivial⟩) ?_
 rintro i ⟨hi, hg⟩
 by_cases hil : i < l.length
 case neg =>
  obtain rfl : i = l.length := by omega
  rw [List.drop_length, UA] at hg
  subst hg
  rw [if_neg (by simp)]
  have hn : ¬ ((l.length : Nat) : Int) < (l.map XD).length := by omega
  by_cases hb : 1000 < l.length
  ·rw [if_pos hb]
   refine X0 ?_; refine JR ?_; refine Z7 ?_; refine JD ?_; refine X0 ?_; refine JF ?_; refine Xt ?_; refine X0 ?_; refine X0 ?_; refine JR ?_; refine Zy ?_; refine Zz ?_; refine Zb ?_; refine Zn ?_
   refine JD ?_; refine JT ?_; refine X0 ?_; refine JR ?_; refine Z0 ?_; refine JD ?_
   exact X1 ⟨_, St.le_refl _, ⟨rfl, trivial⟩, X2 _⟩
  ·rw [if_neg hb]
   refine X0 ?_; refine JR ?_; refine Z7 ?_; refine JD ?_; refine X0 ?_; refine JF ?_; refine Xt ?_; refine X0 ?_; refine X0 ?_; refine JR ?_; refine Zy ?_; refine Zz ?_; refine Zb ?_; refine Zn ?_
   refine JD ?_; refine JF ?_; refine X3 ?_; refine X0 ?_; refine JR ?_; refine Z0 ?_; refine JD ?_
   exact X1 ⟨_, St.le_refl _, ⟨rfl, trivial⟩, X2 _⟩
 have hn : (i : Int) < (l.map XD).length := by omega
 obtain ⟨x, hx⟩ := XX (l := l) hil
 have hxc : (l.map XD)[i]? = some (XD x) := Ua hx
 have hxo := hch x (List.mem_of_getElem? hx)
 have hcall := X2c x
 rw [XaN hx] at hg
 generalize Y9 x = e at *
 obtain ⟨op, id, xsrc, xdst, xname, ⟨xk, xn, xd, xs, xl⟩⟩ := x
 simp only [Xy, XD] at hcall hxc
 by_cases he : e = 0
 ·subst he
  rw [if_neg (by simp)] at hg
  refine X0 ?_; refine JR ?_; refine Z7 ?_; refine JD ?_; refine X0 ?_; refine JT ?_; refine X3 ?_; refine X0 ?_; refine X5 ?_; refine X0 ?_; refine JR ?_; refine ZH ?_; refine ZI ?_
  refine Zr (γ := 101) ?_; refine Zu ?_; refine JD ?_; refine X0 ?_; refine JR ?_; refine ZK ?_; refine Z8 (hcon := hcall) ?_; refine Z0 ?_; refine JD ?_; refine X0 ?_; refine JR ?_; refine Z1 ?_; refine Zq ?_
  refine JD ?_; refine JF ?_; refine X3 ?_; refine JR ?_; refine Zc ?_; refine Z1 ?_; refine JD ?_
  exact ⟨i + 1, ⟨by omega, hg⟩, by omega, Xg rfl JM ⟨rfl, trivial⟩⟩
 ·rw [if_pos he] at hg
  subst hg
  rw [if_pos he]
  refine X0 ?_; refine JR ?_; refine Z7 ?_; refine JD ?_; refine X0 ?_; refine JT ?_; refine X3 ?_; refine X0 ?_; refine X5 ?_; refine X0 ?_; refine JR ?_; refine ZH ?_; refine ZI ?_
  refine Zr (γ := 101) ?_; refine Zu ?_; refine JD ?_; refine X0 ?_; refine JR ?_; refine ZK ?_; refine Z8 (hcon := hcall) ?_; refine Z0 ?_; refine JD ?_; refine X0 ?_; refine JR ?_; refine Z1 ?_; refine Zq ?_
  refine JD ?_; refine JT ?_; refine X0 ?_; refine JR ?_; refine Z1 ?_; refine Z0 ?_; refine JD ?_
  exact X1 ⟨_, St.le_refl _, ⟨rfl, trivial⟩, X2 _⟩
end Go.Fw
namespace Go.Fw
open Go Go.Proofs
set_option maxRecDepth 100000
set_option linter.unusedVariables false
set_option linter.unusedSimpArgs false
theorem X5C : ∀ {l : List Chg}, UA l = 0 → ∀ c ∈ l, Y9 c = 0
 | [], _, c, hc => by simp at hc
 | x :: r, h, c, hc => by
  rw [UA] at h
  by_cases hx : Y9 x = 0
  ·rw [if_neg (by simpa using hx)] at h
   rcases List.mem_cons.1 hc with rfl | hc
   ·exact hx
   ·exact X5C h c hc
  ·rw [if_pos hx] at h
   exact absurd h hx
theorem X9n {r : Rcd} (h : YI r = 0) : (r.kind = 1 ∨ r.kind = 2 ∨ r.kind = 3) ∧ (0 ≤ r.ts ∧ r.ts ≤ 1000000000000000) ∧ (r.kind ≠ 2 → (∀ c ∈ r.changes, Y9 c = 0) ∧ r.changes.length ≤ 1000) ∧ (r.kind = 2 → YU r.rule = 0) ∧ (r.kind ≠ 1 → r.changes = []) ∧ (r.kind ≠ 2 → r.off = false ∧ X03 r.rule = true) := by
 unfold YI at h
 split at h
 ·omega
 rename_i h1
 split at h
 ·omega
 rename_i h2
 refine ⟨by omega, by omega, fun hk => ?_, fun hk => ?_, fun hk => ?_, fun hk => ?_⟩
 ·rw [if_neg hk] at h
  split at h
  ·omega
  ·rename_i h3
   split at h
   ·omega
   ·exact ⟨X5C (by simpa using h3), by omega⟩
 ·rwa [if_pos hk] at h
 ·exact List.eq_nil_of_length_eq_zero (by omega)
 ·cases ho : r.off <;> cases hz : X03 r.rule <;> simp [ho, hz, hk] at h2 ⊢
theorem X9r : YS [] = [] := rfl
theorem X95 {l : List Chg} {i : Nat} {x : Chg} (h : l[i]? = some x) : YS (l.take (i + 1)) = YS (l.take i) ++ XI x := by
 unfold YS
 rw [List.take_add_one, h]
 simp
theorem X16 {n : Int} (h : 0 ≤ n ∧ n ≤ 9223372036854775807) : (Xk n).length ≤ 10 := by
 rw [Vd h.1]
 exact Vv (by omega)
theorem X1Q {c : Chg} (h : Y9 c = 0) : (XI c).length ≤ 200 := by
 obtain ⟨h1, h2, h3, h4, h5⟩ := X2X h
 unfold XI
 have p1 := X16 (n := c.id) (by omega)
 have p2 : (if c.op = 6 then Xk c.src ++ Xk c.dst else []).length ≤ 20 := by
  split
  ·rename_i h6
   have q1 := X16 (n := c.src) (by have := h3 h6; omega)
   have q2 := X16 (n := c.dst) (by have := h3 h6; omega)
   rw [List.length_append]; omega
  ·simp
 have p3 : (if XT c.op = true then Xo c.name else []).length ≤ 30 := by
  split
  ·rename_i h6
   exact VQ (h4 h6)
  ·simp
 have p4 : (if XP c.op = true then Y4 c.v else []).length ≤ 111 := by
  split
  ·rename_i h6
   unfold Y4
   rw [if_pos (h5 h6).1]
   exact (h5 h6).2
  ·simp
 simp only [List.length_cons, List.length_append]
 omega
theorem X4M : ∀ {l : List Chg}, (∀ c ∈ l, Y9 c = 0) → (YS l).length ≤ 200 * l.length
 | [], _ => by simp [YS]
 | x :: r, h => by
  have h1 := X1Q (h x (by simp))
  have h2 := X4M (l := r) fun y hy => h y (by simp [hy])
  unfold YS at *
  simp only [List.map_cons, List.flatten_cons, List.length_append, List.length_cons]
  omega
theorem X2y {r : Rul} (h : YU r = 0) : (Yc r).length ≤ 200 := by
 obtain ⟨h1, ⟨l1, l2, l3, l4⟩, h3⟩ := X0T h
 have := VQ l1
 have := VQ l2
 have := VQ l3
 have := VQ l4
 have := X0H h1
 unfold Yc
 simp only [List.length_cons, List.length_append]
 omega
theorem X77 (r : Rcd) (hok : X0G r) : Con Tryd.prog 7 [] [YW r] [] (.d (Xv (X2G r))) := by
 have hc := X60 r hok
 obtain ⟨hlen, hch⟩ := hok
 unfold X2G
 by_cases h : YI r = 0
 case neg =>
  rw [if_neg h]
  generalize YI r = e at *
  obtain ⟨kd, ts, l, ⟨k, n, name, key, src, dst⟩, off⟩ := r
  simp only [YW] at *
  refine Xb (xs := [.d (Xv [])]) Tryd.func7 rfl Tryd.ntmps7 rfl rfl rfl (fun E => ?_)
  refine X0 ?_; refine JR ?_; refine Zx (γ := 100) ?_; refine Z0 ?_; refine JD ?_; refine X0 ?_; refine X0 ?_; refine JR ?_; refine ZK ?_; refine Z8 (hcon := hc) ?_; refine Zq ?_; refine JD ?_; refine JT ?_
  refine X0 ?_; refine JR ?_; refine Z0 ?_; refine JD ?_
  exact X1 ⟨_, Xi 2 (y := .d (Xv [])) (AVal.le_nil 1), ⟨rfl, trivial⟩, X2 _⟩
 rw [if_pos h]
 rw [h] at hc
 obtain ⟨hkd, hts, h1, h2, h3, h4⟩ := X9n h
 clear h
 obtain ⟨kd, ts, l, ⟨k, n, name, key, src, dst⟩, off⟩ := r
 simp only at hlen hch hkd hts h1 h2 h3 h4
 have hpu := Vu ts (by omega)
 have hlu := X16 (n := ts) (by omega)
 have hlm : (l.map XD).length = l.length := by simp
 by_cases k3 : kd = 3
 ·subst k3
  obtain rfl := h3 (by decide)
  have hput : Um ⟨3, ts, [], ⟨k, n, name, key, src, dst⟩, off⟩ = UInt8.ofNat 3 :: Xk ts := by unfold Um; simp
  rw [hput]
  generalize Xk ts = w0 at *
  simp only [YW] at *
  refine Xb (xs := [.d (Xv (UInt8.ofNat 3 :: w0))]) Tryd.func7 rfl Tryd.ntmps7 rfl rfl rfl (fun E => ?_)
  repeat first | refine X0 ?_ | (refine JR ?_; (repeat first | refine Z3 (u := nj 3) (r := n8 3) ?_ (hr := by exact Yi rfl rfl) | refine ZX (γ := 130) ?_ | refine Z1 ?_ | refine Z0 ?_ | refine Zy ?_ | refine Zz ?_ | refine ZK ?_ | refine Zs ?_ | refine Zq ?_ | refine Zx (γ := 100) ?_ | refine Z6 ?_ | refine Z8 (hcon := hc) ?_ | refine Z8 (hcon := hpu) ?_); refine JD ?_) | refine JF ?_ | refine X5 ?_ | refine X3 ?_
  refine Y6 (Ut 130 rfl) ?_
  refine Y6 (X0C 2 130 rfl rfl (by first | rfl | (simp only [List.length_append, List.length_map, List.length_cons, List.length_nil] <;> omega) | fail)) ?_
  exact X1 ⟨_, Xi 2 (y := .d (Xv (UInt8.ofNat 3 :: w0))) (AVal.le_of_eq (by refine Eq.trans (b := AVal.d (.sl 1 (_))) rfl ?_; show _ = AVal.d (.sl 1 ((UInt8.ofNat 3 :: w0).map Xa)); simp only [List.map_append, List.map_cons, List.map_nil, List.append_assoc, List.cons_append, List.nil_append, List.append_nil] <;> rfl)), ⟨rfl, trivial⟩, X2 _⟩
 by_cases k2 : kd = 2
 ·subst k2
  obtain rfl := h3 (by decide)
  have h2 := h2 rfl
  have hpr := X5a ⟨k, n, name, key, src, dst⟩ h2
  have hlr := X2y h2
  have hput : Um ⟨2, ts, [], ⟨k, n, name, key, src, dst⟩, off⟩ = UInt8.ofNat 2 :: (Xk ts ++ (Yc ⟨k, n, name, key, src, dst⟩ ++ [if off then 1 else 0])) := by unfold Um; simp
  rw [hput]
  generalize Xk ts = w0 at *
  generalize Yc ⟨k, n, name, key, src, dst⟩ = w1 at *
  simp only [YW, Y3] at *
  cases off with
  | true =>
   refine Xb (xs := [.d (Xv (UInt8.ofNat 2 :: (w0 ++ (w1 ++ [1]))))]) Tryd.func7 rfl Tryd.ntmps7 rfl rfl rfl (fun E => ?_)
   repeat first | refine X0 ?_ | (refine JR ?_; (repeat first | refine Z3 (u := nj 2) (r := n8 2) ?_ (hr := by exact Yi rfl rfl) | refine ZX (γ := 130) ?_ | refine Z1 ?_ | refine Z0 ?_ | refine Zy ?_ | refine Zz ?_ | refine ZK ?_ | refine Zs ?_ | refine Zq ?_ | refine Zx (γ := 100) ?_ | refine Z5 ?_ | refine Z6 ?_ | refine Z8 (hcon := hc) ?_ | refine Z8 (hcon := hpu) ?_ | refine Z8 (hcon := hpr) ?_); refine JD ?_) | refine JT ?_ | refine JF ?_ | refine X5 ?_ | refine X3 ?_
   refine Y6 (Ut 130 rfl) ?_
   refine Y6 (X0C 2 130 rfl rfl (by first | rfl | (simp only [List.length_append, List.length_map, List.length_cons, List.length_nil] <;> omega) | fail)) ?_
   exact X1 ⟨_, Xi 2 (y := .d (Xv (UInt8.ofNat 2 :: (w0 ++ (w1 ++ [1]))))) (AVal.le_of_eq (by refine Eq.trans (b := AVal.d (.sl 1 (_))) rfl ?_; show _ = AVal.d (.sl 1 ((UInt8.ofNat 2 :: (w0 ++ (w1 ++ [1]))).map Xa)); simp only [List.map_append, List.map_cons, List.map_nil, List.append_assoc, List.cons_append, List.nil_append, List.append_nil] <;> rfl)), ⟨rfl, trivial⟩, X2 _⟩
  | false =>
   refine Xb (xs := [.d (Xv (UInt8.ofNat 2 :: (w0 ++ (w1 ++ [0]))))]) Tryd.func7 rfl Tryd.ntmps7 rfl rfl rfl (fun E => ?_)
   repeat first | refine X0 ?_ | (refine JR ?_; (repeat first | refine Z3 (u := nj 2) (r := n8 2) ?_ (hr := by exact Yi rfl rfl) | refine ZX (γ := 130) ?_ | refine Z1 ?_ | refine Z0 ?_ | refine Zy ?_ | refine Zz ?_ | refine ZK ?_ | refine Zs ?_ | refine Zq ?_ | refine Zx (γ := 100) ?_ | refine Z5 ?_ | refine Z6 ?_ | refine Z8 (hcon := hc) ?_ | refine Z8 (hcon := hpu) ?_ | refine Z8 (hcon := hpr) ?_); refine JD ?_) | refine JT ?_ | refine JF ?_ | refine X5 ?_ | refine X3 ?_
   refine Y6 (Ut 130 rfl) ?_
   refine Y6 (X0C 2 130 rfl rfl (by first | rfl | (simp only [List.length_append, List.length_map, List.length_cons, List.length_nil] <;> omega) | fail)) ?_
   exact X1 ⟨_, Xi 2 (y := .d (Xv (UInt8.ofNat 2 :: (w0 ++ (w1 ++ [0]))))) (AVal.le_of_eq (by refine Eq.trans (b := AVal.d (.sl 1 (_))) rfl ?_; show _ = AVal.d (.sl 1 ((UInt8.ofNat 2 :: (w0 ++ (w1 ++ [0]))).map Xa)); simp only [List.map_append, List.map_cons, List.map_nil, List.append_assoc, List.cons_append, List.nil_append, List.append_nil] <;> rfl)), ⟨rfl, trivial⟩, X2 _⟩
 have k1 : kd = 1 := by omega
 subst k1
 obtain ⟨h1, hl⟩ := h1 (by decide)
 have hpl := Vu (l.length : Nat) (by omega)
 have hll := X16 (n := (l.length : Nat)) (by omega)
 have hput : Um ⟨1, ts, l, ⟨k, n, name, key, src, dst⟩, off⟩ = UInt8.ofNat 1 :: (Xk ts ++ Xk (l.length : Nat)) ++ YS l := by unfold Um; simp
 rw [hput]
 clear hput h2 h3 h4 hkd k2 k3
 rw [← hlm] at hpl
 rw [← hlm] at hll ⊢
 generalize Xk ts = w0 at *
 generalize Xk ((l.map XD).length : Nat) = w1 at *
 simp only [YW] at *
 refine Xb (xs := [.d (Xv (UInt8.ofNat 1 :: (w0 ++ w1) ++ YS l))]) Tryd.func7 rfl Tryd.ntmps7 rfl rfl rfl (fun E => ?_)
 refine X0 ?_; refine JR ?_; refine Zx (γ := 100) ?_; refine Z0 ?_; refine JD ?_; refine X0 ?_; refine X0 ?_; refine JR ?_; refine ZK ?_; refine Z8 (hcon := hc) ?_; refine Zq ?_; refine JD ?_; refine JF ?_
 refine X3 ?_; refine X0 ?_; refine JR ?_; refine Zy ?_; refine Zz ?_; refine Z3 (u := nj 1) (r := n8 1) ?_ (hr := by exact Yi rfl rfl); refine ZX (γ := 130) ?_; refine Zy ?_; refine Zz ?_
 refine Z8 (hcon := hpu) ?_; refine Z6 ?_; refine Z0 ?_; refine JD ?_; refine X0 ?_; refine X0 ?_; refine JR ?_; refine Zy ?_; refine Zz ?_; refine JD ?_; refine X5 ?_; refine X0 ?_; refine JR ?_
 refine Zs ?_; refine Z0 ?_; refine JD ?_; refine JT ?_; refine X0 ?_; refine JR ?_; refine Z1 ?_; refine Zy ?_; refine Zz ?_; refine Zb ?_; refine Z8 (hcon := hpl) ?_; refine Z6 ?_; refine Z0 ?_; refine JD ?_
 refine X0 ?_; refine JR ?_; refine Zy ?_; refine Zz ?_; refine Zb ?_; refine Z1 ?_; refine JD ?_; refine X5 ?_
 generalize hA : UInt8.ofNat 1 :: (w0 ++ w1) = A at *
 have hAl : A.length ≤ 21 := by rw [← hA]; simp only [List.length_cons, List.length_append]; omega
 refine XR (ι := Nat) (fun i => i ≤ l.length) (fun i => ⟨55, [(1, .ptr 100 0), (3, .own 130 ((A ++ YS (l.take i)).map Xa).length), (28, .d (.sl 10 (l.map XD))), (29, ai (l.map XD).length), (30, ai i)], [(100, .box [ai 1, ai ts, .d (.sl 10 (l.map XD)), ai k, ai n, X8 name, X8 key, X8 src, X8 dst, ab off]), (130, .row 1 ((A ++ YS (l.take i)).map Xa))]⟩) (fun i => l.length - i) 0 (by omega)
  (by
   rw [List.take_zero, X9r]
   subst hA
   exact Xg rfl ⟨JL, (by refine AVal.le_of_eq ?_; refine Eq.trans (b := AVal.own 130 (_ + _)) rfl ?_; congr 1; simp only [List.length_append, List.length_map, List.length_cons, List.length_nil, List.append_assoc, List.cons_append, List.nil_append, List.append_nil] <;> omega), JL, JL, JL, trivial⟩ ⟨rfl, (by refine Eq.trans (b := AObj.row 1 (_ ++ _)) rfl ?_; simp only [List.map_append, List.map_cons, List.map_nil, List.append_assoc, List.cons_append, List.nil_append, List.append_nil] <;> rfl), trivial⟩) ?_
 intro i hi
 have hrow : ((A ++ YS (l.take i)).map Xa).length ≤ 300000 := by
  have h6 := X4M (l := l.take i) fun c hc => h1 c (List.mem_of_mem_take hc)
  have h7 : (l.take i).length ≤ 1000 := by simp; omega
  simp only [List.length_map, List.length_append]
  omega
 by_cases hil : i < l.length
 case neg =>
  obtain rfl : i = l.length := by omega
  rw [List.take_length] at hrow ⊢
  have hn : ¬ ((l.length : Nat) : Int) < (l.map XD).length := by omega
  generalize A ++ YS l = B at *
  refine X0 ?_; refine JR ?_; refine Z7 ?_; refine JD ?_; refine X0 ?_; refine JF ?_; refine Xt ?_; refine X0 ?_; refine JR ?_; refine Z1 ?_; refine Z0 ?_; refine JD ?_
  refine Y6 (Ut 130 rfl) ?_
  refine Y6 (X0C 2 130 rfl rfl rfl) ?_
  exact X1 ⟨_, St.le_refl _, ⟨rfl, trivial⟩, X2 _⟩
 have hn : (i : Int) < (l.map XD).length := by omega
 obtain ⟨x, hx⟩ := XX (l := l) hil
 have hxc : (l.map XD)[i]? = some (XD x) := Ua hx
 have hxe := h1 x (List.mem_of_getElem? hx)
 have hcall := X63 x hxe
 have hxl := X1Q hxe
 have htk := X95 hx
 generalize XI x = w at *
 obtain ⟨op, id, xsrc, xdst, xname, ⟨xk, xn, xd, xs, xl⟩⟩ := x
 simp only [Xy, XD] at hcall hxc
 generalize hB : A ++ YS (l.take i) = B at *
 refine X0 ?_; refine JR ?_; refine Z7 ?_; refine JD ?_; refine X0 ?_; refine JT ?_; refine X3 ?_; refine X0 ?_; refine X5 ?_; refine X0 ?_; refine JR ?_; refine ZH ?_; refine ZI ?_
 refine Zr (γ := 101) ?_; refine Zu ?_; refine JD ?_; refine JR ?_; refine Z1 ?_; refine ZK ?_; refine Z8 (hcon := hcall) ?_; refine Z6 ?_; refine Z0 ?_; refine JD ?_; refine JR ?_; refine Zc ?_; refine Z1 ?_
 refine JD ?_
 refine ⟨i + 1, by omega, by omega, ?_⟩
 dsimp only
 rw [htk, ← List.append_assoc, hB]
 exact Xg rfl ⟨JL, (by refine AVal.le_of_eq ?_; refine Eq.trans (b := AVal.own 130 (_ + _)) rfl ?_; congr 1; simp only [List.length_append, List.length_map, List.length_cons, List.length_nil, List.append_assoc, List.cons_append, List.nil_append, List.append_nil] <;> omega), JL, JL, JL, trivial⟩ ⟨rfl, (by refine Eq.trans (b := AObj.row 1 (_ ++ _)) rfl ?_; simp only [List.map_append, List.map_cons, List.map_nil, List.append_assoc, List.cons_append, List.nil_append, List.append_nil] <;> rfl), trivial⟩
end Go.Fw
namespace Go.Fw
open Go
set_option linter.unusedVariables false
def Vo (b : List UInt8) (g : Int → Val × Int × Int) (x : Val) : Prop :=
 ∀ front back : List UInt8, front ++ Xq x ++ back = b → g front.length = (x, (front.length : Int) + (Xq x).length, 0)
theorem X1k : ∀ (l r : List Val), XE (l ++ r) = XE l ++ XE r
 | [], r => rfl
 | v :: l, r => by simp only [List.cons_append, XE, X1k l r, List.append_assoc]
theorem X5h {g : Nat → Int → Val × Int × Int} {b front back : List UInt8} {l : List Val} (hb : front ++ XE l ++ back = b) (hg : ∀ (j : Nat) (x : Val), l[j]? = some x → Vo b (g j) x) :
  ∀ j, j ≤ l.length → Xr g front.length j = (l.take j, (front.length : Int) + (XE (l.take j)).length, 0)
 | 0, _ => by simp [Xr, XE]
 | j + 1, hj => by
  have ih := X5h hb hg j (by omega)
  obtain ⟨x, hx⟩ := XX (l := l) (k := j) (by omega)
  have hsp : l = l.take j ++ x :: l.drop (j + 1) := by
   rw [← (List.getElem?_eq_some_iff.1 hx).2, ← List.drop_eq_getElem_cons, List.take_append_drop]
  have hbk := hg j x hx (front ++ XE (l.take j)) (XE (l.drop (j + 1)) ++ back) (by
   rw [← hb]
   conv => rhs; rw [hsp, X1k, XE]
   simp only [List.append_assoc])
  rw [VL (by rw [ih]), ih]
  simp only
  rw [List.length_append, Int.natCast_add] at hbk
  rw [hbk]
  have ht : l.take (j + 1) = l.take j ++ [x] := by rw [List.take_add_one, hx]; rfl
  rw [ht, X1k]
  simp only [XE, List.append_nil, List.length_append, Int.natCast_add]
  rw [Int.add_assoc]
theorem X7P {k : Int} (h : 0 ≤ k ∧ k ≤ 8) : (((UInt8.ofNat k.toNat).toNat : Nat) : Int) = k := by
 rw [Ve (by omega)]; omega
theorem X4B {m : Nat} {k n d : Int} {s : List UInt8} {l : List Val} (h : X6 m (.mk k n d s l) = true) : 0 ≤ k ∧ k ≤ 8 := by
 rw [X6] at h
 by_cases h0 : k = 0
 ·omega
 by_cases h1 : k = 1
 ·omega
 by_cases h2 : k = 2
 ·omega
 by_cases h3 : k = 3
 ·omega
 by_cases h4 : k = 4
 ·omega
 by_cases h5 : k = 5 ∨ k = 6
 ·omega
 by_cases h7 : k = 7
 ·omega
 by_cases h8 : k = 8
 ·omega
 simp [h0, h1, h2, h3, h4, h5, h7, h8] at h
theorem X9G {m : Nat} {k n d : Int} {s : List UInt8} {l : List Val} (hv : X6 m (.mk k n d s l) = true) {b front back : List UInt8} {gl gp : Nat → Int → Val × Int × Int}
  (hb : front ++ Xq (.mk k n d s l) ++ back = b) (hgl : k = 8 → ∀ (j : Nat) (x : Val), l[j]? = some x → Vo b (gl j) x) (hgp : k = 7 → ∀ (j : Nat) (x : Val), l[j]? = some x → Vo b (gp j) x) :
  XW gl gp b ((front.length : Int) + 1) k = (.mk k n d s l, (front.length : Int) + (Xq (.mk k n d s l)).length, 0) := by
 have hk := X4B hv
 rw [Xq] at hb ⊢
 have hfl : ((front.length : Int) + 1) = ((front ++ [UInt8.ofNat k.toNat]).length : Nat) := by simp
 rw [hfl]
 have hb' : ∀ w, front ++ UInt8.ofNat k.toNat :: w ++ back = (front ++ [UInt8.ofNat k.toNat]) ++ w ++ back := fun w => by simp
 rw [hb'] at hb
 have hlen : ∀ w : List UInt8, ((front.length : Int) + ((UInt8.ofNat k.toNat :: w).length : Nat)) = (((front ++ [UInt8.ofNat k.toNat]).length : Nat) : Int) + w.length := fun w => by simp; omega
 rw [hlen]
 generalize front ++ [UInt8.ofNat k.toNat] = F at *
 clear hfl hb' hlen
 rw [X6] at hv
 unfold XW
 by_cases h1 : k = 1 ∨ k = 2 ∨ k = 5 ∨ k = 6
 ·rw [if_pos h1] at hb ⊢
  have hz : d = 0 ∧ s = [] ∧ l = [] ∧ -9223372036854775808 ≤ n ∧ n ≤ 9223372036854775807 := by
   rcases h1 with rfl | rfl | rfl | rfl <;> simp at hv <;> refine ⟨hv.1.1.1, hv.1.1.2, hv.1.2, ?_⟩ <;> omega
  obtain ⟨rfl, rfl, rfl, hn⟩ := hz
  have := X1Y hn F back
  rw [hb] at this
  rw [if_pos h1, this]
 rw [if_neg h1] at hb ⊢
 rw [if_neg h1]
 by_cases h3 : k = 3
 ·subst h3
  rw [if_pos rfl] at hb ⊢
  rw [if_pos rfl]
  have hz : (s = [] ∧ l = []) ∧ (-9223372036854775808 ≤ n ∧ n ≤ 9223372036854775807) ∧ -9223372036854775808 ≤ d ∧ d ≤ 9223372036854775807 := by simp [YV] at hv; exact ⟨⟨hv.1.1, hv.1.2⟩, by omega, by omega⟩
  obtain ⟨⟨rfl, rfl⟩, hn, hd⟩ := hz
  have e1 := X1Y hn F (XF d ++ back)
  have e2 := X1Y hd (F ++ XF n) back
  rw [show F ++ XF n ++ (XF d ++ back) = b by rw [← hb]; simp] at e1
  rw [show F ++ XF n ++ XF d ++ back = b by rw [← hb]; simp, List.length_append, Int.natCast_add] at e2
  rw [e1]
  simp only
  rw [if_neg (by simp), e2]
  simp only [List.length_append, Int.natCast_add, Int.add_assoc]
 rw [if_neg h3] at hb ⊢
 rw [if_neg h3]
 by_cases h4 : k = 4
 ·subst h4
  rw [if_pos rfl] at hb ⊢
  rw [if_pos rfl]
  have hz : n = 0 ∧ d = 0 ∧ l = [] ∧ s.length ≤ 100 := by simp at hv; exact ⟨hv.2.1.1, hv.1.1, hv.1.2, hv.2.1.2⟩
  obtain ⟨rfl, rfl, rfl, hs⟩ := hz
  have := X47 (s := s) (most := 100) (by omega) (by omega) F back
  rw [hb] at this
  rw [this]
 rw [if_neg h4] at hb ⊢
 rw [if_neg h4]
 by_cases h7 : k = 7 ∨ k = 8
 ·rw [if_pos h7] at hb ⊢
  rw [if_pos h7]
  have hz : n = 0 ∧ d = 0 ∧ s = [] ∧ Ui k l.length = false ∧ l.length ≤ 64 := by
   rcases h7 with rfl | rfl
   ·simp at hv
    exact ⟨hv.2.1.1, hv.1.1, hv.1.2, by simp [Ui]; omega, by omega⟩
   ·simp at hv
    exact ⟨hv.2.1.1, hv.1.1, hv.1.2, by simp [Ui]; omega, by omega⟩
  obtain ⟨rfl, rfl, rfl, hcb, hl⟩ := hz
  have e1 := X2F (n := l.length) ⟨by omega, by omega⟩ F (XE l ++ back)
  rw [show F ++ Xk l.length ++ (XE l ++ back) = b by rw [← hb]; simp] at e1
  rw [e1]
  simp only
  rw [if_neg (by simp), hcb, if_neg (by simp), Int.toNat_natCast]
  have hall : ∀ (j : Nat) (x : Val), l[j]? = some x → Vo b ((if k = 8 then gl else gp) j) x := by
   intro j x hx
   by_cases h8 : k = 8
   ·rw [if_pos h8]; exact hgl h8 j x hx
   ·rw [if_neg h8]; exact hgp (by omega) j x hx
  have e2 := X5h (g := if k = 8 then gl else gp) (b := b) (front := F ++ Xk l.length) (back := back) (l := l) (by rw [← hb]; simp) hall l.length (Nat.le_refl _)
  rw [List.take_length, List.length_append, Int.natCast_add] at e2
  rw [e2]
  simp only [List.length_append, Int.natCast_add, Int.add_assoc]
 rw [if_neg h7] at hb ⊢
 rw [if_neg h7]
 have h0 : k = 0 := by omega
 subst h0
 simp at hv
 obtain ⟨⟨⟨rfl, rfl⟩, rfl⟩, rfl⟩ := hv
 simp
theorem X4u {m : Nat} {k n d : Int} {s : List UInt8} {l : List Val} (hv : X6 m (.mk k n d s l) = true) (hm : m ≤ 8) {want : Int} (hw : want = 0 ∨ want = k) {b front back : List UInt8} {gl gp : Nat → Int → Val × Int × Int}
  (hb : front ++ Xq (.mk k n d s l) ++ back = b) (hgl : k = 8 → ∀ (j : Nat) (x : Val), l[j]? = some x → Vo b (gl j) x) (hgp : k = 7 → ∀ (j : Nat) (x : Val), l[j]? = some x → Vo b (gp j) x) :
  Yt gl gp m b front.length want = (.mk k n d s l, (front.length : Int) + (Xq (.mk k n d s l)).length, 0) := by
 have hk := X4B hv
 have hc := X9G hv hb hgl hgp
 have hv8 := X37 _ m 8 hm hv
 have hget : b[front.length]? = some (UInt8.ofNat k.toNat) := by rw [← hb, Xq]; simp
 have hlt : front.length < b.length := (List.getElem?_eq_some_iff.1 hget).1
 have hm8 : k = 8 → m ≠ 0 := by
  rintro rfl rfl
  have := (X49 hv).2.1
  omega
 unfold Yt
 rw [if_neg (by omega), Int.toNat_natCast, hget, Option.getD_some]
 simp only
 rw [X7P hk, if_neg (by omega), hc]
 simp only
 rw [if_neg (fun h => by rw [hv8] at h; exact absurd h.2 (by decide))]
theorem X78 {b : List UInt8} {i : Nat} {x : Val} (hv : X6 0 x = true) (hk : x.kind = 5 + (i % 2 : Nat)) : Vo b (UI b i) x := by
 obtain ⟨k, n, d, s, l⟩ := x
 simp only [Val.kind] at hk
 intro front back hb
 unfold UI X04
 exact X4u hv (by omega) (.inr hk.symm) hb (fun h => by omega) (fun h => by omega)
theorem X5Q : ∀ {l : List Val} {i j : Nat} {x : Val}, Yh i l = true → l[j]? = some x → x.kind = 5 + ((i + j) % 2 : Nat) ∧ X6 0 x = true
 | [], _, _, _, _, h => by simp at h
 | v :: r, i, 0, x, hp, h => by
  rw [Yh, Bool.and_eq_true, Bool.and_eq_true] at hp
  simp at h
  subst h
  exact ⟨of_decide_eq_true hp.1.1, hp.1.2⟩
 | v :: r, i, j + 1, x, hp, h => by
  rw [Yh, Bool.and_eq_true, Bool.and_eq_true] at hp
  have := X5Q hp.2 (j := j) (x := x) (by simpa using h)
  rwa [show i + 1 + j = i + (j + 1) by omega] at this
theorem X9L {m : Nat} {n d : Int} {s : List UInt8} {l : List Val} (h : X6 m (.mk 7 n d s l) = true) : Yh 0 l = true := by
 rw [X6] at h
 simp at h
 exact h.2.2
theorem X6q {b : List UInt8} : ∀ (v : Val) (m : Nat), X6 m v = true → m ≤ 8 → Vo b (Uo b m) v
 | .mk k n d s l, m, hv, hm => by
  intro front back hb
  rw [Vz]
  refine X4u hv hm (.inl rfl) hb (fun h8 j x hx => ?_) (fun h7 j x hx => ?_)
  ·subst h8
   obtain ⟨_, hm1, hl⟩ := X49 hv
   cases m with
   | zero => omega
   | succ m' => exact X6q x m' (X3k hl (List.mem_of_getElem? hx)) (by omega)
  ·subst h7
   have hp := X5Q (X9L hv) hx
   rw [Nat.zero_add] at hp
   exact X78 hp.2 hp.1
termination_by v => SizeOf.sizeOf v
decreasing_by
 have h1 := List.sizeOf_lt_of_mem (List.mem_of_getElem? hx)
 simp only [Val.mk.sizeOf_spec]
 omega
theorem X8K {v : Val} (hv : X6 8 v = true) (front back : List UInt8) : Yl (front ++ Y4 v ++ back) front.length = (v, (front.length : Int) + (Y4 v).length, 0) := by
 rw [show Y4 v = Xq v by unfold Y4; rw [hv]; rfl]
 have h := X6q (b := front ++ Xq v ++ back) v 8 hv (by omega) front back rfl
 unfold Yl
 rw [if_neg (by simp; omega), h]
 rfl
end Go.Fw
namespace Go.Fw
open Go
set_option linter.unusedVariables false
theorem X02 {b : List UInt8} {a : Int} (h : 0 ≤ a) (h2 : a ≤ b.length) : only b a a [] := ⟨h, by omega, h2, by simp⟩
theorem Ym {b : List UInt8} {a m e : Int} {w1 w2 : List UInt8} (h1 : only b a m w1) (h2 : only b m e w2) : only b a e (w1 ++ w2) := by
 obtain ⟨k1, k2, k3, k4⟩ := h1
 obtain ⟨j1, j2, j3, j4⟩ := h2
 refine ⟨k1, by omega, j3, ?_⟩
 rw [show (e - a).toNat = (m - a).toNat + (e - m).toNat by omega, List.take_add, k4, List.drop_drop, show a.toNat + (m - a).toNat = m.toNat by omega, j4]
theorem X3a {b : List UInt8} {a : Int} {c : UInt8} (h0 : 0 ≤ a) (h : b[a.toNat]? = some c) : only b a (a + 1) [c] := by
 obtain ⟨hl, he⟩ := List.getElem?_eq_some_iff.1 h
 refine ⟨h0, by omega, by omega, ?_⟩
 rw [show (a + 1 - a).toNat = 1 by omega, List.drop_eq_getElem_cons hl, he]
 rfl
def Vf (b : List UInt8) (g : Nat → Int → Val × Int × Int) : Prop := ∀ (i : Nat) (q : Int) (x : Val) (e : Int), 0 ≤ q → q ≤ b.length → g i q = (x, e, 0) → only b q e (Xq x)
theorem X5v {g : Nat → Int → Val × Int × Int} {b : List UInt8} {a : Int} (hg : Vf b g) (h0 : 0 ≤ a) (h1 : a ≤ b.length) : ∀ (j : Nat) (l : List Val) (e : Int), Xr g a j = (l, e, 0) → only b a e (XE l) ∧ l.length = j
 | 0, l, e, h => by
  simp only [Xr, Prod.mk.injEq] at h
  obtain ⟨rfl, rfl, _⟩ := h
  exact ⟨X02 h0 h1, rfl⟩
 | j + 1, l, e, h => by
  by_cases hz : (Xr g a j).2.2 = 0
  ·rw [VL hz] at h
   have ih := X5v hg h0 h1 j (Xr g a j).1 (Xr g a j).2.1 (by rw [← hz])
   generalize (Xr g a j).1 = l0 at *
   generalize (Xr g a j).2.1 = q at *
   obtain ⟨⟨i1, i2⟩, i3⟩ := ih
   simp only [Prod.mk.injEq] at h
   obtain ⟨rfl, rfl, h3⟩ := h
   have hx := hg j q (g j q).1 (g j q).2.1 (by omega) (by omega) (by rw [← h3])
   refine ⟨?_, by simp [i3]⟩
   rw [X1k]
   have := Ym ⟨i1, i2⟩ hx
   simpa [XE] using this
  ·rw [X0q hz (j + 1) (by omega)] at h
   exact absurd (congrArg (fun r => r.2.2) h) hz
theorem X5I (c : UInt8) : UInt8.ofNat (((c.toNat : Nat) : Int)).toNat = c := by simp
theorem X8w {gl gp : Nat → Int → Val × Int × Int} {b : List UInt8} {a k : Int} {v : Val} {e : Int} (hgl : Vf b gl) (hgp : Vf b gp) (h0 : 0 ≤ a) (h1 : a ≤ b.length) (h : XW gl gp b a k = (v, e, 0)) :
  ∃ w, only b a e w ∧ Xq v = UInt8.ofNat k.toNat :: w := by
 unfold XW at h
 split at h
 ·rename_i hk
  simp only [Prod.mk.injEq] at h
  obtain ⟨rfl, rfl, h3⟩ := h
  have := X1J (b := b) (a := a) (n := (Xn b a).1) (e := (Xn b a).2.1) (by rw [← h3])
  exact ⟨_, this.1, by rw [Xq, if_pos hk]⟩
 rename_i hk1
 split at h
 ·rename_i hk
  subst hk
  simp only at h
  split at h
  ·rename_i h3
   simp only [Prod.mk.injEq] at h
   exact absurd h.2.2 h3
  rename_i h3
  have h3 : (Xn b a).2.2 = 0 := by simpa using h3
  simp only [Prod.mk.injEq] at h
  obtain ⟨rfl, rfl, h4⟩ := h
  have e1 := X1J (b := b) (a := a) (n := (Xn b a).1) (e := (Xn b a).2.1) (by rw [← h3])
  have e2 := X1J (b := b) (a := (Xn b a).2.1) (n := (Xn b (Xn b a).2.1).1) (e := (Xn b (Xn b a).2.1).2.1) (by rw [← h4])
  exact ⟨_, Ym e1.1 e2.1, by rw [Xq]; simp⟩
 rename_i hk3
 split at h
 ·rename_i hk
  subst hk
  simp only [Prod.mk.injEq] at h
  obtain ⟨rfl, rfl, h3⟩ := h
  have := X0l (b := b) (a := a) (s := (Ye b a 100).1) (e := (Ye b a 100).2.1) (most := 100) (by rw [← h3])
  exact ⟨_, this.1, by rw [Xq]; simp⟩
 rename_i hk4
 split at h
 ·rename_i hk
  simp only at h
  split at h
  ·rename_i h3
   simp only [Prod.mk.injEq] at h
   exact absurd h.2.2 h3
  rename_i h3
  split at h
  ·simp at h
  have h3 : (Xf b a).2.2 = 0 := by simpa using h3
  have e1 := UJ (b := b) (a := a) (n := (Xf b a).1) (e := (Xf b a).2.1) (by rw [← h3])
  simp only [Prod.mk.injEq] at h
  obtain ⟨rfl, rfl, h4⟩ := h
  have hall : Vf b (if k = 8 then gl else gp) := by
   split
   ·exact hgl
   ·exact hgp
  obtain ⟨⟨k1, k2, k3, k4⟩, k5, k6, k7⟩ := e1
  have e2 := X5v (g := if k = 8 then gl else gp) (b := b) (a := (Xf b a).2.1) hall (by omega) (by omega) (Xf b a).1.toNat _ _ (by rw [← h4])
  refine ⟨_, Ym ⟨k1, k2, k3, k4⟩ e2.1, ?_⟩
  rw [Xq, if_neg hk1, if_neg hk3, if_neg hk4, if_pos hk, e2.2]
  rw [show (((Xf b a).1.toNat : Nat) : Int) = (Xf b a).1 by omega]
 rename_i hk7
 simp only [Prod.mk.injEq] at h
 obtain ⟨rfl, rfl, _⟩ := h
 exact ⟨[], X02 h0 h1, by rw [Xq, if_neg hk1, if_neg hk3, if_neg hk4, if_neg hk7]⟩
theorem X2K {gl gp : Nat → Int → Val × Int × Int} {m : Nat} {b : List UInt8} {a want : Int} {v : Val} {e : Int} (hgl : Vf b gl) (hgp : Vf b gp) (h0 : 0 ≤ a) (h1 : a ≤ b.length) (h : Yt gl gp m b a want = (v, e, 0)) : only b a e (Xq v) := by
 unfold Yt at h
 split at h
 ·simp at h
 rename_i h2
 obtain ⟨c, hc⟩ := XX (l := b) (k := a.toNat) (by omega)
 rw [hc, Option.getD_some] at h
 simp only at h
 split at h
 ·simp at h
 split at h
 ·simp at h
 obtain ⟨w, hw, hp⟩ := X8w hgl hgp (by omega) (by omega) h
 rw [hp, X5I]
 exact Ym (X3a h0 hc) hw
theorem X1Z {b : List UInt8} : Vf b noG := fun i q x e _ _ h => by simp [noG] at h
theorem X6m {b : List UInt8} : Vf b (UI b) := fun i q x e h0 h1 h => by
 unfold UI X04 at h
 exact X2K X1Z X1Z h0 h1 h
theorem X5K {b : List UInt8} : ∀ (m : Nat) (a : Int) (v : Val) (e : Int), 0 ≤ a → a ≤ b.length → Uo b m a = (v, e, 0) → only b a e (Xq v)
 | 0, a, v, e, h0, h1, h => by
  rw [Vz] at h
  exact X2K X1Z X6m h0 h1 h
 | m + 1, a, v, e, h0, h1, h => by
  rw [Vz] at h
  exact X2K (gl := X0F b (m + 1)) (fun i q x e h0 h1 h => X5K m q x e h0 h1 h) X6m h0 h1 h
theorem X5L {b : List UInt8} {a e : Int} {v : Val} (h : Yl b a = (v, e, 0)) : only b a e (Y4 v) ∧ X6 8 v = true ∧ (Xq v).length ≤ b.length := by
 unfold Yl at h
 split at h
 ·simp at h
 simp only at h
 split at h
 ·rename_i h2
  simp only [Prod.mk.injEq] at h
  exact absurd h.2.2 h2
 rename_i h1 h2
 have ho := X5K 8 a v e (by omega) (by omega) h
 have hv : X6 8 v = true := by
  have := X9z (gl := X0F b 8) (gp := UI b) (m := 8) (b := b) (a := a) (want := 0) (by rw [← Vz, h])
  rw [← Vz, h] at this
  exact this
 have hl : (Xq v).length ≤ b.length := by
  rw [← ho.2.2.2]
  simp
  omega
 refine ⟨?_, hv, hl⟩
 unfold Y4
 rw [if_pos hv]
 exact ho
end Go.Fw
namespace Go.Fw
open Go
set_option linter.unusedVariables false
theorem X05 {b : List UInt8} {a limit k a1 : Int} (h0 : 0 ≤ a) (h : rkI b a 0 limit = (k, a1, 0)) : only b a a1 [UInt8.ofNat k.toNat] ∧ a1 = a + 1 ∧ 1 ≤ k ∧ k ≤ limit := by
 unfold rkI rkS at h
 rw [if_neg (by simp), if_neg (by simp)] at h
 split at h
 ·simp at h
 ·rename_i h1
  split at h
  ·simp at h
  ·rename_i h2
   obtain ⟨c, hc⟩ : ∃ c, b[a.toNat]? = some c := ⟨_, List.getElem?_eq_getElem (by omega)⟩
   rw [hc] at h h2
   simp only [Option.getD_some, Prod.mk.injEq] at h h2
   obtain ⟨rfl, rfl, _⟩ := h
   refine ⟨?_, by omega, by omega, by omega⟩
   rw [X5I, show ((a.toNat : Nat) : Int) + 1 = a + 1 by omega]
   exact X3a h0 hc
theorem Vn {b : List UInt8} {a : Int} : rnS b a 0 = Xf b a := if_neg (by simp)
theorem X26 {b : List UInt8} {a : Int} : rsS b a 0 = Ye b a 20 := if_neg (by simp)
theorem Va {b : List UInt8} {a e n m : Int} (h : rnS b a e = (n, m, 0)) : e = 0 := by
 by_cases he : e = 0
 ·exact he
 ·rw [X25 he] at h
  simp at h
  exact absurd h.2.2 he
theorem Ul {b : List UInt8} {a e m : Int} {s : List UInt8} (h : rsS b a e = (s, m, 0)) : e = 0 := by
 by_cases he : e = 0
 ·exact he
 ·rw [X6j he] at h
  simp at h
  exact absurd h.2.2 he
theorem X2W {b : List UInt8} {a e n m : Int} (h : riS b a e = (n, m, 0)) : e = 0 := by
 by_cases he : e = 0
 ·exact he
 ·rw [X6n he] at h
  simp at h
  exact absurd h.2.2 he
theorem X6y {b : List UInt8} {a e m : Int} {v : Val} (h : rvS b a e = (v, m, 0)) : e = 0 := by
 by_cases he : e = 0
 ·exact he
 ·rw [X4k he] at h
  simp at h
  exact absurd h.2.2 he
theorem X40 {b : List UInt8} {a e limit k m : Int} (h : rkI b a e limit = (k, m, 0)) : e = 0 := by
 by_cases he : e = 0
 ·exact he
 ·unfold rkI at h
  rw [if_pos he] at h
  simp at h
  exact absurd h.2.2 he
theorem X11 (c : UInt8) (w : List UInt8) : c :: w = [c] ++ w := rfl
theorem X1H : XU zV := by rw [XU]; exact ⟨by simp, by simp, by rw [Vq]; trivial⟩
theorem X69 {b : List UInt8} {a at_ : Int} {c : Chg} (h0 : 0 ≤ a) (h : XO b a 0 = (c, at_, 0)) : only b a at_ (XI c) ∧ a < at_ ∧ 1 ≤ c.op ∧ c.op ≤ 8 := by
 unfold XO at h
 simp only at h
 generalize hk : rkI b a 0 8 = k at h
 obtain ⟨op, a1, e1⟩ := k
 simp only at h
 generalize hi : rnS b a1 e1 = i at h
 obtain ⟨id, a2, e2⟩ := i
 simp only at h
 generalize hf : (if op = 6 then rnS b a2 e2 else (0, a2, e2)) = f at h
 obtain ⟨src, a3, e3⟩ := f
 simp only at h
 generalize ht : (if op = 6 then rnS b a3 e3 else (0, a3, e3)) = t at h
 obtain ⟨dst, a4, e4⟩ := t
 simp only at h
 generalize hs : (if XT op = true then rsS b a4 e4 else ([], a4, e4)) = s at h
 obtain ⟨name, a5, e5⟩ := s
 simp only at h
 generalize hv : (if XP op = true then rvS b a5 e5 else (zV, a5, e5)) = v at h
 obtain ⟨v, a6, e6⟩ := v
 simp only [Prod.mk.injEq] at h
 obtain ⟨rfl, rfl, rfl⟩ := h
 have z5 : e5 = 0 := by
  split at hv
  ·exact X6y hv
  ·simp at hv; exact hv.2.2
 subst z5
 have z4 : e4 = 0 := by
  split at hs
  ·exact Ul hs
  ·simp at hs; exact hs.2.2
 subst z4
 have z3 : e3 = 0 := by
  split at ht
  ·exact Va ht
  ·simp at ht; exact ht.2.2
 subst z3
 have z2 : e2 = 0 := by
  split at hf
  ·exact Va hf
  ·simp at hf; exact hf.2.2
 subst z2
 have z1 := Va hi
 subst z1
 obtain ⟨p1, p2, p3, p4⟩ := X05 h0 hk
 rw [Vn] at hi
 obtain ⟨q1, q2, q3, q4⟩ := UJ hi
 have r1 : only b a2 a4 (if op = 6 then Xk src ++ Xk dst else []) ∧ a2 ≤ a4 := by
  by_cases h6 : op = 6
  ·rw [if_pos h6] at hf ht ⊢
   rw [Vn] at hf ht
   have x1 := UJ hf
   have x2 := UJ ht
   exact ⟨Ym x1.1 x2.1, by omega⟩
  ·rw [if_neg h6] at hf ht ⊢
   simp at hf ht
   obtain ⟨_, rfl⟩ := hf
   obtain ⟨_, rfl⟩ := ht
   have := q1.2.1
   exact ⟨X02 (by have := p1.1; omega) q1.2.2.1, by omega⟩
 have r2 : only b a4 a5 (if XT op = true then Xo name else []) ∧ a4 ≤ a5 := by
  by_cases h6 : XT op = true
  ·rw [if_pos h6] at hs ⊢
   rw [X26] at hs
   have x1 := X0l hs
   exact ⟨x1.1, by omega⟩
  ·rw [if_neg h6] at hs ⊢
   simp at hs
   obtain ⟨_, rfl⟩ := hs
   exact ⟨X02 (by have := r1.1.1; have := r1.1.2.1; omega) r1.1.2.2.1, by omega⟩
 have r3 : only b a5 a6 (if XP op = true then Y4 v else []) ∧ a5 ≤ a6 := by
  by_cases h6 : XP op = true
  ·rw [if_pos h6] at hv ⊢
   rw [X24] at hv
   have x1 := X5L hv
   exact ⟨x1.1, x1.1.2.1⟩
  ·rw [if_neg h6] at hv ⊢
   simp at hv
   obtain ⟨_, rfl⟩ := hv
   exact ⟨X02 (by have := r2.1.1; have := r2.1.2.1; omega) r2.1.2.2.1, by omega⟩
 refine ⟨?_, by omega, p3, p4⟩
 unfold XI
 simp only
 rw [X11]
 exact Ym p1 (Ym (Ym (Ym q1 r1.1) r2.1) r3.1)
theorem X85 (b : List UInt8) (a e : Int) : (rsS b a e).1.length ≤ 20 := by
 unfold rsS
 split
 ·simp
 ·have := X9H b a 20 (by omega)
  omega
theorem X7t (b : List UInt8) (a e : Int) : XU (rvS b a e).1 := by
 unfold rvS
 split
 ·exact X1H
 ·by_cases hz : (Yl b a).2.2 = 0
  ·have := X5L (b := b) (a := a) (v := (Yl b a).1) (e := (Yl b a).2.1) (by rw [← hz])
   exact X3N _ _ this.2.1
  ·unfold Yl at hz ⊢
   split
   ·exact X1H
   ·rename_i h1
    rw [if_neg h1] at hz
    simp only at hz ⊢
    split
    ·exact X1H
    ·rename_i h2
     rw [if_neg h2] at hz
     exact absurd (by simpa using h2) hz
theorem X8m (b : List UInt8) (a e : Int) : X01 (XO b a e).1 := by
 unfold XO
 constructor
 ·simp only
  by_cases h : XT (rkI b a e 8).1 = true
  ·simp only [if_pos h]
   exact Nat.le_trans (X85 _ _ _) (by omega)
  ·simp only [if_neg h]
   simp
 ·simp only
  by_cases h : XP (rkI b a e 8).1 = true
  ·simp only [if_pos h]
   exact X7t _ _ _
  ·simp only [if_neg h]
   exact X1H
theorem X5s {b : List UInt8} {a at_ : Int} {r : Rul} (h0 : 0 ≤ a) (h : Yb b a 0 = (r, at_, 0)) : only b a at_ (Yc r) ∧ a < at_ := by
 unfold Yb at h
 simp only at h
 generalize hk : rkI b a 0 7 = k at h
 obtain ⟨kd, a1, e1⟩ := k
 simp only at h
 generalize h1 : rsS b a1 e1 = s at h
 obtain ⟨s1, a2, e2⟩ := s
 simp only at h
 generalize h2 : rsS b a2 e2 = s at h
 obtain ⟨s2, a3, e3⟩ := s
 simp only at h
 generalize h3 : rsS b a3 e3 = s at h
 obtain ⟨s3, a4, e4⟩ := s
 simp only at h
 generalize h4 : rsS b a4 e4 = s at h
 obtain ⟨s4, a5, e5⟩ := s
 simp only at h
 generalize h5 : riS b a5 e5 = s at h
 obtain ⟨n, a6, e6⟩ := s
 simp only [Prod.mk.injEq] at h
 obtain ⟨rfl, rfl, rfl⟩ := h
 obtain rfl := X2W h5
 obtain rfl := Ul h4
 obtain rfl := Ul h3
 obtain rfl := Ul h2
 obtain rfl := Ul h1
 rw [X26] at h1 h2 h3 h4
 rw [X35] at h5
 obtain ⟨p1, p2, p3, p4⟩ := X05 h0 hk
 have x1 := X0l h1
 have x2 := X0l h2
 have x3 := X0l h3
 have x4 := X0l h4
 have x5 := X1J h5
 refine ⟨?_, by omega⟩
 unfold Yc
 simp only
 rw [X11]
 exact Ym p1 (Ym (Ym (Ym (Ym x1.1 x2.1) x3.1) x4.1) x5.1)
end Go.Fw
