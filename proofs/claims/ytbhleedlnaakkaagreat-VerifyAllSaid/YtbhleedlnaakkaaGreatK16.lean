/- Labels and properties checked; the program's and the reference's. -/
import Derived.Test.YtbhleedlnaakkaaGreatK15
set_option maxHeartbeats 16000000
namespace Go.Fw
open Go Go.Proofs
set_option maxRecDepth 100000
set_option linter.unusedVariables false
set_option linter.unusedSimpArgs false
def VN (p : Prp) : Prop := p.key.length ≤ 9223372036854775807 ∧ Yq p.v
theorem X1A {α : Type} {l : List α} {i : Nat} {x : α} (h : l[i]? = some x) : l.take (i + 1) = l.take i ++ [x] := by
 obtain ⟨hi, rfl⟩ := List.getElem?_eq_some_iff.1 h
 rw [List.take_add_one, List.getElem?_eq_getElem hi]; rfl
theorem X67 {l : List Prp} {i : Nat} {x : Prp} (h : l[i]? = some x) : ((l.take (i + 1)).map Prp.key).map Xk = ((l.take i).map Prp.key).map Xk ++ [Xk x.key] := by
 rw [X1A h]; simp
theorem X7R (ps : List Prp) (hl : ps.length ≤ 4294967296) : Con Tryz.prog 186 [] [.d (.sl 6 (ps.map Xh))] [] (.d (.sl 1 ((ps.map Prp.key).map Xk))) := by
 refine Xa (xs := [.d (.sl 1 ((ps.map Prp.key).map Xk))]) Tryz.func186 rfl Tryz.ntmps186 rfl rfl rfl (fun E => ?_)
 have hlm : (ps.map Xh).length = ps.length := by simp
 refine X0 ?_; refine JR ?_; refine Z0 ?_; refine JD ?_; refine X0 ?_; refine JR ?_; refine Z0 ?_; refine JD ?_; refine X0 ?_; refine X0 ?_; refine JR ?_; refine Z0 ?_; refine JD ?_
 refine X4 ?_
 refine XD (Un 3 130 1 rfl rfl rfl) ?_
 refine Xt (fun i : Nat => i ≤ ps.length) (fun i => ⟨20, [(0, .d (.sl 6 (ps.map Xh))), (3, .own 130 (((ps.take i).map Prp.key).map Xk).length), (4, ai i)], [(130, .row 1 (((ps.take i).map Prp.key).map Xk))]⟩) (fun i => ps.length - i) 0 (Nat.zero_le _)
  (X6 rfl ⟨JL, JL, JL, trivial⟩ ⟨rfl, trivial⟩) ?_
 intro i hi
 by_cases hil : i < ps.length
 case neg =>
  obtain rfl : i = ps.length := by omega
  have hn : ¬ ((ps.length : Nat) : Int) < (ps.map Xh).length := by omega
  rw [List.take_length]
  refine X0 ?_; refine X0 ?_; refine JR ?_; refine Z1 ?_; refine Z1 ?_; refine Zd ?_; refine Z8 ?_; refine JD ?_; refine JF ?_; refine Xp ?_; refine X0 ?_; refine JR ?_; refine Z1 ?_; refine Z0 ?_
  refine JD ?_
  refine XD (U5 130 rfl) ?_
  refine XD (U7 2 130 rfl rfl rfl) ?_
  exact X1 ⟨_, St.le_refl _, ⟨rfl, trivial⟩, X2 _⟩
 have hn : (i : Int) < (ps.map Xh).length := by omega
 obtain ⟨x, hx⟩ := Xm (l := ps) hil
 have hxc : (ps.map Xh)[i]? = some (Xh x) := Xq hx
 have hroom : (((ps.take i).map Prp.key).map Xk).length ≤ 4294967296 := by simp only [List.length_map, List.length_take]; omega
 refine X0 ?_; refine X0 ?_; refine JR ?_; refine Z1 ?_; refine Z1 ?_; refine Zd ?_; refine Z8 ?_; refine JD ?_; refine JT ?_; refine X3 ?_; refine X0 ?_; refine X4 ?_; refine JR ?_
 refine Z1 ?_; refine Z1 ?_; refine Z1 ?_; refine Zj ?_; refine ZN ?_; refine Zk ?_; refine Z5 ?_; refine Z6 ?_; refine Z0 ?_; refine JD ?_; refine JR ?_; refine Z1 ?_; refine Zb ?_; refine Z0 ?_; refine JD ?_
 refine ⟨i + 1, hil, by omega, ?_⟩
 rw [X67 hx]
 exact X6 rfl ⟨JL, AVal.le_of_eq (by refine Eq.trans (b := AVal.own 130 (_ + _)) rfl ?_; simp only [List.length_append, List.length_map, List.length_cons, List.length_nil]), JL, trivial⟩ ⟨rfl, trivial⟩
theorem X3A {l : List Prp} {i : Nat} {x : Prp} (h : l[i]? = some x) : ((l.drop i).map Prp.v).all XC = (XC x.v && ((l.drop (i + 1)).map Prp.v).all XC) := by
 obtain ⟨hi, rfl⟩ := List.getElem?_eq_some_iff.1 h
 rw [List.drop_eq_getElem_cons hi, List.map_cons, List.all_cons]
theorem X1v {ls : List (List UInt8)} {ps : List Prp} (h : 8 < ls.length ∨ 16 < ps.length) : Y4 ls ps = 4 := if_pos h
theorem X3u {ls : List (List UInt8)} {ps : List Prp} (h1 : ¬ 8 < ls.length) (h2 : ¬ 16 < ps.length) : Y4 ls ps = if ls.all Xl = false ∨ (ps.map Prp.key).all Xl = false then 6
 else if Yh ls = false ∨ Yh (ps.map Prp.key) = false then 26 else if (ps.map Prp.v).all XC = false then 8 else 0 := if_neg (by omega)
theorem X3Q (ls : List (List UInt8)) (ps : List Prp) (hls : ls.length ≤ 9223372036854775807) (hok : ∀ p ∈ ps, VN p) : Con Tryz.prog 96 [] [.d (.sl 1 (ls.map Xk)), .d (.sl 6 (ps.map Xh))] [] (ai (Y4 ls ps)) := by
 refine Xa (xs := [ai (Y4 ls ps)]) Tryz.func96 rfl Tryz.ntmps96 rfl rfl rfl (fun E => ?_)
 have hlm : (ps.map Xh).length = ps.length := by simp
 have hlm2 : (ls.map Xk).length = ls.length := by simp
 by_cases h1 : 8 < ls.length
 ·rw [X1v (.inl h1)]
  have h1' : (8 : Int) < (ls.map Xk).length := by omega
  refine X0 ?_; refine JR ?_; refine Z0 ?_; refine JD ?_; refine X0 ?_; refine X0 ?_; refine JR ?_; refine Z1 ?_; refine Zd ?_; refine Zs ?_; refine Z1 ?_; refine Zo ?_; refine Zo ?_; refine Zo ?_
  refine Zn ?_; refine JD ?_; refine JT ?_; refine X0 ?_; refine JR ?_; refine Z0 ?_; refine JD ?_
  exact X1 ⟨_, St.le_refl _, ⟨rfl, trivial⟩, X2 _⟩
 have h1' : ¬ (8 : Int) < (ls.map Xk).length := by omega
 by_cases h2 : 16 < ps.length
 ·rw [X1v (.inr h2)]
  have h2' : (16 : Int) < (ps.map Xh).length := by omega
  refine X0 ?_; refine JR ?_; refine Z0 ?_; refine JD ?_; refine X0 ?_; refine X0 ?_; refine JR ?_; refine Z1 ?_; refine Zd ?_; refine Zs ?_; refine Z1 ?_; refine Z1 ?_; refine Zd ?_; refine Zs ?_
  refine Zq ?_; refine JD ?_; refine JT ?_; refine X0 ?_; refine JR ?_; refine Z0 ?_; refine JD ?_
  exact X1 ⟨_, St.le_refl _, ⟨rfl, trivial⟩, X2 _⟩
 have h2' : ¬ (16 : Int) < (ps.map Xh).length := by omega
 rw [X3u h1 h2]
 have hc1 := X43 ls hls
 have hc2 := X43 (ps.map Prp.key) (by simp only [List.length_map]; omega)
 have hr1 := X5E ls hls
 have hr2 := X5E (ps.map Prp.key) (by simp only [List.length_map]; omega)
 generalize ls.all Xl = n1 at *
 generalize Yh ls = r1 at *
 generalize (ps.map Prp.key).all Xl = n2 at *
 generalize Yh (ps.map Prp.key) = r2 at *
 generalize hG : (ps.map Prp.v).all XC = G
 refine X0 ?_; refine JR ?_; refine Z0 ?_; refine JD ?_; refine X0 ?_; refine X0 ?_; refine JR ?_; refine Z1 ?_; refine Zd ?_; refine Zs ?_; refine Z1 ?_; refine Z1 ?_; refine Zd ?_; refine Zs ?_
 refine Zq ?_; refine JD ?_; refine JF ?_; refine X3 ?_; refine X0 ?_; refine JR ?_; refine Z0 ?_; refine JD ?_; refine X0 ?_; refine X0 ?_; refine JR ?_; refine Z1 ?_; refine Zd ?_; refine Z1 ?_
 refine JD ?_; refine X4 ?_
 refine XD (Un 5 130 1 rfl rfl rfl) ?_
 refine Xt (fun i : Nat => i ≤ ps.length) (fun i => ⟨55, [(0, .d (.sl 1 (ls.map Xk))), (1, .d (.sl 6 (ps.map Xh))), (18, .d (.sl 6 (ps.map Xh))), (19, ai (ps.map Xh).length), (5, .own 130 (((ps.take i).map Prp.key).map Xk).length), (20, ai i)], [(130, .row 1 (((ps.take i).map Prp.key).map Xk))]⟩) (fun i => ps.length - i) 0 (Nat.zero_le _)
  (X6 rfl JM ⟨rfl, trivial⟩) ?_
 intro i hi
 by_cases hil : i < ps.length
 case pos =>
  have hn : (i : Int) < (ps.map Xh).length := by omega
  obtain ⟨x, hx⟩ := Xm (l := ps) hil
  have hxc : (ps.map Xh)[i]? = some (Xh x) := Xq hx
  have hroom : (((ps.take i).map Prp.key).map Xk).length ≤ 4294967296 := by simp only [List.length_map, List.length_take]; omega
  have hsn := X67 hx
  obtain ⟨key, ⟨vk, vn, vd, vs, vl⟩⟩ := x
  simp only [Xh, Yd] at hxc hsn
  refine X0 ?_; refine JR ?_; refine Z8 ?_; refine JD ?_; refine X0 ?_; refine JT ?_; refine X3 ?_; refine X0 ?_; refine X4 ?_; refine X0 ?_; refine JR ?_; refine Zj ?_; refine ZK ?_
  refine Zw (γ := 100) ?_; refine Zy ?_; refine JD ?_; refine JR ?_; refine Z1 ?_; refine ZB ?_; refine ZC ?_; refine Z5 ?_; refine Z6 ?_; refine Z0 ?_; refine JD ?_; refine JR ?_; refine Zb ?_; refine Z1 ?_; refine JD ?_
  refine ⟨i + 1, hil, by omega, ?_⟩
  rw [hsn]
  exact X6 rfl ⟨JL, JL, JL, JL, AVal.le_of_eq (by refine Eq.trans (b := AVal.own 130 (_ + _)) rfl ?_; simp only [List.length_append, List.length_map, List.length_cons, List.length_nil]), JL, trivial⟩ ⟨rfl, trivial⟩
 obtain rfl : i = ps.length := by omega
 have hn : ¬ ((ps.length : Nat) : Int) < (ps.map Xh).length := by omega
 rw [List.take_length]
 refine X0 ?_; refine JR ?_; refine Z8 ?_; refine JD ?_; refine X0 ?_; refine JF ?_; refine Xp ?_; refine X0 ?_; refine X0 ?_
 refine XD (U5 130 rfl) ?_
 refine XD (U7 5 130 rfl rfl rfl) ?_
 by_cases b1 : n1 = false ∨ n2 = false
 ·rw [if_pos b1]
  cases n1 <;> cases n2 <;> first | (simp at b1; done) | skip
  ·refine JR ?_; refine Z1 ?_; refine Z9 (hcon := hc1) ?_; refine Z1 ?_; refine Zo ?_; refine Zo ?_; refine Zn ?_; refine JD ?_; refine JT ?_; refine X0 ?_; refine JR ?_; refine Z0 ?_; refine JD ?_
   exact X1 ⟨_, St.le_refl _, ⟨rfl, trivial⟩, X2 _⟩
  ·refine JR ?_; refine Z1 ?_; refine Z9 (hcon := hc1) ?_; refine Z1 ?_; refine Zo ?_; refine Zo ?_; refine Zn ?_; refine JD ?_; refine JT ?_; refine X0 ?_; refine JR ?_; refine Z0 ?_; refine JD ?_
   exact X1 ⟨_, St.le_refl _, ⟨rfl, trivial⟩, X2 _⟩
  ·refine JR ?_; refine Z1 ?_; refine Z9 (hcon := hc1) ?_; refine Z1 ?_; refine Z1 ?_; refine Z9 (hcon := hc2) ?_; refine Zq ?_; refine JD ?_; refine JT ?_; refine X0 ?_; refine JR ?_; refine Z0 ?_; refine JD ?_
   exact X1 ⟨_, St.le_refl _, ⟨rfl, trivial⟩, X2 _⟩
 rw [if_neg b1]
 obtain ⟨rfl, rfl⟩ : n1 = true ∧ n2 = true := by cases n1 <;> cases n2 <;> simp_all
 by_cases b2 : r1 = false ∨ r2 = false
 ·rw [if_pos b2]
  cases r1 <;> cases r2 <;> first | (simp at b2; done) | skip
  ·refine JR ?_; refine Z1 ?_; refine Z9 (hcon := hc1) ?_; refine Z1 ?_; refine Z1 ?_; refine Z9 (hcon := hc2) ?_; refine Zq ?_; refine JD ?_; refine JF ?_; refine X3 ?_; refine X0 ?_; refine X0 ?_
   refine JR ?_; refine Z1 ?_; refine Z9 (hcon := hr1) ?_; refine Zu ?_; refine Z1 ?_; refine Zo ?_; refine Zo ?_; refine Zo ?_; refine Zn ?_; refine JD ?_; refine JT ?_; refine X0 ?_; refine JR ?_; refine Z0 ?_
   refine JD ?_
   exact X1 ⟨_, St.le_refl _, ⟨rfl, trivial⟩, X2 _⟩
  ·refine JR ?_; refine Z1 ?_; refine Z9 (hcon := hc1) ?_; refine Z1 ?_; refine Z1 ?_; refine Z9 (hcon := hc2) ?_; refine Zq ?_; refine JD ?_; refine JF ?_; refine X3 ?_; refine X0 ?_; refine X0 ?_
   refine JR ?_; refine Z1 ?_; refine Z9 (hcon := hr1) ?_; refine Zu ?_; refine Z1 ?_; refine Zo ?_; refine Zo ?_; refine Zo ?_; refine Zn ?_; refine JD ?_; refine JT ?_; refine X0 ?_; refine JR ?_; refine Z0 ?_
   refine JD ?_
   exact X1 ⟨_, St.le_refl _, ⟨rfl, trivial⟩, X2 _⟩
  ·refine JR ?_; refine Z1 ?_; refine Z9 (hcon := hc1) ?_; refine Z1 ?_; refine Z1 ?_; refine Z9 (hcon := hc2) ?_; refine Zq ?_; refine JD ?_; refine JF ?_; refine X3 ?_; refine X0 ?_; refine X0 ?_
   refine JR ?_; refine Z1 ?_; refine Z9 (hcon := hr1) ?_; refine Zu ?_; refine Z1 ?_; refine Z1 ?_; refine Z9 (hcon := hr2) ?_; refine Zu ?_; refine Zq ?_; refine JD ?_; refine JT ?_; refine X0 ?_; refine JR ?_
   refine Z0 ?_; refine JD ?_
   exact X1 ⟨_, St.le_refl _, ⟨rfl, trivial⟩, X2 _⟩
 rw [if_neg b2]
 obtain ⟨rfl, rfl⟩ : r1 = true ∧ r2 = true := by cases r1 <;> cases r2 <;> simp_all
 refine JR ?_; refine Z1 ?_; refine Z9 (hcon := hc1) ?_; refine Z1 ?_; refine Z1 ?_; refine Z9 (hcon := hc2) ?_; refine Zq ?_; refine JD ?_; refine JF ?_; refine X3 ?_; refine X0 ?_; refine X0 ?_
 refine JR ?_; refine Z1 ?_; refine Z9 (hcon := hr1) ?_; refine Zu ?_; refine Z1 ?_; refine Z1 ?_; refine Z9 (hcon := hr2) ?_; refine Zu ?_; refine Zq ?_; refine JD ?_; refine JF ?_; refine X3 ?_; refine X0 ?_
 refine X0 ?_; refine JR ?_; refine Z1 ?_; refine Zd ?_; refine Z1 ?_; refine JD ?_; refine X4 ?_
 clear hi hil hn b1 b2 h1 h2
 refine Xt (fun i : Nat => i ≤ ps.length ∧ ((ps.drop i).map Prp.v).all XC = G) (fun i => ⟨55, [(1, .d (.sl 6 (ps.map Xh))), (44, .d (.sl 6 (ps.map Xh))), (45, ai (ps.map Xh).length), (46, ai i)], []⟩) (fun i => ps.length - i) 0 ⟨by omega, by simpa using hG⟩
  (X6 rfl JM trivial) ?_
 rintro i ⟨hi, hg⟩
 by_cases hil : i < ps.length
 case neg =>
  have hn' : ¬ (i : Int) < (ps.map Xh).length := by omega
  rw [List.drop_of_length_le (by omega), List.map_nil, List.all_nil] at hg
  subst hg
  rw [if_neg (by simp)]
  refine X0 ?_; refine JR ?_; refine Z8 ?_; refine JD ?_; refine X0 ?_; refine JF ?_; refine Xp ?_; refine X0 ?_; refine JR ?_; refine Z0 ?_; refine JD ?_
  exact X1 ⟨_, St.le_refl _, ⟨rfl, trivial⟩, X2 _⟩
 have hn' : (i : Int) < (ps.map Xh).length := by omega
 obtain ⟨x, hx⟩ := Xm (l := ps) hil
 have hxc : (ps.map Xh)[i]? = some (Xh x) := Xq hx
 have hxo := hok x (List.mem_of_getElem? hx)
 have hu := Xa2 x.v
 rw [X3A hx] at hg
 generalize XC x.v = pv at *
 obtain ⟨key, ⟨vk, vn, vd, vs, vl⟩⟩ := x
 simp only [Xu, Xh, Yd] at hu hxc
 cases pv with
 | true =>
  rw [Bool.true_and] at hg
  refine X0 ?_; refine JR ?_; refine Z8 ?_; refine JD ?_; refine X0 ?_; refine JT ?_; refine X3 ?_; refine X0 ?_; refine X4 ?_; refine X0 ?_; refine JR ?_; refine Zj ?_; refine ZK ?_
  refine Zw (γ := 100) ?_; refine Zy ?_; refine JD ?_; refine X0 ?_; refine JR ?_; refine ZB ?_; refine ZL ?_; refine Z9 (hcon := hu) ?_; refine Zu ?_; refine JD ?_; refine JF ?_; refine X3 ?_; refine JR ?_
  refine Zb ?_; refine Z1 ?_; refine JD ?_
  exact ⟨i + 1, ⟨by omega, hg⟩, by omega, X6 rfl JM trivial⟩
 | false =>
  rw [Bool.false_and] at hg
  subst hg
  rw [if_pos rfl]
  refine X0 ?_; refine JR ?_; refine Z8 ?_; refine JD ?_; refine X0 ?_; refine JT ?_; refine X3 ?_; refine X0 ?_; refine X4 ?_; refine X0 ?_; refine JR ?_; refine Zj ?_; refine ZK ?_
  refine Zw (γ := 100) ?_; refine Zy ?_; refine JD ?_; refine X0 ?_; refine JR ?_; refine ZB ?_; refine ZL ?_; refine Z9 (hcon := hu) ?_; refine Zu ?_; refine JD ?_; refine JT ?_; refine X0 ?_; refine JR ?_
  refine Z0 ?_; refine JD ?_
  exact X1 ⟨_, St.le_refl _, ⟨rfl, trivial⟩, X2 _⟩
theorem X4C (ls : List (List UInt8)) (ps : List Prp) (hls : ls.length ≤ 9223372036854775807) (hok : ∀ p ∈ ps, VN p) : Con Tryz.prog 132 [] [.d (.sl 1 (ls.map Xk)), .d (.sl 6 (ps.map Xh))] [] (ai (Y4 ls ps)) := by
 refine Xa (xs := [ai (Y4 ls ps)]) Tryz.func132 rfl Tryz.ntmps132 rfl rfl rfl (fun E => ?_)
 have hlm : (ps.map Xh).length = ps.length := by simp
 have hlm2 : (ls.map Xk).length = ls.length := by simp
 by_cases h1 : 8 < ls.length
 ·rw [X1v (.inl h1)]
  have h1' : (8 : Int) < (ls.map Xk).length := by omega
  refine X0 ?_; refine JR ?_; refine Z0 ?_; refine JD ?_; refine X0 ?_; refine X0 ?_; refine JR ?_; refine Z1 ?_; refine Zd ?_; refine Zs ?_; refine Z1 ?_; refine Zo ?_; refine Zo ?_; refine Zo ?_
  refine Zn ?_; refine JD ?_; refine JT ?_; refine X0 ?_; refine JR ?_; refine Z0 ?_; refine JD ?_
  exact X1 ⟨_, St.le_refl _, ⟨rfl, trivial⟩, X2 _⟩
 have h1' : ¬ (8 : Int) < (ls.map Xk).length := by omega
 by_cases h2 : 16 < ps.length
 ·rw [X1v (.inr h2)]
  have h2' : (16 : Int) < (ps.map Xh).length := by omega
  refine X0 ?_; refine JR ?_; refine Z0 ?_; refine JD ?_; refine X0 ?_; refine X0 ?_; refine JR ?_; refine Z1 ?_; refine Zd ?_; refine Zs ?_; refine Z1 ?_; refine Z1 ?_; refine Zd ?_; refine Zs ?_
  refine Zq ?_; refine JD ?_; refine JT ?_; refine X0 ?_; refine JR ?_; refine Z0 ?_; refine JD ?_
  exact X1 ⟨_, St.le_refl _, ⟨rfl, trivial⟩, X2 _⟩
 have h2' : ¬ (16 : Int) < (ps.map Xh).length := by omega
 rw [X3u h1 h2]
 have hk := X7R ps (by omega)
 have hc1 := X5U ls hls
 have hc2 := X5U (ps.map Prp.key) (by simp only [List.length_map]; omega)
 have hr1 := X5i ls hls
 have hr2 := X5i (ps.map Prp.key) (by simp only [List.length_map]; omega)
 generalize ls.all Xl = n1 at *
 generalize Yh ls = r1 at *
 generalize (ps.map Prp.key).all Xl = n2 at *
 generalize Yh (ps.map Prp.key) = r2 at *
 generalize hG : (ps.map Prp.v).all XC = G
 by_cases b1 : n1 = false ∨ n2 = false
 ·rw [if_pos b1]
  cases n1 <;> cases n2 <;> first | (simp at b1; done) | skip
  ·refine X0 ?_; refine JR ?_; refine Z0 ?_; refine JD ?_; refine X0 ?_; refine X0 ?_; refine JR ?_; refine Z1 ?_; refine Zd ?_; refine Zs ?_; refine Z1 ?_; refine Z1 ?_; refine Zd ?_; refine Zs ?_
   refine Zq ?_; refine JD ?_; refine JF ?_; refine X3 ?_; refine X0 ?_; refine JR ?_; refine Z1 ?_; refine Z9 (hcon := hk) ?_; refine Z0 ?_; refine JD ?_; refine X0 ?_; refine X0 ?_; refine JR ?_
   refine Z1 ?_; refine Z9 (hcon := hc1) ?_; refine Zu ?_; refine Z1 ?_; refine Zo ?_; refine Zo ?_; refine Zo ?_; refine Zn ?_; refine JD ?_; refine JT ?_; refine X0 ?_; refine JR ?_; refine Z0 ?_; refine JD ?_
   exact X1 ⟨_, St.le_refl _, ⟨rfl, trivial⟩, X2 _⟩
  ·refine X0 ?_; refine JR ?_; refine Z0 ?_; refine JD ?_; refine X0 ?_; refine X0 ?_; refine JR ?_; refine Z1 ?_; refine Zd ?_; refine Zs ?_; refine Z1 ?_; refine Z1 ?_; refine Zd ?_; refine Zs ?_
   refine Zq ?_; refine JD ?_; refine JF ?_; refine X3 ?_; refine X0 ?_; refine JR ?_; refine Z1 ?_; refine Z9 (hcon := hk) ?_; refine Z0 ?_; refine JD ?_; refine X0 ?_; refine X0 ?_; refine JR ?_
   refine Z1 ?_; refine Z9 (hcon := hc1) ?_; refine Zu ?_; refine Z1 ?_; refine Zo ?_; refine Zo ?_; refine Zo ?_; refine Zn ?_; refine JD ?_; refine JT ?_; refine X0 ?_; refine JR ?_; refine Z0 ?_; refine JD ?_
   exact X1 ⟨_, St.le_refl _, ⟨rfl, trivial⟩, X2 _⟩
  ·refine X0 ?_; refine JR ?_; refine Z0 ?_; refine JD ?_; refine X0 ?_; refine X0 ?_; refine JR ?_; refine Z1 ?_; refine Zd ?_; refine Zs ?_; refine Z1 ?_; refine Z1 ?_; refine Zd ?_; refine Zs ?_
   refine Zq ?_; refine JD ?_; refine JF ?_; refine X3 ?_; refine X0 ?_; refine JR ?_; refine Z1 ?_; refine Z9 (hcon := hk) ?_; refine Z0 ?_; refine JD ?_; refine X0 ?_; refine X0 ?_; refine JR ?_
   refine Z1 ?_; refine Z9 (hcon := hc1) ?_; refine Zu ?_; refine Z1 ?_; refine Z1 ?_; refine Z9 (hcon := hc2) ?_; refine Zu ?_; refine Zq ?_; refine JD ?_; refine JT ?_; refine X0 ?_; refine JR ?_; refine Z0 ?_
   refine JD ?_
   exact X1 ⟨_, St.le_refl _, ⟨rfl, trivial⟩, X2 _⟩
 rw [if_neg b1]
 obtain ⟨rfl, rfl⟩ : n1 = true ∧ n2 = true := by cases n1 <;> cases n2 <;> simp_all
 by_cases b2 : r1 = false ∨ r2 = false
 ·rw [if_pos b2]
  cases r1 <;> cases r2 <;> first | (simp at b2; done) | skip
  ·refine X0 ?_; refine JR ?_; refine Z0 ?_; refine JD ?_; refine X0 ?_; refine X0 ?_; refine JR ?_; refine Z1 ?_; refine Zd ?_; refine Zs ?_; refine Z1 ?_; refine Z1 ?_; refine Zd ?_; refine Zs ?_
   refine Zq ?_; refine JD ?_; refine JF ?_; refine X3 ?_; refine X0 ?_; refine JR ?_; refine Z1 ?_; refine Z9 (hcon := hk) ?_; refine Z0 ?_; refine JD ?_; refine X0 ?_; refine X0 ?_; refine JR ?_
   refine Z1 ?_; refine Z9 (hcon := hc1) ?_; refine Zu ?_; refine Z1 ?_; refine Z1 ?_; refine Z9 (hcon := hc2) ?_; refine Zu ?_; refine Zq ?_; refine JD ?_; refine JF ?_; refine X3 ?_; refine X0 ?_
   refine X0 ?_; refine JR ?_; refine Z1 ?_; refine Z9 (hcon := hr1) ?_; refine Zu ?_; refine Z1 ?_; refine Zo ?_; refine Zo ?_; refine Zo ?_; refine Zn ?_; refine JD ?_; refine JT ?_; refine X0 ?_; refine JR ?_
   refine Z0 ?_; refine JD ?_
   exact X1 ⟨_, St.le_refl _, ⟨rfl, trivial⟩, X2 _⟩
  ·refine X0 ?_; refine JR ?_; refine Z0 ?_; refine JD ?_; refine X0 ?_; refine X0 ?_; refine JR ?_; refine Z1 ?_; refine Zd ?_; refine Zs ?_; refine Z1 ?_; refine Z1 ?_; refine Zd ?_; refine Zs ?_
   refine Zq ?_; refine JD ?_; refine JF ?_; refine X3 ?_; refine X0 ?_; refine JR ?_; refine Z1 ?_; refine Z9 (hcon := hk) ?_; refine Z0 ?_; refine JD ?_; refine X0 ?_; refine X0 ?_; refine JR ?_
   refine Z1 ?_; refine Z9 (hcon := hc1) ?_; refine Zu ?_; refine Z1 ?_; refine Z1 ?_; refine Z9 (hcon := hc2) ?_; refine Zu ?_; refine Zq ?_; refine JD ?_; refine JF ?_; refine X3 ?_; refine X0 ?_
   refine X0 ?_; refine JR ?_; refine Z1 ?_; refine Z9 (hcon := hr1) ?_; refine Zu ?_; refine Z1 ?_; refine Zo ?_; refine Zo ?_; refine Zo ?_; refine Zn ?_; refine JD ?_; refine JT ?_; refine X0 ?_; refine JR ?_
   refine Z0 ?_; refine JD ?_
   exact X1 ⟨_, St.le_refl _, ⟨rfl, trivial⟩, X2 _⟩
  ·refine X0 ?_; refine JR ?_; refine Z0 ?_; refine JD ?_; refine X0 ?_; refine X0 ?_; refine JR ?_; refine Z1 ?_; refine Zd ?_; refine Zs ?_; refine Z1 ?_; refine Z1 ?_; refine Zd ?_; refine Zs ?_
   refine Zq ?_; refine JD ?_; refine JF ?_; refine X3 ?_; refine X0 ?_; refine JR ?_; refine Z1 ?_; refine Z9 (hcon := hk) ?_; refine Z0 ?_; refine JD ?_; refine X0 ?_; refine X0 ?_; refine JR ?_
   refine Z1 ?_; refine Z9 (hcon := hc1) ?_; refine Zu ?_; refine Z1 ?_; refine Z1 ?_; refine Z9 (hcon := hc2) ?_; refine Zu ?_; refine Zq ?_; refine JD ?_; refine JF ?_; refine X3 ?_; refine X0 ?_
   refine X0 ?_; refine JR ?_; refine Z1 ?_; refine Z9 (hcon := hr1) ?_; refine Zu ?_; refine Z1 ?_; refine Z1 ?_; refine Z9 (hcon := hr2) ?_; refine Zu ?_; refine Zq ?_; refine JD ?_; refine JT ?_; refine X0 ?_
   refine JR ?_; refine Z0 ?_; refine JD ?_
   exact X1 ⟨_, St.le_refl _, ⟨rfl, trivial⟩, X2 _⟩
 rw [if_neg b2]
 obtain ⟨rfl, rfl⟩ : r1 = true ∧ r2 = true := by cases r1 <;> cases r2 <;> simp_all
 refine X0 ?_; refine JR ?_; refine Z0 ?_; refine JD ?_; refine X0 ?_; refine X0 ?_; refine JR ?_; refine Z1 ?_; refine Zd ?_; refine Zs ?_; refine Z1 ?_; refine Z1 ?_; refine Zd ?_; refine Zs ?_
 refine Zq ?_; refine JD ?_; refine JF ?_; refine X3 ?_; refine X0 ?_; refine JR ?_; refine Z1 ?_; refine Z9 (hcon := hk) ?_; refine Z0 ?_; refine JD ?_; refine X0 ?_; refine X0 ?_; refine JR ?_
 refine Z1 ?_; refine Z9 (hcon := hc1) ?_; refine Zu ?_; refine Z1 ?_; refine Z1 ?_; refine Z9 (hcon := hc2) ?_; refine Zu ?_; refine Zq ?_; refine JD ?_; refine JF ?_; refine X3 ?_; refine X0 ?_
 refine X0 ?_; refine JR ?_; refine Z1 ?_; refine Z9 (hcon := hr1) ?_; refine Zu ?_; refine Z1 ?_; refine Z1 ?_; refine Z9 (hcon := hr2) ?_; refine Zu ?_; refine Zq ?_; refine JD ?_; refine JF ?_; refine X3 ?_
 refine X0 ?_; refine X0 ?_; refine JR ?_; refine Z0 ?_; refine JD ?_; refine X4 ?_
 clear b1 b2 h1 h2
 refine Xt (fun i : Nat => i ≤ ps.length ∧ ((ps.drop i).map Prp.v).all XC = G) (fun i => ⟨46, [(1, .d (.sl 6 (ps.map Xh))), (6, ai i)], []⟩) (fun i => ps.length - i) 0 ⟨by omega, by simpa using hG⟩
  (X6 rfl JM trivial) ?_
 rintro i ⟨hi, hg⟩
 by_cases hil : i < ps.length
 case neg =>
  have hn' : ¬ (i : Int) < (ps.map Xh).length := by omega
  rw [List.drop_of_length_le (by omega), List.map_nil, List.all_nil] at hg
  subst hg
  rw [if_neg (by simp)]
  refine X0 ?_; refine X0 ?_; refine JR ?_; refine Z1 ?_; refine Z1 ?_; refine Zd ?_; refine Z8 ?_; refine JD ?_; refine JF ?_; refine Xp ?_; refine X0 ?_; refine JR ?_; refine Z0 ?_; refine JD ?_
  exact X1 ⟨_, St.le_refl _, ⟨rfl, trivial⟩, X2 _⟩
 have hn' : (i : Int) < (ps.map Xh).length := by omega
 obtain ⟨x, hx⟩ := Xm (l := ps) hil
 have hxc : (ps.map Xh)[i]? = some (Xh x) := Xq hx
 have hxo := hok x (List.mem_of_getElem? hx)
 have hu := X6R x.v hxo.2
 rw [X3A hx] at hg
 generalize XC x.v = pv at *
 obtain ⟨key, ⟨vk, vn, vd, vs, vl⟩⟩ := x
 simp only [Xu, Xh, Yd] at hu hxc
 cases pv with
 | true =>
  rw [Bool.true_and] at hg
  refine X0 ?_; refine X0 ?_; refine JR ?_; refine Z1 ?_; refine Z1 ?_; refine Zd ?_; refine Z8 ?_; refine JD ?_; refine JT ?_; refine X3 ?_; refine X0 ?_; refine X4 ?_; refine X0 ?_
  refine JR ?_; refine Z1 ?_; refine Z1 ?_; refine Zj ?_; refine ZN ?_; refine ZK ?_; refine Z9 (hcon := hu) ?_; refine Zu ?_; refine JD ?_; refine JF ?_; refine X3 ?_; refine JR ?_; refine Z1 ?_; refine Zb ?_
  refine Z0 ?_; refine JD ?_
  exact ⟨i + 1, ⟨by omega, hg⟩, by omega, X6 rfl JM trivial⟩
 | false =>
  rw [Bool.false_and] at hg
  subst hg
  rw [if_pos rfl]
  refine X0 ?_; refine X0 ?_; refine JR ?_; refine Z1 ?_; refine Z1 ?_; refine Zd ?_; refine Z8 ?_; refine JD ?_; refine JT ?_; refine X3 ?_; refine X0 ?_; refine X4 ?_; refine X0 ?_
  refine JR ?_; refine Z1 ?_; refine Z1 ?_; refine Zj ?_; refine ZN ?_; refine ZK ?_; refine Z9 (hcon := hu) ?_; refine Zu ?_; refine JD ?_; refine JT ?_; refine X0 ?_; refine JR ?_; refine Z0 ?_; refine JD ?_
  exact X1 ⟨_, St.le_refl _, ⟨rfl, trivial⟩, X2 _⟩
end Go.Fw
namespace Go.Fw
open Go
set_option linter.unusedVariables false
set_option linter.unusedSimpArgs false
def XL : List Prp → List UInt8 → Option Val
 | [], _ => none
 | p :: r, key => if p.key = key then some p.v else XL r key
def XE (ls : List (List UInt8)) (s : List UInt8) : Bool := ls.any fun x => decide (s = x)
def eqV (a b : Val) : Bool := decide (a.kind = b.kind ∧ a.n = b.n ∧ a.s = b.s)
def Xc (p : Int × Int) : List D := [.v (.int .i64 p.1), .v (.int .i64 p.2)]
def YK (r : Rul) (l : List Prp) : Bool :=
 if r.kind = 2 ∨ r.kind = 4 then (XL l r.key).isNone else match XL l r.key with
  | some v => decide (v.kind ≠ r.n)
  | none => false
def Yb (r : Rul) (n : Nod) : Option Val := match XL n.props r.key with
 | some v => if XE n.labels r.name then some v else none
 | none => none
def XU (r : Rul) (l : List Nod) : List (Int × Val) := l.filterMap fun n => (Yb r n).map fun v => (n.id, v)
def YN : List (Int × Val) → List (Int × Int)
 | [] => []
 | a :: r => (r.filter fun b => eqV a.2 b.2).map (fun b => (a.1, b.1)) ++ YN r
def Yy (r : Rul) (l : List Nod) : List (Int × Int) := (l.filter fun n => XE n.labels r.name && YK r n.props).map fun n => (n.id, 0)
def XK (l : List Nod) (id : Int) : Option Nod := l.find? fun n => decide (n.id = id)
abbrev U0 : Nod := ⟨0, [], []⟩
def UG (l : List Nod) (id : Int) (label : List UInt8) : Bool := decide (label ≠ []) && !XE ((XK l id).getD U0).labels label
def VF (n : Nod) : Prop := n.labels.length ≤ 1000 ∧ n.props.length ≤ 1000 ∧ ∀ p ∈ n.props, XC p.v = true
def Vb (r : Rul) (ns : List Nod) (e : Edg) : Bool := if r.kind = 6 then UG ns e.src r.src || UG ns e.dst r.dst else YK r e.props
def Xw (r : Rul) (ns : List Nod) (l : List Edg) : List (Int × Int) := (l.filter fun e => decide (e.typ = r.name) && Vb r ns e).map fun e => (e.id, 0)
def XY (r : Rul) (l : List Edg) (id : Int) : Nat := l.countP fun e => decide (e.typ = r.name) && decide (e.src = id)
def YD (r : Rul) (es : List Edg) (l : List Nod) : List (Int × Int) := (l.filter fun n => decide (r.n < (XY r es n.id : Nat))).map fun n => (n.id, 0)
def X1d (r : Rul) (g : Gra) : List (Int × Int) := YD r g.edges g.nodes
def XS (r : Rul) (es : List Edg) (l : List Nod) : List (Int × Int) := (l.filter fun n => if r.kind = 7 then decide (r.n < (XY r es n.id : Nat)) else XE n.labels r.name && YK r n.props).map fun n => (n.id, 0)
theorem Xat {r : Rul} {es : List Edg} {l : List Nod} (h : r.kind = 7) : XS r es l = YD r es l := by unfold XS YD; simp only [h, if_true]
theorem X7q {r : Rul} {es : List Edg} {l : List Nod} (h : r.kind ≠ 7) : XS r es l = Yy r l := by unfold XS Yy; simp only [h, if_false]
def ofV (r : Rul) (g : Gra) : List (Int × Int) :=
 if r.kind = 1 then YN (XU r g.nodes) else if r.kind = 2 ∨ r.kind = 3 then Yy r g.nodes else if r.kind = 7 then X1d r g else Xw r g.nodes g.edges
def ofS (r : Rul) (g : Gra) : List (Int × Int) := if Yr r ≠ 0 ∨ Yc g ≠ 0 then [] else ofV r g
structure Vio where
 rule : Int
 a : Int
 b : Int
def XG (v : Vio) : List D := [.v (.int .i64 v.rule), .v (.int .i64 v.a), .v (.int .i64 v.b)]
def X0V (g : Gra) : Nat → List Rul → List Vio
 | _, [] => []
 | i, r :: s => (ofV r g).map (fun p => ⟨(i : Nat), p.1, p.2⟩) ++ X0V g (i + 1) s
def Y7 (s : List Rul) (g : Gra) : List Vio := if YY s = false ∨ Yc g ≠ 0 then [] else X0V g 0 s
def UN (k : Int) : Int := if k = 1 then 13 else if k = 2 ∨ k = 4 then 14 else if k = 3 ∨ k = 5 then 15 else if k = 6 then 16 else if k = 7 then 17 else 0
def UP (s : List Rul) (g : Gra) : Int := match Y7 s g with
 | [] => 0
 | v :: _ => match s[v.rule.toNat]? with | some r => UN r.kind | none => 0
theorem X3E {l : List Prp} {i : Nat} {p : Prp} {key : List UInt8} (h : l[i]? = some p) : XL (l.drop i) key = if p.key = key then some p.v else XL (l.drop (i + 1)) key := by
 obtain ⟨hi, h⟩ := List.getElem?_eq_some_iff.1 h
 rw [List.drop_eq_getElem_cons hi, h, XL]
theorem X7f {α β : Type} {f : α → Option β} {l : List α} {i : Nat} {x : α} (h : l[i]? = some x) : (l.take (i + 1)).filterMap f = (l.take i).filterMap f ++ (f x).toList := by
 rw [X1A h, List.filterMap_append]
 cases hf : f x <;> simp [hf]
theorem X0G {α β : Type} {p : α → Bool} {f : α → β} {l : List α} {i : Nat} {x : α} (h : l[i]? = some x) : ((l.take (i + 1)).filter p).map f = ((l.take i).filter p).map f ++ if p x then [f x] else [] := by
 rw [X1A h, List.filter_append, List.map_append]
 cases hp : p x <;> simp [hp]
theorem X25 {α : Type} {p : α → Bool} {l : List α} {i : Nat} {x : α} (h : l[i]? = some x) : (l.take (i + 1)).countP p = (l.take i).countP p + if p x then 1 else 0 := by
 rw [X1A h, List.countP_append]
 cases hp : p x <;> simp [hp]
theorem X62 {l : List Nod} {i : Nat} {n : Nod} {id : Int} (h : l[i]? = some n) : XK (l.drop i) id = if n.id = id then some n else XK (l.drop (i + 1)) id := by
 obtain ⟨hi, h⟩ := List.getElem?_eq_some_iff.1 h
 unfold XK
 rw [List.drop_eq_getElem_cons hi, h, List.find?_cons]
 by_cases q : n.id = id <;> simp [q]
theorem X3Y : ∀ l : List (Int × Val), (YN l).length ≤ l.length * l.length
 | [] => Nat.le_refl _
 | a :: r => by
  rw [YN, List.length_append, List.length_map, List.length_cons]
  have h1 := X3Y r
  have h2 := List.length_filter_le (fun b => eqV a.2 b.2) r
  have : (r.length + 1) * (r.length + 1) = r.length * r.length + r.length + r.length + 1 := by rw [Nat.add_mul, Nat.mul_add]; omega
  omega
theorem X1S (r : Rul) (l : List Nod) : (XU r l).length ≤ l.length := List.length_filterMap_le _ _
theorem V4 {k n d : Int} {s : List UInt8} {l : List Val} (h : XC (.mk k n d s l) = true) : X5 8 (.mk k n d s l) = true ∧ (k = 1 ∨ k = 2 ∨ k = 4) ∧ d = 0 ∧ l = [] ∧ (k ≠ 4 → s = []) ∧ (k = 4 → n = 0) ∧ s.length ≤ 100 ∧ (k = 2 → -1000000000000000 ≤ n ∧ n ≤ 1000000000000000) := by
 obtain ⟨h1, h2⟩ := X2W h
 have h2 : k = 1 ∨ k = 2 ∨ k = 4 := h2
 refine ⟨h1, h2, ?_⟩
 rw [X5] at h1
 rcases h2 with rfl | rfl | rfl
 ·simp at h1
  exact ⟨h1.1.1.1, h1.1.2, fun _ => h1.1.1.2, by simp, by rw [h1.1.1.2]; simp, by simp⟩
 ·simp at h1
  exact ⟨h1.1.1.1, h1.1.2, fun _ => h1.1.1.2, by simp, by rw [h1.1.1.2]; simp, fun _ => h1.2⟩
 ·simp at h1
  exact ⟨h1.1.1, h1.1.2, by simp, fun _ => h1.2.1.1, h1.2.1.2, by simp⟩
end Go.Fw
namespace Go.Fw
open Go
set_option linter.unusedVariables false
set_option linter.unusedSimpArgs false
def Yi (x y : List Nat) : Nat → Int
 | 0 => 0
 | k + 1 => if (x[k]?).getD 0 < (y[k]?).getD 0 then -1 else if (y[k]?).getD 0 < (x[k]?).getD 0 then 1 else Yi x y k
theorem X3g {x y : List Nat} : ∀ {k : Nat}, Yi x y k = 0 → ∀ j, j < k → (x[j]?).getD 0 = (y[j]?).getD 0
 | 0, _, j, hj => by omega
 | k + 1, h, j, hj => by
  rw [Yi] at h
  split at h
  ·simp at h
  ·split at h
   ·simp at h
   ·by_cases q : j = k
    ·subst q; omega
    ·exact X3g h j (by omega)
theorem X4X (x : List Nat) : ∀ k, Yi x x k = 0
 | 0 => rfl
 | k + 1 => by rw [Yi, if_neg (by omega), if_neg (by omega)]; exact X4X x k
theorem X68 : ∀ {n a b : Nat}, a < 1000 ^ n → b < 1000 ^ n → Y9 n a = Y9 n b → a = b
 | 0, a, b, ha, hb, _ => by simp at ha hb; omega
 | n + 1, a, b, ha, hb, h => by
  simp only [Y9, List.cons.injEq] at h
  have := X68 (n := n) (a := a / 1000) (b := b / 1000) (by rw [Nat.pow_succ] at ha; omega) (by rw [Nat.pow_succ] at hb; omega) h.2
  omega
theorem X6G {x y : List Nat} (hl : x.length = y.length) (h : Yi x y x.length = 0) : x = y := by
 apply List.ext_getElem hl
 intro i h1 h2
 have := X3g h i h1
 rw [List.getElem?_eq_getElem h1, List.getElem?_eq_getElem h2] at this
 exact this
def YB (x y : List Nat) : Nat → List Nat × Nat
 | 0 => (List.replicate x.length 0, 0)
 | k + 1 => let p := YB x y k; let a := (x[k]?).getD 0; let b := (y[k]?).getD 0 + p.2; (p.1.set k (if a < b then a + 1000 - b else a - b), if a < b then 1 else 0)
theorem X5s (x y : List Nat) : ∀ k, (YB x y k).1.length = x.length
 | 0 => by simp [YB]
 | k + 1 => by simp only [YB, List.length_set]; exact X5s x y k
theorem X9v (x y : List Nat) : ∀ k, (YB x y k).2 ≤ 1
 | 0 => by simp [YB]
 | k + 1 => by simp only [YB]; split <;> omega
def Uo (x y : List Nat) : List Nat := (YB x y x.length).1
def Vx (n m : Int) : Int :=
 let a := XO n; let b := -XO m
 if a = b ∨ b = 0 then a else if a = 0 then b else
  let c := Yi (Y9 14 (n.natAbs * 1)) (Y9 14 (m.natAbs * 1)) 14
  if c = 0 then 0 else if 0 < c then a else b
theorem Va (n : Int) : (n < 0 ∧ XO n = -1) ∨ (0 < n ∧ XO n = 1) ∨ (n = 0 ∧ XO n = 0) := by
 unfold XO
 split
 ·exact .inl ⟨by assumption, rfl⟩
 ·split
  ·exact .inr (.inl ⟨by assumption, rfl⟩)
  ·exact .inr (.inr ⟨by omega, rfl⟩)
theorem X8F {n m : Int} (hn : n.natAbs ≤ 1000000000000000) (hm : m.natAbs ≤ 1000000000000000) : decide (Vx n m = 0) = decide (n = m) := by
 rw [decide_eq_decide]
 unfold Vx
 simp only
 have e14 : (1000 : Nat) ^ 14 = 1000000000000000000000000000000000000000000 := by decide
 constructor
 ·intro h
  split at h
  ·rename_i q
   rcases Va n with ⟨a, e⟩ | ⟨a, e⟩ | ⟨a, e⟩ <;> rcases Va m with ⟨b, f⟩ | ⟨b, f⟩ | ⟨b, f⟩ <;> omega
  ·split at h
   ·rcases Va n with ⟨a, e⟩ | ⟨a, e⟩ | ⟨a, e⟩ <;> rcases Va m with ⟨b, f⟩ | ⟨b, f⟩ | ⟨b, f⟩ <;> omega
   ·split at h
    ·rename_i q1 q2 q3
     have h1 := X6G (x := Y9 14 (n.natAbs * 1)) (y := Y9 14 (m.natAbs * 1)) (by rw [VA, VA]) (by rw [VA]; exact q3)
     have h2 := X68 (by omega) (by omega) h1
     rcases Va n with ⟨a, e⟩ | ⟨a, e⟩ | ⟨a, e⟩ <;> rcases Va m with ⟨b, f⟩ | ⟨b, f⟩ | ⟨b, f⟩ <;> omega
    ·split at h <;> rcases Va n with ⟨a, e⟩ | ⟨a, e⟩ | ⟨a, e⟩ <;> rcases Va m with ⟨b, f⟩ | ⟨b, f⟩ | ⟨b, f⟩ <;> omega
 ·rintro rfl
  rcases Va n with ⟨a, e⟩ | ⟨a, e⟩ | ⟨a, e⟩ <;> rw [e] <;> simp [X4X]
end Go.Fw
namespace Go.Fw
open Go Go.Proofs
set_option maxRecDepth 100000
set_option linter.unusedVariables false
set_option linter.unusedSimpArgs false
theorem X8I (x y : List Nat) (hl : y.length = x.length) (hx : x.length ≤ 1000) : Con Tryz.prog 206 [] [.d (Yj x), .d (Yj y)] [] (ai (Yi x y x.length)) := by
 refine Xa (xs := [ai (Yi x y x.length)]) Tryz.func206 rfl Tryz.ntmps206 rfl rfl rfl (fun E => ?_)
 have hlx : (x.map XA).length = x.length := by simp
 generalize hG : Yi x y x.length = G
 refine X0 ?_; refine JR ?_; refine Z0 ?_; refine JD ?_; refine X0 ?_; refine X0 ?_; refine JR ?_; refine Z1 ?_; refine Zd ?_; refine ZR ?_; refine Z0 ?_; refine JD ?_; refine X4 ?_
 refine Xt (fun i : Nat => i ≤ x.length ∧ Yi x y i = G) (fun i => ⟨31, [(0, .d (Yj x)), (1, .d (Yj y)), (5, ai ((i : Int) - 1))], []⟩) (fun i => i) x.length ⟨Nat.le_refl _, hG⟩
  (X6 rfl ⟨JL, JL, JL, trivial⟩ trivial) ?_
 rintro i ⟨hi, hg⟩
 cases i with
 | zero =>
  rw [Yi] at hg
  subst hg
  refine X0 ?_; refine X0 ?_; refine JR ?_; refine Z1 ?_; refine Z2 ?_; refine JD ?_; refine JF ?_; refine Xp ?_; refine X0 ?_; refine JR ?_; refine Z0 ?_; refine JD ?_
  exact X1 ⟨_, St.le_refl _, ⟨rfl, trivial⟩, X2 _⟩
 | succ j =>
  have e : (((j + 1 : Nat) : Int) - 1) = (j : Int) := by omega
  rw [e]
  obtain ⟨a, ha⟩ := Xm (l := x) (k := j) (by omega)
  obtain ⟨b, hb⟩ := Xm (l := y) (k := j) (by omega)
  have hxm : (x.map XA)[j]? = some (XA a) := Xq ha
  have hym : (y.map XA)[j]? = some (XA b) := Xq hb
  rw [Yi, ha, hb] at hg
  simp only [Option.getD_some] at hg
  clear ha hb
  by_cases h1 : a < b
  ·have h1' : (a : Int) < (b : Nat) := by omega
   rw [if_pos h1] at hg
   subst hg
   refine X0 ?_; refine X0 ?_; refine JR ?_; refine Z1 ?_; refine Z2 ?_; refine JD ?_; refine JT ?_; refine X3 ?_; refine X0 ?_; refine X4 ?_; refine X0 ?_; refine X0 ?_; refine JR ?_
   refine Z1 ?_; refine Z1 ?_; refine Zj ?_; refine Zk ?_; refine Z1 ?_; refine Z1 ?_; refine Zj ?_; refine Zk ?_; refine Z8 ?_; refine JD ?_; refine JT ?_; refine X0 ?_; refine JR ?_; refine Z0 ?_; refine JD ?_
   exact X1 ⟨_, St.le_refl _, ⟨rfl, trivial⟩, X2 _⟩
  have h1' : ¬ (a : Int) < (b : Nat) := by omega
  rw [if_neg h1] at hg
  by_cases h2 : b < a
  ·have h2' : (b : Int) < (a : Nat) := by omega
   rw [if_pos h2] at hg
   subst hg
   refine X0 ?_; refine X0 ?_; refine JR ?_; refine Z1 ?_; refine Z2 ?_; refine JD ?_; refine JT ?_; refine X3 ?_; refine X0 ?_; refine X4 ?_; refine X0 ?_; refine X0 ?_; refine JR ?_
   refine Z1 ?_; refine Z1 ?_; refine Zj ?_; refine Zk ?_; refine Z1 ?_; refine Z1 ?_; refine Zj ?_; refine Zk ?_; refine Z8 ?_; refine JD ?_; refine JF ?_; refine X3 ?_; refine X0 ?_; refine JR ?_; refine Z1 ?_
   refine Z1 ?_; refine Zj ?_; refine Zk ?_; refine Z1 ?_; refine Z1 ?_; refine Zj ?_; refine Zk ?_; refine Zs ?_; refine JD ?_; refine JT ?_; refine X0 ?_; refine JR ?_; refine Z0 ?_; refine JD ?_
   exact X1 ⟨_, St.le_refl _, ⟨rfl, trivial⟩, X2 _⟩
  have h2' : ¬ (b : Int) < (a : Nat) := by omega
  rw [if_neg h2] at hg
  refine X0 ?_; refine X0 ?_; refine JR ?_; refine Z1 ?_; refine Z2 ?_; refine JD ?_; refine JT ?_; refine X3 ?_; refine X0 ?_; refine X4 ?_; refine X0 ?_; refine X0 ?_; refine JR ?_
  refine Z1 ?_; refine Z1 ?_; refine Zj ?_; refine Zk ?_; refine Z1 ?_; refine Z1 ?_; refine Zj ?_; refine Zk ?_; refine Z8 ?_; refine JD ?_; refine JF ?_; refine X3 ?_; refine X0 ?_; refine JR ?_; refine Z1 ?_
  refine Z1 ?_; refine Zj ?_; refine Zk ?_; refine Z1 ?_; refine Z1 ?_; refine Zj ?_; refine Zk ?_; refine Zs ?_; refine JD ?_; refine JF ?_; refine X3 ?_; refine JR ?_; refine Z1 ?_; refine ZR ?_; refine Z0 ?_
  refine JD ?_
  exact ⟨j, ⟨by omega, hg⟩, by omega, X6 rfl ⟨JL, JL, JL, trivial⟩ trivial⟩
theorem X6g (x y : List Nat) (hx : U1 x) (hy : U1 y) (hl : y.length = x.length) (hn : x.length ≤ 1000) : Con Tryz.prog 207 [] [.d (Yj x), .d (Yj y)] [] (.d (Yj (Uo x y))) := by
 have hlx : (x.map XA).length = x.length := by simp
 have own : Con Tryz.prog 207 [] [.d (Yj x), .d (Yj y)] [(130, .row 1 ((Uo x y).map XA))] (.own 130 ((Uo x y).map XA).length) := by
  refine Xa (xs := [.own 130 ((Uo x y).map XA).length]) Tryz.func207 rfl Tryz.ntmps207 rfl rfl rfl (fun E => ?_)
  refine X0 ?_; refine JR ?_; refine Z0 ?_; refine JD ?_; refine X0 ?_; refine JR ?_; refine Z1 ?_; refine Zd ?_; refine Ze (γ := 130) ?_; refine Z0 ?_; refine JD ?_; refine X0 ?_; refine JR ?_; refine Z0 ?_
  refine JD ?_; refine X0 ?_; refine X0 ?_; refine JR ?_; refine Z0 ?_; refine JD ?_; refine X4 ?_
  refine Xt (fun k : Nat => k ≤ x.length) (fun k => ⟨40, [(0, .d (Yj x)), (1, .d (Yj y)), (5, .own 130 (x.map XA).length), (6, ai (-((YB x y k).2 : Nat) : Int)), (7, ai k)], [(130, .row 1 ((YB x y k).1.map XA))]⟩) (fun k => x.length - k) 0 (by omega)
   (X6 rfl ⟨JL, JL, JL, JL, JL, trivial⟩ ⟨?_, trivial⟩) ?_
  ·refine congrArg (AObj.row 1) ?_
   refine Eq.trans (b := List.replicate (x.map XA).length (XA 0)) rfl ?_
   rw [hlx]; exact X3B x.length
  intro k hk
  have hpl := X5s x y k
  have hpm : ((YB x y k).1.map XA).length = x.length := by rw [List.length_map, hpl]
  by_cases hkx : k < x.length
  case neg =>
   obtain rfl : k = x.length := by omega
   refine X0 ?_; refine X0 ?_; refine JR ?_; refine Z1 ?_; refine Z1 ?_; refine Zd ?_; refine Z8 ?_; refine JD ?_; refine JF ?_; refine Xp ?_; refine X0 ?_; refine JR ?_; refine Z1 ?_; refine Z0 ?_
   refine JD ?_
   exact X1 ⟨_, Xi 4 (y := .own 130 ((Uo x y).map XA).length) (AVal.le_of_eq (by refine Eq.trans (b := .own 130 (x.map XA).length) rfl ?_; congr 1; rw [hlx]; exact hpm.symm)), ⟨rfl, trivial⟩, V9 ⟨rfl, trivial⟩⟩
  obtain ⟨a, ha⟩ := Xm (l := x) hkx
  obtain ⟨b, hb⟩ := Xm (l := y) (k := k) (by omega)
  have hxm : (x.map XA)[k]? = some (XA a) := Xq ha
  have hym : (y.map XA)[k]? = some (XA b) := Xq hb
  have hc := X9v x y k
  have ha1 := Vz hx ha
  have hb1 := Vz hy hb
  have hsucc : YB x y (k + 1) = ((YB x y k).1.set k (if a < b + (YB x y k).2 then a + 1000 - (b + (YB x y k).2) else a - (b + (YB x y k).2)), if a < b + (YB x y k).2 then 1 else 0) := by
   simp only [YB, ha, hb, Option.getD_some]
  clear ha hb
  generalize YB x y k = p at *
  obtain ⟨l, c⟩ := p
  simp only at hpl hpm hc hsucc
  have n1 : XB (-(c : Nat) + (a : Nat)) := by unfold XB; omega
  have n2 : XB (-(c : Nat) + (a : Nat) - (b : Nat)) := by unfold XB; omega
  by_cases hlt : a < b + c
  ·have h1' : (-(c : Nat) + (a : Nat) - (b : Nat) : Int) < 0 := by omega
   have e1 : (-(c : Nat) + (a : Nat) - (b : Nat) : Int) + 1000 = ((a + 1000 - (b + c) : Nat) : Int) := by omega
   rw [if_pos hlt, if_pos hlt] at hsucc
   generalize a + 1000 - (b + c) = z at *
   have n3 : XB ((-(c : Nat) + (a : Nat) - (b : Nat) : Int) + 1000) := by unfold XB; omega
   refine X0 ?_; refine X0 ?_; refine JR ?_; refine Z1 ?_; refine Z1 ?_; refine Zd ?_; refine Z8 ?_; refine JD ?_; refine JT ?_; refine X3 ?_; refine X0 ?_; refine X4 ?_; refine X0 ?_
   refine JR ?_; refine Z1 ?_; refine Z1 ?_; refine Z1 ?_; refine Zj ?_; refine Zk ?_
   refine Z7 (op := .add) (r' := .int .i64 (-(c : Nat) + (a : Nat) : Int)) (u := .int .i64 (-(c : Nat) : Int)) (v := .int .i64 (a : Nat)) ?_ (hr := by exact X1E n1); refine Z1 ?_; refine Z1 ?_; refine Zj ?_
   refine Zk ?_; refine Z7 (op := .sub) (r' := .int .i64 (-(c : Nat) + (a : Nat) - (b : Nat) : Int)) (u := .int .i64 (-(c : Nat) + (a : Nat) : Int)) (v := .int .i64 (b : Nat)) ?_ (hr := by exact XJ n2); refine Z0 ?_
   refine JD ?_; refine X0 ?_; refine JR ?_; refine Z1 ?_; refine Z8 ?_; refine JD ?_; refine JT ?_; refine X0 ?_; refine JR ?_; refine Z1 ?_; refine Z1 ?_; refine Z1 ?_
   refine Z4 (op := .add) (r' := .int .i64 (z : Nat)) (u := .int .i64 (-(c : Nat) + (a : Nat) - (b : Nat) : Int)) (v := .int .i64 1000) ?_ (hr' := by exact congrArg (Value.int .i64) e1) (hr := by exact X1E n3)
   refine ZO ?_; refine ZP ?_; refine JD ?_; refine JR ?_; refine Z0 ?_; refine JD ?_; refine JR ?_; refine Z1 ?_; refine Zb ?_; refine Z0 ?_; refine JD ?_
   refine ⟨k + 1, by omega, by omega, ?_⟩
   dsimp only
   rw [hsucc]
   refine X6 rfl ⟨JL, JL, JL, JL, JL, trivial⟩ ⟨?_, trivial⟩
   exact congrArg (AObj.row 1) (X1o (by omega))
  ·have h1' : ¬ (-(c : Nat) + (a : Nat) - (b : Nat) : Int) < 0 := by omega
   have e1 : (-(c : Nat) + (a : Nat) - (b : Nat) : Int) = ((a - (b + c) : Nat) : Int) := by omega
   rw [if_neg hlt, if_neg hlt] at hsucc
   generalize a - (b + c) = z at *
   rw [e1] at h1'
   refine X0 ?_; refine X0 ?_; refine JR ?_; refine Z1 ?_; refine Z1 ?_; refine Zd ?_; refine Z8 ?_; refine JD ?_; refine JT ?_; refine X3 ?_; refine X0 ?_; refine X4 ?_; refine X0 ?_
   refine JR ?_; refine Z1 ?_; refine Z1 ?_; refine Z1 ?_; refine Zj ?_; refine Zk ?_
   refine Z7 (op := .add) (r' := .int .i64 (-(c : Nat) + (a : Nat) : Int)) (u := .int .i64 (-(c : Nat) : Int)) (v := .int .i64 (a : Nat)) ?_ (hr := by exact X1E n1); refine Z1 ?_; refine Z1 ?_; refine Zj ?_
   refine Zk ?_; refine Z4 (op := .sub) (r' := .int .i64 (z : Nat)) (u := .int .i64 (-(c : Nat) + (a : Nat) : Int)) (v := .int .i64 (b : Nat)) ?_ (hr' := by exact congrArg (Value.int .i64) e1) (hr := by exact XJ n2)
   refine Z0 ?_; refine JD ?_; refine X0 ?_; refine JR ?_; refine Z1 ?_; refine Z8 ?_; refine JD ?_; refine JF ?_; refine X0 ?_; refine JR ?_; refine Z1 ?_; refine Z1 ?_; refine Z1 ?_; refine ZO ?_; refine ZP ?_
   refine JD ?_; refine JR ?_; refine Z0 ?_; refine JD ?_; refine JR ?_; refine Z1 ?_; refine Zb ?_; refine Z0 ?_; refine JD ?_
   refine ⟨k + 1, by omega, by omega, ?_⟩
   dsimp only
   rw [hsucc]
   refine X6 rfl ⟨JL, JL, JL, JL, JL, trivial⟩ ⟨?_, trivial⟩
   exact congrArg (AObj.row 1) (X1o (by omega))
 exact own.data (by simp)
theorem X9I (s b : Int) (x y : List Nat) (hx : U1 x) (hy : U1 y) (hl : x.length = 14) (hm : y.length = 14) : Con Tryz.prog 142 [] [ai s, .d (Yj x), ai b, .d (Yj y)] [] (.tup [ai (if s = b ∨ b = 0 then s else if s = 0 then b else if Yi x y x.length = 0 then 0 else if 0 < Yi x y x.length then s else b), .d (Yj (if s = b ∨ b = 0 then Um x y else if s = 0 then y else if Yi x y x.length = 0 then Um UW UW else if 0 < Yi x y x.length then Uo x y else Uo y x))]) := by
 refine Xa (xs := [ai (if s = b ∨ b = 0 then s else if s = 0 then b else if Yi x y x.length = 0 then 0 else if 0 < Yi x y x.length then s else b), .d (Yj (if s = b ∨ b = 0 then Um x y else if s = 0 then y else if Yi x y x.length = 0 then Um UW UW else if 0 < Yi x y x.length then Uo x y else Uo y x))]) Tryz.func142 rfl Tryz.ntmps142 rfl rfl rfl (fun E => ?_)
 have hp := X5M x y hx hy (by omega) (by omega)
 have hz := X5M UW UW (X2j 14) (X2j 14) rfl (by decide)
 have ho := X8I x y (by omega) (by omega)
 have h1 := X6g x y hx hy (by omega) (by omega)
 have h2 := X6g y x hy hx (by omega) (by omega)
 generalize Yi x y x.length = c at *
 generalize Um x y = p at *
 generalize Um UW UW = z at *
 generalize Uo x y = m1 at *
 generalize Uo y x = m2 at *
 by_cases c1 : s = b
 ·rw [if_pos (.inl c1), if_pos (.inl c1)]
  refine X0 ?_; refine JR ?_; refine Z0 ?_; refine Z0 ?_; refine JD ?_; refine X0 ?_; refine X0 ?_; refine JR ?_; refine Z1 ?_; refine Z1 ?_; refine Zl ?_; refine Z1 ?_; refine Zo ?_; refine Zo ?_
  refine Zn ?_; refine JD ?_; refine JT ?_; refine X0 ?_; refine JR ?_; refine Z1 ?_; refine Z1 ?_; refine Z1 ?_; refine Z9 (hcon := hp) ?_; refine Z0 ?_; refine Z0 ?_; refine JD ?_
  exact X1 ⟨_, St.le_refl _, ⟨rfl, rfl, trivial⟩, X2 _⟩
 by_cases c2 : b = 0
 ·rw [if_pos (.inr c2), if_pos (.inr c2)]
  refine X0 ?_; refine JR ?_; refine Z0 ?_; refine Z0 ?_; refine JD ?_; refine X0 ?_; refine X0 ?_; refine JR ?_; refine Z1 ?_; refine Z1 ?_; refine Zl ?_; refine Z1 ?_; refine Z1 ?_; refine Zl ?_
  refine Zq ?_; refine JD ?_; refine JT ?_; refine X0 ?_; refine JR ?_; refine Z1 ?_; refine Z1 ?_; refine Z1 ?_; refine Z9 (hcon := hp) ?_; refine Z0 ?_; refine Z0 ?_; refine JD ?_
  exact X1 ⟨_, St.le_refl _, ⟨rfl, rfl, trivial⟩, X2 _⟩
 have hc : ¬ (s = b ∨ b = 0) := fun h => h.elim c1 c2
 rw [if_neg hc, if_neg hc]
 by_cases c3 : s = 0
 ·rw [if_pos c3, if_pos c3]
  refine X0 ?_; refine JR ?_; refine Z0 ?_; refine Z0 ?_; refine JD ?_; refine X0 ?_; refine X0 ?_; refine JR ?_; refine Z1 ?_; refine Z1 ?_; refine Zl ?_; refine Z1 ?_; refine Z1 ?_; refine Zl ?_
  refine Zq ?_; refine JD ?_; refine JF ?_; refine X3 ?_; refine X0 ?_; refine X0 ?_; refine JR ?_; refine Z1 ?_; refine Zl ?_; refine JD ?_; refine JT ?_; refine X0 ?_; refine JR ?_; refine Z1 ?_
  refine Z1 ?_; refine Z0 ?_; refine Z0 ?_; refine JD ?_
  exact X1 ⟨_, St.le_refl _, ⟨rfl, rfl, trivial⟩, X2 _⟩
 rw [if_neg c3, if_neg c3]
 by_cases c4 : c = 0
 ·rw [if_pos c4, if_pos c4]
  refine X0 ?_; refine JR ?_; refine Z0 ?_; refine Z0 ?_; refine JD ?_; refine X0 ?_; refine X0 ?_; refine JR ?_; refine Z1 ?_; refine Z1 ?_; refine Zl ?_; refine Z1 ?_; refine Z1 ?_; refine Zl ?_
  refine Zq ?_; refine JD ?_; refine JF ?_; refine X3 ?_; refine X0 ?_; refine X0 ?_; refine JR ?_; refine Z1 ?_; refine Zl ?_; refine JD ?_; refine JF ?_; refine X3 ?_; refine X0 ?_
  refine JR ?_; refine Z1 ?_; refine Z1 ?_; refine Z9 (hcon := ho) ?_; refine Z0 ?_; refine JD ?_; refine X0 ?_; refine X0 ?_; refine JR ?_; refine Z1 ?_; refine Zl ?_; refine JD ?_; refine JT ?_
  refine X0 ?_; refine JR ?_; refine ZS ?_; refine ZS ?_; refine Z9 (hcon := hz) ?_; refine Z0 ?_; refine Z0 ?_; refine JD ?_
  exact X1 ⟨_, St.le_refl _, ⟨rfl, rfl, trivial⟩, X2 _⟩
 rw [if_neg c4, if_neg c4]
 by_cases c5 : 0 < c
 ·rw [if_pos c5, if_pos c5]
  refine X0 ?_; refine JR ?_; refine Z0 ?_; refine Z0 ?_; refine JD ?_; refine X0 ?_; refine X0 ?_; refine JR ?_; refine Z1 ?_; refine Z1 ?_; refine Zl ?_; refine Z1 ?_; refine Z1 ?_; refine Zl ?_
  refine Zq ?_; refine JD ?_; refine JF ?_; refine X3 ?_; refine X0 ?_; refine X0 ?_; refine JR ?_; refine Z1 ?_; refine Zl ?_; refine JD ?_; refine JF ?_; refine X3 ?_; refine X0 ?_
  refine JR ?_; refine Z1 ?_; refine Z1 ?_; refine Z9 (hcon := ho) ?_; refine Z0 ?_; refine JD ?_; refine X0 ?_; refine X0 ?_; refine JR ?_; refine Z1 ?_; refine Zl ?_; refine JD ?_; refine JF ?_
  refine X3 ?_; refine X0 ?_; refine X0 ?_; refine JR ?_; refine Z1 ?_; refine Zs ?_; refine JD ?_; refine JT ?_; refine X0 ?_; refine JR ?_; refine Z1 ?_; refine Z1 ?_; refine Z1 ?_
  refine Z9 (hcon := h1) ?_; refine Z0 ?_; refine Z0 ?_; refine JD ?_
  exact X1 ⟨_, St.le_refl _, ⟨rfl, rfl, trivial⟩, X2 _⟩
 rw [if_neg c5, if_neg c5]
 refine X0 ?_; refine JR ?_; refine Z0 ?_; refine Z0 ?_; refine JD ?_; refine X0 ?_; refine X0 ?_; refine JR ?_; refine Z1 ?_; refine Z1 ?_; refine Zl ?_; refine Z1 ?_; refine Z1 ?_; refine Zl ?_
 refine Zq ?_; refine JD ?_; refine JF ?_; refine X3 ?_; refine X0 ?_; refine X0 ?_; refine JR ?_; refine Z1 ?_; refine Zl ?_; refine JD ?_; refine JF ?_; refine X3 ?_; refine X0 ?_
 refine JR ?_; refine Z1 ?_; refine Z1 ?_; refine Z9 (hcon := ho) ?_; refine Z0 ?_; refine JD ?_; refine X0 ?_; refine X0 ?_; refine JR ?_; refine Z1 ?_; refine Zl ?_; refine JD ?_; refine JF ?_
 refine X3 ?_; refine X0 ?_; refine X0 ?_; refine JR ?_; refine Z1 ?_; refine Zs ?_; refine JD ?_; refine JF ?_; refine X3 ?_; refine X0 ?_; refine JR ?_; refine Z1 ?_; refine Z1 ?_
 refine Z1 ?_; refine Z9 (hcon := h2) ?_; refine Z0 ?_; refine Z0 ?_; refine JD ?_
 exact X1 ⟨_, St.le_refl _, ⟨rfl, rfl, trivial⟩, X2 _⟩
theorem X8n (n m : Int) (hn : n.natAbs ≤ 1000000000000000) (hm : m.natAbs ≤ 1000000000000000) : Con Tryz.prog 91 [] [YL n 1, YL m 1] [] (ai (Vx n m)) := by
 refine Xa (xs := [ai (Vx n m)]) Tryz.func91 rfl Tryz.ntmps91 rfl rfl rfl (fun E => ?_)
 have hv := X2k n 1
 have hw := X2k m 1
 rw [show U2 n 1 = true by unfold U2; simp; omega] at hv
 rw [show U2 m 1 = true by unfold U2; simp; omega] at hw
 have s1 := X5Y n
 have s2 := X5Y m
 have z1 := X2H n (by omega)
 have z2 := X2H m (by omega)
 have t1 := X4I n.natAbs 1 (by omega) (by omega)
 have t2 := X4I m.natAbs 1 (by omega) (by omega)
 have hs := X9I (XO n) (-XO m) (Y9 14 (n.natAbs * 1)) (Y9 14 (m.natAbs * 1)) (X2Z _ _) (X2Z _ _) (VA _ _) (VA _ _)
 rw [VA] at hs
 have hr1 := X3K n
 have hr2 := X3K m
 unfold Vx
 simp only
 generalize hd1 : Y9 14 (n.natAbs * 1) = x at *
 generalize hd2 : Y9 14 (m.natAbs * 1) = y at *
 generalize Yi x y 14 = c at *
 generalize (if XO n = -XO m ∨ -XO m = 0 then XO n else if XO n = 0 then -XO m else if c = 0 then 0 else if 0 < c then XO n else -XO m) = res at *
 generalize (if XO n = -XO m ∨ -XO m = 0 then Um x y else if XO n = 0 then y else if c = 0 then Um UW UW else if 0 < c then Uo x y else Uo y x) = mag at *
 generalize XO n = sa at *
 generalize XO m = sb at *
 generalize n.natAbs = N at *
 generalize m.natAbs = M at *
 have q1 : -1 ≤ sb ∧ sb ≤ 1 := by omega
 clear hr1 hr2 hd1 hd2
 refine X0 ?_; refine JR ?_; refine ZA (γ := 100) ?_; refine ZA (γ := 101) ?_; refine Z0 ?_; refine JD ?_; refine X0 ?_; refine X0 ?_; refine JR ?_; refine ZL ?_; refine Z9 (hcon := hv) ?_; refine Zu ?_
 refine JD ?_; refine JF ?_; refine X3 ?_; refine X0 ?_; refine X0 ?_; refine JR ?_; refine ZL ?_; refine Z9 (hcon := hw) ?_; refine Zu ?_; refine JD ?_; refine JF ?_; refine X3 ?_; refine X0 ?_
 refine JR ?_; refine ZB ?_; refine ZC ?_; refine Z9 (hcon := s1) ?_; refine ZB ?_; refine ZC ?_; refine Z9 (hcon := z1) ?_; refine ZB ?_; refine ZC ?_; refine Z9 (hcon := t1) ?_; refine ZB ?_; refine ZC ?_
 refine Z9 (hcon := s2) ?_; refine Zu ?_; refine ZB ?_; refine ZC ?_; refine Z9 (hcon := z2) ?_; refine ZB ?_; refine ZC ?_; refine Z9 (hcon := t2) ?_; refine Z9 (hcon := hs) ?_; refine Z1 ?_; refine ZF ?_; refine ZF ?_
 refine Z0 ?_; refine Z0 ?_; refine JD ?_; refine X0 ?_; refine JR ?_; refine Z1 ?_; refine Z0 ?_; refine JD ?_
 exact X1 ⟨_, St.le_refl _, ⟨rfl, trivial⟩, X2 _⟩
end Go.Fw
