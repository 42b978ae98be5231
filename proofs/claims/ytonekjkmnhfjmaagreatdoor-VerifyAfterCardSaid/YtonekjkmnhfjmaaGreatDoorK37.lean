/- Labels and properties put and removed by the reference. -/
import Derived.Test.YtonekjkmnhfjmaaGreatDoorK36
set_option maxHeartbeats 16000000
namespace Go.Fw
open Go Go.Proofs
set_option maxRecDepth 100000
set_option linter.unusedVariables false
set_option linter.unusedSimpArgs false
theorem XiL (l : List (List UInt8)) (s : List UInt8) : Y6 l s = Xl XB l s := by
 unfold Y6 Xl
 congr 1
 funext x
 exact decide_eq_decide.2 ⟨fun h => h.symm, fun h => h.symm⟩
theorem X2l {α : Type} {a b c : List α} (h : a ++ b = c) : a.length ≤ c.length := by rw [← h, List.length_append]; omega
theorem Xhs (l : List (List UInt8)) (s : List UInt8) (hl : l.length ≤ 100000) : Con Tryz.prog 178 [] [.d (.sl 1 (l.map Xa)), XC s] [] (.d (.sl 1 ((YH XB l s).map Xa))) := by
 refine Xc (xs := [.d (.sl 1 ((YH XB l s).map Xa))]) Tryz.func178 rfl Tryz.ntmps178 rfl rfl rfl (fun E => ?_)
 have hlm : (l.map Xa).length = l.length := by simp
 have hRl := X6c (key := XB) l s
 generalize hR : YH XB l s = R at *
 refine Qc ?_; refine QXc ?_; refine Xk (U1 5 130 1 rfl rfl rfl) ?_
 refine Xz (ι := Nat × List (List UInt8)) (fun q => q.1 ≤ l.length ∧ q.2 ++ YH XB (l.drop q.1) s = R) (fun q => ⟨27, [(0, .d (.sl 1 (l.map Xa))), (1, XC s), (5, .own 130 (q.2.map Xa).length), (6, ai q.1)], [(130, .row 1 (q.2.map Xa))]⟩) (fun q => l.length - q.1) (0, []) ⟨Nat.zero_le _, by simpa using hR⟩
  (X6 rfl JM ⟨rfl, trivial⟩) ?_
 rintro ⟨i, out⟩ ⟨hi, hg⟩
 simp only at hi hg
 by_cases hil : i < l.length
 case neg =>
  have hn : ¬ (i : Int) < (l.map Xa).length := by omega
  rw [List.drop_of_length_le (by omega), show YH XB ([] : List (List UInt8)) s = [] from rfl, List.append_nil] at hg
  subst hg
  refine Qgd ?_; refine Qtf ?_; refine Xk (Ys 4 130 rfl rfl (by simp)) ?_
  (show AWP Tryz.prog E _ _ _; refine X1 ?_; exact (show Xd _ _ _ _ _ from ⟨_, St.le_refl _, ⟨rfl, trivial⟩, X3 _⟩))
 have hn : (i : Int) < (l.map Xa).length := by omega
 obtain ⟨x, hx⟩ := Xs (l := l) hil
 have hxc : (l.map Xa)[i]? = some (Xa x) := Xx hx
 rw [X71 hx] at hg
 have hrm := X2l hg
 have hroom : (out.map Xa).length ≤ 100000 := by rw [List.length_map]; omega
 simp only [Xa] at hxc
 by_cases hq : x = s
 ·subst hq
  rw [if_pos rfl, List.nil_append] at hg
  refine Qid ?_; refine Qhc ?_; refine Z1 ?_; refine ZY ?_; refine Qkb ?_; exact ⟨(i + 1, out), ⟨by simp only; omega, hg⟩, by simp only; omega, X6 rfl JM ⟨rfl, trivial⟩⟩
 ·rw [if_neg (show ¬ XB x = s from hq), ← List.append_assoc] at hg
  refine Qid ?_; refine Qhc ?_; refine Z1 ?_; refine ZY ?_; refine Qed ?_; refine Qt ?_; refine Qhc ?_; refine Quf ?_
  refine ⟨(i + 1, out ++ [x]), ⟨by simp only; omega, hg⟩, by simp only; omega, ?_⟩
  dsimp only
  rw [List.map_append]
  exact X6 rfl ⟨JL, JL, AVal.le_of_eq (by refine Eq.trans (b := AVal.own 130 (_ + _)) rfl ?_; simp only [List.length_append, List.length_map, List.length_cons, List.length_nil]), JL, trivial⟩ ⟨rfl, trivial⟩
theorem Xic (l : List (List UInt8)) (s : List UInt8) (hl : l.length ≤ 100000) (hs : Y0 ltS XB l) (hh : Xl XB l s = false) : Con Tryz.prog 177 [] [.d (.sl 1 (l.map Xa)), XC s] [] (.d (.sl 1 ((Yp ltS XB l s [s]).map Xa))) := by
 refine Xc (xs := [.d (.sl 1 ((Yp ltS XB l s [s]).map Xa))]) Tryz.func177 rfl Tryz.ntmps177 rfl rfl rfl (fun E => ?_)
 have hlm : (l.map Xa).length = l.length := by simp
 rw [X2c hh]
 have hle := X3g (lt := ltS) (key := XB) l s
 have h1 := X6m (lt := ltS) (key := XB) (l := l) (k := s)
 have h2 : ∀ x, l[Xg ltS XB l s]? = some x → ltS x s = false ∧ x ≠ s := fun x hx => ⟨X4E hx, fun e => by
  subst e
  have : Xl XB l x = true := by unfold Xl; rw [List.any_eq_true]; exact ⟨x, List.mem_of_getElem? hx, by simp⟩
  rw [hh] at this; cases this⟩
 generalize Xg ltS XB l s = k at *
 clear hs hh
 refine Qc ?_; refine Qc ?_; refine Qc ?_; refine Qma ?_
 refine Xz (fun i : Nat => i ≤ k) (fun i => ⟨47, [(0, .d (.sl 1 (l.map Xa))), (1, XC s), (5, ani), (6, ai i)], []⟩) (fun i => l.length - i) 0 (Nat.zero_le _)
  (X6 rfl JM trivial) ?_
 intro i hi
 by_cases hik : i < k
 case pos =>
  have hil : i < l.length := by omega
  have hn : (i : Int) < (l.map Xa).length := by omega
  obtain ⟨x, hx⟩ := Xs (l := l) hil
  have hxc : (l.map Xa)[i]? = some (Xa x) := Xx hx
  have hlt := h1 x (by rw [List.mem_take_iff_getElem]; obtain ⟨hl, rfl⟩ := List.getElem?_eq_some_iff.1 hx; exact ⟨i, by omega, rfl⟩)
  have hlt : Op.bytesLess x s = true := hlt
  simp only [Xa] at hxc
  clear h1 h2
  refine Ql ?_; refine QYc ?_; refine Qag ?_; refine Z0d ?_; refine ZB ?_; refine QDb ?_; refine Qgb ?_; exact ⟨i + 1, by omega, by omega, X6 rfl JM trivial⟩
 obtain rfl : i = k := by omega
 have hspl : (l.take i ++ [s] ++ l.drop i).map Xa = [] ++ ((l.map Xa).take i).drop 0 ++ [Xa s] ++ ((l.map Xa).take (l.map Xa).length).drop i := by rw [List.take_length]; simp
 rw [hspl]
 have hr1 : ((l.map Xa).take i).length = i := by rw [List.length_take]; omega
 have hr2 : ((l.map Xa).drop i).length = l.length - i := by rw [List.length_drop]; omega
 by_cases hil : i < l.length
 case pos =>
  have hn : (i : Int) < (l.map Xa).length := by omega
  have hn2 : ¬ (i : Int) = (l.map Xa).length := by omega
  obtain ⟨x, hx⟩ := Xs (l := l) hil
  have hxc : (l.map Xa)[i]? = some (Xa x) := Xx hx
  obtain ⟨hlt, hne⟩ := h2 x hx
  have hlt : Op.bytesLess x s = false := hlt
  simp only [Xa] at hxc
  clear h1 h2 hx hik hi
  refine Ql ?_; refine QYc ?_; refine Qag ?_; refine Z0d ?_; refine ZB ?_; refine Qab ?_; refine X0 ?_; refine Xk (U1 5 130 1 rfl rfl rfl) ?_; refine JR ?_; refine Qt ?_; refine Zi ?_; refine Qn ?_; refine Ql ?_; refine Qrd ?_; refine Qag ?_; refine ZY ?_; refine ZE ?_; refine Qed ?_; refine Qq ?_; refine Zo ?_; refine Z6 ?_; refine QPd ?_; refine Zi ?_; refine Qn ?_; refine Xk (Yt 130 rfl) ?_; refine Xk (Ys 4 130 rfl rfl (by simp only [List.length_append])) ?_
  (show AWP Tryz.prog E _ _ _; refine X1 ?_; exact (show Xd _ _ _ _ _ from ⟨_, St.le_refl _, ⟨rfl, trivial⟩, X3 _⟩))
 case neg =>
  have hn : ¬ (i : Int) < (l.map Xa).length := by omega
  have hn2 : (i : Int) = (l.map Xa).length := by omega
  clear h1 h2 hik hi
  refine Ql ?_; refine QYc ?_; refine QMb ?_; refine ZE ?_; refine Qab ?_; refine X0 ?_; refine Xk (U1 5 130 1 rfl rfl rfl) ?_; refine JR ?_; refine Qt ?_; refine Zi ?_; refine Qn ?_; refine Ql ?_; refine Qrd ?_; refine QMb ?_; refine ZB ?_; refine Qed ?_; refine Qq ?_; refine Zo ?_; refine Z6 ?_; refine QPd ?_; refine Zi ?_; refine Qn ?_; refine Xk (Yt 130 rfl) ?_; refine Xk (Ys 4 130 rfl rfl (by simp only [List.length_append])) ?_
  (show AWP Tryz.prog E _ _ _; refine X1 ?_; exact (show Xd _ _ _ _ _ from ⟨_, St.le_refl _, ⟨rfl, trivial⟩, X3 _⟩))
theorem X8u (l : List Prp) (key : List UInt8) (v : Val) (hl : l.length ≤ 100000) (hv : Ym v) : Con Tryz.prog 174 [] [.d (.sl 6 (l.map X7)), XC key, Xm v] [] (.tup [.d (.sl 6 ((XP l key v).map X7)), ab (decide ((XP l key v).length ≤ 16))]) := by
 refine Xc (xs := [.d (.sl 6 ((XP l key v).map X7)), ab (decide ((XP l key v).length ≤ 16))]) Tryz.func174 rfl Tryz.ntmps174 rfl rfl rfl (fun E => ?_)
 have hlm : (l.map X7).length = l.length := by simp
 have hnu := XbE v hv
 have hRl : (XP l key v).length ≤ l.length + 1 := by
  refine Nat.le_trans X1j ?_
  split <;> simp
 generalize hR : XP l key v = R at *
 unfold XP at hR
 clear hv
 obtain ⟨vk, vn, vd, vs, vl⟩ := v
 simp only [Xm] at *
 refine QGb ?_; refine QBb ?_; refine Qc ?_; refine QXc ?_; refine Xk (U1 8 130 6 rfl rfl rfl) ?_
 refine Xz (ι := Nat × Bool × List Prp) (fun q => q.1 ≤ l.length ∧ q.2.2 ++ VE ltS Prp.key (l.drop q.1) key (if YA (.mk vk vn vd vs vl) = true then [] else [⟨key, .mk vk vn vd vs vl⟩]) q.2.1 = R) (fun q => ⟨68, [(0, .d (.sl 6 (l.map X7))), (1, XC key), (5, .ptr 100 0), (8, .own 130 (q.2.2.map X7).length), (9, ab q.2.1), (10, ai q.1)], [(100, .box [ai vk, ai vn, ai vd, .d (.v (.string (X5 vs))), .d (.sl 5 (XG vl))]), (130, .row 6 (q.2.2.map X7))]⟩) (fun q => l.length - q.1) (0, false, []) ⟨Nat.zero_le _, by simpa [VE] using hR⟩
  (X6 rfl JM ⟨rfl, rfl, trivial⟩) ?_
 rintro ⟨i, b, out⟩ ⟨hi, hg⟩
 simp only at hi hg
 have hrm := X2l hg
 have hroom : (out.map X7).length ≤ 100001 := by rw [List.length_map]; omega
 by_cases hil : i < l.length
 case neg =>
  have hn : ¬ (i : Int) < (l.map X7).length := by omega
  rw [List.drop_of_length_le (by omega), X6v] at hg
  cases b with
  | true =>
   rw [if_pos rfl, List.append_nil] at hg
   subst hg
   have hm : (out.map X7).length = out.length := by simp
   refine Qgd ?_; refine Qwe ?_; refine QJ ?_; refine ZC ?_; refine Qga ?_; refine Qe ?_; refine Qah ?_; refine Xk (Ys 6 130 rfl rfl rfl) ?_
   (show AWP Tryz.prog E _ _ _; refine X1 ?_; refine (show Xd _ _ _ _ _ from ⟨_, St.le_refl _, ⟨rfl, ?_, trivial⟩, X3 _⟩); refine Eq.trans (b := ab (decide ((_ : Int) ≤ 16))) rfl ?_; exact congrArg ab (decide_eq_decide.2 (by (try simp only [List.length_append, List.length_map, List.length_singleton]); omega)))
  | false =>
   rw [if_neg (by simp)] at hg
   cases hz : YA (.mk vk vn vd vs vl) with
   | true =>
    rw [hz] at hg hnu
    rw [if_pos rfl, List.append_nil] at hg
    subst hg
    have hm : (out.map X7).length = out.length := by simp
    refine Qgd ?_; refine Qwe ?_; refine Qjc ?_; refine Zr (hcon := hnu) ?_; refine Qkg ?_; refine Qj ?_; refine Qe ?_; refine Qah ?_; refine Xk (Ys 6 130 rfl rfl rfl) ?_
    (show AWP Tryz.prog E _ _ _; refine X1 ?_; refine (show Xd _ _ _ _ _ from ⟨_, St.le_refl _, ⟨rfl, ?_, trivial⟩, X3 _⟩); refine Eq.trans (b := ab (decide ((_ : Int) ≤ 16))) rfl ?_; exact congrArg ab (decide_eq_decide.2 (by (try simp only [List.length_append, List.length_map, List.length_singleton]); omega)))
   | false =>
    rw [hz] at hg hnu
    rw [if_neg (by simp)] at hg
    subst hg
    have hm : (out.map X7).length = out.length := by simp
    have hap : (out ++ [(⟨key, .mk vk vn vd vs vl⟩ : Prp)]).map X7 = out.map X7 ++ [[.v (.string (X5 key)), .v (.int .i64 vk), .v (.int .i64 vn), .v (.int .i64 vd), .v (.string (X5 vs)), .sl 5 (XG vl)]] := by simp [X7, Y5]
    rw [hap, List.length_append, List.length_singleton]
    refine Qgd ?_; refine Qwe ?_; refine Qjc ?_; refine Zr (hcon := hnu) ?_; refine Qkg ?_; refine Qbh ?_; refine Qah ?_; refine Xk (Ys 6 130 rfl rfl (by simp only [List.length_append])) ?_
    (show AWP Tryz.prog E _ _ _; refine X1 ?_; refine (show Xd _ _ _ _ _ from ⟨_, St.le_refl _, ⟨rfl, ?_, trivial⟩, X3 _⟩); refine Eq.trans (b := ab (decide ((_ : Int) ≤ 16))) rfl ?_; exact congrArg ab (decide_eq_decide.2 (by (try simp only [List.length_append, List.length_map, List.length_singleton]); omega)))
 have hn : (i : Int) < (l.map X7).length := by omega
 obtain ⟨x, hx⟩ := Xs (l := l) hil
 have hxc : (l.map X7)[i]? = some (X7 x) := Xx hx
 have hirr : ltS x.key key = true → x.key ≠ key := fun h e => by rw [e, Vo.irr] at h; cases h
 rw [X6n hx hirr] at hg
 obtain ⟨xk, ⟨wk, wn, wd, ws, wl⟩⟩ := x
 simp only [X7, Y5] at hxc hg hirr
 clear hx
 cases b with
 | true =>
  rw [if_neg (by simp), List.nil_append, Bool.true_or] at hg
  by_cases hq : xk = key
  ·subst hq
   rw [if_pos rfl, List.nil_append] at hg
   refine QZc ?_; refine Qwe ?_; refine QMb ?_; refine ZC ?_; refine Qga ?_; refine Qe ?_; refine Qcd ?_; refine ZY ?_; refine Qkb ?_
   refine ⟨(i + 1, true, out), ⟨by simp only; omega, hg⟩, by simp only; omega, ?_⟩
   dsimp only
   skip
   exact X6 rfl ⟨JL, JL, JL, JL, JL, JL, trivial⟩ ⟨rfl, rfl, trivial⟩
  ·rw [if_neg hq, ← List.append_assoc] at hg
   have hap : (out ++ [(⟨xk, .mk wk wn wd ws wl⟩ : Prp)]).map X7 = out.map X7 ++ [[.v (.string (X5 xk)), .v (.int .i64 wk), .v (.int .i64 wn), .v (.int .i64 wd), .v (.string (X5 ws)), .sl 5 (XG wl)]] := by simp [X7, Y5]
   refine QZc ?_; refine Qwe ?_; refine QMb ?_; refine ZC ?_; refine Qga ?_; refine Qch ?_
   refine ⟨(i + 1, true, out ++ [(⟨xk, .mk wk wn wd ws wl⟩ : Prp)]), ⟨by simp only; omega, hg⟩, by simp only; omega, ?_⟩
   dsimp only
   rw [hap]
   exact Qdh
 | false =>
  by_cases hp : ltS xk key = true
  ·have hq := hirr hp
   rw [hp, if_neg (by simp), if_neg hq, List.nil_append, ← List.append_assoc] at hg
   have hp' : Op.bytesLess xk key = true := hp
   have hap : (out ++ [(⟨xk, .mk wk wn wd ws wl⟩ : Prp)]).map X7 = out.map X7 ++ [[.v (.string (X5 xk)), .v (.int .i64 wk), .v (.int .i64 wn), .v (.int .i64 wd), .v (.string (X5 ws)), .sl 5 (XG wl)]] := by simp [X7, Y5]
   refine QZc ?_; refine Qwe ?_; refine Qt ?_; refine Qcd ?_; refine Z0y ?_; refine ZB ?_; refine Qj ?_; refine Qch ?_
   refine ⟨(i + 1, false, out ++ [(⟨xk, .mk wk wn wd ws wl⟩ : Prp)]), ⟨by simp only; omega, hg⟩, by simp only; omega, ?_⟩
   dsimp only
   rw [hap]
   exact Qdh
  ·have hp : ltS xk key = false := by simpa using hp
   have hp' : Op.bytesLess xk key = false := hp
   rw [hp, if_pos ⟨rfl, rfl⟩] at hg
   cases hz : YA (.mk vk vn vd vs vl) with
   | true =>
    rw [hz] at hg hnu
    rw [if_pos rfl, List.nil_append] at hg
    by_cases hq : xk = key
    ·subst hq
     rw [if_pos rfl, List.nil_append] at hg
     refine Qeh ?_; refine QUc ?_; refine Qe ?_; refine Qcd ?_; refine ZY ?_; refine Qkb ?_
     refine ⟨(i + 1, true, out), ⟨by simp only; omega, hg⟩, by simp only; omega, ?_⟩
     dsimp only
     skip
     exact X6 rfl ⟨JL, JL, JL, JL, JL, JL, trivial⟩ ⟨rfl, rfl, trivial⟩
    ·rw [if_neg hq, ← List.append_assoc] at hg
     have hap : (out ++ [(⟨xk, .mk wk wn wd ws wl⟩ : Prp)]).map X7 = out.map X7 ++ [[.v (.string (X5 xk)), .v (.int .i64 wk), .v (.int .i64 wn), .v (.int .i64 wd), .v (.string (X5 ws)), .sl 5 (XG wl)]] := by simp [X7, Y5]
     refine Qeh ?_; refine QUc ?_; refine Qch ?_
     refine ⟨(i + 1, true, out ++ [(⟨xk, .mk wk wn wd ws wl⟩ : Prp)]), ⟨by simp only; omega, hg⟩, by simp only; omega, ?_⟩
     dsimp only
     rw [hap]
     exact Qdh
   | false =>
    rw [hz] at hg hnu
    rw [if_neg (by simp)] at hg
    by_cases hq : xk = key
    ·subst hq
     rw [if_pos rfl, List.append_nil, ← List.append_assoc] at hg
     have hap : (out ++ [(⟨xk, .mk vk vn vd vs vl⟩ : Prp)]).map X7 = out.map X7 ++ [[.v (.string (X5 xk)), .v (.int .i64 vk), .v (.int .i64 vn), .v (.int .i64 vd), .v (.string (X5 vs)), .sl 5 (XG vl)]] := by simp [X7, Y5]
     refine Qeh ?_; refine Zd ?_; refine Qbh ?_; refine Qcd ?_; refine ZY ?_; refine Qkb ?_
     refine ⟨(i + 1, true, out ++ [(⟨xk, .mk vk vn vd vs vl⟩ : Prp)]), ⟨by simp only; omega, hg⟩, by simp only; omega, ?_⟩
     dsimp only
     rw [hap]
     exact Qdh
    ·rw [if_neg hq, List.append_assoc, ← List.append_assoc, ← List.append_assoc] at hg
     have hap : (out ++ [(⟨key, .mk vk vn vd vs vl⟩ : Prp)] ++ [(⟨xk, .mk wk wn wd ws wl⟩ : Prp)]).map X7 = (out.map X7 ++ [[.v (.string (X5 key)), .v (.int .i64 vk), .v (.int .i64 vn), .v (.int .i64 vd), .v (.string (X5 vs)), .sl 5 (XG vl)]]) ++ [[.v (.string (X5 xk)), .v (.int .i64 wk), .v (.int .i64 wn), .v (.int .i64 wd), .v (.string (X5 ws)), .sl 5 (XG wl)]] := by simp [X7, Y5]
     refine Qeh ?_; refine Zd ?_; refine Qbh ?_; refine Qcd ?_; refine ZY ?_; refine Qed ?_; refine Qt ?_; refine Qdc ?_; refine Quf ?_
     refine ⟨(i + 1, true, out ++ [(⟨key, .mk vk vn vd vs vl⟩ : Prp)] ++ [(⟨xk, .mk wk wn wd ws wl⟩ : Prp)]), ⟨by simp only; omega, hg⟩, by simp only; omega, ?_⟩
     dsimp only
     rw [hap]
     exact Qdh
theorem XaA (g : Gra) (n : Nod) (hl : g.nodes.length ≤ 100000) (hn1 : 0 ≤ n.id) (hn2 : n.id ≤ 1000000) : Con Tryz.prog 113 [] [Xj g, .agg [ai n.id, .d (.sl 1 (n.labels.map Xa)), .d (.sl 6 (n.props.map X7))]] [] (Xj (Ui g n)) := by
 refine Xc (xs := [Xj (Ui g n)]) Tryz.func113 rfl Tryz.ntmps113 rfl rfl rfl (fun E => ?_)
 obtain ⟨ns, es, nn, ne⟩ := g
 obtain ⟨nid, nl, np⟩ := n
 unfold Ui Xj
 simp only at hl hn1 hn2 ⊢
 have hRl : (Yp ltI Nod.id ns nid [(⟨nid, nl, np⟩ : Nod)]).length ≤ ns.length + 1 := by
  have := X1j (lt := ltI) (key := Nod.id) (l := ns) (k := nid) (ns := [(⟨nid, nl, np⟩ : Nod)])
  simpa using this
 generalize hR : Yp ltI Nod.id ns nid [(⟨nid, nl, np⟩ : Nod)] = R at *
 have hlm : (ns.map X9).length = ns.length := by simp
 refine Qfh ?_; refine JD ?_; refine Qc ?_; refine QXc ?_; refine Xk (U1 5 130 3 rfl rfl rfl) ?_
 refine Xz (ι := Nat × Bool × List Nod) (fun q => q.1 ≤ ns.length ∧ q.2.2 ++ VE ltI Nod.id (ns.drop q.1) nid [(⟨nid, nl, np⟩ : Nod)] q.2.1 = R) (fun q => ⟨65, [(2, .ptr 100 0), (3, .ptr 101 0), (4, .ptr 102 0), (5, .own 130 (q.2.2.map X9).length), (6, ab q.2.1), (7, ai q.1)], [(100, .box [.d (.sl 3 (ns.map X9)), .d (.sl 5 (es.map Xf)), ai nn, ai ne]), (101, .box [ai nid, .d (.sl 1 (nl.map Xa)), .d (.sl 6 (np.map X7))]), (102, .box [ani, ani, ai 0, ai 0]), (130, .row 3 (q.2.2.map X9))]⟩) (fun q => ns.length - q.1) (0, false, []) ⟨Nat.zero_le _, by simpa [VE] using hR⟩
  (X6 rfl JM ⟨rfl, rfl, rfl, rfl, trivial⟩) ?_
 rintro ⟨i, b, out⟩ ⟨hi, hg⟩
 simp only at hi hg
 have hrm := X2l hg
 have hroom : (out.map X9).length ≤ 100001 := by rw [List.length_map]; omega
 by_cases hil : i < ns.length
 case neg =>
  have hn : ¬ (i : Int) < (ns.map X9).length := by omega
  rw [List.drop_of_length_le (by omega), X6v] at hg
  have hR2 : R.length ≤ ns.length + 1 := hRl
  cases b with
  | true =>
   rw [if_pos rfl, List.append_nil] at hg
   subst hg
   refine Qgh ?_; refine Qhh ?_; refine Qih ?_
   (show AWP Tryz.prog E _ _ _; refine X1 ?_; exact (show Xd _ _ _ _ _ from ⟨_, St.le_refl _, ⟨⟨102, 0, _, rfl, rfl, .inr ⟨4, _, rfl, rfl, rfl, rfl⟩⟩, trivial⟩, X3 _⟩))
  | false =>
   rw [if_neg (by simp)] at hg
   subst hg
   have hap : (out ++ [(⟨nid, nl, np⟩ : Nod)]).map X9 = out.map X9 ++ [[.v (.int .i64 nid), .sl 1 (nl.map Xa), .sl 6 (np.map X7)]] := by simp [X9]
   rw [hap]
   refine Qgh ?_; refine Qwe ?_; refine Qm ?_; refine Qfb ?_; refine ZX ?_; refine Zo ?_; refine Qn ?_; refine Qih ?_
   (show AWP Tryz.prog E _ _ _; refine X1 ?_; exact (show Xd _ _ _ _ _ from ⟨_, St.le_refl _, ⟨⟨102, 0, _, rfl, rfl, .inr ⟨4, _, rfl, rfl, rfl, rfl⟩⟩, trivial⟩, X3 _⟩))
 have hn : (i : Int) < (ns.map X9).length := by omega
 obtain ⟨x, hx⟩ := Xs (l := ns) hil
 have hxc : (ns.map X9)[i]? = some (X9 x) := Xx hx
 have hirr : ltI x.id nid = true → x.id ≠ nid := fun h e => by rw [e, YM.irr] at h; cases h
 rw [X6n hx hirr] at hg
 obtain ⟨xid, xl, xp⟩ := x
 simp only [X9] at hxc hg hirr
 clear hx
 cases b with
 | true =>
  rw [if_neg (by simp), List.nil_append, Bool.true_or] at hg
  by_cases hq : xid = nid
  ·subst hq
   rw [if_pos rfl, List.nil_append] at hg
   refine Qkh ?_; refine Qlh ?_
   refine ⟨(i + 1, true, out), ⟨by simp only; omega, hg⟩, by simp only; omega, ?_⟩
   dsimp only
   skip
   exact X6 rfl ⟨JL, JL, JL, JL, JL, JL, trivial⟩ ⟨rfl, rfl, rfl, rfl, trivial⟩
  ·rw [if_neg hq, ← List.append_assoc] at hg
   have hap : (out ++ [(⟨xid, xl, xp⟩ : Nod)]).map X9 = out.map X9 ++ [[.v (.int .i64 xid), .sl 1 (xl.map Xa), .sl 6 (xp.map X7)]] := by simp [X9]
   refine Qkh ?_; refine Qnh ?_
   refine ⟨(i + 1, true, out ++ [(⟨xid, xl, xp⟩ : Nod)]), ⟨by simp only; omega, hg⟩, by simp only; omega, ?_⟩
   dsimp only
   rw [hap]
   exact Qoh
 | false =>
  by_cases hp : xid < nid
  ·have hpb : ltI xid nid = true := decide_eq_true hp
   have hq := hirr hpb
   have hp' : ¬ nid ≤ xid := by omega
   rw [hpb, if_neg (by simp), if_neg hq, List.nil_append, ← List.append_assoc] at hg
   have hap : (out ++ [(⟨xid, xl, xp⟩ : Nod)]).map X9 = out.map X9 ++ [[.v (.int .i64 xid), .sl 1 (xl.map Xa), .sl 6 (xp.map X7)]] := by simp [X9]
   refine Qph ?_; refine Qj ?_; refine Qnh ?_
   refine ⟨(i + 1, false, out ++ [(⟨xid, xl, xp⟩ : Nod)]), ⟨by simp only; omega, hg⟩, by simp only; omega, ?_⟩
   dsimp only
   rw [hap]
   exact Qoh
  ·have hpb : ltI xid nid = false := decide_eq_false hp
   have hp' : nid ≤ xid := by omega
   rw [hpb, if_pos ⟨rfl, rfl⟩] at hg
   by_cases hq : xid = nid
   ·subst hq
    rw [if_pos rfl, List.append_nil, ← List.append_assoc] at hg
    have hap : (out ++ [(⟨xid, nl, np⟩ : Nod)]).map X9 = out.map X9 ++ [[.v (.int .i64 xid), .sl 1 (nl.map Xa), .sl 6 (np.map X7)]] := by simp [X9]
    refine Qqh ?_; refine Qlh ?_
    refine ⟨(i + 1, true, out ++ [(⟨xid, nl, np⟩ : Nod)]), ⟨by simp only; omega, hg⟩, by simp only; omega, ?_⟩
    dsimp only
    rw [hap]
    exact Qoh
   ·rw [if_neg hq, List.append_assoc, ← List.append_assoc, ← List.append_assoc] at hg
    have hap : (out ++ [(⟨nid, nl, np⟩ : Nod)] ++ [(⟨xid, xl, xp⟩ : Nod)]).map X9 = (out.map X9 ++ [[.v (.int .i64 nid), .sl 1 (nl.map Xa), .sl 6 (np.map X7)]]) ++ [[.v (.int .i64 xid), .sl 1 (xl.map Xa), .sl 6 (xp.map X7)]] := by simp [X9]
    refine Qqh ?_; refine Qnh ?_
    refine ⟨(i + 1, true, out ++ [(⟨nid, nl, np⟩ : Nod)] ++ [(⟨xid, xl, xp⟩ : Nod)]), ⟨by simp only; omega, hg⟩, by simp only; omega, ?_⟩
    dsimp only
    rw [hap]
    exact Qoh
theorem X8N (g : Gra) (n : Edg) (hl : g.edges.length ≤ 100000) (hn1 : 0 ≤ n.id) (hn2 : n.id ≤ 1000000) : Con Tryz.prog 114 [] [Xj g, .agg [ai n.id, ai n.src, ai n.dst, XC n.typ, .d (.sl 6 (n.props.map X7))]] [] (Xj (Vs g n)) := by
 refine Xc (xs := [Xj (Vs g n)]) Tryz.func114 rfl Tryz.ntmps114 rfl rfl rfl (fun E => ?_)
 obtain ⟨ns, es, nn, ne⟩ := g
 obtain ⟨nid, nsr, nds, nt, np⟩ := n
 unfold Vs Xj
 simp only at hl hn1 hn2 ⊢
 have hRl : (Yp ltI Edg.id es nid [(⟨nid, nsr, nds, nt, np⟩ : Edg)]).length ≤ es.length + 1 := by
  have := X1j (lt := ltI) (key := Edg.id) (l := es) (k := nid) (ns := [(⟨nid, nsr, nds, nt, np⟩ : Edg)])
  simpa using this
 generalize hR : Yp ltI Edg.id es nid [(⟨nid, nsr, nds, nt, np⟩ : Edg)] = R at *
 have hlm : (es.map Xf).length = es.length := by simp
 refine Qfh ?_; refine JD ?_; refine Qc ?_; refine QXc ?_; refine Xk (U1 5 130 5 rfl rfl rfl) ?_
 refine Xz (ι := Nat × Bool × List Edg) (fun q => q.1 ≤ es.length ∧ q.2.2 ++ VE ltI Edg.id (es.drop q.1) nid [(⟨nid, nsr, nds, nt, np⟩ : Edg)] q.2.1 = R) (fun q => ⟨65, [(2, .ptr 100 0), (3, .ptr 101 0), (4, .ptr 102 0), (5, .own 130 (q.2.2.map Xf).length), (6, ab q.2.1), (7, ai q.1)], [(100, .box [.d (.sl 3 (ns.map X9)), .d (.sl 5 (es.map Xf)), ai nn, ai ne]), (101, .box [ai nid, ai nsr, ai nds, .d (.v (.string (X5 nt))), .d (.sl 6 (np.map X7))]), (102, .box [ani, ani, ai 0, ai 0]), (130, .row 5 (q.2.2.map Xf))]⟩) (fun q => es.length - q.1) (0, false, []) ⟨Nat.zero_le _, by simpa [VE] using hR⟩
  (X6 rfl JM ⟨rfl, rfl, rfl, rfl, trivial⟩) ?_
 rintro ⟨i, b, out⟩ ⟨hi, hg⟩
 simp only at hi hg
 have hrm := X2l hg
 have hroom : (out.map Xf).length ≤ 100001 := by rw [List.length_map]; omega
 by_cases hil : i < es.length
 case neg =>
  have hn : ¬ (i : Int) < (es.map Xf).length := by omega
  rw [List.drop_of_length_le (by omega), X6v] at hg
  have hR2 : R.length ≤ es.length + 1 := hRl
  cases b with
  | true =>
   rw [if_pos rfl, List.append_nil] at hg
   subst hg
   refine Qgh ?_; refine Qhh ?_; refine Qih ?_
   (show AWP Tryz.prog E _ _ _; refine X1 ?_; exact (show Xd _ _ _ _ _ from ⟨_, St.le_refl _, ⟨⟨102, 0, _, rfl, rfl, .inr ⟨4, _, rfl, rfl, rfl, rfl⟩⟩, trivial⟩, X3 _⟩))
  | false =>
   rw [if_neg (by simp)] at hg
   subst hg
   have hap : (out ++ [(⟨nid, nsr, nds, nt, np⟩ : Edg)]).map Xf = out.map Xf ++ [[.v (.int .i64 nid), .v (.int .i64 nsr), .v (.int .i64 nds), .v (.string (X5 nt)), .sl 6 (np.map X7)]] := by simp [Xf]
   rw [hap]
   refine Qgh ?_; refine Qwe ?_; refine Qm ?_; refine Qfb ?_; refine ZX ?_; refine Zo ?_; refine Qn ?_; refine Qih ?_
   (show AWP Tryz.prog E _ _ _; refine X1 ?_; exact (show Xd _ _ _ _ _ from ⟨_, St.le_refl _, ⟨⟨102, 0, _, rfl, rfl, .inr ⟨4, _, rfl, rfl, rfl, rfl⟩⟩, trivial⟩, X3 _⟩))
 have hn : (i : Int) < (es.map Xf).length := by omega
 obtain ⟨x, hx⟩ := Xs (l := es) hil
 have hxc : (es.map Xf)[i]? = some (Xf x) := Xx hx
 have hirr : ltI x.id nid = true → x.id ≠ nid := fun h e => by rw [e, YM.irr] at h; cases h
 rw [X6n hx hirr] at hg
 obtain ⟨xid, xs, xd, xt, xp⟩ := x
 simp only [Xf] at hxc hg hirr
 clear hx
 cases b with
 | true =>
  rw [if_neg (by simp), List.nil_append, Bool.true_or] at hg
  by_cases hq : xid = nid
  ·subst hq
   rw [if_pos rfl, List.nil_append] at hg
   refine Qkh ?_; refine Qlh ?_
   refine ⟨(i + 1, true, out), ⟨by simp only; omega, hg⟩, by simp only; omega, ?_⟩
   dsimp only
   skip
   exact X6 rfl ⟨JL, JL, JL, JL, JL, JL, trivial⟩ ⟨rfl, rfl, rfl, rfl, trivial⟩
  ·rw [if_neg hq, ← List.append_assoc] at hg
   have hap : (out ++ [(⟨xid, xs, xd, xt, xp⟩ : Edg)]).map Xf = out.map Xf ++ [[.v (.int .i64 xid), .v (.int .i64 xs), .v (.int .i64 xd), .v (.string (X5 xt)), .sl 6 (xp.map X7)]] := by simp [Xf]
   refine Qkh ?_; refine Qnh ?_
   refine ⟨(i + 1, true, out ++ [(⟨xid, xs, xd, xt, xp⟩ : Edg)]), ⟨by simp only; omega, hg⟩, by simp only; omega, ?_⟩
   dsimp only
   rw [hap]
   exact Qoh
 | false =>
  by_cases hp : xid < nid
  ·have hpb : ltI xid nid = true := decide_eq_true hp
   have hq := hirr hpb
   have hp' : ¬ nid ≤ xid := by omega
   rw [hpb, if_neg (by simp), if_neg hq, List.nil_append, ← List.append_assoc] at hg
   have hap : (out ++ [(⟨xid, xs, xd, xt, xp⟩ : Edg)]).map Xf = out.map Xf ++ [[.v (.int .i64 xid), .v (.int .i64 xs), .v (.int .i64 xd), .v (.string (X5 xt)), .sl 6 (xp.map X7)]] := by simp [Xf]
   refine Qph ?_; refine Qj ?_; refine Qnh ?_
   refine ⟨(i + 1, false, out ++ [(⟨xid, xs, xd, xt, xp⟩ : Edg)]), ⟨by simp only; omega, hg⟩, by simp only; omega, ?_⟩
   dsimp only
   rw [hap]
   exact Qoh
  ·have hpb : ltI xid nid = false := decide_eq_false hp
   have hp' : nid ≤ xid := by omega
   rw [hpb, if_pos ⟨rfl, rfl⟩] at hg
   by_cases hq : xid = nid
   ·subst hq
    rw [if_pos rfl, List.append_nil, ← List.append_assoc] at hg
    have hap : (out ++ [(⟨xid, nsr, nds, nt, np⟩ : Edg)]).map Xf = out.map Xf ++ [[.v (.int .i64 xid), .v (.int .i64 nsr), .v (.int .i64 nds), .v (.string (X5 nt)), .sl 6 (np.map X7)]] := by simp [Xf]
    refine Qqh ?_; refine Qlh ?_
    refine ⟨(i + 1, true, out ++ [(⟨xid, nsr, nds, nt, np⟩ : Edg)]), ⟨by simp only; omega, hg⟩, by simp only; omega, ?_⟩
    dsimp only
    rw [hap]
    exact Qoh
   ·rw [if_neg hq, List.append_assoc, ← List.append_assoc, ← List.append_assoc] at hg
    have hap : (out ++ [(⟨nid, nsr, nds, nt, np⟩ : Edg)] ++ [(⟨xid, xs, xd, xt, xp⟩ : Edg)]).map Xf = (out.map Xf ++ [[.v (.int .i64 nid), .v (.int .i64 nsr), .v (.int .i64 nds), .v (.string (X5 nt)), .sl 6 (np.map X7)]]) ++ [[.v (.int .i64 xid), .v (.int .i64 xs), .v (.int .i64 xd), .v (.string (X5 xt)), .sl 6 (xp.map X7)]] := by simp [Xf]
    refine Qqh ?_; refine Qnh ?_
    refine ⟨(i + 1, true, out ++ [(⟨nid, nsr, nds, nt, np⟩ : Edg)] ++ [(⟨xid, xs, xd, xt, xp⟩ : Edg)]), ⟨by simp only; omega, hg⟩, by simp only; omega, ?_⟩
    dsimp only
    rw [hap]
    exact Qoh
open Go
abbrev AD := Int × Int × Int
def cAD (a : AD) : List D := [.v (.int .i64 a.1), .v (.int .i64 a.2.1), .v (.int .i64 a.2.2)]
def ltA (a b : AD) : Bool := decide (a.2.1 < b.2.1) || (decide (a.2.1 = b.2.1) && decide (a.2.2 < b.2.2))
def X0d (out : List AD) (a : AD) : Nat → Nat
 | 0 => 0
 | k + 1 => match out[k]? with
  | some b => if ltA a b then X0d out a k else k + 1
  | none => k + 1
def VN (out : List AD) (a : AD) : List AD := out.take (X0d out a out.length) ++ a :: out.drop (X0d out a out.length)
theorem X83 (out : List AD) (a : AD) : ∀ k, X0d out a k ≤ k
 | 0 => Nat.le_refl _
 | k + 1 => by
  rw [X0d]
  cases h : out[k]? with
  | none => exact Nat.le_refl _
  | some b =>
   simp only
   split
   ·exact Nat.le_succ_of_le (X83 out a k)
   ·exact Nat.le_refl _
theorem XdG {out : List AD} {a b : AD} {k : Nat} (h : out[k]? = some b) : X0d out a (k + 1) = if ltA a b then X0d out a k else k + 1 := by rw [X0d, h]
theorem X85 (out : List AD) (a : AD) : (VN out a).length = out.length + 1 := by
 have := X83 out a out.length
 unfold VN
 rw [List.length_append, List.length_cons, List.length_take, List.length_drop]; omega
def Yr (out : List AD) (a : AD) (k : Nat) : List AD := if k = out.length then out ++ [a] else out.take (k + 1) ++ out.drop k
theorem X7F {out : List AD} {a : AD} {k : Nat} (h : k ≤ out.length) : (Yr out a k).length = out.length + 1 := by
 unfold Yr
 split
 ·simp
 ·rw [List.length_append, List.length_take, List.length_drop]; omega
theorem XhM {out : List AD} {a b : AD} {k : Nat} (h : out[k]? = some b) : (Yr out a (k + 1))[k]? = some b := by
 have hl := (List.getElem?_eq_some_iff.1 h).1
 unfold Yr
 split
 ·rw [List.getElem?_append_left hl]; exact h
 ·rw [List.getElem?_append_left (by rw [List.length_take]; omega), List.getElem?_take, if_pos (by omega)]; exact h
theorem Xe4 {out : List AD} {a b : AD} {k : Nat} (h : out[k]? = some b) : (Yr out a (k + 1)).set (k + 1) b = Yr out a k := by
 obtain ⟨hl, hb⟩ := List.getElem?_eq_some_iff.1 h
 have e : Yr out a k = out.take (k + 1) ++ out.drop k := by unfold Yr; rw [if_neg (by omega)]
 have ed : out.drop k = b :: out.drop (k + 1) := by rw [List.drop_eq_getElem_cons hl, hb]
 rw [e]
 unfold Yr
 split
 ·rename_i q
  rw [List.set_append_right _ _ (by omega), q, Nat.sub_self, List.set_cons_zero, List.take_length, ed, show k + 1 = out.length from q, List.drop_length]
 ·rename_i q
  have hk : k + 1 < out.length := by omega
  rw [show k + 1 + 1 = (k + 1) + 1 from rfl, List.take_succ_eq_append_getElem hk, List.append_assoc, List.set_append_right _ _ (by rw [List.length_take]; omega), List.length_take, Nat.min_eq_left (by omega), Nat.sub_self, ed]
  rfl
theorem Xhz {out : List AD} {a : AD} {k : Nat} (h : k ≤ out.length) : (Yr out a k).set k a = out.take k ++ a :: out.drop k := by
 unfold Yr
 split
 ·rename_i q
  subst q
  rw [List.set_append_right _ _ (Nat.le_refl _), Nat.sub_self, List.set_cons_zero, List.take_length, List.drop_length]
 ·rename_i q
  have hk : k < out.length := by omega
  rw [List.take_succ_eq_append_getElem hk, List.append_assoc, List.set_append_right _ _ (by rw [List.length_take]; omega), List.length_take, Nat.min_eq_left (by omega), Nat.sub_self]
  rfl
def Vy (e : Edg) (id : Int) : AD := if e.src = id then (id, e.dst, e.id) else if e.dst = id then (id, e.src, e.id) else (0, 0, 0)
def isA (e : Edg) (id : Int) : Bool := decide (e.src = id) || decide (e.dst = id)
def UV (id : Int) : List AD → List Edg → List AD
 | out, [] => out
 | out, e :: r => if isA e id then UV id (VN out (Vy e id)) r else UV id out r
theorem XhT {id : Int} {out : List AD} {l : List Edg} {i : Nat} {e : Edg} (h : l[i]? = some e) : UV id out (l.drop i) = if isA e id then UV id (VN out (Vy e id)) (l.drop (i + 1)) else UV id out (l.drop (i + 1)) := by
 obtain ⟨hl, h⟩ := List.getElem?_eq_some_iff.1 h
 rw [List.drop_eq_getElem_cons hl, h, UV]
theorem X4t (id : Int) : ∀ (l : List Edg) (out : List AD), (UV id out l).length = out.length + l.countP fun e => isA e id
 | [], out => by simp [UV]
 | e :: r, out => by
  rw [UV, List.countP_cons]
  split
  ·rw [X4t id r, X85]; omega
  ·rw [X4t id r]; omega
theorem XgD (l : List Edg) (id : Int) : decide (0 < (UV id [] l).length) = UQ l id := by
 rw [X4t, List.length_nil, Nat.zero_add]
 unfold UQ
 rw [Bool.eq_iff_iff]
 simp only [decide_eq_true_eq, List.any_eq_true]
 rw [List.countP_pos_iff]
 simp only [isA, Bool.or_eq_true, decide_eq_true_eq]
end Go.Fw
