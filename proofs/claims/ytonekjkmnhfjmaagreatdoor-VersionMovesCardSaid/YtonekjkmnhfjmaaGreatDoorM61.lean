/- The reference's histories: new ones, states, commits, changes since a time, pruning, chains. -/
import Derived.Test.YtonekjkmnhfjmaaGreatDoorM51
import Derived.Test.YtonekjkmnhfjmaaGreatDoorM53
import Derived.Test.YtonekjkmnhfjmaaGreatDoorM54
set_option maxHeartbeats 16000000
namespace Go.Fw
open Go Go.Proofs
set_option maxRecDepth 100000
set_option linter.unusedVariables false
set_option linter.unusedSimpArgs false
theorem Xem (h : Hist) (l : List Chg) (hf : HistFit h) (hl : X0m l) : Con Tryz.prog 30 [] [Xq h, .d (.sl 10 (l.map XL))] [] (.tup [Xq (XX h l), ai (YC h l)]) := by
 refine Xc (xs := [Xq (XX h l), ai (YC h l)]) Tryz.func30 rfl Tryz.ntmps30 rfl rfl rfl (fun E => ?_)
 have hk := X11 h hf.hold
 have hv := U6 (h := h)
 have hlm := Ue h.cs
 by_cases c : XM h ≠ 0
 ·have ec : YC h l = XM h := by unfold YC; rw [if_pos c]
  unfold XX
  rw [ec, if_pos c]
  clear hv hf ec
  generalize XM h = e at *
  obtain ⟨base, ⟨ns, es, nn, ne⟩, cs⟩ := h
  simp only [Xq, List.map_nil] at *
  refine Qpd ?_; refine QEg ?_; refine QFg ?_
  (show AWP Tryz.prog E _ _ _; refine X1 ?_; exact (show Xd _ _ _ _ _ from ⟨_, Y5 101 (cs' := [ai 0, .d (.sl 3 []), .d (.sl 5 []), ai 0, ai 0, .d (.sl 2 [])]) rfl JM rfl, ⟨⟨101, 0, _, rfl, rfl, .inr ⟨6, _, rfl, rfl, rfl, rfl⟩⟩, rfl, trivial⟩, X3 _⟩))
 have c : XM h = 0 := by simpa using c
 have hv := hv.1 c
 by_cases c2 : h.cs.length = 1000
 ·have ec : YC h l = 20 := by unfold YC; rw [if_neg (by simp [c]), if_pos c2]
  unfold XX
  rw [ec, if_pos (by simp)]
  rw [c] at hk
  clear hv hf ec c
  obtain ⟨base, ⟨ns, es, nn, ne⟩, cs⟩ := h
  simp only [Xq, List.map_nil] at *
  have c2' : (1000 : Int) ≤ ((cs.map Xh).length : Int) := by omega
  refine QYg ?_; refine Zd ?_; refine Z2 ?_; refine Qrd ?_
  (show AWP Tryz.prog E _ _ _; refine X1 ?_; exact (show Xd _ _ _ _ _ from ⟨_, Y5 101 (cs' := [ai 0, .d (.sl 3 []), .d (.sl 5 []), ai 0, ai 0, .d (.sl 2 [])]) rfl JM rfl, ⟨⟨101, 0, _, rfl, rfl, .inr ⟨6, _, rfl, rfl, rfl, rfl⟩⟩, rfl, trivial⟩, X3 _⟩))
 have ec : YC h l = (Xo (XJ h.g h.cs).1 l).2.2 := by unfold YC; rw [if_neg (by simp [c]), if_neg c2]
 rw [c] at hk
 have htk : h.cs.take h.cs.length = h.cs := List.take_length
 have hat := X5U h h.cs.length hf.hold (X5O hv.g) (Nat.le_refl _) (by rw [htk]; exact hv.ok)
 rw [htk, ← hlm] at hat
 have ha2 := X3p (XJ h.g h.cs).1 l (VV (X10 _ _ hv.g hv.ok)) hl.2 hl.1
 have hcl := hv.cl
 have hlast := X7k h hv.b hv.cl
 have hlb : XB h + 1 ≤ 2000000000000000 ∧ 0 ≤ XB h := by have := hv.b; unfold XB; omega
 unfold XX
 rw [ec]
 clear hv hf c ec hl htk
 generalize (XJ h.g h.cs).1 = g1 at *
 generalize (Xo g1 l).1 = g2 at *
 generalize (Xo g1 l).2.1 = m at *
 generalize (Xo g1 l).2.2 = e at *
 by_cases c3 : e ≠ 0
 ·rw [if_pos c3]
  clear hlast hlb
  obtain ⟨base, ⟨ns, es, nn, ne⟩, cs⟩ := h
  obtain ⟨ns', es', nn', ne'⟩ := g1
  obtain ⟨ns2, es2, nn2, ne2⟩ := g2
  simp only [Xq, Xl, List.map_nil] at *
  have c2' : ¬ (1000 : Int) ≤ ((cs.map Xh).length : Int) := by omega
  refine QYg ?_; refine QBg ?_; refine Qbd ?_; refine QTa ?_; refine Zd ?_; refine Z9 (hcon := hat) ?_; refine Z1 ?_; refine Z9 (hcon := ha2) ?_; refine QQg ?_; refine Zw (γ := 102) ?_; refine Zy ?_; refine Z0 ?_; refine QFg ?_
  (show AWP Tryz.prog E _ _ _; refine X1 ?_; exact (show Xd _ _ _ _ _ from ⟨_, Y5 101 (cs' := [ai 0, .d (.sl 3 []), .d (.sl 5 []), ai 0, ai 0, .d (.sl 2 [])]) rfl JM rfl, ⟨⟨101, 0, _, rfl, rfl, .inr ⟨6, _, rfl, rfl, rfl, rfl⟩⟩, rfl, trivial⟩, X3 _⟩))
 rw [if_neg c3]
 obtain rfl : e = 0 := by simpa using c3
 have happ : (h.cs ++ [(⟨XB h + 1, l⟩ : Cmt)]).map Xh = [] ++ h.cs.map Xh ++ [[.v (.int .i64 (XB h + 1)), .sl 10 (l.map XL)]] := by simp [Xh]
 generalize XB h = z at *
 obtain ⟨base, ⟨ns, es, nn, ne⟩, cs⟩ := h
 obtain ⟨ns', es', nn', ne'⟩ := g1
 obtain ⟨ns2, es2, nn2, ne2⟩ := g2
 simp only [Xq, Xl] at *
 rw [happ]
 have c2' : ¬ (1000 : Int) ≤ ((cs.map Xh).length : Int) := by omega
 have hroom : (cs.map Xh).length ≤ 1000 := by omega
 refine QYg ?_; refine QBg ?_; refine Qbd ?_; refine QTa ?_; refine Zd ?_; refine Z9 (hcon := hat) ?_; refine Z1 ?_; refine Z9 (hcon := ha2) ?_; refine QQg ?_; refine Zw (γ := 102) ?_; refine Zy ?_; refine Z0 ?_; refine Qid ?_; refine Qc ?_; refine X0 ?_
 show AWP Tryz.prog E _ _ _
 refine Xm (YX 10 130 2 (by conv => lhs; whnf) rfl rfl) ?_; refine JR ?_; refine QZa ?_; refine Z6 ?_; refine QQ ?_; refine ZL ?_; refine Z9 (hcon := hlast) ?_; refine Zb ?_; refine Z1 ?_; refine Qrh ?_; refine X0 ?_
 show AWP Tryz.prog E _ _ _
 refine Xm (Yb 130 (by conv => lhs; whnf)) ?_; refine Xm (Yq 10 130 (by conv => lhs; whnf) (by conv => lhs; whnf) (by simp only [List.length_append])) ?_; refine QCe ?_; refine QRd ?_; refine Z1 ?_; refine Zx ?_; refine Qfa ?_
 (show AWP Tryz.prog E _ _ _; refine X1 ?_; exact (show Xd _ _ _ _ _ from ⟨_, St.le_refl _, ⟨⟨101, 0, _, rfl, rfl, .inr ⟨6, _, rfl, rfl, rfl, rfl⟩⟩, rfl, trivial⟩, X3 _⟩))
theorem Xe5 (h : Hist) (ts : Int) (hf : HistFit h) : Con Tryz.prog 31 [] [Xq h, ai ts] [] (.tup [.d (.sl 10 ((UK h ts).map XL)), ai (XI h ts)]) := by
 refine Xc (xs := [.d (.sl 10 ((UK h ts).map XL)), ai (XI h ts)]) Tryz.func31 rfl Tryz.ntmps31 rfl rfl rfl (fun E => ?_)
 have hk := X6M h ts hf.hold
 unfold UK
 by_cases c : XI h ts ≠ 0
 ·rw [if_pos c]
  clear hf
  generalize XI h ts = e at *
  obtain ⟨base, ⟨ns, es, nn, ne⟩, cs⟩ := h
  simp only [Xq, List.map_nil] at *
  refine Qgh ?_; refine Qgd ?_; refine QIa ?_; refine QKa ?_
  (show AWP Tryz.prog E _ _ _; refine X1 ?_; exact (show Xd _ _ _ _ _ from ⟨_, X7 rfl (τ := [(4, .d (.sl 10 [])), (5, ai e)]) (L := []) JM trivial, ⟨rfl, rfl, trivial⟩, X3 _⟩))
 rw [if_neg c]
 have c : XI h ts = 0 := by simpa using c
 rw [c] at hk ⊢
 obtain ⟨k, k1, k2, k3⟩ := X2g c
 have hb := X2q c
 rw [k2]
 have hcl := (Ux c).1.cl
 have hlm := Ue h.cs
 have hDl : (h.cs.drop k).length ≤ 1000 := by rw [List.length_drop]; omega
 have hD := fun (x : Cmt) (hx : x ∈ h.cs.drop k) => hf.len x (List.mem_of_mem_drop hx)
 have hRl := X2O (h.cs.drop k) hD
 clear hf c k2 hD
 generalize hR : ((h.cs.drop k).map Cmt.l).flatten = R at *
 have hRb : R.length ≤ 2000000000 := by omega
 clear hRl hDl
 obtain ⟨base, ⟨ns, es, nn, ne⟩, cs⟩ := h
 simp only [Xq] at *
 refine Qgh ?_; refine Qid ?_; refine Qc ?_; refine Qze ?_; (refine Z4 (op := .sub) (r' := .int .i64 (k : Nat)) (u := .int .i64 ts) (v := .int .i64 base) ?_ (hr' := by exact congrArg (Value.int .i64) k1) (hr := by exact XU (by unfold Xw; omega))); refine Qb ?_; refine X4 ?_
 clear hk
 refine Xm (YX 7 131 10 rfl rfl rfl) ?_
 refine Xz (ι := Nat × List Chg) (fun q => k ≤ q.1 ∧ q.1 ≤ cs.length ∧ q.2 ++ ((cs.drop q.1).map Cmt.l).flatten = R) (fun q => ⟨35, [(2, .ptr 100 0), (7, .own 131 (q.2.map XL).length), (8, ai q.1)], [(100, .box [ai base, .d (.sl 3 (ns.map X9)), .d (.sl 5 (es.map Xe)), ai nn, ai ne, .d (.sl 2 (cs.map Xh))]), (131, .row 10 (q.2.map XL))]⟩) (fun q => cs.length - q.1) (k, []) ⟨Nat.le_refl _, k3, by simpa using hR⟩
  (X7 rfl JM ⟨rfl, rfl, trivial⟩) ?_
 rintro ⟨i, out⟩ ⟨hi0, hi, hg⟩
 simp only at hi0 hi hg
 clear hR
 by_cases hil : i < cs.length
 case neg =>
  have hn : ¬ (i : Int) < (cs.map Xh).length := by omega
  rw [List.drop_of_length_le (by omega), List.map_nil, List.flatten_nil, List.append_nil] at hg
  subst hg
  refine Qgf ?_; refine Qd ?_; refine QKa ?_; refine Xm (Yb 131 rfl) ?_; refine Xm (Yq 4 131 rfl rfl rfl) ?_
  (show AWP Tryz.prog E _ _ _; refine X1 ?_; exact (show Xd _ _ _ _ _ from ⟨_, St.le_refl _, ⟨rfl, rfl, trivial⟩, X3 _⟩))
 have hn : (i : Int) < (cs.map Xh).length := by omega
 obtain ⟨x, hx⟩ := Xu (l := cs) hil
 have hxc : (cs.map Xh)[i]? = some (Xh x) := XD hx
 rw [Xae hx, ← List.append_assoc] at hg
 have hrm := X0q hg
 obtain ⟨t', l⟩ := x
 simp only [Xh] at hxc hg hrm
 rw [List.length_append] at hrm
 have hroom : (out.map XL).length + (l.map XL).length ≤ 2000000000 := by rw [List.length_map, List.length_map]; omega
 have hap : (out ++ l).map XL = out.map XL ++ l.map XL := List.map_append
 clear hx
 refine Qhf ?_; refine JR ?_; refine QZa ?_; refine Qgc ?_; refine QLd ?_; refine QBa ?_
 refine ⟨(i + 1, out ++ l), ⟨by simp only; omega, by simp only; omega, hg⟩, by simp only; omega, ?_⟩
 dsimp only
 rw [hap]
 exact X7 rfl ⟨JL, AVal.le_of_eq (by refine Eq.trans (b := AVal.own 131 (_ + _)) rfl ?_; simp only [List.length_append]), JL, trivial⟩ ⟨rfl, rfl, trivial⟩
theorem XgM (h : Hist) (ts : Int) (hf : HistHold h) : Con Tryz.prog 32 [] [Xq h, ai ts] [] (.tup [Xq (YD h ts), ai (XI h ts)]) := by
 refine Xc (xs := [Xq (YD h ts), ai (XI h ts)]) Tryz.func32 rfl Tryz.ntmps32 rfl rfl rfl (fun E => ?_)
 have hk := X6M h ts hf
 unfold YD
 by_cases c : XI h ts ≠ 0
 ·rw [if_pos c]
  clear hf
  generalize XI h ts = e at *
  obtain ⟨base, ⟨ns, es, nn, ne⟩, cs⟩ := h
  simp only [Xq, Xl, List.map_nil] at *
  refine QXg ?_; refine QFg ?_
  (show AWP Tryz.prog E _ _ _; refine X1 ?_; exact (show Xd _ _ _ _ _ from ⟨_, Y5 101 (cs' := [ai 0, .d (.sl 3 []), .d (.sl 5 []), ai 0, ai 0, .d (.sl 2 [])]) rfl JM rfl, ⟨⟨101, 0, _, rfl, rfl, .inr ⟨6, _, rfl, rfl, rfl, rfl⟩⟩, rfl, trivial⟩, X3 _⟩))
 rw [if_neg c]
 have c : XI h ts = 0 := by simpa using c
 rw [c] at hk ⊢
 obtain ⟨k, k1, k2, k3⟩ := X2g c
 have hb := X2q c
 have hr := X6L c
 rw [k2] at hr ⊢
 have hcl := (Ux c).1.cl
 have hat := X5U h k hf (X5O (Ux c).1.g) k3 (by rw [hr])
 rw [hr] at hat
 have hlm := Ue h.cs
 have hsl : (((h.cs.map Xh).take (h.cs.map Xh).length).drop k) = (h.cs.drop k).map Xh := by rw [List.take_length]; simp
 have hDm := Ue (h.cs.drop k)
 have hDl : ((h.cs.drop k).map Xh).length ≤ 1000 := by rw [hDm, List.length_drop]; omega
 generalize atG h ts = g' at *
 clear hf hr c k2
 generalize h.cs.drop k = D at *
 obtain ⟨base, ⟨ns, es, nn, ne⟩, cs⟩ := h
 obtain ⟨ns', es', nn', ne'⟩ := g'
 simp only [Xq, Xl] at *
 have hkl : k ≤ (cs.map Xh).length := by omega
 refine QXg ?_; refine Qid ?_; refine Qd ?_; refine QTa ?_; (refine Z4 (op := .sub) (r' := .int .i64 (k : Nat)) (u := .int .i64 ts) (v := .int .i64 base) ?_ (hr' := by exact congrArg (Value.int .i64) k1) (hr := by exact XU (by unfold Xw; omega))); refine QQ ?_; refine ZL ?_; refine Z1 ?_; refine Z9 (hcon := hat) ?_; refine ZZ (len := 0) (γ := 102) ?_; refine QTa ?_; refine Z1 ?_; refine Qfh ?_; refine Z0I (γ := 102) ?_; refine Zx ?_; refine Qfa ?_
 (show AWP Tryz.prog E _ _ _; refine X1 ?_; exact (show Xd _ _ _ _ _ from ⟨_, St.le_refl _, ⟨⟨101, 0, _, rfl, rfl, .inr ⟨6, _, rfl, rfl, rfl, rfl⟩⟩, rfl, trivial⟩, X3 _⟩))
theorem Xhd (h : Hist) (l : List Chg) (ts : Int) (hf : HistHold h) (hl : X0m l) : Con Tryz.prog 6 [] [Xq h, .d (.sl 10 (l.map XL)), ai ts] [] (ab true) := by
 refine Xc (xs := [ab true]) Tryz.func6 rfl Tryz.ntmps6 rfl rfl rfl (fun E => ?_)
 have ha := X32
 have hsm := X2s h hf
 have hsf := X3e (h := h) hf
 have hfw : Con Tryz.prog 25 [] [.d (.sl 10 (l.map XL)), ai 20] [] (ab (UD l 20)) := X5W l 20 (by omega) hl.2 hl.1
 have hfl := X7l (l := l) (n := 20)
 have hfl : UD l 20 = true → l.length ≤ 20 := hfl
 generalize X0a h = sm at *
 generalize UD l 20 = fw at *
 cases sm with
 | false =>
  clear hf hsf hl hfl
  obtain ⟨base, ⟨ns, es, nn, ne⟩, cs⟩ := h
  simp only [Xq] at *
  refine Qhh ?_; refine Qv ?_; refine Qih ?_
  (show AWP Tryz.prog E _ _ _; refine X1 ?_; exact (show Xd _ _ _ _ _ from ⟨_, St.le_refl _, ⟨rfl, trivial⟩, X3 _⟩))
 | true =>
  cases fw with
  | false =>
   clear hf hsf hl hfl
   obtain ⟨base, ⟨ns, es, nn, ne⟩, cs⟩ := h
   simp only [Xq] at *
   refine Qph ?_; refine Qih ?_
   (show AWP Tryz.prog E _ _ _; refine X1 ?_; exact (show Xd _ _ _ _ _ from ⟨_, St.le_refl _, ⟨rfl, trivial⟩, X3 _⟩))
  | true =>
   obtain ⟨hfit, hb, hcl12, hl20⟩ := hsf rfl
   have hl2 := hfl rfl
   clear hsf hfl
   have h1 := X5y h l hfit hl (by omega)
   have h2 := Xem h l hfit hl
   have h3 := XaT h ts hfit
   have h4 := Xe5 h ts hfit
   have h5 := Xbx h ts hfit
   have h6 := XgM h ts hf
   have hC : HistHold (XX h l) := by
    unfold XX
    split
    ·exact ⟨X1v, by simp, by simp⟩
    ·rename_i q
     have q : YC h l = 0 := by simpa using q
     have hv : HV h := by
      rw [← U6]
      unfold YC at q
      by_cases c : XM h ≠ 0
      ·rw [if_pos c] at q; exact q
      ·simpa using c
     have hb := hv.b
     refine ⟨hf.g, by simp only [List.length_append, List.length_singleton]; omega, fun c hc => ?_⟩
     rcases List.mem_append.1 hc with hc | hc
     ·exact hf.cs c hc
     ·rw [List.mem_singleton.1 hc]; exact ⟨hl, by simp only [XB]; omega⟩
   have h7 := X5c (XX h l) hC
   have hS : X0m (UK h ts) := by
    unfold UK
    split
    ·exact ⟨by simp, by simp⟩
    ·have hD := X2O (n := 20) (h.cs.drop (ts - h.base).toNat) (fun x hx => hl20 x (List.mem_of_mem_drop hx))
     have hDl : (h.cs.drop (ts - h.base).toNat).length ≤ 12 := by rw [List.length_drop]; omega
     refine ⟨fun c hc => ?_, by omega⟩
     obtain ⟨l', hl', hc'⟩ := List.mem_flatten.1 hc
     obtain ⟨x, hx, rfl⟩ := List.mem_map.1 hl'
     exact (hf.cs x (List.mem_of_mem_drop hx)).1.1 c hc'
   have h8 := Xby (UK h ts) hS
   have hP : HistHold (YD h ts) := by
    unfold YD
    split
    ·exact ⟨X1v, by simp, by simp⟩
    ·rename_i q
     have q : XI h ts = 0 := by simpa using q
     have := X10 _ _ (Ux q).1.g (X1u (Ux q).1.ok (ts - h.base).toNat)
     refine ⟨VV this, by simp only [List.length_drop]; omega, fun c hc => hf.cs c (List.mem_of_mem_drop hc)⟩
   have h9 := X5c (YD h ts) hP
   clear hf hfit hb hcl12 hl20 hC hS hP hl hl2
   generalize XX h l = H1 at *
   generalize YC h l = e1 at *
   generalize XI h ts = e2 at *
   generalize UK h ts = S at *
   generalize YD h ts = H2 at *
   obtain ⟨base, ⟨ns, es, nn, ne⟩, cs⟩ := h
   obtain ⟨base', ⟨ns', es', nn', ne'⟩, cs'⟩ := H1
   obtain ⟨base2, ⟨ns2, es2, nn2, ne2⟩, cs2⟩ := H2
   simp only [Xq, Xl] at *
   refine Qhh ?_; refine Qf ?_; refine Z9 (hcon := hfw) ?_; refine QJ ?_; refine Qnh ?_; refine QXb ?_; refine Z9 (hcon := h2) ?_; refine Qxd ?_; refine QXb ?_; refine Z9 (hcon := h3) ?_; refine Qyf ?_; refine QXb ?_; refine Z9 (hcon := h4) ?_; refine Qyf ?_; refine QXb ?_; refine Z9 (hcon := h5) ?_; refine Qzd ?_; refine QXb ?_; refine Z9 (hcon := h6) ?_; refine Qdd ?_; refine Zw (γ := 104) ?_; refine Qfa ?_; refine Qnd ?_; refine Z9 (hcon := h7) ?_; refine QX ?_; refine QIe ?_; refine QX ?_; refine Z9 (hcon := h8) ?_; refine Zn ?_; refine QX ?_; refine QIe ?_; refine Qpb ?_; refine ZL ?_; refine Z9 (hcon := h9) ?_; refine Zn ?_; refine QX ?_; refine QIe ?_; refine Z1 ?_; refine Qoh ?_
   (show AWP Tryz.prog E _ _ _; refine X1 ?_; exact (show Xd _ _ _ _ _ from ⟨_, St.le_refl _, ⟨rfl, trivial⟩, X3 _⟩))
end Go.Fw
