/- The program's search for violations: degrees. -/
import Derived.Test.YtonekjkmnhfjmaaGreatDoorK39
set_option maxHeartbeats 64000000
namespace Go.Fw
open Go Go.Proofs
set_option maxRecDepth 100000
set_option linter.unusedVariables false
set_option linter.unusedSimpArgs false
theorem Xgr (r : Rul) (g : Gra) (hf : GFit g) : Con Tryz.prog 191 [] [XU r, Xj g] [] (.d (.sl 2 ((UK r g.edges g.nodes).map Xo))) := by
 refine Xc (xs := [.d (.sl 2 ((UK r g.edges g.nodes).map Xo))]) Tryz.func191 rfl Tryz.ntmps191 rfl rfl rfl (fun E => ?_)
 obtain ⟨ns, es, nn, ne⟩ := g
 have hbr := fun l hl => X5d r l hl
 obtain ⟨rk, rn, rname, rkey, rsrc, rdst⟩ := r
 have hnl := hf.nl
 have hel := hf.el
 have hfn := hf.nodes
 have hfe := hf.edges
 clear hf
 unfold Xj
 simp only [XU] at hnl hel hfn hfe hbr ⊢
 generalize hR : (Rul.mk rk rn rname rkey rsrc rdst) = R at *
 have hRn : R.name = rname := by rw [← hR]
 have hRk : R.kind = rk := by rw [← hR]
 have hRm : R.n = rn := by rw [← hR]
 have hRs : R.src = rsrc := by rw [← hR]
 have hRd : R.dst = rdst := by rw [← hR]
 refine QYd ?_; refine Qa ?_; refine Z0C (γ := 120) ?_; refine Qb ?_; refine Qmc ?_; refine Qcc ?_
 refine Xz (ι := Nat × List (Int × Int)) (fun q => q.1 ≤ es.length ∧ ∀ id, U9 q.2 id = (YL R (es.take q.1) id : Nat)) (fun q => ⟨52, [(2, .ptr 100 0), (3, .ptr 101 0), (5, .inn 120 0), (13, .d (.sl 5 (es.map Xf))), (14, ai (es.map Xf).length), (15, ai q.1)], [(100, .box [ai rk, ai rn, XC rname, XC rkey, XC rsrc, XC rdst]), (101, .box [.d (.sl 3 (ns.map X9)), .d (.sl 5 (es.map Xf)), ai nn, ai ne]), (120, .imap q.2)]⟩) (fun q => es.length - q.1) (0, []) ⟨Nat.zero_le _, fun id => rfl⟩
  (X6 rfl JM ⟨rfl, rfl, rfl, trivial⟩) ?_
 rintro ⟨i, M⟩ ⟨hi, hM⟩
 simp only at hi hM
 by_cases hil : i < es.length
 case pos =>
  have hn : (i : Int) < (es.map Xf).length := by rw [List.length_map]; omega
  obtain ⟨x, hx⟩ := Xs (l := es) hil
  have hxc : (es.map Xf)[i]? = some (Xf x) := Xx hx
  have hst : ∀ id, YL R (es.take (i + 1)) id = YL R (es.take i) id + if decide (x.typ = R.name) && decide (x.src = id) then 1 else 0 := fun id => X6p hx
  rw [hRn] at hst
  obtain ⟨xid, src, dst, typ, props⟩ := x
  simp only [Xf] at hxc hst
  have hv := hM src
  have hle := X6T R (es.take i) src
  rw [List.length_take] at hle
  clear hx hbr hR hRn hRk hRm hRs hRd hfn hfe
  by_cases ht : typ = rname
  ·generalize hvv : U9 M src = v at *
   have hin : Xv (v + 1) := by unfold Xv; omega
   refine Qyh ?_; refine Qxh ?_; refine QHh ?_; refine Z0D ?_; refine Zt ?_; refine Z0E ?_; refine JD ?_; refine Qsa ?_
   refine ⟨(i + 1, V2 M src (v + 1)), ⟨by show i + 1 ≤ es.length; omega, fun id => ?_⟩, by show es.length - (i + 1) < es.length - i; omega, ?_⟩
   ·show U9 (V2 M src (v + 1)) id = _
    rw [Xbi, hst id, hM id]
    by_cases hid : id = src
    ·subst hid
     rw [if_pos rfl, hv]
     simp [ht]
    ·have hid' : ¬ src = id := fun e => hid e.symm
     rw [if_neg hid]
     simp [hid']
   ·rw [← hvv]
    exact QFh
  ·refine Qyh ?_; refine Qxh ?_; refine Qwa ?_; exact ⟨(i + 1, M), ⟨by show i + 1 ≤ es.length; omega, fun id => by rw [hM id]; show _ = ((YL R (es.take (i + 1)) id : Nat) : Int); rw [hst id]; simp [ht]⟩, by show es.length - (i + 1) < es.length - i; omega, X6 rfl JM ⟨rfl, rfl, rfl, trivial⟩⟩
 obtain rfl : i = es.length := by omega
 have hn : ¬ ((es.length : Nat) : Int) < (es.map Xf).length := by rw [List.length_map]; omega
 rw [List.take_length] at hM
 refine Qka ?_; refine Qc ?_; refine Qmc ?_; refine Qcc ?_
 clear hn
 refine Xk (U1 8 130 2 rfl rfl rfl) ?_
 refine Xz (fun i : Nat => i ≤ ns.length) (fun i => ⟨52, [(2, .ptr 100 0), (3, .ptr 101 0), (5, .inn 120 0), (8, .own 130 ((UK R es (ns.take i)).map Xo).length), (31, .d (.sl 3 (ns.map X9))), (32, ai (ns.map X9).length), (33, ai i)], [(100, .box [ai rk, ai rn, XC rname, XC rkey, XC rsrc, XC rdst]), (101, .box [.d (.sl 3 (ns.map X9)), .d (.sl 5 (es.map Xf)), ai nn, ai ne]), (120, .imap M), (130, .row 2 ((UK R es (ns.take i)).map Xo))]⟩) (fun i => ns.length - i) 0 (Nat.zero_le _)
  (X6 rfl JM ⟨rfl, rfl, rfl, rfl, trivial⟩) ?_
 clear hi hil
 intro i hi
 by_cases hil : i < ns.length
 case neg =>
  obtain rfl : i = ns.length := by omega
  have hn : ¬ ((ns.length : Nat) : Int) < (ns.map X9).length := by rw [List.length_map]; omega
  rw [List.take_length]
  refine QDh ?_
  (show AWP Tryz.prog E _ _ _; refine X1 ?_; exact (show Xd _ _ _ _ _ from ⟨_, St.le_refl _, ⟨rfl, trivial⟩, X3 _⟩))
 have hn : (i : Int) < (ns.map X9).length := by rw [List.length_map]; omega
 obtain ⟨x, hx⟩ := Xs (l := ns) hil
 have hxc : (ns.map X9)[i]? = some (X9 x) := Xx hx
 have hroom : ((UK R es (ns.take i)).map Xo).length ≤ 2000 := by
  have := List.length_filter_le (fun n => decide (R.n < (YL R es n.id : Nat))) (ns.take i)
  simp only [UK, List.length_map, List.length_take] at this ⊢
  omega
 have hst : UK R es (ns.take (i + 1)) = UK R es (ns.take i) ++ if decide (R.n < (YL R es x.id : Nat)) then [(x.id, 0)] else [] := X39 hx
 rw [← hM x.id, hRm] at hst
 obtain ⟨xid, labels, props⟩ := x
 simp only [X9] at hxc hst
 clear hx hbr hR hRn hRk hRm hRs hRd hfn hfe hM
 by_cases ht : rn < U9 M xid
 ·rw [decide_eq_true ht] at hst
  have hst : UK R es (ns.take (i + 1)) = UK R es (ns.take i) ++ [(xid, 0)] := hst.trans (by simp)
  have happ : (UK R es (ns.take i) ++ [((xid, 0) : Int × Int)]).map Xo = (UK R es (ns.take i)).map Xo ++ [Xo (xid, 0)] := by simp
  refine Qyh ?_; refine Qd ?_; refine QIb ?_; refine Z0D ?_; refine QIb ?_; refine Zb ?_; refine QHh ?_; refine ZJ ?_; refine Qvf ?_
  refine ⟨i + 1, hil, by omega, ?_⟩
  dsimp only
  rw [hst, happ]
  exact X6 rfl ⟨JL, JL, JL, AVal.le_of_eq (by refine Eq.trans (b := AVal.own 130 (_ + _)) rfl ?_; simp only [List.length_append, List.length_map, List.length_cons, List.length_nil]), JL, JL, JL, trivial⟩ ⟨rfl, rfl, rfl, rfl, trivial⟩
 ·rw [decide_eq_false ht] at hst
  have hst := hst.trans (show _ = UK R es (ns.take i) by simp)
  refine Qyh ?_; refine Qd ?_; refine QIb ?_; refine Z0D ?_; refine QIb ?_; refine Zb ?_; refine Qwa ?_
  refine ⟨i + 1, hil, by omega, ?_⟩
  dsimp only
  rw [hst]
  exact QIg
theorem Xbd {acc rest tot : List (Int × Int)} (h : acc ++ rest = tot) (hl : tot.length ≤ 4000000) : (acc.map Xo).length ≤ 4000000 := by
 have := congrArg List.length h
 simp only [List.length_append] at this
 rw [List.length_map]
 omega
theorem XeA (r : Rul) (g : Gra) (hf : GFit g) : Con Tryz.prog 189 [] [XU r, Xj g] [] (.d (.sl 2 ((UN (YD r g.nodes)).map Xo))) := by
 refine Xc (xs := [.d (.sl 2 ((UN (YD r g.nodes)).map Xo))]) Tryz.func189 rfl Tryz.ntmps189 rfl rfl rfl (fun E => ?_)
 obtain ⟨ns, es, nn, ne⟩ := g
 have hbr := fun l hl => X5d r l hl
 obtain ⟨rk, rn, rname, rkey, rsrc, rdst⟩ := r
 have hnl := hf.nl
 have hel := hf.el
 have hfn := hf.nodes
 have hfe := hf.edges
 clear hf
 unfold Xj
 simp only [XU] at hnl hel hfn hfe hbr ⊢
 generalize hR : (Rul.mk rk rn rname rkey rsrc rdst) = R at *
 have hRK : R.key = rkey := by rw [← hR]
 have hRn : R.name = rname := by rw [← hR]
 have hRk : R.kind = rk := by rw [← hR]
 have hRm : R.n = rn := by rw [← hR]
 have hRs : R.src = rsrc := by rw [← hR]
 have hRd : R.dst = rdst := by rw [← hR]
 refine QYd ?_; refine Qc ?_; refine Qmc ?_; refine Qcc ?_; refine Xk (U1 5 130 6 rfl rfl rfl) ?_
 refine Xz (fun i : Nat => i ≤ ns.length) (fun i => ⟨78, [(2, .ptr 100 0), (3, .ptr 101 0), (5, .own 130 ((YD R (ns.take i)).map Yw).length), (16, .d (.sl 3 (ns.map X9))), (17, ai (ns.map X9).length), (18, ai i)], [(100, .box [ai rk, ai rn, XC rname, XC rkey, XC rsrc, XC rdst]), (101, .box [.d (.sl 3 (ns.map X9)), .d (.sl 5 (es.map Xf)), ai nn, ai ne]), (130, .row 6 ((YD R (ns.take i)).map Yw))]⟩) (fun i => ns.length - i) 0 (Nat.zero_le _)
  (X6 rfl JM ⟨rfl, rfl, rfl, trivial⟩) ?_
 intro i hi
 by_cases hil : i < ns.length
 case pos =>
  have hn : (i : Int) < (ns.map X9).length := by rw [List.length_map]; omega
  obtain ⟨x, hx⟩ := Xs (l := ns) hil
  have hxc : (ns.map X9)[i]? = some (X9 x) := Xx hx
  obtain ⟨f1, f2, f3⟩ := hfn x (List.mem_of_getElem? hx)
  have hroom : ((YD R (ns.take i)).map Yw).length ≤ 2000 := by
   have := X75 R (ns.take i)
   rw [List.length_take] at this
   rw [List.length_map]
   omega
  have hst := Xc0 (r := R) hx
  have h1 := Xbe x.props rkey (by omega)
  have h2 := X6O x rname (by omega)
  unfold U8 at hst
  rw [hRn, hRK] at hst
  generalize Yf x.props rkey = pv at *
  generalize Y6 x.labels rname = b2 at *
  obtain ⟨xid, labels, props⟩ := x
  simp only [X9] at hxc h1 h2 hst
  clear hx hbr hfn hfe f1 f2 f3 hR hRn hRK hRk hRm hRs hRd
  cases pv with
  | none =>
   replace hst := hst.trans (show _ = YD R (ns.take i) by simp)
   simp only [Option.getD_none, Option.isSome_none, zV, Xm] at h1
   refine QLh ?_; refine QW ?_; refine Qga ?_; refine Qsa ?_
   refine ⟨i + 1, hil, by omega, ?_⟩
   dsimp only
   rw [hst]
   exact QFh
  | some v =>
   simp only [Option.getD_some, Option.isSome_some] at h1
   cases b2 with
   | false =>
    replace hst := hst.trans (show _ = YD R (ns.take i) by simp)
    obtain ⟨vk, vn, vd, vs, vl⟩ := v
    simp only [Xm] at h1
    refine QLh ?_; refine QGh ?_; refine Qwa ?_
    refine ⟨i + 1, hil, by omega, ?_⟩
    dsimp only
    rw [hst]
    exact QFh
   | true =>
    replace hst : YD R (ns.take (i + 1)) = YD R (ns.take i) ++ [(xid, v)] := hst.trans (by simp)
    have happ : (YD R (ns.take i) ++ [(xid, v)]).map Yw = (YD R (ns.take i)).map Yw ++ [Yw (xid, v)] := by simp
    obtain ⟨vk, vn, vd, vs, vl⟩ := v
    simp only [Xm] at h1
    simp only [Yw, Y5] at happ
    refine QLh ?_; refine QGh ?_; refine QHh ?_; refine ZX ?_; refine ZJ ?_; refine Qvf ?_
    refine ⟨i + 1, hil, by omega, ?_⟩
    dsimp only
    rw [hst, happ]
    exact QIh
 obtain rfl : i = ns.length := by omega
 have hn : ¬ ((ns.length : Nat) : Int) < (ns.map X9).length := by rw [List.length_map]; omega
 rw [List.take_length]
 have hpl := Xgt (r := R) hfn
 have hlen := X75 R ns
 have hmax := X5q (r := R) hnl
 rw [X2Y] at hmax
 generalize YD R ns = H at *
 generalize hT : UN H = T at *
 have hHm : (H.map Yw).length = H.length := by simp
 refine Qka ?_; refine Qc ?_; refine X0 ?_; refine X0 ?_
 clear hn hfn hfe hbr hR hRn hRK hRk hRm hRs hRd
 refine Xk (Yt 130 rfl) ?_; refine Xk (Ys 5 130 rfl rfl rfl) ?_; refine Xk (U1 10 131 2 rfl rfl rfl) ?_; refine Qfb ?_; refine Qcc ?_
 refine Xz (ι := Nat × List (Int × Int)) (fun q => q.1 ≤ H.length ∧ q.2 ++ UN (H.drop q.1) = T) (fun q => ⟨78, [(5, .d (.sl 6 (H.map Yw))), (10, .own 131 (q.2.map Xo).length), (45, .d (.sl 6 (H.map Yw))), (46, ai (H.map Yw).length), (47, ai q.1)], [(131, .row 2 (q.2.map Xo))]⟩) (fun q => H.length - q.1) (0, []) ⟨Nat.zero_le _, by simpa using hT⟩
  (X6 rfl JM ⟨rfl, trivial⟩) ?_
 rintro ⟨j, acc⟩ ⟨hj, hg⟩
 simp only at hj hg
 by_cases hjl : j < H.length
 case neg =>
  rw [List.drop_of_length_le (by omega), UN, List.append_nil] at hg
  subst hg
  have hn : ¬ (j : Int) < (H.map Yw).length := by omega
  refine Qka ?_; refine Qzb ?_; refine Xk (Yt 131 rfl) ?_; refine Xk (Ys 4 131 rfl rfl rfl) ?_
  (show AWP Tryz.prog E _ _ _; refine X1 ?_; exact (show Xd _ _ _ _ _ from ⟨_, St.le_refl _, ⟨rfl, trivial⟩, X3 _⟩))
 have hn : (j : Int) < (H.map Yw).length := by omega
 obtain ⟨a, ha⟩ := Xs (l := H) hjl
 have hac : (H.map Yw)[j]? = some (Yw a) := Xx ha
 have hap := hpl a (List.mem_of_getElem? ha)
 rw [XeJ ha] at hg
 have hsl : ((H.map Yw).take (H.map Yw).length).drop (j + 1) = (H.drop (j + 1)).map Yw := by rw [List.take_length, List.map_drop]
 have hjm : j + 1 ≤ (H.map Yw).length := by omega
 generalize hTl : UN (H.drop (j + 1)) = TL at *
 have hpl2 : ∀ h ∈ H.drop (j + 1), XV h.2 = true := fun h hh => hpl h (List.mem_of_mem_drop hh)
 have hBl : (H.drop (j + 1)).length ≤ 2000 := by rw [List.length_drop]; omega
 generalize hB : H.drop (j + 1) = B at *
 obtain ⟨aid, av⟩ := a
 obtain ⟨ak, an, ad, as_, al⟩ := av
 simp only [Yw, Y5] at hac hap
 clear ha
 refine Qfc ?_; refine Qe ?_; refine Zt ?_; refine Z07 (lb := j + 1) (hb := (H.map Yw).length) (ys := B.map Yw) ?_ (hys := by exact hsl); refine Qcc ?_
 refine Xz (ι := Nat × List (Int × Int)) (fun q => q.1 ≤ B.length ∧ q.2 ++ (X1N (aid, .mk ak an ad as_ al) (B.drop q.1) ++ TL) = T) (fun q => ⟨78, [(5, .d (.sl 6 (H.map Yw))), (10, .own 131 (q.2.map Xo).length), (12, .ptr 100 0), (45, .d (.sl 6 (H.map Yw))), (46, ai (H.map Yw).length), (47, ai j), (55, .d (.sl 6 (B.map Yw))), (56, ai (B.map Yw).length), (57, ai q.1)], [(100, .box [ai aid, ai ak, ai an, ai ad, XC as_, .d (.sl 5 (XG al))]), (131, .row 2 (q.2.map Xo))]⟩) (fun q => B.length - q.1) (0, acc) ⟨Nat.zero_le _, by simpa using hg⟩
  (X6 rfl JM ⟨rfl, rfl, trivial⟩) ?_
 clear hg
 rintro ⟨k, acc2⟩ ⟨hk, hg⟩
 simp only at hk hg
 have hroom := Xbd hg hmax
 by_cases hkl : k < B.length
 case neg =>
  rw [List.drop_of_length_le (by omega)] at hg
  have hg : acc2 ++ TL = T := hg
  have hn2 : ¬ (k : Int) < (B.map Yw).length := by rw [List.length_map]; omega
  refine Qka ?_; refine Qsa ?_; exact ⟨(j + 1, acc2), ⟨by show j + 1 ≤ H.length; omega, by show acc2 ++ UN (H.drop (j + 1)) = T; rw [hB, hTl]; exact hg⟩, by show H.length - (j + 1) < H.length - j; omega, X6 rfl JM ⟨rfl, trivial⟩⟩
 have hn2 : (k : Int) < (B.map Yw).length := by rw [List.length_map]; omega
 obtain ⟨b, hb⟩ := Xs (l := B) hkl
 have hbc : (B.map Yw)[k]? = some (Yw b) := Xx hb
 have hbp := hpl2 b (List.mem_of_getElem? hb)
 rw [Xhe hb] at hg
 have he := Xga (.mk ak an ad as_ al) b.2 hap hbp
 simp only at hg
 generalize eqV (.mk ak an ad as_ al) b.2 = e at *
 obtain ⟨bid, bv⟩ := b
 obtain ⟨bk, bn, bd, bs, bl⟩ := bv
 simp only [Yw, Y5, Xm] at hbc he
 clear hb hsl hB hTl hpl hpl2 hap hbp
 cases e with
 | false =>
  refine QUg ?_; refine Qa ?_; refine Qxf ?_; refine Qxf ?_; refine Zr (hcon := he) ?_; refine Qk ?_; refine Qsa ?_; exact ⟨(k + 1, acc2), ⟨by show k + 1 ≤ B.length; omega, by simpa using hg⟩, by show B.length - (k + 1) < B.length - k; omega, X6 rfl JM ⟨rfl, rfl, trivial⟩⟩
 | true =>
  have happ : (acc2 ++ [(aid, bid)]).map Xo = acc2.map Xo ++ [Xo (aid, bid)] := by simp
  refine QUg ?_; refine Qa ?_; refine Qxf ?_; refine Qxf ?_; refine Zr (hcon := he) ?_; refine Z4 ?_; refine Qed ?_; refine QRb ?_; refine ZJ ?_; refine Qvf ?_
  refine ⟨(k + 1, acc2 ++ [(aid, bid)]), ⟨by show k + 1 ≤ B.length; omega, by simpa using hg⟩, by show B.length - (k + 1) < B.length - k; omega, ?_⟩
  dsimp only
  rw [happ]
  exact X6 rfl ⟨JL, AVal.le_of_eq (by refine Eq.trans (b := AVal.own 131 (_ + _)) rfl ?_; simp only [List.length_append, List.length_map, List.length_cons, List.length_nil]), JL, JL, JL, JL, JL, JL, JL, trivial⟩ ⟨rfl, rfl, trivial⟩
theorem XiC (k : Int) : Con Tryz.prog 123 [] [ai k] [] (ai (X2t k)) := by
 refine Xc (xs := [ai (X2t k)]) Tryz.func123 rfl Tryz.ntmps123 rfl rfl rfl (fun E => ?_)
 unfold X2t
 by_cases c1 : k = 1
 ·rw [if_pos c1]
  refine QU ?_; refine Qzc ?_; refine Qc ?_
  (show AWP Tryz.prog E _ _ _; refine X1 ?_; exact (show Xd _ _ _ _ _ from ⟨_, St.le_refl _, ⟨rfl, trivial⟩, X3 _⟩))
 rw [if_neg c1]
 by_cases c2 : k = 2
 ·rw [if_pos (.inl c2)]
  refine QU ?_; refine QAc ?_; refine QAa ?_; refine Qc ?_
  (show AWP Tryz.prog E _ _ _; refine X1 ?_; exact (show Xd _ _ _ _ _ from ⟨_, St.le_refl _, ⟨rfl, trivial⟩, X3 _⟩))
 by_cases c4 : k = 4
 ·rw [if_pos (.inr c4)]
  refine QU ?_; refine QAc ?_; refine QLa ?_; refine Qc ?_
  (show AWP Tryz.prog E _ _ _; refine X1 ?_; exact (show Xd _ _ _ _ _ from ⟨_, St.le_refl _, ⟨rfl, trivial⟩, X3 _⟩))
 rw [if_neg (fun h => h.elim c2 c4)]
 by_cases c3 : k = 3
 ·rw [if_pos (.inl c3)]
  refine QMh ?_; refine QAa ?_; refine Qc ?_
  (show AWP Tryz.prog E _ _ _; refine X1 ?_; exact (show Xd _ _ _ _ _ from ⟨_, St.le_refl _, ⟨rfl, trivial⟩, X3 _⟩))
 by_cases c5 : k = 5
 ·rw [if_pos (.inr c5)]
  refine QMh ?_; refine QLa ?_; refine Qc ?_
  (show AWP Tryz.prog E _ _ _; refine X1 ?_; exact (show Xd _ _ _ _ _ from ⟨_, St.le_refl _, ⟨rfl, trivial⟩, X3 _⟩))
 rw [if_neg (fun h => h.elim c3 c5)]
 by_cases c6 : k = 6
 ·rw [if_pos c6]
  refine QMh ?_; refine QMa ?_; refine Qza ?_; refine Qc ?_
  (show AWP Tryz.prog E _ _ _; refine X1 ?_; exact (show Xd _ _ _ _ _ from ⟨_, St.le_refl _, ⟨rfl, trivial⟩, X3 _⟩))
 rw [if_neg c6]
 by_cases c7 : k = 7
 ·rw [if_pos c7]
  refine QMh ?_; refine QNa ?_; refine Qc ?_
  (show AWP Tryz.prog E _ _ _; refine X1 ?_; exact (show Xd _ _ _ _ _ from ⟨_, St.le_refl _, ⟨rfl, trivial⟩, X3 _⟩))
 rw [if_neg c7]
 refine QMh ?_; refine QOa ?_; refine QUe ?_
 (show AWP Tryz.prog E _ _ _; refine X1 ?_; exact (show Xd _ _ _ _ _ from ⟨_, St.le_refl _, ⟨rfl, trivial⟩, X3 _⟩))
theorem XbA (r : Rul) (g : Gra) (hf : GFit g) : Con Tryz.prog 121 [] [XU r, Xj g] [] (.d (.sl 2 ((ofV r g).map Xo))) := by
 refine Xc (xs := [.d (.sl 2 ((ofV r g).map Xo))]) Tryz.func121 rfl Tryz.ntmps121 rfl rfl rfl (fun E => ?_)
 have h1 := XeA r g hf
 have h2 := Xch r g hf
 have h3 := Xgr r g hf
 have h4 := Xd6 r g hf
 unfold ofV X3K
 generalize UN (YD r g.nodes) = l1 at *
 generalize Uz r g.nodes = l2 at *
 generalize UK r g.edges g.nodes = l3 at *
 generalize XR r g.nodes g.edges = l4 at *
 clear hf
 obtain ⟨ns, es, nn, ne⟩ := g
 obtain ⟨rk, rn, rname, rkey, rsrc, rdst⟩ := r
 simp only [XU, Xj] at *
 by_cases c1 : rk = 1
 ·rw [if_pos c1]
  refine QYd ?_; refine Qmc ?_; refine Qzc ?_; refine Qne ?_; refine QAb ?_; refine Qb ?_
  (show AWP Tryz.prog E _ _ _; refine X1 ?_; exact (show Xd _ _ _ _ _ from ⟨_, St.le_refl _, ⟨rfl, trivial⟩, X3 _⟩))
 rw [if_neg c1]
 by_cases c2 : rk = 2
 ·rw [if_pos (.inl c2)]
  refine QYd ?_; refine Qmc ?_; refine QAc ?_; refine QAa ?_; refine Qne ?_; refine Zr (hcon := h2) ?_; refine Qb ?_
  (show AWP Tryz.prog E _ _ _; refine X1 ?_; exact (show Xd _ _ _ _ _ from ⟨_, St.le_refl _, ⟨rfl, trivial⟩, X3 _⟩))
 by_cases c3 : rk = 3
 ·rw [if_pos (.inr c3)]
  refine QYd ?_; refine Qmc ?_; refine QAc ?_; refine QLa ?_; refine Qne ?_; refine Zr (hcon := h2) ?_; refine Qb ?_
  (show AWP Tryz.prog E _ _ _; refine X1 ?_; exact (show Xd _ _ _ _ _ from ⟨_, St.le_refl _, ⟨rfl, trivial⟩, X3 _⟩))
 rw [if_neg (fun h => h.elim c2 c3)]
 by_cases c7 : rk = 7
 ·rw [if_pos c7]
  refine QYd ?_; refine Qmc ?_; refine QAc ?_; refine QMa ?_; refine Qza ?_; refine Qne ?_; refine Zr (hcon := h3) ?_; refine Qb ?_
  (show AWP Tryz.prog E _ _ _; refine X1 ?_; exact (show Xd _ _ _ _ _ from ⟨_, St.le_refl _, ⟨rfl, trivial⟩, X3 _⟩))
 rw [if_neg c7]
 refine QYd ?_; refine Qmc ?_; refine QAc ?_; refine QMa ?_; refine QGa ?_; refine X2 ?_; refine QNh ?_
 (show AWP Tryz.prog E _ _ _; refine X1 ?_; exact (show Xd _ _ _ _ _ from ⟨_, St.le_refl _, ⟨rfl, trivial⟩, X3 _⟩))
theorem X3X (r : Rul) (g : Gra) (hg : GraHold g) : Con Tryz.prog 70 [] [XU r, Xj g] [] (.d (.sl 2 ((ofS r g).map Xo))) := by
 refine Xc (xs := [.d (.sl 2 ((ofS r g).map Xo))]) Tryz.func70 rfl Tryz.ntmps70 rfl rfl rfl (fun E => ?_)
 have h1 := X8e r
 have h2 := X5k g hg
 unfold ofS
 by_cases c1 : Ut r = 0
 case neg =>
  rw [if_pos (.inl c1)]
  generalize Ut r = e1 at *
  clear h2 hg
  obtain ⟨ns, es, nn, ne⟩ := g
  obtain ⟨rk, rn, rname, rkey, rsrc, rdst⟩ := r
  simp only [XU, Xj, List.map_nil] at *
  refine Qae ?_; refine QAb ?_; refine ZH ?_; refine QV ?_; refine Qcf ?_
  (show AWP Tryz.prog E _ _ _; refine X1 ?_; exact (show Xd _ _ _ _ _ from ⟨_, Xr 4 (y := .d (.sl 2 [])) (AVal.le_nil 2), ⟨rfl, trivial⟩, X3 _⟩))
 by_cases c2 : Yh g = 0
 case neg =>
  rw [if_pos (.inr c2)]
  rw [c1] at h1
  generalize Yh g = e2 at *
  clear hg c1
  obtain ⟨ns, es, nn, ne⟩ := g
  obtain ⟨rk, rn, rname, rkey, rsrc, rdst⟩ := r
  simp only [XU, Xj, List.map_nil] at *
  refine QOh ?_; refine ZE ?_; refine Qcf ?_
  (show AWP Tryz.prog E _ _ _; refine X1 ?_; exact (show Xd _ _ _ _ _ from ⟨_, Xr 4 (y := .d (.sl 2 [])) (AVal.le_nil 2), ⟨rfl, trivial⟩, X3 _⟩))
 rw [if_neg (fun h => h.elim (fun q => q c1) (fun q => q c2))]
 have hf := X4b c2
 have h3 := XbA r g hf
 generalize ofV r g = l at *
 rw [c1] at h1
 rw [c2] at h2
 clear hg c2 hf
 obtain ⟨ns, es, nn, ne⟩ := g
 obtain ⟨rk, rn, rname, rkey, rsrc, rdst⟩ := r
 clear c1
 simp only [XU, Xj] at *
 refine QOh ?_; refine Qga ?_; refine Qne ?_; refine Zr (hcon := h3) ?_; refine Qb ?_
 (show AWP Tryz.prog E _ _ _; refine X1 ?_; exact (show Xd _ _ _ _ _ from ⟨_, St.le_refl _, ⟨rfl, trivial⟩, X3 _⟩))
theorem X9c {l : List Nod} {id : Int} {label : List UInt8} (h : (Yc l id).isSome = true) : ((Yc l id).isSome && (decide (label = []) || Y6 ((Yc l id).getD Ub).labels label)) = !X06 l id label := by
 unfold X06
 rw [h]
 by_cases q : label = [] <;> simp [q]
theorem Xdg (r : Rul) (g : Gra) (hf : GFit g) : Con Tryz.prog 197 [] [XU r, Xj g] [] (.d (.sl 2 ((XR r g.nodes g.edges).map Xo))) := by
 refine Xc (xs := [.d (.sl 2 ((XR r g.nodes g.edges).map Xo))]) Tryz.func197 rfl Tryz.ntmps197 rfl rfl rfl (fun E => ?_)
 obtain ⟨ns, es, nn, ne⟩ := g
 have hbr := fun l hl => X61 r l hl
 have hlk := fun id label => Xhg ⟨ns, es, nn, ne⟩ id label (by have := hf.nl; omega) hf.nodes
 obtain ⟨rk, rn, rname, rkey, rsrc, rdst⟩ := r
 have hnl := hf.nl
 have hel := hf.el
 have hfn := hf.nodes
 have hfe := hf.edges
 clear hf
 unfold Xj
 unfold Xj at hlk
 simp only [XU] at hnl hel hfn hfe hbr hlk ⊢
 generalize hR : (Rul.mk rk rn rname rkey rsrc rdst) = R at *
 have hRn : R.name = rname := by rw [← hR]
 have hRk : R.kind = rk := by rw [← hR]
 have hRm : R.n = rn := by rw [← hR]
 have hRs : R.src = rsrc := by rw [← hR]
 have hRd : R.dst = rdst := by rw [← hR]
 refine QPh ?_
 refine Xz (fun i : Nat => i ≤ es.length) (fun i => ⟨59, [(2, .ptr 100 0), (3, .ptr 101 0), (5, .own 130 ((XR R ns (es.take i)).map Xo).length), (6, ai i)], [(100, .box [ai rk, ai rn, XC rname, XC rkey, XC rsrc, XC rdst]), (101, .box [.d (.sl 3 (ns.map X9)), .d (.sl 5 (es.map Xf)), ai nn, ai ne]), (130, .row 2 ((XR R ns (es.take i)).map Xo))]⟩) (fun i => es.length - i) 0 (Nat.zero_le _)
  (X6 rfl JM ⟨rfl, rfl, rfl, trivial⟩) ?_
 intro i hi
 by_cases hil : i < es.length
 case neg =>
  obtain rfl : i = es.length := by omega
  have hn : ¬ ((es.length : Nat) : Int) < (es.map Xf).length := by rw [List.length_map]; omega
  rw [List.take_length]
  refine QQh ?_
  (show AWP Tryz.prog E _ _ _; refine X1 ?_; exact (show Xd _ _ _ _ _ from ⟨_, St.le_refl _, ⟨rfl, trivial⟩, X3 _⟩))
 have hn : (i : Int) < (es.map Xf).length := by rw [List.length_map]; omega
 obtain ⟨x, hx⟩ := Xs (l := es) hil
 have hxc : (es.map Xf)[i]? = some (Xf x) := Xx hx
 obtain ⟨f1, f2, f3⟩ := hfe x (List.mem_of_getElem? hx)
 have hroom : ((XR R ns (es.take i)).map Xo).length ≤ 4000 := by
  have := List.length_filter_le (fun e => decide (e.typ = R.name) && X1r R ns e) (es.take i)
  simp only [XR, List.length_map, List.length_take] at this ⊢
  omega
 have hst : XR R ns (es.take (i + 1)) = XR R ns (es.take i) ++ if decide (x.typ = R.name) && X1r R ns x then [(x.id, 0)] else [] := X39 hx
 have h1 := hbr x.props (by omega)
 have h2 := hlk x.src rsrc
 have h3 := hlk x.dst rdst
 unfold X1r at hst
 rw [hRn, hRk, hRs, hRd] at hst
 rw [X9c f2] at h2
 rw [X9c f3] at h3
 generalize X06 ns x.src rsrc = b2 at *
 generalize X06 ns x.dst rdst = b3 at *
 generalize UT R x.props = b1 at *
 obtain ⟨xid, src, dst, typ, props⟩ := x
 simp only [Xf] at hxc h1 h2 h3 hst
 clear hx hbr hlk hR hRn hRk hRm hRs hRd hfn hfe f1 f2 f3
 by_cases ht : typ = rname
 case neg =>
  have ht' : ¬ typ = rname := ht
  rw [decide_eq_false ht] at hst
  by_cases h6 : rk = 6
  ·cases b2 with
   | true =>
    have hst := hst.trans (show _ = XR R ns (es.take i) by simp)
    refine QSh ?_; refine QMb ?_; refine QK ?_; refine Qb ?_; refine QTh ?_
    refine ⟨i + 1, hil, by omega, ?_⟩
    dsimp only
    rw [hst]
    exact QFh
   | false =>
    cases b3 with
    | true =>
     have hst := hst.trans (show _ = XR R ns (es.take i) by simp)
     refine QUh ?_; refine QTh ?_
     refine ⟨i + 1, hil, by omega, ?_⟩
     dsimp only
     rw [hst]
     exact QFh
    | false =>
     have hst := hst.trans (show _ = XR R ns (es.take i) by simp)
     refine QUh ?_; refine QTh ?_
     refine ⟨i + 1, hil, by omega, ?_⟩
     dsimp only
     rw [hst]
     exact QFh
  ·cases b1 with
   | true =>
    have hst := hst.trans (show _ = XR R ns (es.take i) by simp)
    refine QRh ?_; refine Qb ?_; refine Qse ?_; refine QTh ?_
    refine ⟨i + 1, hil, by omega, ?_⟩
    dsimp only
    rw [hst]
    exact QFh
   | false =>
    have hst := hst.trans (show _ = XR R ns (es.take i) by simp)
    refine QRh ?_; refine Qb ?_; refine Qse ?_; refine QTh ?_
    refine ⟨i + 1, hil, by omega, ?_⟩
    dsimp only
    rw [hst]
    exact QFh
 rw [decide_eq_true ht, Bool.true_and] at hst
 by_cases h6 : rk = 6
 ·rw [if_pos h6] at hst
  cases b2 with
  | true =>
   have hst : XR R ns (es.take (i + 1)) = XR R ns (es.take i) ++ [(xid, 0)] := hst.trans (by simp)
   have happ : (XR R ns (es.take i) ++ [((xid, 0) : Int × Int)]).map Xo = (XR R ns (es.take i)).map Xo ++ [Xo (xid, 0)] := by simp
   refine QSh ?_; refine QMb ?_; refine QK ?_; refine Qb ?_; refine Qxh ?_; refine Qq ?_; refine ZB ?_; refine QVh ?_
   refine ⟨i + 1, hil, by omega, ?_⟩
   dsimp only
   rw [hst, happ]
   exact QWh
  | false =>
   cases b3 with
   | true =>
    have hst : XR R ns (es.take (i + 1)) = XR R ns (es.take i) ++ [(xid, 0)] := hst.trans (by simp)
    have happ : (XR R ns (es.take i) ++ [((xid, 0) : Int × Int)]).map Xo = (XR R ns (es.take i)).map Xo ++ [Xo (xid, 0)] := by simp
    refine QUh ?_; refine Qxh ?_; refine Qq ?_; refine ZB ?_; refine QVh ?_
    refine ⟨i + 1, hil, by omega, ?_⟩
    dsimp only
    rw [hst, happ]
    exact QWh
   | false =>
    have hst := hst.trans (show _ = XR R ns (es.take i) by simp)
    refine QUh ?_; refine Qxh ?_; refine Qq ?_; refine ZB ?_; refine Qkb ?_
    refine ⟨i + 1, hil, by omega, ?_⟩
    dsimp only
    rw [hst]
    exact QFh
 ·rw [if_neg h6] at hst
  cases b1 with
  | true =>
   have hst : XR R ns (es.take (i + 1)) = XR R ns (es.take i) ++ [(xid, 0)] := hst.trans (by simp)
   have happ : (XR R ns (es.take i) ++ [((xid, 0) : Int × Int)]).map Xo = (XR R ns (es.take i)).map Xo ++ [Xo (xid, 0)] := by simp
   refine QRh ?_; refine Qb ?_; refine Qse ?_; refine Qxh ?_; refine Qq ?_; refine ZB ?_; refine QVh ?_
   refine ⟨i + 1, hil, by omega, ?_⟩
   dsimp only
   rw [hst, happ]
   exact QWh
  | false =>
   have hst := hst.trans (show _ = XR R ns (es.take i) by simp)
   refine QRh ?_; refine Qb ?_; refine Qse ?_; refine Qxh ?_; refine Qq ?_; refine ZB ?_; refine Qkb ?_
   refine ⟨i + 1, hil, by omega, ?_⟩
   dsimp only
   rw [hst]
   exact QFh
end Go.Fw
