/- The reference's search for violations: nodes. -/
import Derived.Test.YtonekjkmnhfjmaaGreatDoorK40
set_option maxHeartbeats 64000000
namespace Go.Fw
open Go Go.Proofs
set_option maxRecDepth 100000
set_option linter.unusedVariables false
set_option linter.unusedSimpArgs false
theorem XeR (r : Rul) (g : Gra) (hf : GFit g) : Con Tryz.prog 198 [] [XU r, Xj g] [] (.d (.sl 2 ((Yu r g.edges g.nodes).map Xo))) := by
 refine Xc (xs := [.d (.sl 2 ((Yu r g.edges g.nodes).map Xo))]) Tryz.func198 rfl Tryz.ntmps198 rfl rfl rfl (fun E => ?_)
 obtain ⟨ns, es, nn, ne⟩ := g
 have hbr := fun l hl => X61 r l hl
 obtain ⟨rk, rn, rname, rkey, rsrc, rdst⟩ := r
 have hnl := hf.nl
 have hel := hf.el
 have hfn := hf.nodes
 have hfe := hf.edges
 clear hf
 unfold Xj
 simp only [XU] at hnl hel hfn hfe hbr ⊢
 generalize hR : (Rul.mk rk rn rname rkey rsrc rdst) = R at *
 have hRn : R.name = rname := by rw [← hR]
 have hRk : R.kind = rk := by rw [← hR]
 have hRm : R.n = rn := by rw [← hR]
 have hRs : R.src = rsrc := by rw [← hR]
 have hRd : R.dst = rdst := by rw [← hR]
 refine QPh ?_
 refine Xz (fun i : Nat => i ≤ ns.length) (fun i => ⟨77, [(2, .ptr 100 0), (3, .ptr 101 0), (5, .own 130 ((Yu R es (ns.take i)).map Xo).length), (6, ai i)], [(100, .box [ai rk, ai rn, XC rname, XC rkey, XC rsrc, XC rdst]), (101, .box [.d (.sl 3 (ns.map X9)), .d (.sl 5 (es.map Xf)), ai nn, ai ne]), (130, .row 2 ((Yu R es (ns.take i)).map Xo))]⟩) (fun i => ns.length - i) 0 (Nat.zero_le _)
  (X6 rfl JM ⟨rfl, rfl, rfl, trivial⟩) ?_
 intro i hi
 by_cases hil : i < ns.length
 case neg =>
  obtain rfl : i = ns.length := by omega
  have hn : ¬ ((ns.length : Nat) : Int) < (ns.map X9).length := by rw [List.length_map]; omega
  rw [List.take_length]
  refine QQh ?_
  (show AWP Tryz.prog E _ _ _; refine X1 ?_; exact (show Xd _ _ _ _ _ from ⟨_, St.le_refl _, ⟨rfl, trivial⟩, X3 _⟩))
 have hn : (i : Int) < (ns.map X9).length := by rw [List.length_map]; omega
 obtain ⟨x, hx⟩ := Xs (l := ns) hil
 have hxc : (ns.map X9)[i]? = some (X9 x) := Xx hx
 obtain ⟨f1, f2, f3⟩ := hfn x (List.mem_of_getElem? hx)
 have hroom : ((Yu R es (ns.take i)).map Xo).length ≤ 2000 := by
  have := List.length_filter_le (fun n => if R.kind = 7 then decide (R.n < (YL R es n.id : Nat)) else Y6 n.labels R.name && UT R n.props) (ns.take i)
  simp only [Yu, List.length_map, List.length_take] at this ⊢
  omega
 have hst : Yu R es (ns.take (i + 1)) = Yu R es (ns.take i) ++ if (if R.kind = 7 then decide (R.n < (YL R es x.id : Nat)) else Y6 x.labels R.name && UT R x.props) = true then [(x.id, 0)] else [] := X39 hx
 have h1 := X3u x rname (by omega)
 have h2 := hbr x.props (by omega)
 rw [hRn, hRk, hRm] at hst
 generalize Y6 x.labels rname = b1 at *
 generalize UT R x.props = b2 at *
 obtain ⟨xid, labels, props⟩ := x
 simp only [X9] at hxc h1 h2 hst
 clear hx hbr hfn hfe f1 f2 f3
 by_cases h7 : rk = 7
 case neg =>
  clear hR hRn hRk hRm hRs hRd
  rw [if_neg h7] at hst
  cases b1 with
  | false =>
   have hst := hst.trans (show _ = Yu R es (ns.take i) by simp)
   refine QRh ?_; refine QW ?_; refine QN ?_; refine Qse ?_; refine Qd ?_; refine Qkb ?_
   refine ⟨i + 1, hil, by omega, ?_⟩
   dsimp only
   rw [hst]
   exact QFh
  | true =>
   cases b2 with
   | false =>
    have hst := hst.trans (show _ = Yu R es (ns.take i) by simp)
    refine QXh ?_; refine Qse ?_; refine Qd ?_; refine Qkb ?_
    refine ⟨i + 1, hil, by omega, ?_⟩
    dsimp only
    rw [hst]
    exact QFh
   | true =>
    have hst : Yu R es (ns.take (i + 1)) = Yu R es (ns.take i) ++ [(xid, 0)] := hst.trans (by simp)
    have happ : (Yu R es (ns.take i) ++ [((xid, 0) : Int × Int)]).map Xo = (Yu R es (ns.take i)).map Xo ++ [Xo (xid, 0)] := by simp
    refine QXh ?_; refine Qse ?_; refine Qd ?_; refine QVh ?_
    refine ⟨i + 1, hil, by omega, ?_⟩
    dsimp only
    rw [hst, happ]
    exact QWh
 rw [if_pos h7] at hst
 have hzero : YL R (es.take 0) xid = 0 := rfl
 have htot : YL R (es.take es.length) xid = YL R es xid := by rw [List.take_length]
 cases b1 with
 | false =>
  refine QRh ?_; refine QW ?_; refine QN ?_; refine Qre ?_; refine Qcf ?_; refine QZa ?_
  refine Xz (fun k : Nat => k ≤ es.length) (fun k => ⟨77, [(2, .ptr 100 0), (3, .ptr 101 0), (5, .own 130 ((Yu R es (ns.take i)).map Xo).length), (6, ai i), (7, .ptr 102 0), (9, ai (YL R (es.take k) xid : Nat)), (10, ai k)], [(100, .box [ai rk, ai rn, XC rname, XC rkey, XC rsrc, XC rdst]), (101, .box [.d (.sl 3 (ns.map X9)), .d (.sl 5 (es.map Xf)), ai nn, ai ne]), (102, .box [ai xid, .d (.sl 1 (labels.map Xa)), .d (.sl 6 (props.map X7))]), (130, .row 2 ((Yu R es (ns.take i)).map Xo))]⟩) (fun k => es.length - k) 0 (Nat.zero_le _)
   (X6 rfl JM ⟨rfl, rfl, rfl, rfl, trivial⟩) ?_
  intro k hk
  by_cases hkl : k < es.length
  case pos =>
   have hn2 : (k : Int) < (es.map Xf).length := by rw [List.length_map]; omega
   obtain ⟨y, hy⟩ := Xs (l := es) hkl
   have hyc : (es.map Xf)[k]? = some (Xf y) := Xx hy
   have hcs : YL R (es.take (k + 1)) xid = YL R (es.take k) xid + if decide (y.typ = R.name) && decide (y.src = xid) then 1 else 0 := X6p hy
   have hle := X6T R (es.take k) xid
   rw [List.length_take] at hle
   rw [hRn] at hcs
   obtain ⟨yid, src, dst, typ, yprops⟩ := y
   simp only [Xf] at hyc hcs
   clear hy hst hzero htot hxc hroom hR hRn hRk hRm hRs hRd h1 h2
   by_cases hs : src = xid
   case neg =>
    have hcs := hcs.trans (show _ = YL R (es.take k) xid by simp [hs])
    refine Qzh ?_; refine QIb ?_; refine Z4 ?_; refine Qpf ?_; refine ZC ?_; refine Qhb ?_
    refine ⟨k + 1, hkl, by omega, ?_⟩
    dsimp only
    rw [hcs]
    exact QIg
   by_cases ht : typ = rname
   case neg =>
    have hcs := hcs.trans (show _ = YL R (es.take k) xid by simp [ht])
    refine QYh ?_; refine Qkb ?_
    refine ⟨k + 1, hkl, by omega, ?_⟩
    dsimp only
    rw [hcs]
    exact QIg
   have hcs := hcs.trans (show _ = YL R (es.take k) xid + 1 by simp [hs, ht])
   refine QYh ?_; refine Qm ?_; refine Qgb ?_; refine Qgb ?_
   refine ⟨k + 1, hkl, by omega, ?_⟩
   dsimp only
   rw [hcs]
   exact QIg
  obtain rfl : k = es.length := by omega
  have hn2 : ¬ ((es.length : Nat) : Int) < (es.map Xf).length := by rw [List.length_map]; omega
  rw [htot]
  generalize YL R es xid = w at *
  clear hzero htot hR hRn hRk hRm hRs hRd
  by_cases hw : rn < (w : Nat)
  ·rw [decide_eq_true hw] at hst
   have hst : Yu R es (ns.take (i + 1)) = Yu R es (ns.take i) ++ [(xid, 0)] := hst.trans (by simp)
   have happ : (Yu R es (ns.take i) ++ [((xid, 0) : Int × Int)]).map Xo = (Yu R es (ns.take i)).map Xo ++ [Xo (xid, 0)] := by simp
   refine QZh ?_; refine QVh ?_
   refine ⟨i + 1, hil, by omega, ?_⟩
   dsimp only
   rw [hst, happ]
   exact QWh
  ·rw [decide_eq_false hw] at hst
   have hst := hst.trans (show _ = Yu R es (ns.take i) by simp)
   refine QZh ?_; refine Qkb ?_
   refine ⟨i + 1, hil, by omega, ?_⟩
   dsimp only
   rw [hst]
   exact QFh
 | true =>
  refine QXh ?_; refine Qre ?_; refine Qcf ?_; refine QZa ?_
  refine Xz (fun k : Nat => k ≤ es.length) (fun k => ⟨77, [(2, .ptr 100 0), (3, .ptr 101 0), (5, .own 130 ((Yu R es (ns.take i)).map Xo).length), (6, ai i), (7, .ptr 102 0), (9, ai (YL R (es.take k) xid : Nat)), (10, ai k)], [(100, .box [ai rk, ai rn, XC rname, XC rkey, XC rsrc, XC rdst]), (101, .box [.d (.sl 3 (ns.map X9)), .d (.sl 5 (es.map Xf)), ai nn, ai ne]), (102, .box [ai xid, .d (.sl 1 (labels.map Xa)), .d (.sl 6 (props.map X7))]), (130, .row 2 ((Yu R es (ns.take i)).map Xo))]⟩) (fun k => es.length - k) 0 (Nat.zero_le _)
   (X6 rfl JM ⟨rfl, rfl, rfl, rfl, trivial⟩) ?_
  intro k hk
  by_cases hkl : k < es.length
  case pos =>
   have hn2 : (k : Int) < (es.map Xf).length := by rw [List.length_map]; omega
   obtain ⟨y, hy⟩ := Xs (l := es) hkl
   have hyc : (es.map Xf)[k]? = some (Xf y) := Xx hy
   have hcs : YL R (es.take (k + 1)) xid = YL R (es.take k) xid + if decide (y.typ = R.name) && decide (y.src = xid) then 1 else 0 := X6p hy
   have hle := X6T R (es.take k) xid
   rw [List.length_take] at hle
   rw [hRn] at hcs
   obtain ⟨yid, src, dst, typ, yprops⟩ := y
   simp only [Xf] at hyc hcs
   clear hy hst hzero htot hxc hroom hR hRn hRk hRm hRs hRd h1 h2
   by_cases hs : src = xid
   case neg =>
    have hcs := hcs.trans (show _ = YL R (es.take k) xid by simp [hs])
    refine Qzh ?_; refine QIb ?_; refine Z4 ?_; refine Qpf ?_; refine ZC ?_; refine Qhb ?_
    refine ⟨k + 1, hkl, by omega, ?_⟩
    dsimp only
    rw [hcs]
    exact QIg
   by_cases ht : typ = rname
   case neg =>
    have hcs := hcs.trans (show _ = YL R (es.take k) xid by simp [ht])
    refine QYh ?_; refine Qkb ?_
    refine ⟨k + 1, hkl, by omega, ?_⟩
    dsimp only
    rw [hcs]
    exact QIg
   have hcs := hcs.trans (show _ = YL R (es.take k) xid + 1 by simp [hs, ht])
   refine QYh ?_; refine Qm ?_; refine Qgb ?_; refine Qgb ?_
   refine ⟨k + 1, hkl, by omega, ?_⟩
   dsimp only
   rw [hcs]
   exact QIg
  obtain rfl : k = es.length := by omega
  have hn2 : ¬ ((es.length : Nat) : Int) < (es.map Xf).length := by rw [List.length_map]; omega
  rw [htot]
  generalize YL R es xid = w at *
  clear hzero htot hR hRn hRk hRm hRs hRd
  by_cases hw : rn < (w : Nat)
  ·rw [decide_eq_true hw] at hst
   have hst : Yu R es (ns.take (i + 1)) = Yu R es (ns.take i) ++ [(xid, 0)] := hst.trans (by simp)
   have happ : (Yu R es (ns.take i) ++ [((xid, 0) : Int × Int)]).map Xo = (Yu R es (ns.take i)).map Xo ++ [Xo (xid, 0)] := by simp
   refine QZh ?_; refine QVh ?_
   refine ⟨i + 1, hil, by omega, ?_⟩
   dsimp only
   rw [hst, happ]
   exact QWh
  ·rw [decide_eq_false hw] at hst
   have hst := hst.trans (show _ = Yu R es (ns.take i) by simp)
   refine QZh ?_; refine Qkb ?_
   refine ⟨i + 1, hil, by omega, ?_⟩
   dsimp only
   rw [hst]
   exact QFh
theorem Xfq (r : Rul) (g : Gra) (hf : GFit g) : Con Tryz.prog 196 [] [XU r, Xj g] [] (.d (.sl 2 ((Vx r g.nodes).map Xo))) := by
 refine Xc (xs := [.d (.sl 2 ((Vx r g.nodes).map Xo))]) Tryz.func196 rfl Tryz.ntmps196 rfl rfl rfl (fun E => ?_)
 obtain ⟨ns, es, nn, ne⟩ := g
 have hbr := fun l hl => X61 r l hl
 obtain ⟨rk, rn, rname, rkey, rsrc, rdst⟩ := r
 have hnl := hf.nl
 have hel := hf.el
 have hfn := hf.nodes
 have hfe := hf.edges
 clear hf
 unfold Xj
 simp only [XU] at hnl hel hfn hfe hbr ⊢
 generalize hR : (Rul.mk rk rn rname rkey rsrc rdst) = R at *
 have hRK : R.key = rkey := by rw [← hR]
 have hRn : R.name = rname := by rw [← hR]
 have hRk : R.kind = rk := by rw [← hR]
 have hRm : R.n = rn := by rw [← hR]
 have hRs : R.src = rsrc := by rw [← hR]
 have hRd : R.dst = rdst := by rw [← hR]
 have hmax := X5q (r := R) hnl
 generalize hT : Vx R ns = T at *
 refine QPh ?_
 refine Xz (ι := Nat × List (Int × Int)) (fun q => q.1 ≤ ns.length ∧ q.2 ++ Vx R (ns.drop q.1) = T) (fun q => ⟨87, [(2, .ptr 100 0), (3, .ptr 101 0), (5, .own 130 (q.2.map Xo).length), (6, ai q.1)], [(100, .box [ai rk, ai rn, XC rname, XC rkey, XC rsrc, XC rdst]), (101, .box [.d (.sl 3 (ns.map X9)), .d (.sl 5 (es.map Xf)), ai nn, ai ne]), (130, .row 2 (q.2.map Xo))]⟩) (fun q => ns.length - q.1) (0, []) ⟨Nat.zero_le _, by simpa using hT⟩
  (X6 rfl JM ⟨rfl, rfl, rfl, trivial⟩) ?_
 rintro ⟨i, acc⟩ ⟨hi, hg⟩
 simp only at hi hg
 by_cases hil : i < ns.length
 case neg =>
  rw [List.drop_of_length_le (by omega), Vx, List.append_nil] at hg
  subst hg
  have hn : ¬ (i : Int) < (ns.map X9).length := by rw [List.length_map]; omega
  refine QQh ?_
  (show AWP Tryz.prog E _ _ _; refine X1 ?_; exact (show Xd _ _ _ _ _ from ⟨_, St.le_refl _, ⟨rfl, trivial⟩, X3 _⟩))
 have hn : (i : Int) < (ns.map X9).length := by rw [List.length_map]; omega
 obtain ⟨x, hx⟩ := Xs (l := ns) hil
 have hxc : (ns.map X9)[i]? = some (X9 x) := Xx hx
 obtain ⟨f1, f2, f3⟩ := hfn x (List.mem_of_getElem? hx)
 rw [Xe9 hx] at hg
 have h1 := X5J x.props rkey (by omega)
 have h3 := X3u x rname (by omega)
 have hpx : ∀ v, Yf x.props rkey = some v → XV v = true := fun v hv => by
  obtain ⟨p, hp, rfl⟩ := X4B hv
  exact f3 p hp
 have hho : U8 R x = X1Q (Yf x.props rkey) (Y6 x.labels rname) := by rw [Xb2, hRn, hRK]
 generalize hTL : Vx R (ns.drop (i + 1)) = TL at *
 refine Qjh ?_; refine Qd ?_; refine Zt ?_; refine Qb ?_; refine X4 ?_
 refine Xz (ι := Nat × List (Int × Int)) (fun q => q.1 ≤ ns.length ∧ q.2 ++ (UZ R x (ns.drop q.1) ++ TL) = T) (fun q => ⟨87, [(2, .ptr 100 0), (3, .ptr 101 0), (5, .own 130 (q.2.map Xo).length), (6, ai i), (7, ai q.1)], [(100, .box [ai rk, ai rn, XC rname, XC rkey, XC rsrc, XC rdst]), (101, .box [.d (.sl 3 (ns.map X9)), .d (.sl 5 (es.map Xf)), ai nn, ai ne]), (130, .row 2 (q.2.map Xo))]⟩) (fun q => ns.length - q.1) (i + 1, acc) ⟨by show i + 1 ≤ ns.length; omega, hg⟩
  (X6 rfl JM ⟨rfl, rfl, rfl, trivial⟩) ?_
 clear hg
 rintro ⟨k, acc2⟩ ⟨hk, hg⟩
 simp only at hk hg
 have hroom := Xbd hg hmax
 by_cases hkl : k < ns.length
 case neg =>
  rw [List.drop_of_length_le (by omega)] at hg
  have hg : acc2 ++ TL = T := hg
  have hn2 : ¬ (k : Int) < (ns.map X9).length := by rw [List.length_map]; omega
  refine Qgh ?_; refine Qgb ?_; exact ⟨(i + 1, acc2), ⟨by show i + 1 ≤ ns.length; omega, by show acc2 ++ Vx R (ns.drop (i + 1)) = T; rw [hTL]; exact hg⟩, by show ns.length - (i + 1) < ns.length - i; omega, X6 rfl JM ⟨rfl, rfl, rfl, trivial⟩⟩
 have hn2 : (k : Int) < (ns.map X9).length := by rw [List.length_map]; omega
 obtain ⟨y, hy⟩ := Xs (l := ns) hkl
 have hyc : (ns.map X9)[k]? = some (X9 y) := Xx hy
 obtain ⟨e1, e2, e3⟩ := hfn y (List.mem_of_getElem? hy)
 have h2 := X5J y.props rkey (by omega)
 have h4 := X3u y rname (by omega)
 have hpy : ∀ v, Yf y.props rkey = some v → XV v = true := fun v hv => by
  obtain ⟨p, hp, rfl⟩ := X4B hv
  exact e3 p hp
 have hhy : U8 R y = X1Q (Yf y.props rkey) (Y6 y.labels rname) := by rw [Xb2, hRn, hRK]
 rw [Xif hy] at hg
 rw [Xck, hho, hhy] at hg
 clear hho hhy hTL hT hx hy hbr hfn hfe hR hRn hRK hRk hRm hRs hRd f1 f2 f3 e1 e2 e3
 generalize hRR : UZ R x (ns.drop (k + 1)) = RR at *
 generalize Yf x.props rkey = p1 at *
 generalize Yf y.props rkey = p2 at *
 generalize Y6 x.labels rname = b1 at *
 generalize Y6 y.labels rname = b2 at *
 have hRR' : ∀ z, RR ++ z = UZ R x (ns.drop (k + 1)) ++ z := fun z => by rw [hRR]
 obtain ⟨xid, xl, xp⟩ := x
 obtain ⟨yid, yl, yp⟩ := y
 simp only [X9] at hxc hyc h1 h2 h3 h4 hg hRR'
 cases p1 with
 | none =>
  have hg2 : acc2 ++ (UZ R ⟨xid, xl, xp⟩ (ns.drop (k + 1)) ++ TL) = T := by rw [← hRR']; simpa [X1Q, eqO] using hg
  simp only [Option.getD_none, Option.isSome_none, zV, Xm] at h1
  clear hg hpx hpy hRR hRR'
  cases p2 with
  | none =>
   simp only [Option.getD_none, Option.isSome_none, zV, Xm] at h2
   refine Qai ?_; refine QD ?_; refine Qra ?_; exact Qdi
  | some w =>
   obtain ⟨wk, wn, wd, ws, wl⟩ := w
   simp only [Option.getD_some, Option.isSome_some, Xm] at h2
   refine Qai ?_; refine QD ?_; refine Qra ?_; exact Qdi
 | some v =>
  have hpv := hpx v rfl
  cases p2 with
  | none =>
   have hg2 : acc2 ++ (UZ R ⟨xid, xl, xp⟩ (ns.drop (k + 1)) ++ TL) = T := by rw [← hRR']; cases b1 <;> simpa [X1Q, eqO] using hg
   clear hg hpx hpy hRR hRR' hpv
   obtain ⟨vk, vn, vd, vs, vl⟩ := v
   simp only [Option.getD_some, Option.isSome_some, Xm] at h1
   simp only [Option.getD_none, Option.isSome_none, zV, Xm] at h2
   refine Qai ?_; refine QPd ?_; refine ZB ?_; exact Qdi
  | some w =>
   have hpw := hpy w rfl
   have h5 := XcJ v w hpv hpw (X6a hpv) (X6a hpw)
   have hev : ∃ e, e = eqV v w := ⟨_, rfl⟩
   obtain ⟨e, hev⟩ := hev
   simp only [X1Q] at hg
   rw [← hev] at h5
   clear hpx hpy hpv hpw
   have hev2 : eqO (some v) (some w) = e := hev.symm
   clear hev
   obtain ⟨vk, vn, vd, vs, vl⟩ := v
   obtain ⟨wk, wn, wd, ws, wl⟩ := w
   simp only [Option.getD_some, Option.isSome_some, Xm] at h1 h2 h5
   cases b1 with
   | false =>
    have hg2 : acc2 ++ (UZ R ⟨xid, xl, xp⟩ (ns.drop (k + 1)) ++ TL) = T := by rw [← hRR']; simpa [eqO] using hg
    clear hg hRR hRR' hev2
    refine Qai ?_; refine QPd ?_; refine ZB ?_; refine Qjc ?_; refine QIb ?_; refine Zr (hcon := h3) ?_; refine ZB ?_; refine Qeb ?_; exact Qci
   | true =>
    cases b2 with
    | false =>
     have hg2 : acc2 ++ (UZ R ⟨xid, xl, xp⟩ (ns.drop (k + 1)) ++ TL) = T := by rw [← hRR']; simpa [eqO] using hg
     clear hg hRR hRR' hev2
     refine Qei ?_; refine ZB ?_; refine QW ?_; exact Qci
    | true =>
     cases e with
     | false =>
      have hg2 : acc2 ++ (UZ R ⟨xid, xl, xp⟩ (ns.drop (k + 1)) ++ TL) = T := by rw [← hRR']; simpa [hev2] using hg
      clear hg hRR hRR' hev2
      refine Qei ?_; refine ZB ?_; refine Qjc ?_; refine ZX ?_; refine Zr (hcon := h5) ?_; refine Z4 ?_; refine ZB ?_; refine Qkb ?_; exact Qbi
     | true =>
      have hg2 : (acc2 ++ [(xid, yid)]) ++ (UZ R ⟨xid, xl, xp⟩ (ns.drop (k + 1)) ++ TL) = T := by rw [← hRR']; simpa [hev2] using hg
      clear hg hRR hRR' hev2
      have happ : (acc2 ++ [(xid, yid)]).map Xo = acc2.map Xo ++ [Xo (xid, yid)] := by simp
      refine Qei ?_; refine ZB ?_; refine Qjc ?_; refine ZX ?_; refine Zr (hcon := h5) ?_; refine Z4 ?_; refine ZB ?_; refine Qed ?_; refine QRb ?_; refine ZJ ?_; refine Quf ?_
      refine ⟨(k + 1, acc2 ++ [(xid, yid)]), ⟨by show k + 1 ≤ ns.length; omega, hg2⟩, by show ns.length - (k + 1) < ns.length - k; omega, ?_⟩
      dsimp only
      rw [happ]
      exact X6 rfl ⟨JL, JL, AVal.le_of_eq (by refine Eq.trans (b := AVal.own 130 (_ + _)) rfl ?_; simp only [List.length_append, List.length_map, List.length_cons, List.length_nil]), JL, JL, trivial⟩ ⟨rfl, rfl, rfl, trivial⟩
end Go.Fw
