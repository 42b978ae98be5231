/- The program's search for violations: degrees. -/
import Derived.Test.YtbhleedlnaakkaaK17
set_option maxHeartbeats 64000000
namespace Go.Fw
open Go Go.Proofs
set_option maxRecDepth 100000
set_option linter.unusedVariables false
set_option linter.unusedSimpArgs false
theorem X8s (r : Rul) (g : Gra) (hf : GFit g) : Con Try.prog 29 [] [XA r, Xq g] [] (.d (.sl 2 ((YD r g.edges g.nodes).map Xk))) := by
 refine Xf (xs := [.d (.sl 2 ((YD r g.edges g.nodes).map Xk))]) Try.func29 rfl Try.ntmps29 rfl rfl rfl (fun E => ?_)
 obtain ⟨ns, es, nn, ne⟩ := g
 have hbr := fun l hl => X12 r l hl
 obtain ⟨rk, rn, rname, rkey, rsrc, rdst⟩ := r
 have hnl := hf.nl
 have hel := hf.el
 have hfn := hf.nodes
 have hfe := hf.edges
 clear hf
 unfold Xq
 simp only [XA] at hnl hel hfn hfe hbr ⊢
 generalize hR : (Rul.mk rk rn rname rkey rsrc rdst) = R at *
 have hRn : R.name = rname := by rw [← hR]
 have hRk : R.kind = rk := by rw [← hR]
 have hRm : R.n = rn := by rw [← hR]
 have hRs : R.src = rsrc := by rw [← hR]
 have hRd : R.dst = rdst := by rw [← hR]
 refine X0 ?_; refine JR ?_; refine Zn (γ := 100) ?_; refine Zn (γ := 101) ?_; refine Z0 ?_; refine JD ?_; refine X0 ?_; refine JR ?_; refine ZT (γ := 120) ?_; refine Z0 ?_; refine JD ?_; refine X0 ?_
 refine X0 ?_; refine JR ?_; refine Zo ?_; refine Zp ?_; refine Zw ?_; refine Z1 ?_; refine JD ?_; refine X4 ?_
 refine XD (ι := Nat × List (Int × Int)) (fun q => q.1 ≤ es.length ∧ ∀ id, XW q.2 id = (Us R (es.take q.1) id : Nat)) (fun q => ⟨52, [(2, .ptr 100 0), (3, .ptr 101 0), (5, .inn 120 0), (13, .d (.sl 5 (es.map Xl))), (14, ai (es.map Xl).length), (15, ai q.1)], [(100, .box [ai rk, ai rn, Xu rname, Xu rkey, Xu rsrc, Xu rdst]), (101, .box [.d (.sl 3 (ns.map Xd)), .d (.sl 5 (es.map Xl)), ai nn, ai ne]), (120, .imap q.2)]⟩) (fun q => es.length - q.1) (0, []) ⟨Nat.zero_le _, fun id => rfl⟩
  (X8 rfl JM ⟨rfl, rfl, rfl, trivial⟩) ?_
 rintro ⟨i, M⟩ ⟨hi, hM⟩
 simp only at hi hM
 by_cases hil : i < es.length
 case pos =>
  have hn : (i : Int) < (es.map Xl).length := by rw [List.length_map]; omega
  obtain ⟨x, hx⟩ := Xs (l := es) hil
  have hxc : (es.map Xl)[i]? = some (Xl x) := Xw hx
  have hst : ∀ id, Us R (es.take (i + 1)) id = Us R (es.take i) id + if decide (x.typ = R.name) && decide (x.src = id) then 1 else 0 := fun id => X4U hx
  rw [hRn] at hst
  obtain ⟨xid, src, dst, typ, props⟩ := x
  simp only [Xl] at hxc hst
  have hv := hM src
  have hle := X6o R (es.take i) src
  rw [List.length_take] at hle
  clear hx hbr hR hRn hRk hRm hRs hRd hfn hfe
  by_cases ht : typ = rname
  ·generalize hvv : XW M src = v at *
   have hin : XV (v + 1) := by unfold XV; omega
   refine X0 ?_; refine JR ?_; refine Ze ?_; refine JD ?_; refine X0 ?_; refine JT ?_; refine X3 ?_; refine X0 ?_; refine X4 ?_; refine X0 ?_; refine JR ?_; refine Zy ?_; refine Zz ?_
   refine Zh (γ := 102) ?_; refine Zk ?_; refine JD ?_; refine X0 ?_; refine JR ?_; refine Zo ?_; refine Zp ?_; refine Zo ?_; refine Zp ?_; refine Z8 ?_; refine JD ?_; refine JT ?_; refine JR ?_; refine Z1 ?_
   refine Zo ?_; refine Zp ?_; refine ZU ?_; refine Zf ?_; refine ZV ?_; refine JD ?_; refine JR ?_; refine Zf ?_; refine Z1 ?_; refine JD ?_
   refine ⟨(i + 1, Yw M src (v + 1)), ⟨by show i + 1 ≤ es.length; omega, fun id => ?_⟩, by show es.length - (i + 1) < es.length - i; omega, ?_⟩
   ·show XW (Yw M src (v + 1)) id = _
    rw [X2T, hst id, hM id]
    by_cases hid : id = src
    ·subst hid
     rw [if_pos rfl, hv]
     simp [ht]
    ·have hid' : ¬ src = id := fun e => hid e.symm
     rw [if_neg hid]
     simp [hid']
   ·rw [← hvv]
    exact X8 rfl JM ⟨rfl, rfl, rfl, trivial⟩
  ·refine X0 ?_; refine JR ?_; refine Ze ?_; refine JD ?_; refine X0 ?_; refine JT ?_; refine X3 ?_; refine X0 ?_; refine X4 ?_; refine X0 ?_; refine JR ?_; refine Zy ?_; refine Zz ?_
   refine Zh (γ := 102) ?_; refine Zk ?_; refine JD ?_; refine X0 ?_; refine JR ?_; refine Zo ?_; refine Zp ?_; refine Zo ?_; refine Zp ?_; refine Z8 ?_; refine JD ?_; refine JF ?_; refine X3 ?_; refine JR ?_
   refine Zf ?_; refine Z1 ?_; refine JD ?_
   exact ⟨(i + 1, M), ⟨by show i + 1 ≤ es.length; omega, fun id => by rw [hM id]; show _ = ((Us R (es.take (i + 1)) id : Nat) : Int); rw [hst id]; simp [ht]⟩, by show es.length - (i + 1) < es.length - i; omega, X8 rfl JM ⟨rfl, rfl, rfl, trivial⟩⟩
 obtain rfl : i = es.length := by omega
 have hn : ¬ ((es.length : Nat) : Int) < (es.map Xl).length := by rw [List.length_map]; omega
 rw [List.take_length] at hM
 refine X0 ?_; refine JR ?_; refine Ze ?_; refine JD ?_; refine X0 ?_; refine JF ?_; refine Xz ?_; refine X0 ?_; refine JR ?_; refine Z0 ?_; refine JD ?_; refine X0 ?_; refine X0 ?_
 refine JR ?_; refine Zo ?_; refine Zp ?_; refine Zw ?_; refine Z1 ?_; refine JD ?_; refine X4 ?_
 clear hn
 refine XH (Ut 8 130 2 rfl rfl rfl) ?_
 refine XD (fun i : Nat => i ≤ ns.length) (fun i => ⟨52, [(2, .ptr 100 0), (3, .ptr 101 0), (5, .inn 120 0), (8, .own 130 ((YD R es (ns.take i)).map Xk).length), (31, .d (.sl 3 (ns.map Xd))), (32, ai (ns.map Xd).length), (33, ai i)], [(100, .box [ai rk, ai rn, Xu rname, Xu rkey, Xu rsrc, Xu rdst]), (101, .box [.d (.sl 3 (ns.map Xd)), .d (.sl 5 (es.map Xl)), ai nn, ai ne]), (120, .imap M), (130, .row 2 ((YD R es (ns.take i)).map Xk))]⟩) (fun i => ns.length - i) 0 (Nat.zero_le _)
  (X8 rfl JM ⟨rfl, rfl, rfl, rfl, trivial⟩) ?_
 clear hi hil
 intro i hi
 by_cases hil : i < ns.length
 case neg =>
  obtain rfl : i = ns.length := by omega
  have hn : ¬ ((ns.length : Nat) : Int) < (ns.map Xd).length := by rw [List.length_map]; omega
  rw [List.take_length]
  refine X0 ?_; refine JR ?_; refine Ze ?_; refine JD ?_; refine X0 ?_; refine JF ?_; refine Xz ?_; refine X0 ?_; refine JR ?_; refine Z1 ?_; refine Z0 ?_; refine JD ?_
  refine XH (U0 130 rfl) ?_
  refine XH (U3 4 130 rfl rfl rfl) ?_
  (show AWP Try.prog E _ _ _; refine X1 ?_; exact (show Xj _ _ _ _ _ from ⟨_, St.le_refl _, ⟨rfl, trivial⟩, X2 _⟩))
 have hn : (i : Int) < (ns.map Xd).length := by rw [List.length_map]; omega
 obtain ⟨x, hx⟩ := Xs (l := ns) hil
 have hxc : (ns.map Xd)[i]? = some (Xd x) := Xw hx
 have hroom : ((YD R es (ns.take i)).map Xk).length ≤ 2000 := by
  have := List.length_filter_le (fun n => decide (R.n < (Us R es n.id : Nat))) (ns.take i)
  simp only [YD, List.length_map, List.length_take] at this ⊢
  omega
 have hst : YD R es (ns.take (i + 1)) = YD R es (ns.take i) ++ if decide (R.n < (Us R es x.id : Nat)) then [(x.id, 0)] else [] := X1G hx
 rw [← hM x.id, hRm] at hst
 obtain ⟨xid, labels, props⟩ := x
 simp only [Xd] at hxc hst
 clear hx hbr hR hRn hRk hRm hRs hRd hfn hfe hM
 by_cases ht : rn < XW M xid
 ·rw [decide_eq_true ht] at hst
  have hst : YD R es (ns.take (i + 1)) = YD R es (ns.take i) ++ [(xid, 0)] := hst.trans (by simp)
  have happ : (YD R es (ns.take i) ++ [((xid, 0) : Int × Int)]).map Xk = (YD R es (ns.take i)).map Xk ++ [Xk (xid, 0)] := by simp
  refine X0 ?_; refine JR ?_; refine Ze ?_; refine JD ?_; refine X0 ?_; refine JT ?_; refine X3 ?_; refine X0 ?_; refine X4 ?_; refine X0 ?_; refine JR ?_; refine Zy ?_; refine Zz ?_
  refine Zh (γ := 102) ?_; refine Zk ?_; refine JD ?_; refine X0 ?_; refine JR ?_; refine Z1 ?_; refine Zo ?_; refine Zp ?_; refine ZU ?_; refine Zo ?_; refine Zp ?_; refine Za ?_; refine JD ?_; refine JT ?_
  refine JR ?_; refine Z1 ?_; refine Zo ?_; refine Zp ?_; refine Zj ?_; refine ZA ?_; refine ZG ?_; refine Z0 ?_; refine JD ?_; refine JR ?_; refine Zf ?_; refine Z1 ?_; refine JD ?_
  refine ⟨i + 1, hil, by omega, ?_⟩
  dsimp only
  rw [hst, happ]
  exact X8 rfl ⟨JL, JL, JL, AVal.le_of_eq (by refine Eq.trans (b := AVal.own 130 (_ + _)) rfl ?_; simp only [List.length_append, List.length_map, List.length_cons, List.length_nil]), JL, JL, JL, trivial⟩ ⟨rfl, rfl, rfl, rfl, trivial⟩
 ·rw [decide_eq_false ht] at hst
  have hst := hst.trans (show _ = YD R es (ns.take i) by simp)
  refine X0 ?_; refine JR ?_; refine Ze ?_; refine JD ?_; refine X0 ?_; refine JT ?_; refine X3 ?_; refine X0 ?_; refine X4 ?_; refine X0 ?_; refine JR ?_; refine Zy ?_; refine Zz ?_
  refine Zh (γ := 102) ?_; refine Zk ?_; refine JD ?_; refine X0 ?_; refine JR ?_; refine Z1 ?_; refine Zo ?_; refine Zp ?_; refine ZU ?_; refine Zo ?_; refine Zp ?_; refine Za ?_; refine JD ?_; refine JF ?_
  refine X3 ?_; refine JR ?_; refine Zf ?_; refine Z1 ?_; refine JD ?_
  refine ⟨i + 1, hil, by omega, ?_⟩
  dsimp only
  rw [hst]
  exact X8 rfl JM ⟨rfl, rfl, rfl, rfl, trivial⟩
end Go.Fw
namespace Go.Fw
open Go Go.Proofs
set_option maxRecDepth 100000
set_option linter.unusedVariables false
set_option linter.unusedSimpArgs false
theorem X4Q {acc rest tot : List (Int × Int)} (h : acc ++ rest = tot) (hl : tot.length ≤ 4000000) : (acc.map Xk).length ≤ 4000000 := by
 have := congrArg List.length h
 simp only [List.length_append] at this
 rw [List.length_map]
 omega
theorem X82 (r : Rul) (g : Gra) (hf : GFit g) : Con Try.prog 27 [] [XA r, Xq g] [] (.d (.sl 2 ((Yt (XK r g.nodes)).map Xk))) := by
 refine Xf (xs := [.d (.sl 2 ((Yt (XK r g.nodes)).map Xk))]) Try.func27 rfl Try.ntmps27 rfl rfl rfl (fun E => ?_)
 obtain ⟨ns, es, nn, ne⟩ := g
 have hbr := fun l hl => X12 r l hl
 obtain ⟨rk, rn, rname, rkey, rsrc, rdst⟩ := r
 have hnl := hf.nl
 have hel := hf.el
 have hfn := hf.nodes
 have hfe := hf.edges
 clear hf
 unfold Xq
 simp only [XA] at hnl hel hfn hfe hbr ⊢
 generalize hR : (Rul.mk rk rn rname rkey rsrc rdst) = R at *
 have hRK : R.key = rkey := by rw [← hR]
 have hRn : R.name = rname := by rw [← hR]
 have hRk : R.kind = rk := by rw [← hR]
 have hRm : R.n = rn := by rw [← hR]
 have hRs : R.src = rsrc := by rw [← hR]
 have hRd : R.dst = rdst := by rw [← hR]
 refine X0 ?_; refine JR ?_; refine Zn (γ := 100) ?_; refine Zn (γ := 101) ?_; refine Z0 ?_; refine JD ?_; refine X0 ?_; refine JR ?_; refine Z0 ?_; refine JD ?_; refine X0 ?_; refine X0 ?_
 refine JR ?_; refine Zo ?_; refine Zp ?_; refine Zw ?_; refine Z1 ?_; refine JD ?_; refine X4 ?_
 refine XH (Ut 5 130 6 rfl rfl rfl) ?_
 refine XD (fun i : Nat => i ≤ ns.length) (fun i => ⟨78, [(2, .ptr 100 0), (3, .ptr 101 0), (5, .own 130 ((XK R (ns.take i)).map XF).length), (16, .d (.sl 3 (ns.map Xd))), (17, ai (ns.map Xd).length), (18, ai i)], [(100, .box [ai rk, ai rn, Xu rname, Xu rkey, Xu rsrc, Xu rdst]), (101, .box [.d (.sl 3 (ns.map Xd)), .d (.sl 5 (es.map Xl)), ai nn, ai ne]), (130, .row 6 ((XK R (ns.take i)).map XF))]⟩) (fun i => ns.length - i) 0 (Nat.zero_le _)
  (X8 rfl JM ⟨rfl, rfl, rfl, trivial⟩) ?_
 intro i hi
 by_cases hil : i < ns.length
 case pos =>
  have hn : (i : Int) < (ns.map Xd).length := by rw [List.length_map]; omega
  obtain ⟨x, hx⟩ := Xs (l := ns) hil
  have hxc : (ns.map Xd)[i]? = some (Xd x) := Xw hx
  obtain ⟨f1, f2, f3⟩ := hfn x (List.mem_of_getElem? hx)
  have hroom : ((XK R (ns.take i)).map XF).length ≤ 2000 := by
   have := X1K R (ns.take i)
   rw [List.length_take] at this
   rw [List.length_map]
   omega
  have hst := X7g (r := R) hx
  have h1 := X2k x.props rkey (by omega)
  have h2 := X1e x rname (by omega)
  unfold U2 at hst
  rw [hRn, hRK] at hst
  generalize Ye x.props rkey = pv at *
  generalize Yp x.labels rname = b2 at *
  obtain ⟨xid, labels, props⟩ := x
  simp only [Xd] at hxc h1 h2 hst
  clear hx hbr hfn hfe f1 f2 f3 hR hRn hRK hRk hRm hRs hRd
  cases pv with
  | none =>
   replace hst := hst.trans (show _ = XK R (ns.take i) by simp)
   simp only [Option.getD_none, Option.isSome_none, zV, XS] at h1
   refine X0 ?_; refine JR ?_; refine Ze ?_; refine JD ?_; refine X0 ?_; refine JT ?_; refine X3 ?_; refine X0 ?_; refine X4 ?_; refine X0 ?_; refine JR ?_; refine Zy ?_; refine Zz ?_
   refine Zh (γ := 102) ?_; refine Zk ?_; refine JD ?_; refine X0 ?_; refine JR ?_; refine Zo ?_; refine Zp ?_; refine Zo ?_; refine Zp ?_; refine Zc (hcon := h1) ?_; refine Z1 ?_; refine Zs ?_; refine Zs ?_
   refine Zh (γ := 103) ?_; refine Zk ?_; refine Z0 ?_; refine JD ?_; refine X0 ?_; refine JR ?_; refine Z1 ?_; refine Z1 ?_; refine Z5 ?_; refine Z5 ?_; refine Z5 ?_; refine Z5 ?_; refine Z7 ?_; refine JD ?_
   refine JF ?_; refine X3 ?_; refine JR ?_; refine Zf ?_; refine Z1 ?_; refine JD ?_
   refine ⟨i + 1, hil, by omega, ?_⟩
   dsimp only
   rw [hst]
   exact X8 rfl JM ⟨rfl, rfl, rfl, trivial⟩
  | some v =>
   simp only [Option.getD_some, Option.isSome_some] at h1
   cases b2 with
   | false =>
    replace hst := hst.trans (show _ = XK R (ns.take i) by simp)
    obtain ⟨vk, vn, vd, vs, vl⟩ := v
    simp only [XS] at h1
    refine X0 ?_; refine JR ?_; refine Ze ?_; refine JD ?_; refine X0 ?_; refine JT ?_; refine X3 ?_; refine X0 ?_; refine X4 ?_; refine X0 ?_; refine JR ?_; refine Zy ?_; refine Zz ?_
    refine Zh (γ := 102) ?_; refine Zk ?_; refine JD ?_; refine X0 ?_; refine JR ?_; refine Zo ?_; refine Zp ?_; refine Zo ?_; refine Zp ?_; refine Zc (hcon := h1) ?_; refine Z1 ?_; refine Zs ?_; refine Zs ?_
    refine Zh (γ := 103) ?_; refine Zk ?_; refine Z0 ?_; refine JD ?_; refine X0 ?_; refine JR ?_; refine Z1 ?_; refine Z1 ?_; refine ZD ?_; refine Zo ?_; refine Zp ?_; refine Zc (hcon := h2) ?_; refine Z4 ?_
    refine JD ?_; refine JF ?_; refine X3 ?_; refine JR ?_; refine Zf ?_; refine Z1 ?_; refine JD ?_
    refine ⟨i + 1, hil, by omega, ?_⟩
    dsimp only
    rw [hst]
    exact X8 rfl JM ⟨rfl, rfl, rfl, trivial⟩
   | true =>
    replace hst : XK R (ns.take (i + 1)) = XK R (ns.take i) ++ [(xid, v)] := hst.trans (by simp)
    have happ : (XK R (ns.take i) ++ [(xid, v)]).map XF = (XK R (ns.take i)).map XF ++ [XF (xid, v)] := by simp
    obtain ⟨vk, vn, vd, vs, vl⟩ := v
    simp only [XS] at h1
    simp only [XF, Y9] at happ
    refine X0 ?_; refine JR ?_; refine Ze ?_; refine JD ?_; refine X0 ?_; refine JT ?_; refine X3 ?_; refine X0 ?_; refine X4 ?_; refine X0 ?_; refine JR ?_; refine Zy ?_; refine Zz ?_
    refine Zh (γ := 102) ?_; refine Zk ?_; refine JD ?_; refine X0 ?_; refine JR ?_; refine Zo ?_; refine Zp ?_; refine Zo ?_; refine Zp ?_; refine Zc (hcon := h1) ?_; refine Z1 ?_; refine Zs ?_; refine Zs ?_
    refine Zh (γ := 103) ?_; refine Zk ?_; refine Z0 ?_; refine JD ?_; refine X0 ?_; refine JR ?_; refine Z1 ?_; refine Z1 ?_; refine ZD ?_; refine Zo ?_; refine Zp ?_; refine Zc (hcon := h2) ?_; refine Z4 ?_
    refine JD ?_; refine JT ?_; refine JR ?_; refine Z1 ?_; refine Zo ?_; refine Zp ?_; refine ZD ?_; refine Zj ?_; refine ZA ?_; refine ZG ?_; refine Z0 ?_; refine JD ?_; refine JR ?_; refine Zf ?_; refine Z1 ?_
    refine JD ?_
    refine ⟨i + 1, hil, by omega, ?_⟩
    dsimp only
    rw [hst, happ]
    exact X8 rfl ⟨JL, JL, AVal.le_of_eq (by refine Eq.trans (b := AVal.own 130 (_ + _)) rfl ?_; simp only [List.length_append, List.length_map, List.length_cons, List.length_nil]), JL, JL, JL, trivial⟩ ⟨rfl, rfl, rfl, trivial⟩
 obtain rfl : i = ns.length := by omega
 have hn : ¬ ((ns.length : Nat) : Int) < (ns.map Xd).length := by rw [List.length_map]; omega
 rw [List.take_length]
 have hpl := X7n (r := R) hfn
 have hlen := X1K R ns
 have hmax := X3P (r := R) hnl
 rw [X0y] at hmax
 generalize XK R ns = H at *
 generalize hT : Yt H = T at *
 have hHm : (H.map XF).length = H.length := by simp
 refine X0 ?_; refine JR ?_; refine Ze ?_; refine JD ?_; refine X0 ?_; refine JF ?_; refine Xz ?_; refine X0 ?_; refine JR ?_; refine Z0 ?_; refine JD ?_; refine X0 ?_; refine X0 ?_
 clear hn hfn hfe hbr hR hRn hRK hRk hRm hRs hRd
 refine XH (U0 130 rfl) ?_
 refine XH (U3 5 130 rfl rfl rfl) ?_
 refine XH (Ut 10 131 2 rfl rfl rfl) ?_
 refine JR ?_; refine Z1 ?_; refine Zw ?_; refine Z1 ?_; refine JD ?_; refine X4 ?_
 refine XD (ι := Nat × List (Int × Int)) (fun q => q.1 ≤ H.length ∧ q.2 ++ Yt (H.drop q.1) = T) (fun q => ⟨78, [(5, .d (.sl 6 (H.map XF))), (10, .own 131 (q.2.map Xk).length), (45, .d (.sl 6 (H.map XF))), (46, ai (H.map XF).length), (47, ai q.1)], [(131, .row 2 (q.2.map Xk))]⟩) (fun q => H.length - q.1) (0, []) ⟨Nat.zero_le _, by simpa using hT⟩
  (X8 rfl JM ⟨rfl, trivial⟩) ?_
 rintro ⟨j, acc⟩ ⟨hj, hg⟩
 simp only at hj hg
 by_cases hjl : j < H.length
 case neg =>
  rw [List.drop_of_length_le (by omega), Yt, List.append_nil] at hg
  subst hg
  have hn : ¬ (j : Int) < (H.map XF).length := by omega
  refine X0 ?_; refine JR ?_; refine Ze ?_; refine JD ?_; refine X0 ?_; refine JF ?_; refine Xz ?_; refine X0 ?_; refine JR ?_; refine Z1 ?_; refine Z0 ?_; refine JD ?_
  refine XH (U0 131 rfl) ?_
  refine XH (U3 4 131 rfl rfl rfl) ?_
  (show AWP Try.prog E _ _ _; refine X1 ?_; exact (show Xj _ _ _ _ _ from ⟨_, St.le_refl _, ⟨rfl, trivial⟩, X2 _⟩))
 have hn : (j : Int) < (H.map XF).length := by omega
 obtain ⟨a, ha⟩ := Xs (l := H) hjl
 have hac : (H.map XF)[j]? = some (XF a) := Xw ha
 have hap := hpl a (List.mem_of_getElem? ha)
 rw [X7S ha] at hg
 have hsl : ((H.map XF).take (H.map XF).length).drop (j + 1) = (H.drop (j + 1)).map XF := by rw [List.take_length, List.map_drop]
 have hjm : j + 1 ≤ (H.map XF).length := by omega
 generalize hTl : Yt (H.drop (j + 1)) = TL at *
 have hpl2 : ∀ h ∈ H.drop (j + 1), XJ h.2 = true := fun h hh => hpl h (List.mem_of_mem_drop hh)
 have hBl : (H.drop (j + 1)).length ≤ 2000 := by rw [List.length_drop]; omega
 generalize hB : H.drop (j + 1) = B at *
 obtain ⟨aid, av⟩ := a
 obtain ⟨ak, an, ad, as_, al⟩ := av
 simp only [XF, Y9] at hac hap
 clear ha
 refine X0 ?_; refine JR ?_; refine Ze ?_; refine JD ?_; refine X0 ?_; refine JT ?_; refine X3 ?_; refine X0 ?_; refine X4 ?_; refine X0 ?_; refine JR ?_; refine Z1 ?_; refine Zy ?_
 refine Zz ?_; refine Zh (γ := 100) ?_; refine Z0 ?_; refine Zk ?_; refine JD ?_; refine X0 ?_; refine JR ?_; refine Z1 ?_; refine Z1 ?_; refine Zf ?_
 refine ZW (lb := j + 1) (hb := (H.map XF).length) (ys := B.map XF) ?_ (hys := by exact hsl); refine Zw ?_; refine Z1 ?_; refine JD ?_; refine X4 ?_
 refine XD (ι := Nat × List (Int × Int)) (fun q => q.1 ≤ B.length ∧ q.2 ++ (V0 (aid, .mk ak an ad as_ al) (B.drop q.1) ++ TL) = T) (fun q => ⟨78, [(5, .d (.sl 6 (H.map XF))), (10, .own 131 (q.2.map Xk).length), (12, .ptr 100 0), (45, .d (.sl 6 (H.map XF))), (46, ai (H.map XF).length), (47, ai j), (55, .d (.sl 6 (B.map XF))), (56, ai (B.map XF).length), (57, ai q.1)], [(100, .box [ai aid, ai ak, ai an, ai ad, Xu as_, .d (.sl 5 (Yx al))]), (131, .row 2 (q.2.map Xk))]⟩) (fun q => B.length - q.1) (0, acc) ⟨Nat.zero_le _, by simpa using hg⟩
  (X8 rfl JM ⟨rfl, rfl, trivial⟩) ?_
 clear hg
 rintro ⟨k, acc2⟩ ⟨hk, hg⟩
 simp only at hk hg
 have hroom := X4Q hg hmax
 by_cases hkl : k < B.length
 case neg =>
  rw [List.drop_of_length_le (by omega)] at hg
  have hg : acc2 ++ TL = T := hg
  have hn2 : ¬ (k : Int) < (B.map XF).length := by rw [List.length_map]; omega
  refine X0 ?_; refine JR ?_; refine Ze ?_; refine JD ?_; refine X0 ?_; refine JF ?_; refine Xz ?_; refine JR ?_; refine Zf ?_; refine Z1 ?_; refine JD ?_
  exact ⟨(j + 1, acc2), ⟨by show j + 1 ≤ H.length; omega, by show acc2 ++ Yt (H.drop (j + 1)) = T; rw [hB, hTl]; exact hg⟩, by show H.length - (j + 1) < H.length - j; omega, X8 rfl JM ⟨rfl, trivial⟩⟩
 have hn2 : (k : Int) < (B.map XF).length := by rw [List.length_map]; omega
 obtain ⟨b, hb⟩ := Xs (l := B) hkl
 have hbc : (B.map XF)[k]? = some (XF b) := Xw hb
 have hbp := hpl2 b (List.mem_of_getElem? hb)
 rw [X66 hb] at hg
 have he := X61 (.mk ak an ad as_ al) b.2 hap hbp
 simp only at hg
 generalize eqV (.mk ak an ad as_ al) b.2 = e at *
 obtain ⟨bid, bv⟩ := b
 obtain ⟨bk, bn, bd, bs, bl⟩ := bv
 simp only [XF, Y9, XS] at hbc he
 clear hb hsl hB hTl hpl hpl2 hap hbp
 cases e with
 | false =>
  refine X0 ?_; refine JR ?_; refine Ze ?_; refine JD ?_; refine X0 ?_; refine JT ?_; refine X3 ?_; refine X0 ?_; refine X4 ?_; refine X0 ?_; refine JR ?_; refine Zy ?_; refine Zz ?_
  refine Zh (γ := 101) ?_; refine Zk ?_; refine JD ?_; refine X0 ?_; refine JR ?_; refine Zo ?_; refine ZD ?_; refine Zo ?_; refine ZD ?_; refine Zc (hcon := he) ?_; refine Zi ?_; refine JD ?_; refine JF ?_
  refine X3 ?_; refine JR ?_; refine Zf ?_; refine Z1 ?_; refine JD ?_
  exact ⟨(k + 1, acc2), ⟨by show k + 1 ≤ B.length; omega, by simpa using hg⟩, by show B.length - (k + 1) < B.length - k; omega, X8 rfl JM ⟨rfl, rfl, trivial⟩⟩
 | true =>
  have happ : (acc2 ++ [(aid, bid)]).map Xk = acc2.map Xk ++ [Xk (aid, bid)] := by simp
  refine X0 ?_; refine JR ?_; refine Ze ?_; refine JD ?_; refine X0 ?_; refine JT ?_; refine X3 ?_; refine X0 ?_; refine X4 ?_; refine X0 ?_; refine JR ?_; refine Zy ?_; refine Zz ?_
  refine Zh (γ := 101) ?_; refine Zk ?_; refine JD ?_; refine X0 ?_; refine JR ?_; refine Zo ?_; refine ZD ?_; refine Zo ?_; refine ZD ?_; refine Zc (hcon := he) ?_; refine Zi ?_; refine JD ?_; refine JT ?_
  refine JR ?_; refine Z1 ?_; refine Zo ?_; refine Zp ?_; refine Zo ?_; refine Zp ?_; refine Zj ?_; refine ZA ?_; refine ZG ?_; refine Z0 ?_; refine JD ?_; refine JR ?_; refine Zf ?_; refine Z1 ?_; refine JD ?_
  refine ⟨(k + 1, acc2 ++ [(aid, bid)]), ⟨by show k + 1 ≤ B.length; omega, by simpa using hg⟩, by show B.length - (k + 1) < B.length - k; omega, ?_⟩
  dsimp only
  rw [happ]
  exact X8 rfl ⟨JL, AVal.le_of_eq (by refine Eq.trans (b := AVal.own 131 (_ + _)) rfl ?_; simp only [List.length_append, List.length_map, List.length_cons, List.length_nil]), JL, JL, JL, JL, JL, JL, JL, trivial⟩ ⟨rfl, rfl, trivial⟩
end Go.Fw
namespace Go.Fw
open Go Go.Proofs
set_option maxRecDepth 100000
set_option linter.unusedVariables false
set_option linter.unusedSimpArgs false
theorem X7i (k : Int) : Con Try.prog 22 [] [ai k] [] (ai (VB k)) := by
 refine Xf (xs := [ai (VB k)]) Try.func22 rfl Try.ntmps22 rfl rfl rfl (fun E => ?_)
 unfold VB
 by_cases c1 : k = 1
 ·rw [if_pos c1]
  refine X0 ?_; refine JR ?_; refine Z0 ?_; refine JD ?_; refine X0 ?_; refine X0 ?_; refine JR ?_; refine Z1 ?_; refine JD ?_; refine X4 ?_; refine X0 ?_; refine JR ?_; refine Zi ?_
  refine Z0 ?_; refine JD ?_; refine JT ?_; refine X0 ?_; refine JR ?_; refine Z0 ?_; refine JD ?_
  (show AWP Try.prog E _ _ _; refine X1 ?_; exact (show Xj _ _ _ _ _ from ⟨_, St.le_refl _, ⟨rfl, trivial⟩, X2 _⟩))
 rw [if_neg c1]
 by_cases c2 : k = 2
 ·rw [if_pos (.inl c2)]
  refine X0 ?_; refine JR ?_; refine Z0 ?_; refine JD ?_; refine X0 ?_; refine X0 ?_; refine JR ?_; refine Z1 ?_; refine JD ?_; refine X4 ?_; refine X0 ?_; refine JR ?_; refine Zi ?_
  refine Z0 ?_; refine JD ?_; refine JF ?_; refine X0 ?_; refine X0 ?_; refine JR ?_; refine Zi ?_; refine Z0 ?_; refine JD ?_; refine JT ?_; refine X3 ?_; refine JT ?_; refine X0 ?_; refine JR ?_
  refine Z0 ?_; refine JD ?_
  (show AWP Try.prog E _ _ _; refine X1 ?_; exact (show Xj _ _ _ _ _ from ⟨_, St.le_refl _, ⟨rfl, trivial⟩, X2 _⟩))
 by_cases c4 : k = 4
 ·rw [if_pos (.inr c4)]
  refine X0 ?_; refine JR ?_; refine Z0 ?_; refine JD ?_; refine X0 ?_; refine X0 ?_; refine JR ?_; refine Z1 ?_; refine JD ?_; refine X4 ?_; refine X0 ?_; refine JR ?_; refine Zi ?_
  refine Z0 ?_; refine JD ?_; refine JF ?_; refine X0 ?_; refine X0 ?_; refine JR ?_; refine Zi ?_; refine Z0 ?_; refine JD ?_; refine JF ?_; refine JR ?_; refine Zi ?_; refine Z0 ?_; refine JD ?_; refine JT ?_
  refine X0 ?_; refine JR ?_; refine Z0 ?_; refine JD ?_
  (show AWP Try.prog E _ _ _; refine X1 ?_; exact (show Xj _ _ _ _ _ from ⟨_, St.le_refl _, ⟨rfl, trivial⟩, X2 _⟩))
 rw [if_neg (fun h => h.elim c2 c4)]
 by_cases c3 : k = 3
 ·rw [if_pos (.inl c3)]
  refine X0 ?_; refine JR ?_; refine Z0 ?_; refine JD ?_; refine X0 ?_; refine X0 ?_; refine JR ?_; refine Z1 ?_; refine JD ?_; refine X4 ?_; refine X0 ?_; refine JR ?_; refine Zi ?_
  refine Z0 ?_; refine JD ?_; refine JF ?_; refine X0 ?_; refine X0 ?_; refine JR ?_; refine Zi ?_; refine Z0 ?_; refine JD ?_; refine JF ?_; refine JR ?_; refine Zi ?_; refine Z0 ?_; refine JD ?_; refine JF ?_
  refine X0 ?_; refine X0 ?_; refine JR ?_; refine Zi ?_; refine Z0 ?_; refine JD ?_; refine JT ?_; refine X3 ?_; refine JT ?_; refine X0 ?_; refine JR ?_; refine Z0 ?_; refine JD ?_
  (show AWP Try.prog E _ _ _; refine X1 ?_; exact (show Xj _ _ _ _ _ from ⟨_, St.le_refl _, ⟨rfl, trivial⟩, X2 _⟩))
 by_cases c5 : k = 5
 ·rw [if_pos (.inr c5)]
  refine X0 ?_; refine JR ?_; refine Z0 ?_; refine JD ?_; refine X0 ?_; refine X0 ?_; refine JR ?_; refine Z1 ?_; refine JD ?_; refine X4 ?_; refine X0 ?_; refine JR ?_; refine Zi ?_
  refine Z0 ?_; refine JD ?_; refine JF ?_; refine X0 ?_; refine X0 ?_; refine JR ?_; refine Zi ?_; refine Z0 ?_; refine JD ?_; refine JF ?_; refine JR ?_; refine Zi ?_; refine Z0 ?_; refine JD ?_; refine JF ?_
  refine X0 ?_; refine X0 ?_; refine JR ?_; refine Zi ?_; refine Z0 ?_; refine JD ?_; refine JF ?_; refine JR ?_; refine Zi ?_; refine Z0 ?_; refine JD ?_; refine JT ?_; refine X0 ?_; refine JR ?_
  refine Z0 ?_; refine JD ?_
  (show AWP Try.prog E _ _ _; refine X1 ?_; exact (show Xj _ _ _ _ _ from ⟨_, St.le_refl _, ⟨rfl, trivial⟩, X2 _⟩))
 rw [if_neg (fun h => h.elim c3 c5)]
 by_cases c6 : k = 6
 ·rw [if_pos c6]
  refine X0 ?_; refine JR ?_; refine Z0 ?_; refine JD ?_; refine X0 ?_; refine X0 ?_; refine JR ?_; refine Z1 ?_; refine JD ?_; refine X4 ?_; refine X0 ?_; refine JR ?_; refine Zi ?_
  refine Z0 ?_; refine JD ?_; refine JF ?_; refine X0 ?_; refine X0 ?_; refine JR ?_; refine Zi ?_; refine Z0 ?_; refine JD ?_; refine JF ?_; refine JR ?_; refine Zi ?_; refine Z0 ?_; refine JD ?_; refine JF ?_
  refine X0 ?_; refine X0 ?_; refine JR ?_; refine Zi ?_; refine Z0 ?_; refine JD ?_; refine JF ?_; refine JR ?_; refine Zi ?_; refine Z0 ?_; refine JD ?_; refine JF ?_; refine X0 ?_; refine JR ?_
  refine Zi ?_; refine Z0 ?_; refine JD ?_; refine JT ?_; refine X0 ?_; refine JR ?_; refine Z0 ?_; refine JD ?_
  (show AWP Try.prog E _ _ _; refine X1 ?_; exact (show Xj _ _ _ _ _ from ⟨_, St.le_refl _, ⟨rfl, trivial⟩, X2 _⟩))
 rw [if_neg c6]
 by_cases c7 : k = 7
 ·rw [if_pos c7]
  refine X0 ?_; refine JR ?_; refine Z0 ?_; refine JD ?_; refine X0 ?_; refine X0 ?_; refine JR ?_; refine Z1 ?_; refine JD ?_; refine X4 ?_; refine X0 ?_; refine JR ?_; refine Zi ?_
  refine Z0 ?_; refine JD ?_; refine JF ?_; refine X0 ?_; refine X0 ?_; refine JR ?_; refine Zi ?_; refine Z0 ?_; refine JD ?_; refine JF ?_; refine JR ?_; refine Zi ?_; refine Z0 ?_; refine JD ?_; refine JF ?_
  refine X0 ?_; refine X0 ?_; refine JR ?_; refine Zi ?_; refine Z0 ?_; refine JD ?_; refine JF ?_; refine JR ?_; refine Zi ?_; refine Z0 ?_; refine JD ?_; refine JF ?_; refine X0 ?_; refine JR ?_
  refine Zi ?_; refine Z0 ?_; refine JD ?_; refine JF ?_; refine X0 ?_; refine JR ?_; refine Zi ?_; refine Z0 ?_; refine JD ?_; refine JT ?_; refine X0 ?_; refine JR ?_; refine Z0 ?_; refine JD ?_
  (show AWP Try.prog E _ _ _; refine X1 ?_; exact (show Xj _ _ _ _ _ from ⟨_, St.le_refl _, ⟨rfl, trivial⟩, X2 _⟩))
 rw [if_neg c7]
 refine X0 ?_; refine JR ?_; refine Z0 ?_; refine JD ?_; refine X0 ?_; refine X0 ?_; refine JR ?_; refine Z1 ?_; refine JD ?_; refine X4 ?_; refine X0 ?_; refine JR ?_; refine Zi ?_
 refine Z0 ?_; refine JD ?_; refine JF ?_; refine X0 ?_; refine X0 ?_; refine JR ?_; refine Zi ?_; refine Z0 ?_; refine JD ?_; refine JF ?_; refine JR ?_; refine Zi ?_; refine Z0 ?_; refine JD ?_; refine JF ?_
 refine X0 ?_; refine X0 ?_; refine JR ?_; refine Zi ?_; refine Z0 ?_; refine JD ?_; refine JF ?_; refine JR ?_; refine Zi ?_; refine Z0 ?_; refine JD ?_; refine JF ?_; refine X0 ?_; refine JR ?_
 refine Zi ?_; refine Z0 ?_; refine JD ?_; refine JF ?_; refine X0 ?_; refine JR ?_; refine Zi ?_; refine Z0 ?_; refine JD ?_; refine JF ?_; refine X3 ?_; refine X0 ?_; refine JR ?_; refine Z0 ?_
 refine JD ?_
 (show AWP Try.prog E _ _ _; refine X1 ?_; exact (show Xj _ _ _ _ _ from ⟨_, St.le_refl _, ⟨rfl, trivial⟩, X2 _⟩))
theorem X38 (r : Rul) (g : Gra) (hf : GFit g) : Con Try.prog 16 [] [XA r, Xq g] [] (.d (.sl 2 ((ofV r g).map Xk))) := by
 refine Xf (xs := [.d (.sl 2 ((ofV r g).map Xk))]) Try.func16 rfl Try.ntmps16 rfl rfl rfl (fun E => ?_)
 have h1 := X82 r g hf
 have h2 := X7Y r g hf
 have h3 := X8s r g hf
 have h4 := X5y r g hf
 unfold ofV X1w
 generalize Yt (XK r g.nodes) = l1 at *
 generalize YA r g.nodes = l2 at *
 generalize YD r g.edges g.nodes = l3 at *
 generalize XQ r g.nodes g.edges = l4 at *
 clear hf
 obtain ⟨ns, es, nn, ne⟩ := g
 obtain ⟨rk, rn, rname, rkey, rsrc, rdst⟩ := r
 simp only [XA, Xq] at *
 by_cases c1 : rk = 1
 ·rw [if_pos c1]
  refine X0 ?_; refine JR ?_; refine Zn (γ := 100) ?_; refine Zn (γ := 101) ?_; refine Z0 ?_; refine JD ?_; refine X0 ?_; refine X0 ?_; refine JR ?_; refine Zo ?_; refine Zp ?_; refine JD ?_
  refine X4 ?_; refine X0 ?_; refine JR ?_; refine Zi ?_; refine Z0 ?_; refine JD ?_; refine JT ?_; refine X0 ?_; refine JR ?_; refine ZD ?_; refine ZD ?_; refine Zc (hcon := h1) ?_; refine Z0 ?_
  refine JD ?_
  (show AWP Try.prog E _ _ _; refine X1 ?_; exact (show Xj _ _ _ _ _ from ⟨_, St.le_refl _, ⟨rfl, trivial⟩, X2 _⟩))
 rw [if_neg c1]
 by_cases c2 : rk = 2
 ·rw [if_pos (.inl c2)]
  refine X0 ?_; refine JR ?_; refine Zn (γ := 100) ?_; refine Zn (γ := 101) ?_; refine Z0 ?_; refine JD ?_; refine X0 ?_; refine X0 ?_; refine JR ?_; refine Zo ?_; refine Zp ?_; refine JD ?_
  refine X4 ?_; refine X0 ?_; refine JR ?_; refine Zi ?_; refine Z0 ?_; refine JD ?_; refine JF ?_; refine X0 ?_; refine X0 ?_; refine JR ?_; refine Zi ?_; refine Z0 ?_; refine JD ?_; refine JT ?_
  refine X3 ?_; refine JT ?_; refine X0 ?_; refine JR ?_; refine ZD ?_; refine ZD ?_; refine Zc (hcon := h2) ?_; refine Z0 ?_; refine JD ?_
  (show AWP Try.prog E _ _ _; refine X1 ?_; exact (show Xj _ _ _ _ _ from ⟨_, St.le_refl _, ⟨rfl, trivial⟩, X2 _⟩))
 by_cases c3 : rk = 3
 ·rw [if_pos (.inr c3)]
  refine X0 ?_; refine JR ?_; refine Zn (γ := 100) ?_; refine Zn (γ := 101) ?_; refine Z0 ?_; refine JD ?_; refine X0 ?_; refine X0 ?_; refine JR ?_; refine Zo ?_; refine Zp ?_; refine JD ?_
  refine X4 ?_; refine X0 ?_; refine JR ?_; refine Zi ?_; refine Z0 ?_; refine JD ?_; refine JF ?_; refine X0 ?_; refine X0 ?_; refine JR ?_; refine Zi ?_; refine Z0 ?_; refine JD ?_; refine JF ?_
  refine JR ?_; refine Zi ?_; refine Z0 ?_; refine JD ?_; refine JT ?_; refine X0 ?_; refine JR ?_; refine ZD ?_; refine ZD ?_; refine Zc (hcon := h2) ?_; refine Z0 ?_; refine JD ?_
  (show AWP Try.prog E _ _ _; refine X1 ?_; exact (show Xj _ _ _ _ _ from ⟨_, St.le_refl _, ⟨rfl, trivial⟩, X2 _⟩))
 rw [if_neg (fun h => h.elim c2 c3)]
 by_cases c7 : rk = 7
 ·rw [if_pos c7]
  refine X0 ?_; refine JR ?_; refine Zn (γ := 100) ?_; refine Zn (γ := 101) ?_; refine Z0 ?_; refine JD ?_; refine X0 ?_; refine X0 ?_; refine JR ?_; refine Zo ?_; refine Zp ?_; refine JD ?_
  refine X4 ?_; refine X0 ?_; refine JR ?_; refine Zi ?_; refine Z0 ?_; refine JD ?_; refine JF ?_; refine X0 ?_; refine X0 ?_; refine JR ?_; refine Zi ?_; refine Z0 ?_; refine JD ?_; refine JF ?_
  refine JR ?_; refine Zi ?_; refine Z0 ?_; refine JD ?_; refine JF ?_; refine X0 ?_; refine JR ?_; refine Zi ?_; refine Z0 ?_; refine JD ?_; refine JT ?_; refine X0 ?_; refine JR ?_; refine ZD ?_; refine ZD ?_
  refine Zc (hcon := h3) ?_; refine Z0 ?_; refine JD ?_
  (show AWP Try.prog E _ _ _; refine X1 ?_; exact (show Xj _ _ _ _ _ from ⟨_, St.le_refl _, ⟨rfl, trivial⟩, X2 _⟩))
 rw [if_neg c7]
 refine X0 ?_; refine JR ?_; refine Zn (γ := 100) ?_; refine Zn (γ := 101) ?_; refine Z0 ?_; refine JD ?_; refine X0 ?_; refine X0 ?_; refine JR ?_; refine Zo ?_; refine Zp ?_; refine JD ?_
 refine X4 ?_; refine X0 ?_; refine JR ?_; refine Zi ?_; refine Z0 ?_; refine JD ?_; refine JF ?_; refine X0 ?_; refine X0 ?_; refine JR ?_; refine Zi ?_; refine Z0 ?_; refine JD ?_; refine JF ?_
 refine JR ?_; refine Zi ?_; refine Z0 ?_; refine JD ?_; refine JF ?_; refine X0 ?_; refine JR ?_; refine Zi ?_; refine Z0 ?_; refine JD ?_; refine JF ?_; refine X3 ?_; refine X0 ?_; refine JR ?_
 refine ZD ?_; refine ZD ?_; refine Zc (hcon := h4) ?_; refine Z0 ?_; refine JD ?_
 (show AWP Try.prog E _ _ _; refine X1 ?_; exact (show Xj _ _ _ _ _ from ⟨_, St.le_refl _, ⟨rfl, trivial⟩, X2 _⟩))
theorem X0k (r : Rul) (g : Gra) (hg : GraHold g) : Con Try.prog 9 [] [XA r, Xq g] [] (.d (.sl 2 ((ofS r g).map Xk))) := by
 refine Xf (xs := [.d (.sl 2 ((ofS r g).map Xk))]) Try.func9 rfl Try.ntmps9 rfl rfl rfl (fun E => ?_)
 have h1 := X2v r
 have h2 := X48 g hg
 unfold ofS
 by_cases c1 : Yy r = 0
 case neg =>
  rw [if_pos (.inl c1)]
  generalize Yy r = e1 at *
  clear h2 hg
  obtain ⟨ns, es, nn, ne⟩ := g
  obtain ⟨rk, rn, rname, rkey, rsrc, rdst⟩ := r
  simp only [XA, Xq, List.map_nil] at *
  refine X0 ?_; refine JR ?_; refine Zn (γ := 100) ?_; refine Zn (γ := 101) ?_; refine Z0 ?_; refine JD ?_; refine X0 ?_; refine X0 ?_; refine JR ?_; refine ZD ?_; refine Zc (hcon := h1) ?_; refine Zg ?_
  refine Z1 ?_; refine Z5 ?_; refine Z5 ?_; refine Z5 ?_; refine Z4 ?_; refine JD ?_; refine JT ?_; refine X0 ?_; refine JR ?_; refine Z0 ?_; refine JD ?_
  (show AWP Try.prog E _ _ _; refine X1 ?_; exact (show Xj _ _ _ _ _ from ⟨_, Xn 4 (y := .d (.sl 2 [])) (AVal.le_nil 2), ⟨rfl, trivial⟩, X2 _⟩))
 by_cases c2 : Ya g = 0
 case neg =>
  rw [if_pos (.inr c2)]
  rw [c1] at h1
  generalize Ya g = e2 at *
  clear hg c1
  obtain ⟨ns, es, nn, ne⟩ := g
  obtain ⟨rk, rn, rname, rkey, rsrc, rdst⟩ := r
  simp only [XA, Xq, List.map_nil] at *
  refine X0 ?_; refine JR ?_; refine Zn (γ := 100) ?_; refine Zn (γ := 101) ?_; refine Z0 ?_; refine JD ?_; refine X0 ?_; refine X0 ?_; refine JR ?_; refine ZD ?_; refine Zc (hcon := h1) ?_; refine Zg ?_
  refine Z1 ?_; refine ZD ?_; refine Zc (hcon := h2) ?_; refine Zg ?_; refine Z7 ?_; refine JD ?_; refine JT ?_; refine X0 ?_; refine JR ?_; refine Z0 ?_; refine JD ?_
  (show AWP Try.prog E _ _ _; refine X1 ?_; exact (show Xj _ _ _ _ _ from ⟨_, Xn 4 (y := .d (.sl 2 [])) (AVal.le_nil 2), ⟨rfl, trivial⟩, X2 _⟩))
 rw [if_neg (fun h => h.elim (fun q => q c1) (fun q => q c2))]
 have hf := X1i c2
 have h3 := X38 r g hf
 generalize ofV r g = l at *
 rw [c1] at h1
 rw [c2] at h2
 clear hg c2 hf
 obtain ⟨ns, es, nn, ne⟩ := g
 obtain ⟨rk, rn, rname, rkey, rsrc, rdst⟩ := r
 clear c1
 simp only [XA, Xq] at *
 refine X0 ?_; refine JR ?_; refine Zn (γ := 100) ?_; refine Zn (γ := 101) ?_; refine Z0 ?_; refine JD ?_; refine X0 ?_; refine X0 ?_; refine JR ?_; refine ZD ?_; refine Zc (hcon := h1) ?_; refine Zg ?_
 refine Z1 ?_; refine ZD ?_; refine Zc (hcon := h2) ?_; refine Zg ?_; refine Z7 ?_; refine JD ?_; refine JF ?_; refine X3 ?_; refine X0 ?_; refine JR ?_; refine ZD ?_; refine ZD ?_; refine Zc (hcon := h3) ?_
 refine Z0 ?_; refine JD ?_
 (show AWP Try.prog E _ _ _; refine X1 ?_; exact (show Xj _ _ _ _ _ from ⟨_, St.le_refl _, ⟨rfl, trivial⟩, X2 _⟩))
end Go.Fw
namespace Go.Fw
open Go Go.Proofs
set_option maxRecDepth 100000
set_option linter.unusedVariables false
set_option linter.unusedSimpArgs false
theorem X8t : ∀ (k : SK) (u : Value), XP u = some k → Ul u u = true := by
 intro k u h
 cases u <;> simp [XP] at h <;> simp [Ul]
theorem X0l (us : List Value) (ks : List SK) (h : us.map XP = ks.map some) : Yz us us = true := by
 induction us generalizing ks with
 | nil => rfl
 | cons u us ih =>
  cases ks with
  | nil => simp at h
  | cons k ks =>
   simp only [List.map_cons, List.cons.injEq] at h
   unfold Yz
   rw [X8t k u h.1, ih ks h.2]
   rfl
end Go.Fw
namespace Go.Fw
open Go Go.Proofs
set_option maxRecDepth 100000
set_option linter.unusedVariables false
set_option linter.unusedSimpArgs false
theorem X1y : U6 Try.prog 50 = some [.i .i64, .i .i64] := by kernel_rfl
theorem X2n : U6 Try.prog 33 = some [.i .i64, .i .i64, .i .i64] := by kernel_rfl
theorem X5R (l : List Vio) (hl : l.length ≤ 9223372036854775807) : Con Try.prog 8 [] [.d (.sl 3 (l.map Xt)), .d (.sl 3 (l.map Xt))] [] (ab true) := by
 refine Xf (xs := [ab true]) Try.func8 rfl Try.ntmps8 rfl rfl rfl (fun E => ?_)
 have hlm : (l.map Xt).length = l.length := by simp
 refine X0 ?_; refine JR ?_; refine Z0 ?_; refine JD ?_; refine X0 ?_; refine X0 ?_; refine JR ?_; refine Z1 ?_; refine Zw ?_; refine Z1 ?_; refine Zw ?_; refine Zg ?_; refine JD ?_; refine JF ?_
 refine X3 ?_; refine X0 ?_; refine X0 ?_; refine JR ?_; refine Z0 ?_; refine JD ?_; refine X4 ?_
 refine XD (fun i : Nat => i ≤ l.length) (fun i => ⟨26, [(0, .d (.sl 3 (l.map Xt))), (1, .d (.sl 3 (l.map Xt))), (5, ai i)], []⟩) (fun i => l.length - i) 0 (Nat.zero_le _)
  (X8 rfl JM trivial) ?_
 intro i hi
 by_cases hil : i < l.length
 case neg =>
  obtain rfl : i = l.length := by omega
  have hn : ¬ ((l.length : Nat) : Int) < (l.map Xt).length := by omega
  refine X0 ?_; refine X0 ?_; refine JR ?_; refine Z1 ?_; refine Z1 ?_; refine Zw ?_; refine Ze ?_; refine JD ?_; refine JF ?_; refine Xz ?_; refine X0 ?_; refine JR ?_; refine Z0 ?_; refine JD ?_
  exact X1 ⟨_, St.le_refl _, ⟨rfl, trivial⟩, X2 _⟩
 have hn : (i : Int) < (l.map Xt).length := by omega
 obtain ⟨x, hx⟩ := Xs (l := l) hil
 have hxc : (l.map Xt)[i]? = some (Xt x) := Xw hx
 obtain ⟨x1, x2, x3⟩ := x
 simp only [Xt] at hxc
 clear hx
 have hz := X0l [.int .i64 x1, .int .i64 x2, .int .i64 x3] [.i .i64, .i .i64, .i .i64] rfl
 refine X0 ?_; refine X0 ?_; refine JR ?_; refine Z1 ?_; refine Z1 ?_; refine Zw ?_; refine Ze ?_; refine JD ?_; refine JT ?_; refine X3 ?_; refine X0 ?_; refine X4 ?_; refine X0 ?_
 refine JR ?_; refine Z1 ?_; refine Z1 ?_; refine Zy ?_; refine Zz ?_; refine Z1 ?_; refine Z1 ?_; refine Zy ?_; refine Zz ?_
 refine ZX (us := [.int .i64 x1, .int .i64 x2, .int .i64 x3]) (vs := [.int .i64 x1, .int .i64 x2, .int .i64 x3]) (r := true) ?_ (hk := by exact X2n) (hr := by exact hz); refine JD ?_; refine JF ?_; refine X3 ?_
 refine JR ?_; refine Z1 ?_; refine Zf ?_; refine Z0 ?_; refine JD ?_
 exact ⟨i + 1, hil, by omega, X8 rfl JM trivial⟩
end Go.Fw
namespace Go.Fw
open Go Go.Proofs
set_option maxRecDepth 100000
set_option linter.unusedVariables false
set_option linter.unusedSimpArgs false
theorem X7b {acc rest tot : List Vio} (h : acc ++ rest = tot) (hl : tot.length ≤ 160000000) : (acc.map Xt).length ≤ 160000000 := by
 have := congrArg List.length h
 simp only [List.length_append] at this
 rw [List.length_map]
 omega
theorem X18 (s : List Rul) (g : Gra) (hg : GraHold g) (hs : s.length ≤ 9223372036854775807) : Con Try.prog 7 [] [.d (.sl 6 (s.map Xe)), Xq g] [] (.d (.sl 3 ((XY s g).map Xt))) := by
 refine Xf (xs := [.d (.sl 3 ((XY s g).map Xt))]) Try.func7 rfl Try.ntmps7 rfl rfl rfl (fun E => ?_)
 have hv := X6a s hs
 have hc := X48 g hg
 cases hsv : Y1 s with
 | false =>
  rw [hsv] at hv
  rw [show XY s g = [] from if_pos (.inl hsv)]
  clear hc hg
  obtain ⟨ns, es, nn, ne⟩ := g
  simp only [Xq, List.map_nil] at *
  refine X0 ?_; refine JR ?_; refine Zn (γ := 100) ?_; refine Z0 ?_; refine JD ?_; refine X0 ?_; refine X0 ?_; refine JR ?_; refine Z1 ?_; refine Zc (hcon := hv) ?_; refine Zd ?_; refine Z1 ?_; refine Z5 ?_
  refine Z5 ?_; refine Z5 ?_; refine Z4 ?_; refine JD ?_; refine JT ?_; refine X0 ?_; refine JR ?_; refine Z0 ?_; refine JD ?_
  (show AWP Try.prog E _ _ _; refine X1 ?_; exact (show Xj _ _ _ _ _ from ⟨_, Xn 4 (y := .d (.sl 3 [])) (AVal.le_nil 3), ⟨rfl, trivial⟩, X2 _⟩))
 | true =>
 rw [hsv] at hv
 by_cases c2 : Ya g = 0
 case neg =>
  rw [show XY s g = [] from if_pos (.inr c2)]
  generalize Ya g = e2 at *
  clear hg
  obtain ⟨ns, es, nn, ne⟩ := g
  simp only [Xq, List.map_nil] at *
  refine X0 ?_; refine JR ?_; refine Zn (γ := 100) ?_; refine Z0 ?_; refine JD ?_; refine X0 ?_; refine X0 ?_; refine JR ?_; refine Z1 ?_; refine Zc (hcon := hv) ?_; refine Zd ?_; refine Z1 ?_; refine ZD ?_
  refine Zc (hcon := hc) ?_; refine Zg ?_; refine Z7 ?_; refine JD ?_; refine JT ?_; refine X0 ?_; refine JR ?_; refine Z0 ?_; refine JD ?_
  (show AWP Try.prog E _ _ _; refine X1 ?_; exact (show Xj _ _ _ _ _ from ⟨_, Xn 4 (y := .d (.sl 3 [])) (AVal.le_nil 3), ⟨rfl, trivial⟩, X2 _⟩))
 have hf := X1i c2
 have hof := fun r => X38 r g hf
 rw [c2] at hc
 have hmax := X2j (s := s) (g := g)
 have hlen := (X29 hsv).1
 have hT := X5g hsv c2
 generalize XY s g = T at *
 have hpl : ∀ r : Rul, (ofV r g).length ≤ 4000000 := fun r => X4t hf
 generalize hF : (fun r : Rul => ofV r g) = F at *
 have hFr : ∀ r, ofV r g = F r := fun r => by rw [← hF]
 simp only [hFr] at hof hpl
 clear hF hFr hg c2 hf hsv
 obtain ⟨ns, es, nn, ne⟩ := g
 simp only [Xq] at *
 have hsm : (s.map Xe).length = s.length := by simp
 refine X0 ?_; refine JR ?_; refine Zn (γ := 100) ?_; refine Z0 ?_; refine JD ?_; refine X0 ?_; refine X0 ?_; refine JR ?_; refine Z1 ?_; refine Zc (hcon := hv) ?_; refine Zd ?_; refine Z1 ?_; refine ZD ?_
 refine Zc (hcon := hc) ?_; refine Zg ?_; refine Z7 ?_; refine JD ?_; refine JF ?_; refine X3 ?_; refine X0 ?_; refine JR ?_; refine Z0 ?_; refine JD ?_; refine X0 ?_; refine X0 ?_; refine JR ?_
 refine Z1 ?_; refine Zw ?_; refine Z1 ?_; refine JD ?_; refine X4 ?_
 clear hv hc
 refine XH (Ut 5 130 3 rfl rfl rfl) ?_
 refine XD (ι := Nat × List Vio) (fun q => q.1 ≤ s.length ∧ q.2 ++ Xv F q.1 (s.drop q.1) = T) (fun q => ⟨45, [(3, .ptr 100 0), (5, .own 130 (q.2.map Xt).length), (18, .d (.sl 6 (s.map Xe))), (19, ai (s.map Xe).length), (20, ai q.1)], [(100, .box [.d (.sl 3 (ns.map Xd)), .d (.sl 5 (es.map Xl)), ai nn, ai ne]), (130, .row 3 (q.2.map Xt))]⟩) (fun q => s.length - q.1) (0, []) ⟨Nat.zero_le _, by rw [hT]; rfl⟩
  (X8 rfl JM ⟨rfl, rfl, trivial⟩) ?_
 rintro ⟨i, acc⟩ ⟨hi, hg⟩
 simp only at hi hg
 by_cases hil : i < s.length
 case neg =>
  rw [List.drop_of_length_le (by omega), Xv, List.append_nil] at hg
  have hn : ¬ (i : Int) < (s.map Xe).length := by omega
  refine X0 ?_; refine JR ?_; refine Ze ?_; refine JD ?_; refine X0 ?_; refine JF ?_; refine Xz ?_; refine X0 ?_; refine JR ?_; refine Z1 ?_; refine Z0 ?_; refine JD ?_
  rw [← hg]
  clear hT hg
  refine XH (U0 130 rfl) ?_
  refine XH (U3 4 130 rfl rfl rfl) ?_
  (show AWP Try.prog E _ _ _; refine X1 ?_; exact (show Xj _ _ _ _ _ from ⟨_, St.le_refl _, ⟨rfl, trivial⟩, X2 _⟩))
 have hn : (i : Int) < (s.map Xe).length := by omega
 obtain ⟨x, hx⟩ := Xs (l := s) hil
 have hxc : (s.map Xe)[i]? = some (Xe x) := Xw hx
 rw [X5K hx] at hg
 have hox := hof x
 have hLl := hpl x
 generalize hTL : Xv F (i + 1) (s.drop (i + 1)) = TL at *
 generalize F x = L at *
 obtain ⟨rk, rn, rname, rkey, rsrc, rdst⟩ := x
 simp only [XA, Xe] at hox hxc
 clear hx hof hT
 refine X0 ?_; refine JR ?_; refine Ze ?_; refine JD ?_; refine X0 ?_; refine JT ?_; refine X3 ?_; refine X0 ?_; refine X4 ?_; refine X0 ?_; refine JR ?_; refine Z1 ?_; refine Zy ?_
 refine Zz ?_; refine Zh (γ := 101) ?_; refine Z0 ?_; refine Zk ?_; refine JD ?_; refine X0 ?_; refine JR ?_; refine ZD ?_; refine ZD ?_; refine Zc (hcon := hox) ?_; refine Zw ?_; refine Z1 ?_; refine JD ?_
 refine X4 ?_
 refine XD (ι := Nat × List Vio) (fun q => q.1 ≤ L.length ∧ q.2 ++ (Yc i (L.drop q.1) ++ TL) = T) (fun q => ⟨45, [(3, .ptr 100 0), (5, .own 130 (q.2.map Xt).length), (6, ai i), (18, .d (.sl 6 (s.map Xe))), (19, ai (s.map Xe).length), (20, ai i), (27, .d (.sl 2 (L.map Xk))), (28, ai (L.map Xk).length), (29, ai q.1)], [(100, .box [.d (.sl 3 (ns.map Xd)), .d (.sl 5 (es.map Xl)), ai nn, ai ne]), (130, .row 3 (q.2.map Xt))]⟩) (fun q => L.length - q.1) (0, acc) ⟨Nat.zero_le _, by simpa using hg⟩
  (X8 rfl JM ⟨rfl, rfl, trivial⟩) ?_
 clear hg
 rintro ⟨k, acc2⟩ ⟨hk, hg⟩
 simp only at hk hg
 have hroom := X7b hg hmax
 have hLm : (L.map Xk).length = L.length := by simp
 by_cases hkl : k < L.length
 case neg =>
  rw [List.drop_of_length_le (by omega)] at hg
  have hg : acc2 ++ TL = T := hg
  have hn2 : ¬ (k : Int) < (L.map Xk).length := by omega
  refine X0 ?_; refine JR ?_; refine Ze ?_; refine JD ?_; refine X0 ?_; refine JF ?_; refine Xz ?_; refine JR ?_; refine Zf ?_; refine Z1 ?_; refine JD ?_
  exact ⟨(i + 1, acc2), ⟨by show i + 1 ≤ s.length; omega, by show acc2 ++ Xv F (i + 1) (s.drop (i + 1)) = T; rw [hTL]; exact hg⟩, by show s.length - (i + 1) < s.length - i; omega, X8 rfl JM ⟨rfl, rfl, trivial⟩⟩
 have hn2 : (k : Int) < (L.map Xk).length := by omega
 obtain ⟨p, hp⟩ := Xs (l := L) hkl
 have hpc : (L.map Xk)[k]? = some (Xk p) := Xw hp
 rw [X8W hp] at hg
 obtain ⟨pa, pb⟩ := p
 simp only [Xk] at hpc hg
 clear hp hxc hox
 have happ : (acc2 ++ [(⟨(i : Nat), pa, pb⟩ : Vio)]).map Xt = acc2.map Xt ++ [Xt ⟨(i : Nat), pa, pb⟩] := by simp
 refine X0 ?_; refine JR ?_; refine Ze ?_; refine JD ?_; refine X0 ?_; refine JT ?_; refine X3 ?_; refine X0 ?_; refine X4 ?_; refine X0 ?_; refine JR ?_; refine Zy ?_; refine Zz ?_
 refine Zh (γ := 101) ?_; refine Zk ?_; refine JD ?_; refine JR ?_; refine Z1 ?_; refine Z1 ?_; refine ZY (n := 2) (sz := 1) (k := 0) ?_; refine Zp ?_; refine ZY (n := 2) (sz := 1) (k := 1) ?_; refine Zp ?_; refine Zj ?_
 refine ZA ?_; refine ZG ?_; refine Z0 ?_; refine JD ?_; refine JR ?_; refine Zf ?_; refine Z1 ?_; refine JD ?_
 refine ⟨(k + 1, acc2 ++ [⟨(i : Nat), pa, pb⟩]), ⟨by show k + 1 ≤ L.length; omega, by simpa using hg⟩, by show L.length - (k + 1) < L.length - k; omega, ?_⟩
 dsimp only
 rw [happ]
 exact X8 rfl ⟨JL, AVal.le_of_eq (by refine Eq.trans (b := AVal.own 130 (_ + _)) rfl ?_; simp only [List.length_append, List.length_map, List.length_cons, List.length_nil]), JL, JL, JL, JL, JL, JL, JL, trivial⟩ ⟨rfl, rfl, trivial⟩
theorem X5r (s : List Rul) (g : Gra) (hg : GraHold g) (hs : s.length ≤ 9223372036854775807) : Con Try.prog 13 [] [.d (.sl 6 (s.map Xe)), Xq g] [] (ai (UU s g)) := by
 refine Xf (xs := [ai (UU s g)]) Try.func13 rfl Try.ntmps13 rfl rfl rfl (fun E => ?_)
 have ha := X18 s g hg hs
 cases hl : XY s g with
 | nil =>
  rw [X5D hl]
  rw [hl] at ha
  clear hg
  obtain ⟨ns, es, nn, ne⟩ := g
  simp only [Xq, List.map_nil] at *
  refine X0 ?_; refine JR ?_; refine Zn (γ := 100) ?_; refine Z0 ?_; refine JD ?_; refine X0 ?_; refine JR ?_; refine Z1 ?_; refine ZD ?_; refine Zc (hcon := ha) ?_; refine Z0 ?_; refine JD ?_; refine X0 ?_
  refine X0 ?_; refine JR ?_; refine Z1 ?_; refine Zw ?_; refine Zi ?_; refine JD ?_; refine JT ?_; refine X0 ?_; refine JR ?_; refine Z0 ?_; refine JD ?_
  (show AWP Try.prog E _ _ _; refine X1 ?_; exact (show Xj _ _ _ _ _ from ⟨_, St.le_refl _, ⟨rfl, trivial⟩, X2 _⟩))
 | cons v r =>
  obtain ⟨k, x, e, hk, hfi⟩ := X8m hl
  rw [hfi]
  rw [hl] at ha
  have hfa := X7i x.kind
  have hxc : (s.map Xe)[k]? = some (Xe x) := Xw hk
  have hkl : k < (s.map Xe).length := (List.getElem?_eq_some_iff.1 hxc).1
  generalize VB x.kind = z at *
  obtain ⟨va, vb, vc⟩ := v
  simp only at e
  subst e
  obtain ⟨rk, rn, rname, rkey, rsrc, rdst⟩ := x
  clear hg hl hk hfi
  obtain ⟨ns, es, nn, ne⟩ := g
  simp only [Xq, List.map_cons, Xt, Xe] at *
  have h0 : (([.v (.int .i64 (k : Nat)), .v (.int .i64 vb), .v (.int .i64 vc)] : List D) :: r.map Xt)[0]? = some [.v (.int .i64 (k : Nat)), .v (.int .i64 vb), .v (.int .i64 vc)] := rfl
  have hne : ¬ ((([.v (.int .i64 (k : Nat)), .v (.int .i64 vb), .v (.int .i64 vc)] : List D) :: r.map Xt).length : Int) = 0 := by simp only [List.length_cons]; omega
  generalize hR : ([.v (.int .i64 (k : Nat)), .v (.int .i64 vb), .v (.int .i64 vc)] : List D) :: r.map Xt = R at *
  refine X0 ?_; refine JR ?_; refine Zn (γ := 100) ?_; refine Z0 ?_; refine JD ?_; refine X0 ?_; refine JR ?_; refine Z1 ?_; refine ZD ?_; refine Zc (hcon := ha) ?_; refine Z0 ?_; refine JD ?_; refine X0 ?_
  refine X0 ?_; refine JR ?_; refine Z1 ?_; refine Zw ?_; refine Zi ?_; refine JD ?_; refine JF ?_; refine X3 ?_; refine X0 ?_; refine JR ?_; refine Z1 ?_; refine Z1 ?_; refine Zy ?_; refine ZI ?_
  refine ZC ?_; refine Zy ?_; refine ZI ?_; refine ZC ?_; refine Zc (hcon := hfa) ?_; refine Z0 ?_; refine JD ?_
  (show AWP Try.prog E _ _ _; refine X1 ?_; exact (show Xj _ _ _ _ _ from ⟨_, St.le_refl _, ⟨rfl, trivial⟩, X2 _⟩))
end Go.Fw
namespace Go.Fw
open Go Go.Proofs
set_option maxRecDepth 100000
set_option linter.unusedVariables false
set_option linter.unusedSimpArgs false
def exK : List Prp := [⟨[107], .mk 2 5 0 [] []⟩]
def Y2 : Gra := ⟨[⟨1, [[65]], exK⟩, ⟨2, [[65], [66]], exK⟩], [⟨1, 1, 2, [84], []⟩], 3, 2⟩
theorem Vt : GraHold Y2 := ⟨by decide, by decide, by
 intro n hn
 have hn : n = ⟨1, [[65]], exK⟩ ∨ n = ⟨2, [[65], [66]], exK⟩ := by simpa [Y2] using hn
 rcases hn with rfl | rfl
 ·refine ⟨by decide, by simp, by decide, ?_⟩
  intro p hp
  obtain rfl : p = ⟨[107], .mk 2 5 0 [] []⟩ := by simpa [exK] using hp
  exact ⟨by decide, by simp [UD, Vc]⟩
 ·refine ⟨by decide, by simp, by decide, ?_⟩
  intro p hp
  obtain rfl : p = ⟨[107], .mk 2 5 0 [] []⟩ := by simpa [exK] using hp
  exact ⟨by decide, by simp [UD, Vc]⟩, by
 intro e he
 obtain rfl : e = ⟨1, 1, 2, [84], []⟩ := by simpa [Y2] using he
 exact ⟨by decide, by decide, by simp⟩⟩
abbrev exU : Rul := ⟨1, 0, [65], [107], [], []⟩
theorem X7x : ofS exU Y2 = [(1, 2)] := by kernel_rfl
theorem X6q : ofS ⟨6, 0, [84], [], [66], []⟩ Y2 = [(1, 0)] := by kernel_rfl
theorem X78 : ofS ⟨6, 0, [84], [], [65], []⟩ Y2 = [] := by kernel_rfl
theorem X6b : ofS ⟨7, 0, [84], [], [], []⟩ Y2 = [(1, 0)] := by kernel_rfl
theorem X5l : XY [exU] Y2 = [⟨0, 1, 2⟩] := by kernel_rfl
theorem X8Z : UU [exU] Y2 = 13 := by kernel_rfl
def X0q (n : Nod) : Bool := decide (n.labels.length ≤ 20 ∧ n.props.length ≤ 20)
def X0K (e : Edg) : Bool := decide (e.props.length ≤ 20)
def X01 (g : Gra) : Bool := if 60 < g.nodes.length ∨ 100 < g.edges.length then false else g.nodes.all X0q && g.edges.all X0K
theorem X6V : Con Try.prog 12 [] [] [] (Xq Y2) := by
 refine Xf (xs := [Xq Y2]) Try.func12 rfl Try.ntmps12 rfl rfl rfl (fun E => ?_)
 simp only [Xq, Y2, exK, Xd, Xl, Xi, Y9, Xo, Yx, List.map_cons, List.map_nil]
 refine X0 ?_; refine JR ?_; refine Zh (γ := 100) ?_; refine JD ?_; refine X0 ?_; refine JR ?_; refine Zj ?_; refine Zj ?_; refine ZA ?_; refine Z0 ?_; refine JD ?_; refine X0 ?_
 refine XH (Xn 1 (y := .d (.sl 6 [[.v (.string (X5 [107])), .v (.int .i64 2), .v (.int .i64 5), .v (.int .i64 0), .v (.string (X5 [])), .sl 5 []]])) (AVal.le_d (X30 (X4w (Ui (Uv _) (Ui (Uv _) (Ui (Uv _) (Ui (Uv _) (Ui (Uv _) (Ui (X2L 5) X3m)))))) rfl (X41 6))))) ?_
 refine JR ?_; refine ZA ?_; refine Z1 ?_; refine Zj ?_; refine ZA ?_; refine Z1 ?_; refine Zj ?_; refine ZA ?_; refine Z0 ?_; refine JD ?_; refine X0 ?_; refine JR ?_; refine Z1 ?_; refine Zj ?_; refine ZA ?_
 refine Zj ?_; refine Zk ?_; refine JD ?_
 exact X1 ⟨_, X1E 100 (cs' := [.d (.sl 3 [[.v (.int .i64 1), .sl 1 [[.v (.string (X5 [65]))]], .sl 6 [[.v (.string (X5 [107])), .v (.int .i64 2), .v (.int .i64 5), .v (.int .i64 0), .v (.string (X5 [])), .sl 5 []]]], [.v (.int .i64 2), .sl 1 [[.v (.string (X5 [65]))], [.v (.string (X5 [66]))]], .sl 6 [[.v (.string (X5 [107])), .v (.int .i64 2), .v (.int .i64 5), .v (.int .i64 0), .v (.string (X5 [])), .sl 5 []]]]]), .d (.sl 5 [[.v (.int .i64 1), .v (.int .i64 1), .v (.int .i64 2), .v (.string (X5 [84])), .sl 6 []]]), ai 3, ai 2]) rfl ⟨AVal.le_refl _, AVal.le_d (X30 (X4w (Ui (Uv _) (Ui (Uv _) (Ui (Uv _) (Ui (Uv _) (Ui (X2L 6) X3m))))) rfl (X41 5))), AVal.le_refl _, AVal.le_refl _, trivial⟩ rfl, ⟨⟨100, 0, _, rfl, rfl, .inr ⟨4, _, rfl, rfl, rfl, rfl⟩⟩, trivial⟩, X2 _⟩
end Go.Fw
