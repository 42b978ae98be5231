/- The check of a change: the reference's. -/
import Derived.Test.YtlkcofbjniphbaaGreatDoorB27
import Derived.Test.YtlkcofbjniphbaaGreatDoorB38
set_option maxHeartbeats 32000000
namespace Go.Fw
open Go Go.Proofs
set_option maxRecDepth 100000
set_option linter.unusedVariables false
set_option linter.unusedSimpArgs false
theorem Xbt (c:Chg) (hok:Yp c.v):Con Tryz.prog 88 [] [Xx c] [] (ai (YJ c)):=by
 rw[Xg1]
 obtain⟨op,id,src,dst,name,v⟩:=c
 have hf:=Xl3 op
 have hw:=Xn3 op
 have hi:=Xbb id
 have hs:=Xbb src
 have hd:=Xbb dst
 have hn:=Xcl name
 have hz:=Xdb v hok
 have hp:=Xi6 v hok
 generalize idV id=i at*
 generalize idV src=si at*
 generalize idV dst=di at*
 generalize XZ name=nv at*
 generalize Um v=zv at*
 generalize U5 v=pv at*
 obtain⟨k,n,d,s,l⟩:=v
 simp only[Xx,Xv] at*
 refine Xg (xs:=[ai (Ya (X0H op) i si di src dst name nv zv pv)]) Tryz.func88 rfl Tryz.ntmps88 rfl rfl rfl (fun E=> ?_)
 rw[show X0H op=(decide (op=6),Yo op,Yi op,decide (1≤op∧op≤8)) from rfl]
 clear hok
 generalize Yo op=nm at*
 generalize Yi op=vl at*
 generalize hlo:decide (1≤op∧op≤8)=ok
 obtain⟨r,hr⟩:∃r,r=Ya (decide (op=6),nm,vl,ok) i si di src dst name nv zv pv:=⟨_,rfl⟩
 rw[←hr]
 have h1:op<1→ok=false:=fun h=>by rw[←hlo];exact decide_eq_false (by omega)
 have h2:8<op→ok=false:=fun h=>by rw[←hlo];exact decide_eq_false (by omega)
 have h3:¬op<1→¬8<op→ok=true:=fun h k=>by rw[←hlo];exact decide_eq_true (by omega)
 clear hlo
 refine Xt ?_;refine Uh rfl rfl (fun hq=> ?_) (fun hq=> ?_);refine QK ?_;refine QL ?_;refine Qs ?_;refine Qkh ?_;(clear hf hw hi hs hd hn hz hp;simp[Ya, *] at hr;subst hr;exact X1 ⟨_,St.le_refl _,⟨rfl,trivial⟩,X2 _⟩);refine W3_ ?_;refine QP ?_;refine Uh rfl rfl (fun hq=> ?_) (fun hq=> ?_);refine QL ?_;refine Qs ?_;refine Qkh ?_;(clear hf hw hi hs hd hn hz hp;simp[Ya, *] at hr;subst hr;exact X1 ⟨_,St.le_refl _,⟨rfl,trivial⟩,X2 _⟩);refine W2_ ?_;refine Z3 (hcon:=hi) ?_;refine W1_ ?_;refine QP ?_;refine Un rfl rfl (fun hq=> ?_) (fun hq=> ?_);refine W2_ ?_;refine QNd ?_;refine W2_ ?_;refine Un rfl rfl (fun hq=> ?_) (fun hq=> ?_);refine Qwb ?_;refine QQ ?_;refine Z3 (hcon:=hw) ?_;refine W2_ ?_;refine Un rfl rfl (fun hq=> ?_) (fun hq=> ?_);refine QTd ?_;refine Qlh ?_;refine Uh rfl rfl (fun hq=> ?_) (fun hq=> ?_);refine QRd ?_;refine Un rfl rfl (fun hq=> ?_) (fun hq=> ?_);refine QSd ?_;refine Un rfl rfl (fun hq=> ?_) (fun hq=> ?_);refine Qmh ?_;refine Qnh ?_;refine YO rfl (fun hq=> ?_) (fun hq=> ?_);refine W4_ ?_;(clear hf hw hi hs hd hn hz hp;simp[Ya, *] at hr;subst hr;exact X1 ⟨_,St.le_refl _,⟨rfl,trivial⟩,X2 _⟩);refine W6_ ?_;refine Z3 (hcon:=hw) ?_;refine W3_ ?_;refine QVd ?_;refine Un rfl rfl (fun hq=> ?_) (fun hq=> ?_);refine QL ?_;refine QZ ?_;(clear hf hw hi hs hd hn hz hp;simp[Ya, *] at hr;subst hr;exact X1 ⟨_,St.le_refl _,⟨rfl,trivial⟩,X2 _⟩);refine Qoh ?_;refine YO rfl (fun hq=> ?_) (fun hq=> ?_);refine W4_ ?_;(clear hf hw hi hs hd hn hz hp;simp[Ya, *] at hr;subst hr;exact X1 ⟨_,St.le_refl _,⟨rfl,trivial⟩,X2 _⟩);refine W5_ ?_;(clear hf hw hi hs hd hn hz hp;simp[Ya, *] at hr;subst hr;exact X1 ⟨_,St.le_refl _,⟨rfl,trivial⟩,X2 _⟩);refine Qph ?_;(clear hf hw hi hs hd hn hz hp;simp[Ya, *] at hr;subst hr;exact X1 ⟨_,St.le_refl _,⟨rfl,trivial⟩,X2 _⟩);refine Qda ?_;refine Qs ?_;refine Qph ?_;(clear hf hw hi hs hd hn hz hp;simp[Ya, *] at hr;subst hr;exact X1 ⟨_,St.le_refl _,⟨rfl,trivial⟩,X2 _⟩);refine Qae ?_;refine Uh rfl rfl (fun hq=> ?_) (fun hq=> ?_);refine Qrb ?_;refine Que ?_;refine Qe ?_;(clear hf hw hi hs hd hn hz hp;simp[Ya, *] at hr;subst hr;exact X1 ⟨_,St.le_refl _,⟨rfl,trivial⟩,X2 _⟩);refine W3_ ?_;refine Qca ?_;refine QP ?_;refine X1Q rfl (fun hq=> ?_) (fun hq=> ?_);refine W4_ ?_;(clear hf hw hi hs hd hn hz hp;simp[Ya, *] at hr;subst hr;exact X1 ⟨_,St.le_refl _,⟨rfl,trivial⟩,X2 _⟩);refine W6_ ?_;refine Qnh ?_;refine YO rfl (fun hq=> ?_) (fun hq=> ?_);refine W4_ ?_;(clear hf hw hi hs hd hn hz hp;simp[Ya, *] at hr;subst hr;exact X1 ⟨_,St.le_refl _,⟨rfl,trivial⟩,X2 _⟩);refine W6_ ?_;refine Z3 (hcon:=hw) ?_;refine W3_ ?_;refine QVd ?_;refine Un rfl rfl (fun hq=> ?_) (fun hq=> ?_);refine QL ?_;refine QZ ?_;(clear hf hw hi hs hd hn hz hp;simp[Ya, *] at hr;subst hr;exact X1 ⟨_,St.le_refl _,⟨rfl,trivial⟩,X2 _⟩);refine Qoh ?_
 refine YO rfl (fun hq=> ?_) (fun hq=> ?_);refine W4_ ?_;(clear hf hw hi hs hd hn hz hp;simp[Ya, *] at hr;subst hr;exact X1 ⟨_,St.le_refl _,⟨rfl,trivial⟩,X2 _⟩);refine W5_ ?_;(clear hf hw hi hs hd hn hz hp;simp[Ya, *] at hr;subst hr;exact X1 ⟨_,St.le_refl _,⟨rfl,trivial⟩,X2 _⟩);refine W2_ ?_;refine Z3 (hcon:=hz) ?_;refine QYd ?_;refine QP ?_;refine YO rfl (fun hq=> ?_) (fun hq=> ?_);refine W4_ ?_;(clear hf hw hi hs hd hn hz hp;simp[Ya, *] at hr;subst hr;exact X1 ⟨_,St.le_refl _,⟨rfl,trivial⟩,X2 _⟩);refine W8_ ?_;refine Uh rfl rfl (fun hq=> ?_) (fun hq=> ?_);refine QRd ?_;refine Un rfl rfl (fun hq=> ?_) (fun hq=> ?_);refine QSd ?_;refine Un rfl rfl (fun hq=> ?_) (fun hq=> ?_);refine Qmh ?_;refine Qnh ?_;refine YO rfl (fun hq=> ?_) (fun hq=> ?_);refine W4_ ?_;(clear hf hw hi hs hd hn hz hp;simp[Ya, *] at hr;subst hr;exact X1 ⟨_,St.le_refl _,⟨rfl,trivial⟩,X2 _⟩);refine W6_ ?_;refine Z3 (hcon:=hw) ?_;refine Qqh ?_;(clear hf hw hi hs hd hn hz hp;simp[Ya, *] at hr;subst hr;exact X1 ⟨_,St.le_refl _,⟨rfl,trivial⟩,X2 _⟩);refine Qph ?_;(clear hf hw hi hs hd hn hz hp;simp[Ya, *] at hr;subst hr;exact X1 ⟨_,St.le_refl _,⟨rfl,trivial⟩,X2 _⟩);refine Qda ?_;refine Qs ?_;refine Qph ?_;(clear hf hw hi hs hd hn hz hp;simp[Ya, *] at hr;subst hr;exact X1 ⟨_,St.le_refl _,⟨rfl,trivial⟩,X2 _⟩);refine Qae ?_;refine Uh rfl rfl (fun hq=> ?_) (fun hq=> ?_);refine Qrb ?_;refine Que ?_;refine Qe ?_;(clear hf hw hi hs hd hn hz hp;simp[Ya, *] at hr;subst hr;exact X1 ⟨_,St.le_refl _,⟨rfl,trivial⟩,X2 _⟩);refine W3_ ?_;refine Qca ?_;refine QP ?_;refine X1Q rfl (fun hq=> ?_) (fun hq=> ?_);refine W4_ ?_;(clear hf hw hi hs hd hn hz hp;simp[Ya, *] at hr;subst hr;exact X1 ⟨_,St.le_refl _,⟨rfl,trivial⟩,X2 _⟩);refine W6_ ?_;refine Qnh ?_;refine YO rfl (fun hq=> ?_) (fun hq=> ?_);refine W4_ ?_;(clear hf hw hi hs hd hn hz hp;simp[Ya, *] at hr;subst hr;exact X1 ⟨_,St.le_refl _,⟨rfl,trivial⟩,X2 _⟩);refine W6_ ?_;refine Z3 (hcon:=hw) ?_;refine Qqh ?_;(clear hf hw hi hs hd hn hz hp;simp[Ya, *] at hr;subst hr;exact X1 ⟨_,St.le_refl _,⟨rfl,trivial⟩,X2 _⟩);refine W3_ ?_;refine Que ?_;refine Uh rfl rfl (fun hq=> ?_) (fun hq=> ?_);refine QW ?_;refine QY ?_;refine Qs ?_;refine Qe ?_;(clear hf hw hi hs hd hn hz hp;simp[Ya, *] at hr;subst hr;exact X1 ⟨_,St.le_refl _,⟨rfl,trivial⟩,X2 _⟩);refine W2_ ?_;refine Z3 (hcon:=hw) ?_;refine W2_ ?_;refine Un rfl rfl (fun hq=> ?_) (fun hq=> ?_);refine QTd ?_;refine Qlh ?_;refine Uh rfl rfl (fun hq=> ?_) (fun hq=> ?_);refine QRd ?_;refine Un rfl rfl (fun hq=> ?_) (fun hq=> ?_);refine QSd ?_;refine Un rfl rfl (fun hq=> ?_) (fun hq=> ?_);refine Qmh ?_;refine Qrh ?_;refine W3_ ?_;refine QVd ?_;refine Un rfl rfl (fun hq=> ?_) (fun hq=> ?_);refine QL ?_;refine QZ ?_
 (clear hf hw hi hs hd hn hz hp;simp[Ya, *] at hr;subst hr;exact X1 ⟨_,St.le_refl _,⟨rfl,trivial⟩,X2 _⟩);refine Qoh ?_;refine YO rfl (fun hq=> ?_) (fun hq=> ?_);refine W4_ ?_;(clear hf hw hi hs hd hn hz hp;simp[Ya, *] at hr;subst hr;exact X1 ⟨_,St.le_refl _,⟨rfl,trivial⟩,X2 _⟩);refine W5_ ?_;(clear hf hw hi hs hd hn hz hp;simp[Ya, *] at hr;subst hr;exact X1 ⟨_,St.le_refl _,⟨rfl,trivial⟩,X2 _⟩);refine Qph ?_;(clear hf hw hi hs hd hn hz hp;simp[Ya, *] at hr;subst hr;exact X1 ⟨_,St.le_refl _,⟨rfl,trivial⟩,X2 _⟩);refine Qda ?_;refine Qs ?_;refine Qph ?_;(clear hf hw hi hs hd hn hz hp;simp[Ya, *] at hr;subst hr;exact X1 ⟨_,St.le_refl _,⟨rfl,trivial⟩,X2 _⟩);refine Qae ?_;refine Uh rfl rfl (fun hq=> ?_) (fun hq=> ?_);refine Qrb ?_;refine Que ?_;refine Qe ?_;(clear hf hw hi hs hd hn hz hp;simp[Ya, *] at hr;subst hr;exact X1 ⟨_,St.le_refl _,⟨rfl,trivial⟩,X2 _⟩);refine W3_ ?_;refine Qca ?_;refine QP ?_;refine X1Q rfl (fun hq=> ?_) (fun hq=> ?_);refine W4_ ?_;(clear hf hw hi hs hd hn hz hp;simp[Ya, *] at hr;subst hr;exact X1 ⟨_,St.le_refl _,⟨rfl,trivial⟩,X2 _⟩);refine W6_ ?_;refine Qrh ?_;refine W3_ ?_;refine QVd ?_;refine Un rfl rfl (fun hq=> ?_) (fun hq=> ?_);refine QL ?_;refine QZ ?_;(clear hf hw hi hs hd hn hz hp;simp[Ya, *] at hr;subst hr;exact X1 ⟨_,St.le_refl _,⟨rfl,trivial⟩,X2 _⟩);refine Qoh ?_;refine YO rfl (fun hq=> ?_) (fun hq=> ?_);refine W4_ ?_;(clear hf hw hi hs hd hn hz hp;simp[Ya, *] at hr;subst hr;exact X1 ⟨_,St.le_refl _,⟨rfl,trivial⟩,X2 _⟩);refine W5_ ?_;(clear hf hw hi hs hd hn hz hp;simp[Ya, *] at hr;subst hr;exact X1 ⟨_,St.le_refl _,⟨rfl,trivial⟩,X2 _⟩);refine W2_ ?_;refine Z3 (hcon:=hz) ?_;refine QYd ?_;refine QP ?_;refine YO rfl (fun hq=> ?_) (fun hq=> ?_);refine W4_ ?_;(clear hf hw hi hs hd hn hz hp;simp[Ya, *] at hr;subst hr;exact X1 ⟨_,St.le_refl _,⟨rfl,trivial⟩,X2 _⟩);refine W8_ ?_;refine Uh rfl rfl (fun hq=> ?_) (fun hq=> ?_);refine QRd ?_;refine Un rfl rfl (fun hq=> ?_) (fun hq=> ?_);refine QSd ?_;refine Un rfl rfl (fun hq=> ?_) (fun hq=> ?_);refine Qmh ?_;refine Qrh ?_;refine Qqh ?_;(clear hf hw hi hs hd hn hz hp;simp[Ya, *] at hr;subst hr;exact X1 ⟨_,St.le_refl _,⟨rfl,trivial⟩,X2 _⟩);refine Qph ?_;(clear hf hw hi hs hd hn hz hp;simp[Ya, *] at hr;subst hr;exact X1 ⟨_,St.le_refl _,⟨rfl,trivial⟩,X2 _⟩);refine Qda ?_;refine Qs ?_;refine Qph ?_;(clear hf hw hi hs hd hn hz hp;simp[Ya, *] at hr;subst hr;exact X1 ⟨_,St.le_refl _,⟨rfl,trivial⟩,X2 _⟩);refine Qae ?_;refine Uh rfl rfl (fun hq=> ?_) (fun hq=> ?_);refine Qrb ?_;refine Que ?_;refine Qe ?_;(clear hf hw hi hs hd hn hz hp;simp[Ya, *] at hr;subst hr;exact X1 ⟨_,St.le_refl _,⟨rfl,trivial⟩,X2 _⟩);refine W3_ ?_;refine Qca ?_;refine QP ?_;refine X1Q rfl (fun hq=> ?_) (fun hq=> ?_);refine W4_ ?_
 (clear hf hw hi hs hd hn hz hp;simp[Ya, *] at hr;subst hr;exact X1 ⟨_,St.le_refl _,⟨rfl,trivial⟩,X2 _⟩);refine W6_ ?_;refine Qrh ?_;refine Qqh ?_;(clear hf hw hi hs hd hn hz hp;simp[Ya, *] at hr;subst hr;exact X1 ⟨_,St.le_refl _,⟨rfl,trivial⟩,X2 _⟩);refine Qkh ?_
 (clear hf hw hi hs hd hn hz hp;simp[Ya, *] at hr;subst hr;exact X1 ⟨_,St.le_refl _,⟨rfl,trivial⟩,X2 _⟩)
theorem XdX (l:List (List UInt8)) (hl:l.length≤9223372036854775807):Con Tryz.prog 224 [] [.d (.sl 1 (l.map Xl))] [] (ab (UF l)):=by
 refine Xg (xs:=[ab (UF l)]) Tryz.func224 rfl Tryz.ntmps224 rfl rfl rfl (fun E=> ?_)
 have hlm:(l.map Xl).length=l.length:=by simp
 generalize hG:UF l=G
 refine Xj ?_
 refine XK (fun i:Nat=>1≤i∧i≤l.length+1∧UF (l.drop (i-1))=G) (fun i=>⟨20,[(0,.d (.sl 1 (l.map Xl))),(3,ai i)],[]⟩) (fun i=>l.length-i) 1 ⟨by omega,by omega,by simpa using hG⟩
  (Xd rfl ⟨JL,JL,trivial⟩ trivial) ?_
 rintro i ⟨hi,hi2,hg⟩
 by_cases hil:i<l.length
 case neg=>
  have hn:¬(i:Int)<(l.map Xl).length:=by omega
  have hT:G=true:=by rw[←hg,XdR (by omega)]
  subst hT
  exact Qbc
 have hn:(i:Int)<(l.map Xl).length:=by omega
 obtain⟨j,rfl⟩:∃j,i=j+1:=⟨i-1,by omega⟩
 rw[Nat.add_sub_cancel] at hg
 obtain⟨x,hx⟩:=XI (l:=l) hil
 obtain⟨y,hy⟩:=XI (l:=l) (k:=j) (by omega)
 have hxc:(l.map Xl)[j+1]? =some (Xl x):=Y5 hx
 have hyc:(l.map Xl)[j]? =some (Xl y):=Y5 hy
 rw[XfQ hy hx] at hg
 cases hq:(Op.bytesLess x y||decide (x=y)) with
 |false=>
  rw[hq] at hg
  simp only[Bool.not_false,Bool.true_and] at hg
  refine Qi ?_;refine Xi ?_
  (refine Z1 (op:= .sub) (r':= .int .i64 ((j:Nat):Int)) (u:= .int .i64 ((j+1:Nat):Int)) (v:= .int .i64 1) ?_ (hr':=by exact congrArg (Value.int .i64) (show(((j+1:Nat):Int)-1)=(j:Int) by omega)) (hr:=by exact Yl (by unfold XT;omega)))
  refine Qmf ?_;refine QFc ?_;exact Qnf
 |true=>
  rw[hq] at hg
  simp only[Bool.not_true,Bool.false_and] at hg
  subst hg
  refine Qi ?_;refine Xi ?_
  (refine Z1 (op:= .sub) (r':= .int .i64 ((j:Nat):Int)) (u:= .int .i64 ((j+1:Nat):Int)) (v:= .int .i64 1) ?_ (hr':=by exact congrArg (Value.int .i64) (show(((j+1:Nat):Int)-1)=(j:Int) by omega)) (hr:=by exact Yl (by unfold XT;omega)))
  refine Qmf ?_;refine W1_ ?_;exact QM
theorem Xnr {α:Type}{p:α→Bool}{l:List α}{i:Nat}{x:α} (h:l[i]? =some x):(l.drop i).all p=(p x&&(l.drop (i+1)).all p):=by
 obtain⟨hi,rfl⟩:=List.getElem?_eq_some_iff.1 h
 rw[List.drop_eq_getElem_cons hi,List.all_cons]
theorem XiN (l:List (List UInt8)) (hl:l.length≤9223372036854775807):Con Tryz.prog 223 [] [.d (.sl 1 (l.map Xl))] [] (ab (l.all XZ)):=by
 refine Xg (xs:=[ab (l.all XZ)]) Tryz.func223 rfl Tryz.ntmps223 rfl rfl rfl (fun E=> ?_)
 have hlm:(l.map Xl).length=l.length:=by simp
 generalize hG:l.all XZ=G
 refine Xj ?_
 refine XK (fun i:Nat=>i≤l.length∧(l.drop i).all XZ=G) (fun i=>⟨16,[(0,.d (.sl 1 (l.map Xl))),(3,ai i)],[]⟩) (fun i=>l.length-i) 0 ⟨by omega,by simpa using hG⟩
  (Xd rfl ⟨JL,JL,trivial⟩ trivial) ?_
 rintro i ⟨hi,hg⟩
 by_cases hil:i<l.length
 case neg=>
  have hn:¬(i:Int)<(l.map Xl).length:=by omega
  rw[List.drop_of_length_le (by omega),List.all_nil] at hg
  subst hg
  exact Qbc
 have hn:(i:Int)<(l.map Xl).length:=by omega
 obtain⟨x,hx⟩:=XI (l:=l) hil
 have hxc:(l.map Xl)[i]? =some (Xl x):=Y5 hx
 have hu:=Xcl x
 rw[Xnr hx] at hg
 cases hq:XZ x with
 |true=>
  rw[hq] at hg hu
  rw[Bool.true_and] at hg
  refine Qi ?_;refine W9_ ?_;refine Qre ?_;refine W2_ ?_;refine Qia ?_;exact⟨i+1,⟨by omega,hg⟩,by omega,Xd rfl ⟨JL,JL,trivial⟩ trivial⟩
 |false=>
  rw[hq] at hg hu
  rw[Bool.false_and] at hg
  subst hg
  refine Qi ?_;refine W9_ ?_;refine Qre ?_;exact Qcc
theorem Xoh (ps:List Prp) (hl:ps.length≤4294967296):Con Tryz.prog 222 [] [.d (.sl 6 (ps.map Xh))] [] (.d (.sl 1 ((ps.map Prp.key).map Xl))):=by
 refine Xg (xs:=[.d (.sl 1 ((ps.map Prp.key).map Xl))]) Tryz.func222 rfl Tryz.ntmps222 rfl rfl rfl (fun E=> ?_)
 have hlm:(ps.map Xh).length=ps.length:=by simp
 refine XC ?_;refine Xq (V3 3 130 1 rfl rfl rfl) ?_
 refine XK (fun i:Nat=>i≤ps.length) (fun i=>⟨20,[(0,.d (.sl 6 (ps.map Xh))),(3,.own 130 (((ps.take i).map Prp.key).map Xl).length),(4,ai i)],[(130,.row 1 (((ps.take i).map Prp.key).map Xl))]⟩) (fun i=>ps.length-i) 0 (Nat.zero_le _)
  (Xd rfl ⟨JL,JL,JL,trivial⟩ ⟨rfl,trivial⟩) ?_
 intro i hi
 by_cases hil:i<ps.length
 case neg=>
  obtain rfl:i=ps.length:=by omega
  have hn:¬((ps.length:Nat):Int)<(ps.map Xh).length:=by omega
  rw[List.take_length]
  refine QJc ?_;refine Qof ?_;refine Xq (Yx 2 130 rfl rfl rfl) ?_;exact Qp
 have hn:(i:Int)<(ps.map Xh).length:=by omega
 obtain⟨x,hx⟩:=XI (l:=ps) hil
 have hxc:(ps.map Xh)[i]? =some (Xh x):=Y5 hx
 have hroom:(((ps.take i).map Prp.key).map Xl).length≤4294967296:=by simp only[List.length_map,List.length_take];omega
 refine Qi ?_;refine Yw ?_
 refine⟨i+1,hil,by omega,?_⟩
 rw[Xfk hx]
 exact Qsh
theorem XeR (ls:List (List UInt8)) (ps:List Prp) (hls:ls.length≤9223372036854775807) (hok:∀p∈ps,X34 p):Con Tryz.prog 181 [] [.d (.sl 1 (ls.map Xl)),.d (.sl 6 (ps.map Xh))] [] (ai (V2 ls ps)):=by
 refine Xg (xs:=[ai (V2 ls ps)]) Tryz.func181 rfl Tryz.ntmps181 rfl rfl rfl (fun E=> ?_)
 have hlm:(ps.map Xh).length=ps.length:=by simp
 have hlm2:(ls.map Xl).length=ls.length:=by simp
 by_cases h1:8<ls.length
 ·rw[X7A (.inl h1)]
  have h1':(8:Int)<(ls.map Xl).length:=by omega
  refine Xi ?_;exact QEa
 have h1':¬(8:Int)<(ls.map Xl).length:=by omega
 by_cases h2:16<ps.length
 ·rw[X7A (.inr h2)]
  have h2':(16:Int)<(ps.map Xh).length:=by omega
  refine XC ?_;exact QS
 have h2':¬(16:Int)<(ps.map Xh).length:=by omega
 rw[Xe9 h1 h2]
 have hk:=Xoh ps (by omega)
 have hc1:=XiN ls hls
 have hc2:=XiN (ps.map Prp.key) (by simp only[List.length_map];omega)
 have hr1:=XdX ls hls
 have hr2:=XdX (ps.map Prp.key) (by simp only[List.length_map];omega)
 generalize ls.all XZ=n1 at*
 generalize UF ls=r1 at*
 generalize (ps.map Prp.key).all XZ=n2 at*
 generalize UF (ps.map Prp.key)=r2 at*
 generalize hG:(ps.map Prp.v).all U5=G
 by_cases b1:n1=false∨n2=false
 ·rw[if_pos b1]
  cases n1<;>cases n2<;>first|(simp at b1;done)|skip
  ·refine Qth ?_;exact Qqf
  ·refine Qth ?_;exact Qqf
  ·refine Qth ?_;refine W3_ ?_;refine Z3 (hcon:=hc2) ?_;exact QT
 rw[if_neg b1]
 obtain⟨rfl,rfl⟩:n1=true∧n2=true:=by cases n1<;>cases n2<;>simp_all
 by_cases b2:r1=false∨r2=false
 ·rw[if_pos b2]
  cases r1<;>cases r2<;>first|(simp at b2;done)|skip
  ·refine Quh ?_;exact Qqf
  ·refine Quh ?_;exact Qqf
  ·refine Quh ?_;refine W3_ ?_;refine Z3 (hcon:=hr2) ?_;exact QT
 rw[if_neg b2]
 obtain⟨rfl,rfl⟩:r1=true∧r2=true:=by cases r1<;>cases r2<;>simp_all
 refine Quh ?_;refine W3_ ?_;refine Z3 (hcon:=hr2) ?_;refine W1_ ?_;refine QXb ?_
 clear b1 b2 h1 h2
 refine XK (fun i:Nat=>i≤ps.length∧((ps.drop i).map Prp.v).all U5=G) (fun i=>⟨46,[(1,.d (.sl 6 (ps.map Xh))),(6,ai i)],[]⟩) (fun i=>ps.length-i) 0 ⟨by omega,by simpa using hG⟩
  (Xd rfl JM trivial) ?_
 rintro i ⟨hi,hg⟩
 by_cases hil:i<ps.length
 case neg=>
  have hn':¬(i:Int)<(ps.map Xh).length:=by omega
  rw[List.drop_of_length_le (by omega),List.map_nil,List.all_nil] at hg
  subst hg
  rw[if_neg (by simp)]
  exact Qbc
 have hn':(i:Int)<(ps.map Xh).length:=by omega
 obtain⟨x,hx⟩:=XI (l:=ps) hil
 have hxc:(ps.map Xh)[i]? =some (Xh x):=Y5 hx
 have hxo:=hok x (List.mem_of_getElem? hx)
 have hu:=Xi6 x.v hxo.2
 rw[Xh0 hx] at hg
 generalize U5 x.v=pv at*
 obtain⟨key,⟨vk,vn,vd,vs,vl⟩⟩:=x
 simp only[Xv,Xh,U3] at hu hxc
 cases pv with
 |true=>
  rw[Bool.true_and] at hg
  refine QUb ?_;refine Qre ?_;refine W2_ ?_;refine Qia ?_;exact Qrf
 |false=>
  rw[Bool.false_and] at hg
  subst hg
  rw[if_pos rfl]
  refine QUb ?_;refine Qre ?_;exact Qcc
open Go
section
variable {α κ:Type}{lt:κ→κ→Bool}{key:α→κ} [DecidableEq κ]
def X1w (lt:κ→κ→Bool) (key:α→κ) (l:List α) (k:κ) (ns:List α):Bool→List α
 |true=>l.filter fun x=> !decide (key x=k)
 |false=>Uv lt key l k ns
theorem Xc1 {l:List α}{k:κ}{ns:List α}{i:Nat}{x:α}{b:Bool} (h:l[i]? =some x) (hi:lt (key x) k=true→key x≠k):
  X1w lt key (l.drop i) k ns b=(if b=false∧lt (key x) k=false then ns else [])++(if key x=k then [] else [x])++X1w lt key (l.drop (i+1)) k ns (b|| !lt (key x) k):=by
 obtain⟨hlt,h⟩:=List.getElem?_eq_some_iff.1 h
 rw[List.drop_eq_getElem_cons hlt,h]
 cases b with
 |true=>
  simp only[X1w,Bool.true_or,List.filter_cons]
  by_cases q:key x=k<;>simp[q]
 |false=>
  by_cases p:lt (key x) k=true
  ·simp only[X1w,Bool.false_or,p,Bool.not_true]
   rw[if_neg (by simp),if_neg (hi p)]
   simp[Uv,p]
  ·have p:lt (key x) k=false:=by simpa using p
   simp only[X1w,Bool.false_or,p,Bool.not_false]
   rw[if_pos (by simp)]
   unfold Uv
   rw[List.takeWhile_cons_of_neg (by simp[p]),List.dropWhile_cons_of_neg (by simp[p]),List.filter_cons]
   by_cases q:key x=k<;>simp[q]
theorem Xbw {k:κ}{ns:List α} (b:Bool):X1w lt key [] k ns b=if b=true then [] else ns:=by
 cases b<;>simp[X1w,Uv]
theorem Xcb {l:List α}{k:κ}{i:Nat}{x:α} (h:l[i]? =some x):UT key (l.drop i) k=(if key x=k then [] else [x])++UT key (l.drop (i+1)) k:=by
 obtain⟨hlt,h⟩:=List.getElem?_eq_some_iff.1 h
 rw[List.drop_eq_getElem_cons hlt,h]
 unfold UT
 rw[List.filter_cons]
 by_cases q:key x=k<;>simp[q]
theorem X9o (l:List α) (k:κ):(UT key l k).length≤l.length:=List.length_filter_le _ _
omit [DecidableEq κ] in
end
def X1K (ls:List (List UInt8)) (s:List UInt8):Bool:=ls.any fun x=>decide (s=x)
def X2w (l:List Nod) (id:Int):Option Nod:=l.find? fun n=>decide (n.id=id)
abbrev X2D:Nod:=⟨0,[],[]⟩
def Xj1 (n:Nod):Prop:=n.labels.length≤1000∧n.props.length≤1000∧∀p∈n.props,U5 p.v=true
theorem Xqw {l:List Nod}{i:Nat}{n:Nod}{id:Int} (h:l[i]? =some n):X2w (l.drop i) id=if n.id=id then some n else X2w (l.drop (i+1)) id:=by
 obtain⟨hi,h⟩:=List.getElem?_eq_some_iff.1 h
 unfold X2w
 rw[List.drop_eq_getElem_cons hi,h,List.find?_cons]
 by_cases q:n.id=id<;>simp[q]
theorem Xkb {l:List (List UInt8)}{s:List UInt8}{i:Nat}{x:List UInt8} (h:l[i]? =some x):X1K (l.drop i) s=(decide (s=x)||X1K (l.drop (i+1)) s):=by
 obtain⟨hi,rfl⟩:=List.getElem?_eq_some_iff.1 h
 unfold X1K
 rw[List.drop_eq_getElem_cons hi,List.any_cons]
theorem XkN (l:List (List UInt8)) (s:List UInt8) (hl:l.length≤9223372036854775807):Con Tryz.prog 225 [] [.d (.sl 1 (l.map Xl)),XH s] [] (ab (X1K l s)):=by
 refine Xg (xs:=[ab (X1K l s)]) Tryz.func225 rfl Tryz.ntmps225 rfl rfl rfl (fun E=> ?_)
 generalize hG:X1K l s=G
 refine Xj ?_
 refine XK (fun i:Nat=>i≤l.length∧X1K (l.drop i) s=G) (fun i=>⟨18,[(0,.d (.sl 1 (l.map Xl))),(1,XH s),(5,ai i)],[]⟩) (fun i=>l.length-i) 0 ⟨Nat.zero_le _,by simpa using hG⟩
  (Xd rfl JM trivial) ?_
 rintro i ⟨hi,hg⟩
 by_cases hil:i<l.length
 case neg=>
  have hn:¬(i:Int)<(l.map Xl).length:=by rw[List.length_map];omega
  rw[List.drop_of_length_le (by omega)] at hg
  have hg:false=G:=hg
  subst hg
  exact Qbc
 have hn:(i:Int)<(l.map Xl).length:=by rw[List.length_map];omega
 obtain⟨x,hx⟩:=XI (l:=l) hil
 have hxc:(l.map Xl)[i]? =some (Xl x):=Y5 hx
 rw[Xkb hx] at hg
 by_cases hq:s=x
 ·rw[decide_eq_true hq,Bool.true_or] at hg
  subst hg
  have hq':x=s:=hq.symm
  refine Qi ?_;refine Xt ?_;exact QM
 rw[decide_eq_false hq,Bool.false_or] at hg
 have hq':¬x=s:=fun e=>hq e.symm
 refine Qi ?_;refine Xt ?_;refine Qia ?_;exact Qrf
theorem XoS (n:Nod) (s:List UInt8) (hl:n.labels.length≤9223372036854775807):Con Tryz.prog 183 [] [.agg [ai n.id,.d (.sl 1 (n.labels.map Xl)),.d (.sl 6 (n.props.map Xh))],XH s] [] (ab (X1K n.labels s)):=by
 refine Xg (xs:=[ab (X1K n.labels s)]) Tryz.func183 rfl Tryz.ntmps183 rfl rfl rfl (fun E=> ?_)
 have hc:=XkN n.labels s hl
 generalize X1K n.labels s=q at*
 refine Qjg ?_;exact Qq
end Go.Fw
