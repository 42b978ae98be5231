/- Rows of rules: an element put in, taken out, searched. -/
import Derived.Test.YtpbgjcbkhgfmkaaGreatDoorM26
import Derived.Test.YtpbgjcbkhgfmkaaGreatDoorM32
set_option maxHeartbeats 16000000
namespace Go.Fw
open Go Go.Proofs Tryz List
set_option maxRecDepth 100000
set_option linter.unusedVariables false
set_option linter.unusedSimpArgs false
theorem Xo2 (p:Rul):(Xh p).length=6:=rfl
theorem XmL (ps:List Rul):∀x∈ps.map Xh,x.length=6:=fun x hx=>by obtain⟨p,_,rfl⟩:=mem_map.1 hx;exact Xo2 p
variable{a b:Rul}{A:List UInt8}{ep f t tail:Int}{d e:ak}{l:List Rcd}{ag:List Wr}{r:Rcd}
theorem Xl0 (h:ltR a b=true):UM a b<0:=by unfold ltR at h;simpa using h
theorem Xgp (h:¬ltR a b=true):¬UM a b<0:=by unfold ltR at h;simpa using h
theorem XdY:decide (UM a b=0)=decide (a=b):=decide_eq_decide.2 ⟨Xb2,fun e=>by rw[e];exact X9a.refl _⟩
theorem Xrw (xs:List (List D)) (i:Nat) (v:List D) (hz:∀x∈xs,x.length=6) (hv:v.length=6) (hi:i<=xs.length) (hx:xs.length<=5000):
  Con prog 119 [(1,.row 6 xs)] [.own 1 xs.length,ai (i:Nat),.d (.sl 6 [v])] [(1,.dead),(110,.row 6 (xs.take i++v::xs.drop i))] (.own 110 (xs.length+1)):=by
 refine ZC1 func119 ntmps119 fun E=> ?_;by_cases hin:i=xs.length
 case pos=>
  subst hin;rw[take_length,drop_length];refine QGc ?_;show AWP prog E _ _ _;refine QHc ?_
  (show AWP prog E _ _ _;refine X2 ?_;exact(show Xa _ _ _ _ _ from⟨_,St.le_refl _,⟨rfl,TV⟩,Xj ⟨rfl,rfl,TV⟩⟩))
 have hlt:i<xs.length:=by omega
 refine X2Z 0 1 120 rfl (by omega) rfl rfl rfl rfl (fun c k aI aW bL _=> ?_);have hT:(replicate k (none:Option D)).length=k:=length_replicate;generalize replicate k (none:Option D)=T at*;have hlen:(map some xs.flatten++T).length=xs.length*6+k:=by rw[LA,hT];exact CG (· +k) (Vg hz)
 have s1:(if c=i then 0 else 0+i*6)=i*6:=by rw[NI (by omega),Nat.zero_add]
 have s0:(if c=0 then 0 else 0+0*6)=0:=by split<;>rfl
 have a1:(xs.length:Int)+(([v].length:Nat):Int)=((xs.length+1:Nat):Int):=rfl;have a2:(i:Int)+(([v].length:Nat):Int)=((i+1:Nat):Int):=rfl;have a3:((xs.length+1:Nat):Int)-(i:Int)=((xs.length+1-i:Nat):Int):=by omega
 by_cases hroom:xs.length+1<=c
 case pos=>
  have hk:6<=k:=by omega
  have s3:(if c=i+1 then 0 else 0+(i+1)*6)=(i+1)*6:=by rw[NI (by omega),Nat.zero_add]
  have e1:=X9P (T:=T) hz hlt;have e2:=X9h (v:=v) (T:=T) hz hlt;have e3:=X7q (T:=T) hz hlt;have e4:=X8A (v:=v) (T:=T) hz hv hi;have cA:X0S (((map some xs.flatten++T).drop (i*6)).take ((xs.length-i)*6))=true:=by rw[show map some xs.flatten=fl xs from rfl,e3];exact X4x _
  have lA:=X9p (T:=T) hz hlt (by omega);have lB:=X9J (T:=T) hz hv hi (by omega);have hne:(map some xs.flatten++T)≠[]:=fun q=>by rw[q] at hlen;simp at hlen;omega
  have hok:=X9t (i:=i) hz hv;have cz:=X9Z (v:=v) hi;refine QRc ?_;refine QLc ?_;refine QSc ?_
  (refine X8R (hg:=JSa) (hx:=JSb) (hy:=JSb) (hL:=JSb) (hsz:=JSl) (ho:=JSh) (hp:=JSb) (hT:=JSb) (hd:=JSb) ?_ (hys:= ?hys60) (hcs:= ?hcs61) (hf:=by exact func185) (h1:=by exact(by kernel_rfl)) (h2:=by exact(by kernel_rfl)) (h3:=by exact(by kernel_rfl)) (h4:=by exact(by kernel_rfl));(case hys60=>exact(by simp));(case hcs61=>exact hne))
  refine QMc ?_;refine QSc ?_;refine W2_ ?_;refine QTc ?_;refine Zd (m:=xs.length-i) (cs':=X3o 6 i xs T) ?_ (hc:=by exact cA) (hcs:=by exact e1);refine W5_ ?_;refine QTc ?_;refine W1_ ?_;refine Ze (m:=1) (cs':=X3x 6 i xs v T) ?_ (hcs:=by exact e2);refine W6_ ?_;show AWP prog E _ _ _;refine QNc ?_
  (show AWP prog E _ _ _;refine X2 ?_;exact(show Xa _ _ _ _ _ from⟨_,St.le_refl _,⟨rfl,TV⟩,Xj ⟨rfl,rfl,TV⟩⟩))
 have e5:=X5M hz T hi;have e6:(map some xs.flatten++T).take (xs.length*6)=xs.flatten.map some:=take_left' (Vg hz);have l5:(xs.take i).length=i:=by rw[LT];omega
 refine QRc ?_;refine QOc ?_;(refine Zf (γ:=110) (n':=xs.length+1) (xs:=xs.take i) ?_ (hxs:= ?hxs62) (hxl:= ?hxl63) (hxz:=by exact X2s hz i);(case hxs62=>exact e5);(case hxl63=>exact l5));refine W3_ ?_;show AWP prog E _ _ _;refine QPc ?_;(refine X1H (k:=i) (hg:=JSa) (hx:=JSb) (hL:=JSb) (hlo:=JSb) (hn:=JSe) (hT:=JSb) (hd:=JSb) ?_ (hk:= ?lV);(case lV=>exact(by simp;omega)));refine W1_ ?_
 (refine X3c (m:=1) (hg:=JSa) (hx:=JSb) (hL:=JSb) (hn:=JSe) (hy:=JSb) (hsrc:=JSf) (hT:=JSb) (hd:=JSb) ?_ (hk:= ?hk65) (hm:= ?hm66);(case hk65=>exact(by simp;omega));(case hm66=>exact(by simp;omega)))
 refine QQc ?_;(refine X1H (k:=i+1) (hg:=JSa) (hx:=JSb) (hL:=JSb) (hlo:=JSb) (hn:=JSe) (hT:=JSb) (hd:=JSb) ?_ (hk:= ?hk67);(case hk67=>exact(by simp;omega)));refine W3_ ?_
 (refine X3c (m:=xs.length-i) (hg:=JSa) (hx:=JSb) (hL:=JSb) (hn:=JSe) (hy:=JSb) (hsrc:=JSf) (hT:=JSb) (hd:=JSb) ?_ (hk:= ?hk68) (hm:= ?hm69);(case hk68=>exact(by simp;omega));(case hm69=>exact(by simp;omega)))
 refine W6_ ?_
 (show AWP prog E _ _ _;refine X2 ?_;exact(show Xa _ _ _ _ _ from⟨_,St.le_refl _,⟨rfl,TV⟩,Xj ⟨rfl,CG (AObj.row _) (X8u hi (by rw[length_replicate]) hlt),TV⟩⟩))
theorem Xqj (xs:List (List D)) (i:Nat) (hz:∀x∈xs,x.length=6) (hi:i<xs.length) (hx:xs.length<=5000):
  Con prog 118 [(1,.row 6 xs)] [.own 1 xs.length,ai (i:Nat),ai ((i+1:Nat):Int)] [(1,.dead),(110,.row 6 (xs.take i++xs.drop (i+1)))] (.own 110 (xs.length-1)):=by
 refine ZC1 func118 ntmps118 fun E=> ?_;refine X2Z 0 1 120 rfl (by omega) rfl rfl rfl rfl (fun c k aI aW bL _=> ?_);have hT:(replicate k (none:Option D)).length=k:=length_replicate;generalize replicate k (none:Option D)=T at*;have hlen:(map some xs.flatten++T).length=xs.length*6+k:=by rw[LA,hT];exact CG (· +k) (Vg hz)
 have s0:(if c=0 then 0 else 0+0*6)=0:=by split<;>rfl
 obtain⟨off,ho⟩:∃off,(if c=i+1 then 0 else 0+(i+1)*6)=off:=⟨_,rfl⟩
 have s5:(if c=xs.length-1 then 0 else 0+(xs.length-1)*6)=(xs.length-1)*6:=by rw[NI (by omega),Nat.zero_add]
 have e1:=X9o (T:=T) hz hi aI ho;have e2:=X7C (T:=T) hz hi aI ho;have e3:=X95 (T:=T) hi aI ho hz;have lA:=X8t (T:=T) hz hi;have cA:X0S (((map some xs.flatten++T).drop off).take ((xs.length-(i+1))*6))=true:=by rw[show map some xs.flatten=fl xs from rfl,e2];exact X4x _
 have e4:=fun W V=>Xa4 hz hi W V;have cz:=X9e hi;have hok:∀x∈xs.take i++xs.drop (i+1),x.length=6:=fun x hx=>(mem_append.1 hx).elim (X2s hz i x) (X6S hz _ x);generalize fE:X3W 6 i xs ((fl xs++T).drop (i*6+(xs.length-(i+1))*6))=A at*;have e4:=fun V=>(fE ▸ e4 _ V:(A.take ((xs.length-1)*6)++V).take ((xs.length-1)*6)=_)
 clear fE;refine QUc ?_;refine QYc ?_;refine QVc ?_;(refine Zg (n':=xs.length-1) (cs':=A) ?_ (hc:= ?hc70) (hcs:= ?hcs71);(case hc70=>exact cA);(case hcs71=>exact e1));refine QWc ?_;refine Zc (lb:=xs.length-1) (hb:=xs.length) (m:=1) (c':=c-(xs.length-1)) (o':=(xs.length-1)*6) ?_ (ho':=by exact s5)
 (refine X8r (cs':=A.take ((xs.length-1)*6)++(replicate (1*6) none++A.drop ((xs.length-1)*6+1*6))) (sz:=6) (hg:=JSa) (hx:=JSb) (hL:=JSb) (hn:=JSh) (hb:=JSh) (hB:=JSc) (hT:=JSb) ?_ (hcs:= ?hcs72);(case hcs72=>exact AS _ _ _))
 refine W6_ ?_;show AWP prog E _ _ _;refine QXc ?_
 (show AWP prog E _ _ _;refine X2 ?_;exact(show Xa _ _ _ _ _ from⟨_,St.le_refl _,⟨rfl,TV⟩,Xj ⟨rfl,rfl,TV⟩⟩))
theorem XbR (γ:Nat) (xs:List (List D)) (hl:xs.length<=100000):Con prog 109 [] [.d (.sl 6 xs)] [(swp 100 γ 100,.row 6 xs)] (.own (swp 100 γ 100) xs.length):=by
 have h:Con prog 109 [] [.d (.sl 6 xs)] [(100,.row 6 xs)] (.own 100 xs.length):=by
  refine ZC1 func109 ntmps109 fun E=> ?_;refine XA ?_;refine X6m rfl (fun h=> ?_) (fun _=> ?_)
  ·subst h;refine W4_ ?_;refine X2 ?_;exact⟨_,Uu 2 100 6 rfl rfl rfl,⟨rfl,TV⟩,Xj ⟨rfl,TV⟩⟩
  ·refine W8_ ?_;refine X2 ?_;refine⟨_,St.le_refl _,⟨?_,TV⟩,Xj ⟨rfl,TV⟩⟩;simp only[X5h];simp[St.get,St.set,St.own,Xp]
 exact YK 100 γ h
theorem Xhj (l:List Rul) (n:Rul) (hl:l.length<=4294967296) (hr:YW ltR YB l):Con prog 116 [] [.d (.sl 6 (l.map Xh)),.agg [ai n.kind,ai n.n,.d (.v (.string (X6 n.name))),.d (.v (.string (X6 n.key))),.d (.v (.string (X6 n.src))),.d (.v (.string (X6 n.dst)))],.fn 117 []] [] (.tup [ai (Xo ltR YB l n),ab (XD YB l n)]):=by
 refine ZCt func116 ntmps116 fun E=> ?_;have hlm:(l.map Xh).length=l.length:=by simp
 refine U8 ?_
 refine Xn (ι:=Nat×Nat) (fun q=>q.1<=q.2/\q.2<=l.length/\(∀(k:Nat) (x:Rul),k<q.1->l[k]? =some x->ltR (YB x) n=true)/\(∀(k:Nat) (x:Rul),q.2<=k->l[k]? =some x->ltR (YB x) n=false)) (fun q=>⟨49,[(0,.d (.sl 6 (l.map Xh))),(2,.fn 117 []),(8,ai (l.map Xh).length),(4,.ptr 100 0),(9,ai q.1),(10,ai q.2)],[(100,.box [ai n.kind,ai n.n,.d (.v (.string (X6 n.name))),.d (.v (.string (X6 n.key))),.d (.v (.string (X6 n.src))),.d (.v (.string (X6 n.dst)))])]⟩) (fun q=>q.2-q.1) (0,l.length)
  ⟨Nat.zero_le _,Nat.le_refl _,fun k x h=>absurd h (Nat.not_lt_zero _),fun k x h hx=>absurd (GS.1 hx).1 (Nat.not_lt.2 h)⟩
  (Xb rfl ⟨JL,JL,JL,JL,JL,AVal.le_of_eq (by show ai _=ai _;rw[hlm]),TV⟩ ⟨rfl,TV⟩) ?_
 rintro⟨i,j⟩ ⟨h1,h2,h3,h4⟩;simp only at h1 h2 h3 h4;by_cases hij:i<j
 case neg=>
  obtain rfl:i=j:=by omega
  have aN:=X8p h2 h3 (fun x hx=>h4 i x (Nat.le_refl _) hx);have bh:=X10 (k:=n) X61 hr;rw[aN] at bh;rw[aN,bh];have dR:¬(i:Int)<(i:Nat):=by omega
  by_cases hil:i<l.length
  ·have dS:(i:Int)<(l.map Xh).length:=by omega
   obtain⟨x,hx⟩:=Xu (l:=l) hil;have au:(l.map Xh)[i]? =some (Xh x):=XM hx;have hc:=XdV x n;have hd:decide (∃y,l[i]? =some y/\YB y=n)=decide (UM x n=0):=by rw[XdY,hx];simp
   rw[hd];generalize UM x n=c at*;clear bh aN hd hx h3 h4 hr;obtain⟨xk,xn,fS,nV,iu,iw⟩:=x;simp only[Xh,Yu,X4Z] at hc au;refine QRb ?_
   first|exact X2 ⟨_,St.le_refl _,⟨rfl,rfl,TV⟩,X4 _⟩|exact X2 ⟨_,St.le_refl _,⟨⟨rfl,rfl,TV⟩,TV⟩,X4 _⟩
  ·have dS:¬(i:Int)<(l.map Xh).length:=by omega
   have hd:decide (∃y,l[i]? =some y/\YB y=n)=false:=by
    refine DF ?_;rintro⟨y,hy,_⟩;exact hil (GS.1 hy).1
   rw[hd];clear bh aN hd h3 h4 hr;refine YY ?_
   first|exact X2 ⟨_,St.le_refl _,⟨rfl,rfl,TV⟩,X4 _⟩|exact X2 ⟨_,St.le_refl _,⟨⟨rfl,rfl,TV⟩,TV⟩,X4 _⟩
 have dR:(i:Int)<(j:Nat):=by omega
 obtain⟨x,hx⟩:=Xu (l:=l) (k:=(i+j)/2) (by omega);have au:(l.map Xh)[(i+j)/2]? =some (Xh x):=XM hx;have hc:=XdV x n;have e2:n64 ((i+j)/2^1)=n64 ((i+j)/2):=rfl;by_cases hlt:ltR (YB x) n=true
 ·have hinv:∀(k:Nat) (y:Rul),k<(i+j)/2+1->l[k]? =some y->ltR (YB y) n=true:=fun k y hk hy=>by
   by_cases e:k=(i+j)/2
   ·subst e;rw[hx] at hy;injection hy with hy;subst hy;exact hlt
   ·exact X61.tr _ _ _ (X4C hr hy hx (by omega)) hlt
  have hlo:=Xl0 hlt;generalize UM x n=c at*;clear hlt hr h3 hx;obtain⟨xk,xn,fS,nV,iu,iw⟩:=x;simp only[Xh,Yu,X4Z] at hc au;refine QSb ?_;(refine Z0 (u:=ni (i+j)) (r:=n64 (i+j)) ?_ (hr:=by exact Uj rfl rfl (by rw[YG];omega)));refine QTb ?_;(refine Z0 (u:=n64 ((i+j)/2)) (r:=ni ((i+j)/2)) ?_ (hr:=by exact Uj rfl rfl (by rw[YO];omega)));exact QUb
 ·have hinv:∀(k:Nat) (y:Rul),(i+j)/2<=k->l[k]? =some y->ltR (YB y) n=false:=fun k y hk hy=>by
   by_cases e:k=(i+j)/2
   ·subst e;rw[hx] at hy;injection hy with hy;subst hy;simpa using hlt
   ·have h5:=X4C hr hx hy (by omega);by_cases q:ltR (YB y) n=true
    ·exact absurd (X61.tr _ _ _ h5 q) hlt
    ·simpa using q
  have hge:=Xgp hlt;clear hlt hr h4 hx;generalize UM x n=c at*;obtain⟨xk,xn,fS,nV,iu,iw⟩:=x;simp only[Xh,Yu,X4Z] at hc au;refine QSb ?_;(refine Z0 (u:=ni (i+j)) (r:=n64 (i+j)) ?_ (hr:=by exact Uj rfl rfl (by rw[YG];omega)));refine QTb ?_;(refine Z0 (u:=n64 ((i+j)/2)) (r:=ni ((i+j)/2)) ?_ (hr:=by exact Uj rfl rfl (by rw[YO];omega)));exact QWb
theorem X2E (h:DOk d):DOk (Uw d).1/\(Uw d).1.aa.length=d.aa.length/\(Uw d).1.pending=[]:=by
 obtain⟨h1,h2,h3,h4⟩:=X1U h.v;have hl:(V5 d (fun _=>64)).length=d.aa.length:=X3U _ _ _ _;have hs:∀s∈V5 d (fun _=>64),s.length=64:=X5W _ (X4e h.v) _;rw[X70 h];refine⟨⟨?_,rfl⟩,hl,rfl⟩;unfold Ux;simp only[decide_eq_true_eq];exact Qsd
theorem X6R (hd:DOk d) (h1:0<=f) (h2:f<t) (h3:t<=d.aa.length) (h6:0<=tail) (h7:tail+A.length<=(t-f)*64):
  f.toNat+tail.toNat/64+(X0V d f t tail A).length<=d.aa.length/\(∀c∈X0V d f t tail A,c.length=64)/\(X0V d f t tail A).length<=d.aa.length:=by
 have hS:(Y9 d f t).length=64*(t-f).toNat:=by unfold Y9;exact X0Y hd _ _ (by omega)
 unfold X0V;by_cases hA:A=[]
 ·rw[PI hA];simp only[length_nil,not_mem_nil,false_implies,implies_true,true_and,Nat.zero_le,and_true];subst hA;simp at h7;omega
 ·rw[NI hA,X3f];have hT:(((Y9 d f t).take tail.toNat).drop (tail.toNat/64*64)++A).length=tail.toNat-tail.toNat/64*64+A.length:=by
   rw[LA,LD,LT];omega
  obtain⟨k1,k2,k3⟩:=X2c (((Y9 d f t).take tail.toNat).drop (tail.toNat/64*64)++A);unfold X1w;generalize YC (((Y9 d f t).take tail.toNat).drop (tail.toNat/64*64)++A)=Y at*;exact⟨by omega,XaN _ Y (by omega),by omega⟩
theorem X4T (h:(YI d f t ep tail l).2.2=0):Uh d f t ep tail=0/\V7 l=0/\tail+(XZ ep l).length<=(t-f)*64/\YI d f t ep tail l=(X3D d f t tail (XZ ep l),tail+(XZ ep l).length,0):=by
 unfold YI at h |-;by_cases c1:Uh d f t ep tail≠0
 ·rw[PI c1] at h;exact absurd h c1
 rw[NI c1] at h |-;by_cases c2:V7 l≠0
 ·rw[PI c2] at h;exact absurd h c2
 rw[NI c2] at h |-;by_cases c3:(t-f)*64<tail+(XZ ep l).length
 ·rw[PI c3] at h;simp at h
 rw[NI c3];exact⟨by simpa using c1,by simpa using c2,by omega,rfl⟩
theorem X9H (h:(YI d f t ep tail l).2.2≠0):(YI d f t ep tail l).1=[]/\(YI d f t ep tail l).2.1=0:=by
 unfold YI at h |-;by_cases c1:Uh d f t ep tail≠0
 ·rw[PI c1];exact⟨rfl,rfl⟩
 rw[NI c1] at h |-;by_cases c2:V7 l≠0
 ·rw[PI c2];exact⟨rfl,rfl⟩
 rw[NI c2] at h |-;by_cases c3:(t-f)*64<tail+(XZ ep l).length
 ·rw[PI c3];exact⟨rfl,rfl⟩
 rw[NI c3] at h;simp at h
theorem Xen (hf:VB d) (h:(YI d f t ep tail l).2.2=0):(YI d f t ep tail l).1.length<=5000:=by
 obtain⟨s1,s2,s3,s4⟩:=X4T h;obtain⟨hd,h1,h2,h3,h4,h5,h6,h7⟩:=X82 s1;rw[s4];obtain⟨k1,k2,k3⟩:=X6R (A:=XZ ep l) hd h1 h2 h3 h6 s3;have f1:=hf.1;unfold X3D;simp only[LA,length_singleton,X8g];omega
theorem Xox (d:ak) (f t ep tail:Int) (l:List Rcd) (hf:VB d) (hr:∀r∈l,X45 r) (hl:l.length<=1000):Con prog 47 [] [XU d,ai f,ai t,ai ep,ai tail,.d (.sl 10 (l.map Yp))]
  [] (.tup [XU (Um d f t ep tail l).1,ai (Um d f t ep tail l).2.1,ai (Um d f t ep tail l).2.2]):=by
 refine ZCt func47 ntmps47 fun E=> ?_;have c1:=XnO d f t ep tail l hf hr hl;by_cases he:(YI d f t ep tail l).2.2=0
 case neg=>
  obtain⟨b1,b2⟩:=X9H he;have e:Um d f t ep tail l=(YU,0,(YI d f t ep tail l).2.2):=by unfold Um;rw[PI he]
  rw[e];rw[b1,b2] at c1;generalize (YI d f t ep tail l).2.2=r at*;clear hf hr;obtain⟨secs,ag,on⟩:=d;simp only[map_nil,length_nil] at c1;refine X17 ?_;exact Qtd
 obtain⟨s1,s2,s3,s4⟩:=X4T he;obtain⟨R,Z,hT⟩:∃R Z,X3D d f t tail (XZ ep l)=R++[Z]:=⟨_,_,rfl⟩
 have e:Um d f t ep tail l=(Z,(YI d f t ep tail l).2.1,0):=by
  unfold Um;rw[NI (by rw[he];simp),s4,hT];simp
 rw[e];have eT:(YI d f t ep tail l).1=R++[Z]:=by rw[s4];exact hT
 rw[he,eT] at c1;generalize (YI d f t ep tail l).2.1=z at*;have hlm:((R++[Z]).map XO).length=R.length+1:=by simp
 have au:((R++[Z]).map XO)[R.length]? =some [XL Z.aa,XS Z.pending,.v (.bool Z.on)]:=by simp[XO]
 have bg:R.length<=9223372036854775806:=by
  have:=Xen hf he;rw[eT,LA,length_singleton] at this;omega
 generalize (R++[Z]).map XO=T at*;clear hf hr s1 s2 s3 s4 hT eT e he;obtain⟨secs,ag,on⟩:=d;refine UD ?_;refine X8 (XP 133 rfl) ?_;refine X8 (Y7 15 133 rfl rfl rfl) ?_;refine W4_ ?_;refine ZBs ((T.length:Nat)) (1) ((R.length:Nat)) ?_;refine W7_ ?_
 (show AWP prog E _ _ _;refine X2 ?_;exact(show Xa _ _ _ _ _ from⟨_,St.le_refl _,⟨⟨101,0,_,rfl,rfl,.inr ⟨3,_,rfl,rfl,rfl,rfl⟩⟩,rfl,rfl,TV⟩,X4 _⟩))
theorem Xky {P L:List UInt8} (h:P.length%64=0):YC (P++L)=P++YC L:=by
 unfold YC;rw[AS,LA];congr 3;omega
open Go
def XI (d:ak) (k:Nat):List UInt8:=Vx d.pending (k:Nat) ((d.aa[k]?).getD []) d.pending.length
theorem X3A (h:DOk d) {k:Nat} (hk:k<d.aa.length):(Yo d (k:Nat)).1=XI d k:=by
 unfold Yo XI;rw[NI (by rw[h.use];simp),PI ⟨by omega,by omega⟩,Int.toNat_natCast]
theorem Xk5 {ag:List Wr}{w:Wr}{a:Int}{s:List UInt8}:∀n,n<=ag.length->Vx (ag++[w]) a s n=Vx ag a s n
 |0,_=>rfl
 |n+1,h=>by
  have e:=Xk5 (ag:=ag) (w:=w) (a:=a) (s:=s) n (by omega);simp only[Vx,e,getElem?_append_left (show n<ag.length by omega)]
theorem XvR {w:Wr}{a:Int}{s:List UInt8}:Vx (ag++[w]) a s (ag++[w]).length=if w.at_=a then w.b else Vx ag a s ag.length:=by
 rw[LA,length_singleton];simp only[Vx,Xk5 ag.length (Nat.le_refl _)];simp
theorem X7f (d:ak) (a:Nat) (b:List UInt8) (k:Nat):XI (VM d a b) k=if a=k then b else XI d k:=by
 unfold XI VM;simp only[XvR];by_cases h:a=k
 ·rw[PI h,PI (by omega)]
 ·rw[NI h,NI (by omega)]
theorem X2l (bs:List (List UInt8)):∀(d:ak) (a k:Nat),(k<a\/a+bs.length<=k->XI (Yc d a bs) k=XI d k)/\∀i b,bs[i]? =some b->XI (Yc d a bs) (a+i)=b:=by
 induction bs with
 |nil=>intro d a k;exact⟨fun _=>rfl,fun i b h=>by simp at h⟩
 |cons x bs ih=>
  intro d a k;refine⟨fun h=> ?_,fun i b h=> ?_⟩
  ·rw[LC] at h;rw[Yc,(ih (VM d a x) (a+1) k).1 (by omega),X7f,NI (by omega)]
  ·cases i with
   |zero=>
    simp only[getElem?_cons_zero,Option.some.injEq] at h;subst h;show XI (Yc (VM d a x) (a+1) bs) a=x;rw[(ih (VM d a x) (a+1) a).1 (by omega),X7f,PI rfl]
   |succ i=>
    rw[Yc,show a+(i+1)=a+1+i by omega];exact(ih (VM d a x) (a+1) k).2 i b (by simpa using h)
theorem XjW {rows:List (List UInt8)} (hok:okW rows ag) {k:Nat}{s:List UInt8} (hs:rows[k]? =some s):∀n,(UW rows ag (fun _=>64) n)[k]? =some (Vx ag (k:Nat) s n)
 |0=>hs
 |n+1=>by
  have ih:=XjW hok hs n;rw[UW,Vx];cases hw:ag[n]? with
  |none=>exact ih
  |some w=>
   obtain⟨w1,w2,w3⟩:=hok.2 w (mem_of_getElem? hw);have hc:fy 64=64:=rfl;have aE:k<(UW rows ag (fun _=>64) n).length:=(GS.1 ih).1;simp only[X4W,hc];by_cases ha:w.at_=(k:Nat)
   ·rw[PI ha,show w.at_.toNat=k by omega,getElem?_set_self aE,ih,Option.getD_some];have bu:(Vx ag (k:Nat) s n).length=64:=by
     have:=X5W (fun _=>64) hok n _ (mem_of_getElem? ih);exact this
    rw[take_of_length_le (by omega),drop_of_length_le (by omega),append_nil]
   ·rw[NI ha,getElem?_set_ne (by omega)];exact ih
theorem X5B (h:DOk d) {k:Nat} (hk:k<d.aa.length):XI (Uw d).1 k=XI d k:=by
 have hp:=XjW (X4e h.v) (getElem?_eq_getElem hk) d.pending.length;rw[X70 h];unfold XI V5;simp only[length_nil,Vx];rw[hp,getElem?_eq_getElem hk];rfl
theorem X6V (d:ak):∀(m n f:Nat),U6 d f (m+n)=U6 d f m++U6 d (f+m) n
 |0,n,f=>by simp[U6]
 |m+1,n,f=>by
  rw[show m+1+n=(m+n)+1 by omega,U6,U6,X6V d m n (f+1),AS,show f+1+m=f+(m+1) by omega]
theorem X6b (hd:DOk d) (he:DOk e) (hl:e.aa.length=d.aa.length):∀(n f:Nat),f+n<=d.aa.length->(∀k,f<=k->k<f+n->XI d k=XI e k)->U6 d f n=U6 e f n
 |0,_,_,_=>rfl
 |n+1,f,hf,h=>by
  rw[U6,U6,X3A hd (by omega),X3A he (by omega),h f (Nat.le_refl _) (by omega),X6b hd he hl n (f+1) (by omega) fun k h1 h2=>h k (by omega) (by omega)]
theorem XaR (he:DOk e):∀(bs:List (List UInt8)) (a:Nat),a+bs.length<=e.aa.length->(∀i b,bs[i]? =some b->XI e (a+i)=b)->U6 e a bs.length=bs.flatten
 |[],_,_,_=>rfl
 |b::bs,a,hl,h=>by
  rw[LC] at hl |-;rw[U6,X3A he (by omega),show XI e a=b from h 0 b rfl,flatten_cons,XaR he bs (a+1) (by omega) fun i c hc=>by
   rw[show a+1+i=a+(i+1) by omega];exact h (i+1) c (by simpa using hc)]
theorem XdK:∀(n:Nat) (Y:List UInt8),Y.length=64*n->(UN n Y).flatten=Y
 |0,Y,h=>by
  have:Y=[]:=eq_nil_of_length_eq_zero (by omega);subst this;rfl
 |n+1,Y,h=>by
  rw[UN,flatten_cons,XdK n (Y.drop 64) (by rw[LD];omega),take_append_drop]
theorem Xew (hd:DOk d) {f n a:Nat}{bs:List (List UInt8)} (hn:f+n<=d.aa.length) (ha:f<=a) (hb:a+bs.length<=f+n) (hc:∀c∈bs,c.length=64):
  U6 (Uw (Yc d a bs)).1 f n=(U6 d f n).take (64*(a-f))++bs.flatten++(U6 d f n).drop (64*(a-f+bs.length)):=by
 have hl:=X1h bs d a hd (by omega) hc;obtain⟨s1,s2,s3⟩:=X2E hl;have aK:=(X0m bs d a).1;rw[aK] at s2;generalize hE:(Uw (Yc d a bs)).1=e at*;have hv:∀k,k<d.aa.length->XI e k=XI (Yc d a bs) k:=fun k hk=>by rw[<-hE];exact X5B hl (by rw[aK];exact hk)
 have e1:n=(a-f)+(bs.length+(f+n-a-bs.length)):=by omega
 have p1:U6 e f (a-f)=U6 d f (a-f):=X6b s1 hd s2.symm _ _ (by omega) fun k h1 h2=>by rw[hv k (by omega),(X2l bs d a k).1 (by omega)]
 have p2:U6 e (f+(a-f)) bs.length=bs.flatten:=by
  rw[show f+(a-f)=a by omega];exact XaR s1 bs a (by omega) fun i b hi=>by
   have hil:=(GS.1 hi).1;rw[hv _ (by omega)];exact(X2l bs d a a).2 i b hi
 have p3:U6 e (f+(a-f)+bs.length) (f+n-a-bs.length)=U6 d (f+(a-f)+bs.length) (f+n-a-bs.length):=X6b s1 hd s2.symm _ _ (by omega) fun k h1 h2=>by rw[hv k (by omega),(X2l bs d a k).1 (by omega)]
 have q1:=X0Y hd (a-f) f (by omega);have q2:=X0Y hd bs.length (f+(a-f)) (by omega);have tv:U6 d f n=U6 d f (a-f)++(U6 d (f+(a-f)) bs.length++U6 d (f+(a-f)+bs.length) (f+n-a-bs.length)):=by
  conv=>lhs;rw[e1]
  rw[X6V,X6V]
 have mV:U6 e f n=U6 e f (a-f)++(U6 e (f+(a-f)) bs.length++U6 e (f+(a-f)+bs.length) (f+n-a-bs.length)):=by
  conv=>lhs;rw[e1]
  rw[X6V,X6V]
 rw[mV,p1,p2,p3,tv,AS];congr 1
 ·rw[take_left' (by omega)]
 ·congr 1;rw[<-AS,drop_left' (by rw[LA];omega)]
def X3k (S:List UInt8) (T:Nat):Prop:=S.drop T=replicate (S.length-T) 0
theorem Xqa {α:Type} (n k:Nat) (x:α):(replicate n x).drop k=replicate (n-k) x:=by simp
theorem XsL (hd:DOk d) (h1:0<=f) (h2:f<t) (h3:t<=d.aa.length) (h6:0<=tail) (h7:tail+A.length<=(t-f)*64) (hz:X3k (Y9 d f t) tail.toNat) (hA:A≠[]):
  Y9 (Uw (Yc d (f.toNat+tail.toNat/64) (X0V d f t tail A))).1 f t=(Y9 d f t).take tail.toNat++A++replicate ((Y9 d f t).length-tail.toNat-A.length) 0:=by
 obtain⟨k1,k2,k3⟩:=X6R (A:=A) hd h1 h2 h3 h6 h7;have hS:(Y9 d f t).length=64*(t-f).toNat:=by unfold Y9;exact X0Y hd _ _ (by omega)
 have hT:((Y9 d f t).take tail.toNat).length=tail.toNat:=by rw[LT];omega
 obtain⟨y1,y2,y3⟩:=X2c (((Y9 d f t).take tail.toNat).drop (tail.toNat/64*64)++A);have aU:(((Y9 d f t).take tail.toNat).drop (tail.toNat/64*64)).length=tail.toNat-tail.toNat/64*64:=by rw[LD,hT]
 have tw:(((Y9 d f t).take tail.toNat).drop (tail.toNat/64*64)++A).length=tail.toNat-tail.toNat/64*64+A.length:=by rw[LA,aU]
 have gK:X0V d f t tail A=UN ((X1w d f t tail A).length/64) (X1w d f t tail A):=NI hA;have hY:X1w d f t tail A=YC (((Y9 d f t).take tail.toNat).drop (tail.toNat/64*64)++A):=rfl;rw[<-hY] at y1 y2 y3;have jI:(X0V d f t tail A).flatten=X1w d f t tail A:=by rw[gK];exact XdK _ _ (by omega)
 have bE:(X0V d f t tail A).length=(X1w d f t tail A).length/64:=by rw[gK,X3f]
 have hw:=Xew (f:=f.toNat) (n:=(t-f).toNat) hd (by omega) (by omega) (by rw[bE];omega) k2 (a:=f.toNat+tail.toNat/64) (bs:=X0V d f t tail A);have h8:tail.toNat+A.length<=(Y9 d f t).length:=by omega
 unfold Y9 at hS hT hz aU tw y2 y3 hY h8 |-;rw[hw,jI,bE,show f.toNat+tail.toNat/64-f.toNat=tail.toNat/64 by omega];generalize U6 d f.toNat (t-f).toNat=S at*;generalize tail.toNat=T at*;have hfr:S.take (64*(T/64))++X1w d f t tail A=YC (S.take T++A):=by
  have hp:S.take T++A=S.take (T/64*64)++((S.take T).drop (T/64*64)++A):=by
   rw[<-AS];congr 1;conv=>lhs;rw[<-take_append_drop (T/64*64) (S.take T)]
   rw[take_take,Nat.min_eq_left (by omega)]
  rw[hp,Xky (by rw[LT];omega),<-hY,show 64*(T/64)=T/64*64 by omega]
 rw[hfr];unfold YC;rw[AS (S.take T++A)];congr 1;have bX:S.drop (64*(T/64+(X1w d f t tail A).length/64))=replicate (S.length-64*(T/64+(X1w d f t tail A).length/64)) 0:=by
  have e:64*(T/64+(X1w d f t tail A).length/64)=T+(64*(T/64+(X1w d f t tail A).length/64)-T):=by omega
  rw[e,<-drop_drop,hz,Xqa];congr 1;omega
 rw[bX,replicate_append_replicate];congr 1;rw[LA,hT];clear hw bE jI hY gK hfr bX hz;generalize (X1w d f t tail A).length=yl at*;omega
theorem Xsn {l:List UInt8}:∀{k:Nat},(∀x∈l.take k,x≠0)->l[k]? =some 0->Y5 l=l.take k/\X1o l=true:=by
 induction l with
 |nil=>intro k _ h;simp at h
 |cons y r ih=>
  intro k h1 h2;unfold Y5 X1o;rw[takeWhile_cons,any_cons];cases k with
  |zero=>
   simp only[getElem?_cons_zero,Option.some.injEq] at h2;subst h2;simp
  |succ k=>
   have hy:y≠0:=h1 y (by simp);have h3:(y !=0)=true:=by simpa using hy
   have h4:(y==0)=false:=by simpa using hy
   rw[h3,PI rfl,h4,Bool.false_or,take_succ_cons];obtain⟨k1,k2⟩:=ih (k:=k) (fun x hx=>h1 x (by simp[hx])) (by simpa using h2);unfold Y5 at k1;unfold X1o at k2;exact⟨by rw[k1],k2⟩
def X7w (r:Rcd):Prop:=UH r=0/\(X0k r).length<=60000
theorem Xap:∀{l:List Rcd},V7 l=0->∀r∈l,UH r=0
 |[],_,r,h=>by simp at h
 |x::l,he,r,h=>by
  rw[V7] at he;by_cases q:UH x=0
  ·rw[NI (by rw[q];simp)] at he;rcases mem_cons.1 h with rfl|h
   ·exact q
   ·exact Xap he r h
  ·rw[PI q] at he;exact absurd he q
theorem Xr6 (h1:0<=ep) (h2:ep<=1000000000000000) (hr:X7w r):X0t (Yt (Yn (Uc ep r))) ep=(r,true):=by
 have bu:=X8d h1 h2 hr.2;have hf:=X7U (s:=Uc ep r) (by omega) [] [];simp only[nil_append,append_nil,length_nil,Int.natCast_zero,Int.zero_add] at hf;have hf:cj (Yn (Uc ep r)) 0=(Uc ep r,((Yn (Uc ep r)).length:Int),0):=hf;have hu:=X7b (n:=ep) ⟨h1,by omega⟩ [] (X0k r);simp only[nil_append,length_nil,Int.natCast_zero,Int.zero_add] at hu;have hu:XB (Uc ep r) 0=(ep,((Xl ep).length:Int),0):=hu;have hd:(Uc ep r).drop (Xl ep).length=X11 r:=by
  unfold Uc;rw[drop_left' rfl];unfold X0k;rw[PI hr.1]
 rw[XaY (Xec _),hf];unfold X5Y;rw[NI (by simp),hu];unfold X8Q;rw[NI (by simp)];have hrd:rdS ((Uc ep r).drop (Xl ep).length)=(r,0):=by rw[hd];exact Xpb hr.1
 simp only[Int.toNat_natCast,hrd];rfl
theorem XrU (rest:List UInt8):Y5 (VP ep r++rest)=Yt (Yn (Uc ep r))/\X1o (VP ep r++rest)=true:=by
 have e:VP ep r++rest=Yt (Yn (Uc ep r))++(0::rest):=by unfold VP;simp
 rw[e];have ht:(Yt (Yn (Uc ep r))++(0::rest)).take (Yt (Yn (Uc ep r))).length=Yt (Yn (Uc ep r)):=take_left' rfl;obtain⟨k1,k2⟩:=Xsn (l:=Yt (Yn (Uc ep r))++(0::rest)) (k:=(Yt (Yn (Uc ep r))).length) (by rw[ht];exact Xl9 _) (by simp);exact⟨by rw[k1,ht],k2⟩
theorem XeL (h1:0<=ep) (h2:ep<=1000000000000000):∀(l:List Rcd) (Z:List UInt8) (a n m:Nat),(∀r∈l,X7w r)->(XZ ep l++Z).length<n->Z.length<m->
  V6 ep n (XZ ep l++Z) a=(l++(V6 ep m Z (a+(XZ ep l).length)).1,(V6 ep m Z (a+(XZ ep l).length)).2)
 |[],Z,a,n,m,_,hn,hm=>by
  simp only[XZ,nil_append,length_nil,Nat.add_zero] at hn |-;rw[XbW ep n m Z a hn hm]
 |r::l,Z,a,n,m,hv,hn,hm=>by
  have hrl:(VP ep r).length=(Yt (Yn (Uc ep r))).length+1:=by unfold VP;simp
  obtain⟨k1,k2⟩:=XrU (ep:=ep) (r:=r) (XZ ep l++Z);have gi:=Xr6 h1 h2 (hv r (by simp));have e:XZ ep (r::l)++Z=VP ep r++(XZ ep l++Z):=by rw[XZ,AS]
  rw[e] at hn |-;rw[LA] at hn;cases n with
  |zero=>omega
  |succ n=>
   rw[X6A ep _ a n ⟨k2,by rw[k1,gi]⟩,k1,gi,<-hrl,drop_left' rfl];have ih:=XeL h1 h2 l Z (a+(VP ep r).length) n m (fun x hx=>hv x (by simp[hx])) (by omega) hm;rw[ih];have e2:a+(VP ep r).length+(XZ ep l).length=a+(XZ ep (r::l)).length:=by rw[XZ,LA];omega
   rw[e2];rfl
theorem Xbu (ep:Int) (z a n:Nat):V6 ep (n+1) (replicate z 0) a=([],a):=by
 refine X5O ep _ a n fun h=> ?_;cases z with
 |zero=>simp[X1o] at h
 |succ z=>
  have e:Y5 (replicate (z+1) (0:UInt8))=[]:=by unfold Y5;rw[replicate_succ,takeWhile_cons];simp
  rw[e,Xi1] at h;simp at h
theorem XqT (h1:0<=ep) (h2:ep<=1000000000000000) (l:List Rcd) (z:Nat) (hv:∀r∈l,X7w r):X05 ep (XZ ep l++replicate z 0)=(l,(XZ ep l).length):=by
 unfold X05;rw[XeL h1 h2 l _ 0 _ (z+1) hv (Nat.lt_succ_self _) (by simp),Xbu];simp
theorem Xcn (hf:VB d) (h:(YI d f t ep tail l).2.2=0):(Um d f t ep tail l).2.2=0/\(Um d f t ep tail l).2.1=tail+(XZ ep l).length/\
  (Um d f t ep tail l).1=(Uw (Yc d (f.toNat+tail.toNat/64) (X0V d f t tail (XZ ep l)))).1:=by
 obtain⟨s1,s2,s3,s4⟩:=X4T h;unfold Um;rw[NI (by rw[h];simp),s4];refine⟨rfl,rfl,?_⟩;unfold X3D;simp
end Go.Fw
