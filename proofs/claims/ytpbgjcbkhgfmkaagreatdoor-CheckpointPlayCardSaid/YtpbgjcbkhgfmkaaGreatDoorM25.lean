/- Entries of records; Size. -/
import Derived.Test.YtpbgjcbkhgfmkaaGreatDoorM24
set_option maxHeartbeats 16000000
namespace Go.Fw
open Go Go.Proofs Tryz List
set_option maxRecDepth 100000
set_option linter.unusedVariables false
set_option linter.unusedSimpArgs false
def X45 (r:Rcd):Prop:=X0z r/\(X0k r).length<=60000
theorem X7c {n:Int} (h1:0<=n) (h2:n<=9223372036854775807):(Xl n).length<=10:=by
 rw[X2k h1];exact X1Y (by omega)
variable{ep:Int}{r:Rcd}
theorem X8d (h1:0<=ep) (h2:ep<=1000000000000000) (hr:(X0k r).length<=60000):(Uc ep r).length<=60010:=by
 unfold Uc;rw[LA];have:=X7c h1 (by omega);omega
theorem Xe0 {b:List UInt8} (h:b.length<=65536):(Yn b).length<=b.length+14:=by
 unfold Yn;rw[LA,LA,X3Q];have:=X7c (n:=(b.length:Int)) (by omega) (by omega);omega
theorem Xes (h1:0<=ep) (h2:ep<=1000000000000000) (hr:(X0k r).length<=60000):(VP ep r).length<=130000:=by
 unfold VP;have h3:=X8d h1 h2 hr;have h4:=Xe0 (b:=Uc ep r) (by omega);have h5:=Xcb (Yn (Uc ep r));rw[LA,length_singleton];omega
theorem X93 (h1:0<=ep) (h2:ep<=1000000000000000):∀l:List Rcd,(∀r∈l,(X0k r).length<=60000)->(XZ ep l).length<=130000*l.length
 |[],_=>by simp[XZ]
 |r::l,h=>by
  have a:=Xes h1 h2 (h r (by simp));have b:=X93 h1 h2 l fun x hx=>h x (by simp[hx]);rw[XZ,LA,LC];omega
theorem Xhs {x:UInt8} (h:x.toNat<=1):n8 (x.toNat+1)=n8 (x+1).toNat:=by
 have:(x+1).toNat=x.toNat+1:=by rw[UInt8.toNat_add];simp;omega
 rw[this]
theorem XuI (ep:Int) (r:Rcd) (h1:0<=ep) (h2:ep<=1000000000000000) (hr:X45 r):Con prog 225 [] [ai ep,Uv r] [] (.d (Xg (VP ep r))):=by
 refine ZC1 func225 ntmps225 fun E=> ?_;have c1:=Xez ep (by omega);have c2:=Xoy r hr.1;have bu:=X8d h1 h2 hr.2;have c3:=XhZ (Uc ep r) (by omega);have ju:=X7c h1 (by omega);have hrl:=hr.2;have hfl:=Xe0 (b:=Uc ep r) (by omega);have bG:Xg (VP ep r)= .sl 1 ((Yt (Yn (Uc ep r))).map X5++[[.v (.int .u8 0)]]):=by unfold VP Xg;rw[map_append];rfl
 rw[bG];unfold Uc at*;generalize X0k r=R at*;generalize Xl ep=U at*;have lP:(U.map X5).length=U.length:=by simp
 have kM:(R.map X5).length=R.length:=by simp
 generalize hF:Yn (U++R)=F at*;have tj:(F.map X5).length=F.length:=by simp
 clear hr bG hF;obtain⟨kd,ts,l,⟨k,n,name,key,src,dst⟩,off⟩:=r;simp only[Uv] at*;refine Yg ?_;refine Za (γ:=130) ?_;refine W5_ ?_;clear c1 c2 c3;refine X8 (Uu 5 131 1 rfl rfl rfl) ?_
 refine Xn (fun i:Nat=>i<=F.length) (fun i=>⟨34,[(5,.own 131 ((Yt (F.take i)).map X5).length),(13,.d (Xg F)),(14,ai (F.map X5).length),(15,ai i)],[(131,.row 1 ((Yt (F.take i)).map X5))]⟩) (fun i=>F.length-i) 0 (Nat.zero_le _)
  (ZL0) ?_
 intro i hi;have hel:=Xcb (F.take i);rw[LT] at hel;have hroom:((Yt (F.take i)).map X5).length<=130048:=by rw[LM];omega
 by_cases hil:i<F.length
 case neg=>
  obtain rfl:i=F.length:=by omega
  have hn:¬((F.length:Nat):Int)<(F.map X5).length:=by omega
  rw[take_length] at hroom |-;refine XG ?_;refine X8 (XP 131 rfl) ?_;refine X8 (Y7 4 131 rfl rfl (by simp)) ?_
  (show AWP prog E _ _ _;refine X2 ?_;exact(show Xa _ _ _ _ _ from⟨_,St.le_refl _,⟨rfl,TV⟩,X4 _⟩))
 have hn:(i:Int)<(F.map X5).length:=by omega
 obtain⟨x,hx⟩:=Xu (l:=F) hil;have au:(F.map X5)[i]? =some (X5 x):=XM hx;have hst:=XnB hx;by_cases hx1:x.toNat<=1
 ·have kN:(x.toNat:Int)<=1:=by omega
  have iN:=Xhs hx1;have dW:(Yt (F.take (i+1))).map X5=(Yt (F.take i)).map X5++[[.v (.int .u8 1)],X5 (x+1)]:=by rw[hst];unfold X3X;rw[PI hx1,map_append];rfl
  clear hx hst hel;refine Yq ?_;(refine Z1 (op:= .add) (r':=n8 (x+1).toNat) (u:=n8 x.toNat) (v:=n8 1) ?_ (hr':=by exact iN) (hr:=by exact X1s (by rw[Vv];omega)));refine W8_ ?_;refine⟨i+1,hil,by omega,?_⟩;dsimp only;rw[dW];exact Qxc
 ·have kN:¬(x.toNat:Int)<=1:=by omega
  have dW:(Yt (F.take (i+1))).map X5=(Yt (F.take i)).map X5++[X5 x]:=by rw[hst];unfold X3X;rw[NI hx1,map_append];rfl
  clear hx hst hel;refine UV ?_;refine⟨i+1,hil,by omega,?_⟩;dsimp only;rw[dW];exact Qxc
theorem XpP (ep:Int) (l:List Rcd) (h1:0<=ep) (h2:ep<=1000000000000000) (hr:∀r∈l,X45 r) (hl:l.length<=1000):Con prog 144 [] [ai ep,.d (.sl 10 (l.map Yp))] [] (.tup [.d (Xg (X3d ep l)),ai (V7 l)]):=by
 refine ZCt func144 ntmps144 fun E=> ?_;have hlm:(l.map Yp).length=l.length:=by simp
 have e1:V7 l≠0->X3d ep l=[]:=fun h=>PI h;have e2:V7 l=0->X3d ep l=XZ ep l:=fun h=>NI (by rw[h];simp);generalize hR:V7 l=R at*;generalize X3d ep l=P at*;refine Yv ?_;refine X8 (Uu 6 130 1 rfl rfl rfl) ?_
 refine Xn (fun i:Nat=>i<=l.length/\V7 (l.drop i)=R) (fun i=>⟨28,[(0,ai ep),(6,.own 130 ((XZ ep (l.take i)).map X5).length),(10,.d (.sl 10 (l.map Yp))),(11,ai (l.map Yp).length),(12,ai i)],[(130,.row 1 ((XZ ep (l.take i)).map X5))]⟩) (fun i=>l.length-i) 0 ⟨Nat.zero_le _,by simpa using hR⟩
  (ZL0) ?_
 rintro i ⟨hi,hg⟩;have hel:=X93 h1 h2 (l.take i) fun x hx=>(hr x (mem_of_mem_take hx)).2;rw[LT] at hel;have hroom:((XZ ep (l.take i)).map X5).length<=130000000:=by rw[LM];omega
 by_cases hil:i<l.length
 case neg=>
  obtain rfl:i=l.length:=by omega
  have hn:¬((l.length:Nat):Int)<(l.map Yp).length:=by omega
  rw[drop_length] at hg;obtain rfl:0=R:=hg;obtain rfl:=e2 rfl;rw[take_length] at hroom |-;clear e1 e2;refine XQ ?_;refine Quc ?_
  (show AWP prog E _ _ _;refine X2 ?_;exact(show Xa _ _ _ _ _ from⟨_,St.le_refl _,⟨rfl,rfl,TV⟩,X4 _⟩))
 have hn:(i:Int)<(l.map Yp).length:=by omega
 obtain⟨x,hx⟩:=Xu (l:=l) hil;have au:(l.map Yp)[i]? =some (Yp x):=XM hx;have hw:=hr x (mem_of_getElem? hx);rw[XmE hx] at hg;have c1:=Xbz x hw.1;have c2:=XuI ep x h1 h2 hw;have hst:=Xik (ep:=ep) hx;have cy:=Xes h1 h2 hw.2;have dW:(XZ ep (l.take (i+1))).map X5=(XZ ep (l.take i)).map X5++(VP ep x).map X5:=by rw[hst,map_append]
 have mL:((VP ep x).map X5).length<=130000:=by rw[LM];exact cy
 generalize VP ep x=Y at*;generalize UH x=re at*;clear hx hr hst hw hel;obtain⟨kd,ts,cl,⟨k,n,name,key,src,dst⟩,off⟩:=x;simp only[Uv,Yp] at*;by_cases gi:re=0
 case neg=>
  rw[PI gi] at hg;subst hg;obtain rfl:=e1 gi;clear e1 e2 c2;refine UX ?_
  (show AWP prog E _ _ _;refine X2 ?_;exact(show Xa _ _ _ _ _ from⟨_,Xe 4 (AVal.le_nil 1),⟨rfl,rfl,TV⟩,X4 _⟩))
 rw[NI (by simpa using gi)] at hg;subst gi;clear e1 e2;refine Qma ?_;refine⟨i+1,⟨hil,hg⟩,by omega,?_⟩;dsimp only;rw[dW];exact Xb rfl ⟨JL,AVal.le_of_eq (by refine Eq.trans (b:=AVal.own 130 (_+_)) rfl ?_;simp only[LA,LM]),JL,JL,JL,TV⟩ ⟨rfl,TV⟩
theorem XtC (b:List UInt8) (hb:b.length<=1000000):Con prog 159 [] [.d (Xg b)] [] (.tup [.d (Xg ((Vj b).getD [])),ab (Vj b).isSome]):=by
 refine ZCt func159 ntmps159 fun E=> ?_;have hlm:(b.map X5).length=b.length:=by simp
 generalize hR:Vj b=R;refine Yx ?_;refine X8 (Uu 4 130 1 rfl rfl rfl) ?_
 refine Xn (ι:=Nat×List UInt8) (fun q=>q.1<=b.length/\q.2.length<=q.1/\(Vj (b.drop q.1)).map (fun l=>q.2++l)=R) (fun q=>⟨53,[(0,.d (Xg b)),(4,.own 130 (q.2.map X5).length),(5,ai q.1)],[(130,.row 1 (q.2.map X5))]⟩) (fun q=>b.length-q.1) (0,[]) ⟨Nat.zero_le _,Nat.le_refl _,by rw[drop_zero,hR];cases R<;>rfl⟩
  (ZL0) ?_
 rintro⟨i,o⟩ ⟨hi,ho,hg⟩;simp only at hi ho hg |-;have hroom:(o.map X5).length<=1000000:=by rw[LM];omega
 by_cases hil:i<b.length
 case neg=>
  have hn:¬(i:Int)<(b.map X5).length:=by omega
  rw[drop_of_length_le (by omega)] at hg;have hg:some (o++[])=R:=hg;rw[append_nil] at hg;subst hg;simp only[Option.getD_some,Option.isSome_some];refine Yg ?_;refine Qwb ?_;refine X8 (Y7 2 130 rfl rfl rfl) ?_
  (show AWP prog E _ _ _;refine X2 ?_;exact(show Xa _ _ _ _ _ from⟨_,St.le_refl _,⟨rfl,rfl,TV⟩,X4 _⟩))
 have hn:(i:Int)<(b.map X5).length:=by omega
 obtain⟨x,hx⟩:=Xu (l:=b) hil;have au:(b.map X5)[i]? =some (X5 x):=XM hx;rw[Xcr hx] at hg;by_cases hx1:x=1
 case neg=>
  have kN:¬(x.toNat:Int)=1:=fun q=>hx1 (UInt8.toNat_inj.1 (show x.toNat=(1:UInt8).toNat by have h:(1:UInt8).toNat=1:=rfl;omega));rw[Xb9 hx1,Option.map_map] at hg;have hst:(o++[x]).map X5=o.map X5++[X5 x]:=by simp
  clear hx;refine X17 ?_;refine⟨(i+1,o++[x]),⟨hil,by simp;omega,?_⟩,by simp only;omega,?_⟩
  ·rw[<-hg];simp only;congr 1;funext l;simp
  dsimp only;rw[hst];exact Qyc
 subst hx1;by_cases qR:i+1<b.length
 case neg=>
  have hn2:(i:Int)+1=(b.map X5).length:=by omega
  rw[drop_of_length_le (by omega),Xi9] at hg;have hg:none=R:=hg;subst hg;simp only[Option.getD_none,Option.isSome_none];clear hx;refine QMa ?_;refine Qzc ?_;refine W9_ ?_
  (show AWP prog E _ _ _;refine X2 ?_;exact(show Xa _ _ _ _ _ from⟨_,Xe 2 (AVal.le_nil 1),⟨rfl,rfl,TV⟩,X4 _⟩))
 have hn2:¬(i:Int)+1=(b.map X5).length:=by omega
 obtain⟨y,hy⟩:=Xu (l:=b) qR;have kX:(b.map X5)[i+1]? =some (X5 y):=XM hy;rw[Xcr hy] at hg;by_cases jm:y=1\/y=2
 case neg=>
  rw[Xi6 jm] at hg;have hg:none=R:=hg;subst hg;have a1:¬(y.toNat:Int)=1:=fun q=>jm (.inl (UInt8.toNat_inj.1 (show y.toNat=(1:UInt8).toNat by have h:(1:UInt8).toNat=1:=rfl;omega)));have a2:¬(y.toNat:Int)=2:=fun q=>jm (.inr (UInt8.toNat_inj.1 (show y.toNat=(2:UInt8).toNat by have h:(2:UInt8).toNat=2:=rfl;omega)));simp only[Option.getD_none,Option.isSome_none];clear hx hy;refine QAc ?_;refine Vb ?_
  (show AWP prog E _ _ _;refine X2 ?_;exact(show Xa _ _ _ _ _ from⟨_,Xe 2 (AVal.le_nil 1),⟨rfl,rfl,TV⟩,X4 _⟩))
 rw[Xcz jm,Option.map_map] at hg;have jG:=Xpe jm;have hst:(o++[y-1]).map X5=o.map X5++[X5 (y-1)]:=by simp
 have cu:(Vj (b.drop (i+1+1))).map (fun l=>(o++[y-1])++l)=R:=by rw[<-hg];congr 1;funext l;simp
 clear hx hy hg;rcases jm with rfl|rfl
 ·refine QAc ?_;refine UV ?_;refine Z1 (op:= .sub) (r':= .int .u8 (((1:UInt8)-1).toNat:Int)) (u:= .int .u8 ((1:UInt8).toNat:Int)) (v:= .int .u8 1) ?_ (hr':=by exact jG) (hr:=by exact XeU);refine W6_ ?_;refine ZBa (((i+1:Nat):Int)) (1) (((i+2:Nat):Int)) ?_;refine W2_ ?_;refine⟨(i+2,o++[1-1]),⟨by simp only;omega,by simp;omega,cu⟩,by simp only;omega,?_⟩;dsimp only;rw[hst];exact Qyc
 ·refine QAc ?_;refine UV ?_;refine Z1 (op:= .sub) (r':= .int .u8 (((2:UInt8)-1).toNat:Int)) (u:= .int .u8 ((2:UInt8).toNat:Int)) (v:= .int .u8 1) ?_ (hr':=by exact jG) (hr:=by exact XeU);refine W6_ ?_;refine ZBa (((i+1:Nat):Int)) (1) (((i+2:Nat):Int)) ?_;refine W2_ ?_;refine⟨(i+2,o++[2-1]),⟨by simp only;omega,by simp;omega,cu⟩,by simp only;omega,?_⟩;dsimp only;rw[hst];exact Qyc
theorem X5w (X:Rcd):Uv X= .agg [ai X.kind,ai X.ts,.d (.sl 10 (X.changes.map Xs)),ai X.rule.kind,ai X.rule.n,Xi X.rule.name,Xi X.rule.key,Xi X.rule.src,Xi X.rule.dst,ab X.off]:=by
 obtain⟨kd,ts,l,⟨k,n,name,key,src,dst⟩,off⟩:=X;rfl
theorem Xu1 (b:List UInt8) (ep:Int) (hb:b.length<=1000000):Con prog 104 [] [.d (Xg b),ai ep] [] (.tup [Uv (X0t b ep).1,ab (X0t b ep).2]):=by
 refine ZCt func104 ntmps104 fun E=> ?_;have c1:=XtC b hb;have hlm:(b.map X5).length=b.length:=by simp
 cases hu:Vj b with
 |none=>
  rw[XnK hu];rw[hu] at c1;simp only[Option.getD_none,Option.isSome_none,X5w,map_nil] at c1 |-;refine UD ?_
  (show AWP prog E _ _ _;refine X2 ?_;exact(show Xa _ _ _ _ _ from⟨_,Xq 100 (cs':=[ai 0,ai 0,.d (.sl 10 []),ai 0,ai 0,Xi [],Xi [],Xi [],Xi [],ab false]) rfl JM rfl,⟨⟨100,0,_,rfl,rfl,.inr ⟨10,_,rfl,rfl,rfl,rfl⟩⟩,rfl,TV⟩,X4 _⟩))
 |some raw=>
 rw[hu] at c1;simp only[Option.getD_some,Option.isSome_some] at c1;by_cases hb0:b=[]
 ·subst hb0;rw[Xi1];have fq:((([]:List UInt8).map X5).length:Int)=0:=rfl;simp only[X5w,map_nil] at c1 |-;refine UD ?_
  (show AWP prog E _ _ _;refine X2 ?_;exact(show Xa _ _ _ _ _ from⟨_,Xq 100 (cs':=[ai 0,ai 0,.d (.sl 10 []),ai 0,ai 0,Xi [],Xi [],Xi [],Xi [],ab false]) rfl JM rfl,⟨⟨100,0,_,rfl,rfl,.inr ⟨10,_,rfl,rfl,rfl,rfl⟩⟩,rfl,TV⟩,X4 _⟩))
 have fq:¬((b.map X5).length:Int)=0:=by
  have:b.length≠0:=fun e=>hb0 (eq_nil_of_length_eq_zero e);omega
 rw[XaY hu];have hrl:=Xc2 b.length b raw (Nat.le_refl _) hu;have eW:(raw.map X5).length=raw.length:=by simp
 have c2:=XkE raw 0 (by omega);have ju:=Xbn raw 0;unfold X5Y;generalize cj raw 0=U at*;obtain⟨c,z,e⟩:=U;simp only at ju c2 |-;clear hu hb0;by_cases he:e=0
 case neg=>
  rw[PI (.inl he)];simp only[X5w,map_nil];refine X7 ?_;refine YR ?_
  (show AWP prog E _ _ _;refine X2 ?_;exact(show Xa _ _ _ _ _ from⟨_,Xq 100 (cs':=[ai 0,ai 0,.d (.sl 10 []),ai 0,ai 0,Xi [],Xi [],Xi [],Xi [],ab false]) rfl JM rfl,⟨⟨100,0,_,rfl,rfl,.inr ⟨10,_,rfl,rfl,rfl,rfl⟩⟩,rfl,TV⟩,X4 _⟩))
 by_cases hz:z=raw.length
 case neg=>
  have gC:¬z=((raw.map X5).length:Nat):=by rw[eW];exact hz
  rw[PI (.inr hz)];simp only[X5w,map_nil];refine X7 ?_;refine YR ?_
  (show AWP prog E _ _ _;refine X2 ?_;exact(show Xa _ _ _ _ _ from⟨_,Xq 100 (cs':=[ai 0,ai 0,.d (.sl 10 []),ai 0,ai 0,Xi [],Xi [],Xi [],Xi [],ab false]) rfl JM rfl,⟨⟨100,0,_,rfl,rfl,.inr ⟨10,_,rfl,rfl,rfl,rfl⟩⟩,rfl,TV⟩,X4 _⟩))
 rw[NI (fun q=>q.elim (fun q=>q he) (fun q=>q hz))];have gC:z=((raw.map X5).length:Nat):=by rw[eW];exact hz
 clear hz;subst he;have c3:=X6r c 0 (by omega);have hend:=X6N c 0;unfold X8Q;generalize XB c 0=V at*;obtain⟨n,at_,e3⟩:=V;simp only at c3 hend |-;by_cases mV:e3=0
 case neg=>
  rw[PI (.inl mV)];clear hend;simp only[X5w,map_nil];refine QCa ?_;refine W4_ ?_
  (show AWP prog E _ _ _;refine X2 ?_;exact(show Xa _ _ _ _ _ from⟨_,Xq 100 (cs':=[ai 0,ai 0,.d (.sl 10 []),ai 0,ai 0,Xi [],Xi [],Xi [],Xi [],ab false]) rfl JM rfl,⟨⟨100,0,_,rfl,rfl,.inr ⟨10,_,rfl,rfl,rfl,rfl⟩⟩,rfl,TV⟩,X4 _⟩))
 subst mV;by_cases hn:n=ep
 case neg=>
  rw[PI (.inr hn)];clear hend;simp only[X5w,map_nil];refine QCa ?_;refine W4_ ?_
  (show AWP prog E _ _ _;refine X2 ?_;exact(show Xa _ _ _ _ _ from⟨_,Xq 100 (cs':=[ai 0,ai 0,.d (.sl 10 []),ai 0,ai 0,Xi [],Xi [],Xi [],Xi [],ab false]) rfl JM rfl,⟨⟨100,0,_,rfl,rfl,.inr ⟨10,_,rfl,rfl,rfl,rfl⟩⟩,rfl,TV⟩,X4 _⟩))
 rw[NI (fun q=>q.elim (fun q=>q rfl) (fun q=>q hn))];obtain⟨q,hq,qL⟩:=hend rfl;simp only at hq qL;subst hq;rw[Int.toNat_natCast];have eg:(c.map X5).length=c.length:=by simp
 have uQ:q<=(c.map X5).length:=by omega
 have bX:((c.map X5).take (c.map X5).length).drop q=(c.drop q).map X5:=by rw[take_length,map_drop]
 have c4:=Xrm (c.drop q) (by rw[LD];omega);have hne:¬¬n=ep:=fun h=>h hn;generalize rdS (c.drop q)=D at*;obtain⟨X,e4⟩:=D;simp only[X5w] at c4 |-;clear ju hrl;refine QCa ?_;refine W3_ ?_;refine Z6 (lb:=q) (hb:=(c.map X5).length) (ys:=(c.drop q).map X5) ?_ (hys:=by exact bX);refine Yg ?_
 (show AWP prog E _ _ _;refine X2 ?_;exact(show Xa _ _ _ _ _ from⟨_,St.le_refl _,⟨⟨100,0,_,rfl,rfl,.inr ⟨10,_,rfl,rfl,rfl,rfl⟩⟩,rfl,TV⟩,X4 _⟩))
theorem XuR (b:List UInt8):Con prog 103 [] [.d (Xg b),au8 0] [] (ai (Lib.indexByte b 0)):=by
 refine ZC1 func103 ntmps103 fun E=> ?_;refine W8_ ?_;refine XwF (c:=0) (hg:=JSa) (hx:=JSb) (hy:=JSb) (hd:=JSb) ?_ (hf:=by exact func158) (h1:=by exact(by kernel_rfl)) (h2:=by exact(by kernel_rfl)) (h3:=by exact(by kernel_rfl)) (h4:=by exact(by kernel_rfl));refine W2_ ?_
 (show AWP prog E _ _ _;refine X2 ?_;exact(show Xa _ _ _ _ _ from⟨_,St.le_refl _,⟨rfl,TV⟩,X4 _⟩))
theorem X6A (ep:Int) (b:List UInt8) (a n:Nat) (h:X1o b=true/\(X0t (Y5 b) ep).2=true):V6 ep (n+1) b a=((X0t (Y5 b) ep).1::(V6 ep n (b.drop ((Y5 b).length+1)) (a+((Y5 b).length+1))).1,(V6 ep n (b.drop ((Y5 b).length+1)) (a+((Y5 b).length+1))).2):=by
 rw[V6,PI h]
theorem X5O (ep:Int) (b:List UInt8) (a n:Nat) (h:¬(X1o b=true/\(X0t (Y5 b) ep).2=true)):V6 ep (n+1) b a=([],a):=by
 rw[V6,NI h]
theorem XbW (ep:Int):∀(n m:Nat) (b:List UInt8) (a:Nat),b.length<n->b.length<m->V6 ep n b a=V6 ep m b a
 |0,_,b,_,h,_=>absurd h (Nat.not_lt_zero _)
 |_+1,0,b,_,_,h=>absurd h (Nat.not_lt_zero _)
 |n+1,m+1,b,a,h1,h2=>by
  by_cases h:X1o b=true/\(X0t (Y5 b) ep).2=true
  ·have hlt:=X88 h.1;rw[X6A ep b a n h,X6A ep b a m h,XbW ep n m (b.drop ((Y5 b).length+1)) _ (by rw[LD];omega) (by rw[LD];omega)]
  ·rw[X5O ep b a n h,X5O ep b a m h]
theorem XaX (d:ak) (f t ep:Int) (hf:VB d):Con prog 60 [] [XU d,ai f,ai t,ai ep] [] (.tup [.d (.sl 10 ((X0B d f t ep).1.map Yp)),ai (X0B d f t ep).2.1,ai (X0B d f t ep).2.2]):=by
 refine ZCt func60 ntmps60 fun E=> ?_;have hc:=Xid d f t ep 0;by_cases he:Uh d f t ep 0=0
 case neg=>
  have e:X0B d f t ep=([],0,Uh d f t ep 0):=by unfold X0B;rw[PI he]
  rw[e];generalize Uh d f t ep 0=r at*;clear hf;obtain⟨secs,ag,on⟩:=d;simp only[map_nil];refine X0Z ?_;exact X2 ⟨_,Xe 8 (AVal.le_nil 10),⟨rfl,rfl,rfl,TV⟩,X4 _⟩
 rw[he] at hc;obtain⟨hd,h1,h2,h3,_⟩:=X82 he;have hs:=XiE d f t hd hf h1 (by omega) h3;have e:X0B d f t ep=((X05 ep (Y9 d f t)).1,(((X05 ep (Y9 d f t)).2:Nat):Int),0):=by unfold X0B;rw[NI (by rw[he];simp)]
 rw[e];have bu:(Y9 d f t).length<=200000:=by
  unfold Y9;rw[X0Y hd _ _ (by omega)];have:=hf.1;omega
 clear e he hf hd h1 h2 h3;generalize Y9 d f t=B at*;unfold X05;generalize hR:V6 ep (B.length+1) B 0=R;have lQ:(B.map X5).length=B.length:=by simp
 obtain⟨secs,ag,on⟩:=d;refine X7 ?_;refine W7_ ?_;clear hc hs;refine X8 (Uu 14 130 10 rfl rfl rfl) ?_
 refine Xn (ι:=Nat×List Rcd) (fun q=>q.1<=B.length/\q.2.length<=q.1/\(q.2++(V6 ep (B.length-q.1+1) (B.drop q.1) q.1).1,(V6 ep (B.length-q.1+1) (B.drop q.1) q.1).2)=R) (fun q=>⟨63,[(3,ai ep),(13,.d (Xg B)),(14,.own 130 (q.2.map Yp).length),(15,ai q.1)],[(130,.row 10 (q.2.map Yp))]⟩) (fun q=>B.length-q.1) (0,[]) ⟨Nat.zero_le _,Nat.le_refl _,by rw[drop_zero,Nat.sub_zero,hR];rfl⟩
  (ZL0) ?_
 rintro⟨i,o⟩ ⟨hi,ho,hg⟩;simp only at hi ho hg |-;have hroom:(o.map Yp).length<=200000:=by rw[LM];omega
 have jY:i<=(B.map X5).length:=by omega
 have bX:((B.map X5).take (B.map X5).length).drop i=(B.drop i).map X5:=by rw[take_length,map_drop]
 have oT:=XuR (B.drop i);have gj:(B.drop i).length=B.length-i:=by simp
 rcases Xx8 (b:=B.drop i) with ⟨k1,k2⟩|⟨k1,k2⟩
 ·rw[X5O ep _ _ _ (fun h=>by rw[k1] at h;simp at h)] at hg;simp only[append_nil] at hg;subst hg;rw[k2] at oT;clear k1 k2;refine QBc ?_;refine Yf ?_;refine Qwb ?_;refine X8 (Y7 8 130 rfl rfl rfl) ?_
  (show AWP prog E _ _ _;refine X2 ?_;exact(show Xa _ _ _ _ _ from⟨_,St.le_refl _,⟨rfl,rfl,rfl,TV⟩,X4 _⟩))
 rw[k2] at oT;have hlt:=X88 k1;have bO:=Xd7 (B.drop i);have eZ:=Xu1 (Y5 (B.drop i)) ep (by omega);have hsub:((B.map X5).take (i+(Y5 (B.drop i)).length)).drop i=(Y5 (B.drop i)).map X5:=by
  conv=>rhs;rw[bO]
  rw[map_take,map_drop,drop_take];congr 1;omega
 by_cases hok:(X0t (Y5 (B.drop i)) ep).2=true
 case neg=>
  rw[X5O ep _ _ _ (fun h=>hok h.2)] at hg;simp only[append_nil] at hg;subst hg;have hok:(X0t (Y5 (B.drop i)) ep).2=false:=by simpa using hok
  rw[hok] at eZ;generalize (X0t (Y5 (B.drop i)) ep).1=X at*;generalize Y5 (B.drop i)=H at*;have tq:i+H.length<=(B.map X5).length:=by omega
  have hle:i<=i+H.length:=by omega
  have dF:¬(H.length:Int)<0:=by omega
  simp only[X5w] at eZ;clear k1 k2 bO hok;refine QBc ?_;refine Yv ?_;refine ZBa ((i:Int)) ((H.length:Nat)) (((i+H.length:Nat):Int)) ?_;refine Z6 (lb:=i) (hb:=(i+H.length)) (ys:=H.map X5) ?_ (hys:=by exact hsub);refine Yq ?_;refine Qwb ?_;refine X8 (Y7 8 130 rfl rfl rfl) ?_
  (show AWP prog E _ _ _;refine X2 ?_;exact(show Xa _ _ _ _ _ from⟨_,St.le_refl _,⟨rfl,rfl,rfl,TV⟩,X4 _⟩))
 rw[X6A ep _ _ _ ⟨k1,hok⟩] at hg;rw[hok] at eZ;generalize hX:(X0t (Y5 (B.drop i)) ep).1=X at*;generalize Y5 (B.drop i)=H at*;have tq:i+H.length<=(B.map X5).length:=by omega
 have hle:i<=i+H.length:=by omega
 have dF:¬(H.length:Int)<0:=by omega
 have hst:(o++[X]).map Yp=o.map Yp++[Yp X]:=by simp
 have kj:((o++[X])++(V6 ep (B.length-(i+(H.length+1))+1) (B.drop (i+(H.length+1))) (i+(H.length+1))).1,(V6 ep (B.length-(i+(H.length+1))+1) (B.drop (i+(H.length+1))) (i+(H.length+1))).2)=R:=by
  rw[<-hg,drop_drop,XbW ep (B.length-i) (B.length-(i+(H.length+1))+1) (B.drop (i+(H.length+1))) (i+(H.length+1)) (by rw[LD];omega) (by rw[LD];omega)];simp
 clear hg k1 k2 bO hok hX;simp only[X5w] at eZ;have oF:Yp X=[.v (.int .i64 X.kind),.v (.int .i64 X.ts),.sl 10 (X.changes.map Xs),.v (.int .i64 X.rule.kind),.v (.int .i64 X.rule.n),.v (.string (X6 X.rule.name)),.v (.string (X6 X.rule.key)),.v (.string (X6 X.rule.src)),.v (.string (X6 X.rule.dst)),.v (.bool X.off)]:=rfl;rw[oF] at hst;refine QBc ?_;refine Yv ?_;refine ZBa ((i:Int)) ((H.length:Nat)) (((i+H.length:Nat):Int)) ?_;refine Z6 (lb:=i) (hb:=(i+H.length)) (ys:=H.map X5) ?_ (hys:=by exact hsub);refine YY ?_;refine ZBa ((H.length:Nat)) (1) (((H.length+1:Nat):Int)) ?_;refine ZBa ((i:Int)) ((H.length+1:Nat)) (((i+(H.length+1):Nat):Int)) ?_;refine W2_ ?_;refine⟨(i+(H.length+1),o++[X]),⟨by simp only;omega,by simp;omega,kj⟩,by simp only;omega,?_⟩;dsimp only;rw[hst];exact QCc
end Go.Fw
