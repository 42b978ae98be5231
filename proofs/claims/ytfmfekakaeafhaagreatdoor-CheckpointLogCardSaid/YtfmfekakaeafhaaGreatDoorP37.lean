/- The check of a record: the program's and the reference's. -/
import Derived.Test.YtfmfekakaeafhaaGreatDoorP14
import Derived.Test.YtfmfekakaeafhaaGreatDoorP33
set_option linter.all false
set_option maxHeartbeats 16000000
namespace Go.Fw
open Go Go.Proofs Tryz List
open List renaming length->J
set_option maxRecDepth 100000
def XcJ (r:Rcd) (hok:X0z r):Con prog 118 [] [Um r] [] (ai (UO r)):=by
 obtain⟨kd,ts,l,⟨k,n,name,key,src,dst⟩,off⟩:=r;obtain⟨hlen,gP⟩:=hok;simp only at hlen gP;have hlm:J (l.map Xp)=J l:=Oc
 refine ZC1 func118 ntmps118 fun E=> ?_;have hz:=eqZ k n name key src dst;have hr:=X8p ⟨k,n,name,key,src,dst⟩;unfold UO;simp only[Um,Yu] at hr |-;generalize X59 ⟨k,n,name,key,src,dst⟩=z at*;generalize Uu ⟨k,n,name,key,src,dst⟩=re at*;by_cases h1:¬(1<=kd/\kd<=3/\0<=ts/\ts<=1000000000000000)
 ·rw[PI h1];refine XG ?_;refine Ye rfl rfl ?_ ?_<;>intro hq;exact QD;refine W5_ ?_;refine Ye rfl rfl ?_ ?_<;>intro hq;exact QFa;refine W5_ ?_;refine Ye rfl rfl ?_ ?_<;>intro hq;refine XA ?_;exact Zr0;refine XA ?_;exact Zr0
 rw[NI h1];by_cases h2:(kd≠1/\0<J l)\/(kd≠2/\(off=true\/z=false))
 ·rw[PI h2];refine X04 ?_;refine Ye rfl rfl ?_ ?_<;>intro hq;refine W6_ ?_;refine Ye rfl rfl ?_ ?_<;>intro hq;refine W4_ ?_;refine Qva ?_;exact QE;refine W7_ ?_;refine QSc ?_;refine W1_ ?_;refine Ux rfl rfl ?_ ?_<;>intro hq;refine W6_ ?_;refine X2E rfl ?_ ?_<;>intro hq;exact QG;refine Yr ?_;(exfalso;clear hr hz;simp_all<;>omega);exact Qn;refine XK ?_;refine QSc ?_;refine W1_ ?_;refine Ux rfl rfl ?_ ?_<;>intro hq;refine W6_ ?_;refine X2E rfl ?_ ?_<;>intro hq;exact QG;refine Yr ?_;(exfalso;clear hr hz;simp_all<;>omega);exact Qn
 rw[NI h2];by_cases h3:kd=2
 ·subst h3;rw[PI rfl];have h4:¬0<J l:=by omega
  refine Qxa ?_;refine Qt ?_;exact Ql
 rw[NI h3];have pT:off=false/\z=true:=by cases off<;>cases z<;>simp_all
 obtain⟨ho,cE⟩:=pT;have hk:kd=1\/(kd=3/\¬0<J l):=Oa
 rcases hk with cq|⟨cq,hn0⟩
 case inr=>
  obtain rfl:l=[]:=eq_nil_of_length_eq_zero Oa;clear h2 hlm gP hlen;refine QHa ?_;refine QTc ?_
  refine Xl (ι:=Nat) (fun i=>i=0) (fun i=>⟨73,[(1,.ptr 100 0),(3,ai i)],[(100,.box [ai kd,ai ts,.d (.sl 10 []),ai k,ai n,Xa name,Xa key,Xa src,Xa dst,ab off])]⟩) (fun i=>0) 0 rfl
   (ZL0) ?_
  rintro i rfl;refine V4 ?_;exact Zr0
 generalize hG:X24 l=G;refine QHa ?_;refine QTc ?_
 refine Xl (ι:=Nat) (fun i=>i<=J l/\X24 (l.drop i)=G) (fun i=>⟨73,[(1,.ptr 100 0),(3,ai i)],[(100,.box [ai kd,ai ts,.d (.sl 10 (l.map Xp)),ai k,ai n,Xa name,Xa key,Xa src,Xa dst,ab off])]⟩) (fun i=>J l-i) 0 ⟨Oa,hG⟩
  (ZL0) ?_
 rintro i ⟨hi,hg⟩;by_cases hil:i<J l
 case neg=>
  obtain rfl:i=J l:=Oa
  rw[drop_length,X24] at hg;subst hg;rw[NI Oc];have hn:¬((J l:Nat):Int)<J (l.map Xp):=Oa
  by_cases hb:1000<J l
  ·rw[PI hb];exact QCa
  ·rw[NI hb];refine V4 ?_;exact Zr0
 have hn:(i:Int)<J (l.map Xp):=Oa
 obtain⟨x,hx⟩:=Xn (l:=l) hil;have au:(l.map Xp)[i]? =some (Xp x):=XC hx;have jY:=gP x (mem_of_getElem? hx);have aA:=XbD x jY.2;rw[XoY hx] at hg;generalize YE x=e at*;obtain⟨op,id,dZ,e7,cK,⟨xk,xn,xd,xs,xl⟩⟩:=x;simp only[Xu,Xp] at aA au;by_cases he:e=0
 ·subst he;rw[NI Oc] at hg;refine UR ?_;exact Qfc
 ·rw[PI he] at hg;subst hg;rw[PI he];refine VM ?_;exact Zr0
open Go
open List renaming length->J
def X6d (l:List Nod) (id:Int):Option Nod:=l.find? fun n=>decide (n.id=id)
abbrev X5o:Nod:=⟨0,[],[]⟩
def XiQ (n:Nod):Prop:=J n.labels<=1000/\J n.props<=1000/\∀p∈n.props,U9 p.v=true
variable{i:Nat}
def XyS {l:List Nod}{n:Nod}{id:Int} (h:l[i]? =some n):X6d (l.drop i) id=if n.id=id then some n else X6d (l.drop (i+1)) id:=by
 obtain⟨hi,h⟩:=GS.1 h;unfold X6d;rw[drop_eq_getElem_cons hi,h,find?_cons];by_cases q:n.id=id<;>simp[q]
def Xyj {l:List (List UInt8)}{s:List UInt8}{x:List UInt8} (h:l[i]? =some x):X2I (l.drop i) s=(decide (s=x)||X2I (l.drop (i+1)) s):=by
 obtain⟨hi,rfl⟩:=GS.1 h;unfold X2I;rw[drop_eq_getElem_cons hi,any_cons]
def Xuy (l:List (List UInt8)) (s:List UInt8) (hl:J l<=9223372036854775807):Con prog 342 [] [.d (.sl 1 (l.map Xf)),Xa s] [] (ab (X2I l s)):=by
 refine ZC1 func342 ntmps342 fun E=> ?_;generalize hG:X2I l s=G;refine XA ?_
 refine Xl (fun i:Nat=>i<=J l/\X2I (l.drop i) s=G) (fun i=>⟨18,[(0,.d (.sl 1 (l.map Xf))),(1,Xa s),(5,ai i)],[]⟩) (fun i=>J l-i) 0 ⟨Nat.zero_le _,OX⟩
  (ZL0) ?_
 rintro i ⟨hi,hg⟩;by_cases hil:i<J l
 case neg=>
  have hn:¬(i:Int)<J (l.map Xf):=Oj
  rw[drop_of_length_le Oa] at hg;have hg:false=G:=hg;subst hg;exact Qh
 have hn:(i:Int)<J (l.map Xf):=Oj
 obtain⟨x,hx⟩:=Xn (l:=l) hil;have au:(l.map Xf)[i]? =some (Xf x):=XC hx;rw[Xyj hx] at hg;by_cases hq:s=x
 ·rw[DT hq,Bool.true_or] at hg;subst hg;have lC:x=s:=hq.symm;exact Qga
 rw[DF hq,Bool.false_or] at hg;have lC:¬x=s:=fun e=>hq e.symm;refine U7 ?_;exact Qfc
def Xzl (n:Nod) (s:List UInt8) (hl:J n.labels<=9223372036854775807):Con prog 294 [] [.agg [ai n.id,.d (.sl 1 (n.labels.map Xf)),.d (.sl 6 (n.props.map Xb))],Xa s] [] (ab (X2I n.labels s)):=by
 refine ZC1 func294 ntmps294 fun E=> ?_;have hc:=Xuy n.labels s hl;generalize X2I n.labels s=q at*;exact Qe
theorem XtR (l:List (List UInt8)) (s:List UInt8):X2I l s=XF Yp l s:=by
 unfold X2I XF;congr 1;funext x;exact decide_eq_decide.2 ⟨fun h=>h.symm,fun h=>h.symm⟩
def X8V {α:Type}{a b c:List α} (h:a++b=c):J a<=J c:=by rw[<-h,LA];omega
def XzF (l:List (List UInt8)) (s:List UInt8) (hl:J l<=100000):Con prog 297 [] [.d (.sl 1 (l.map Xf)),Xa s] [] (.d (.sl 1 ((UX Yp l s).map Xf))):=by
 refine ZC1 func297 ntmps297 fun E=> ?_;have hlm:J (l.map Xf)=J l:=Oc
 have bP:=XdZ (key:=Yp) l s;generalize hR:UX Yp l s=R at*;refine XD ?_;refine X8 (Uo 5 130 1 rfl rfl rfl) ?_
 refine Xl (ι:=Nat×List (List UInt8)) (fun q=>q.1<=J l/\q.2++UX Yp (l.drop q.1) s=R) (fun q=>⟨27,[(0,.d (.sl 1 (l.map Xf))),(1,Xa s),(5,.own 130 (J (q.2.map Xf))),(6,ai q.1)],[(130,.row 1 (q.2.map Xf))]⟩) (fun q=>J l-q.1) (0,[]) ⟨Nat.zero_le _,Is⟩
  (ZL0) ?_
 rintro⟨i,out⟩ ⟨hi,hg⟩;simp only at hi hg;by_cases hil:i<J l
 case neg=>
  have hn:¬(i:Int)<J (l.map Xf):=Oa
  rw[drop_of_length_le Oa,show UX Yp ([]:List (List UInt8)) s=[] from rfl,append_nil] at hg;subst hg;refine Ya ?_;refine Qdc ?_;refine X8 (XX 4 130 rfl rfl Oc) ?_
  (exact Zz2)
 have hn:(i:Int)<J (l.map Xf):=Oa
 obtain⟨x,hx⟩:=Xn (l:=l) hil;have au:(l.map Xf)[i]? =some (Xf x):=XC hx;rw[Xfa hx] at hg;have dW:=X8V hg;have hroom:J (out.map Xf)<=100000:=Oj
 simp only[Xf] at au;by_cases hq:x=s
 ·subst hq;rw[PI rfl,nil_append] at hg;refine U7 ?_;exact QOd
 ·rw[NI (show ¬Yp x=s from hq),<-AS] at hg;refine X17 ?_;refine⟨(i+1,out++[x]),⟨Od,hg⟩,Od,?_⟩;dsimp only;rw[map_append];exact X9 rfl ⟨JL,JL,ZzQ Ol,JL,TV⟩ ⟨rfl,TV⟩
def XuV (l:List (List UInt8)) (s:List UInt8) (hl:J l<=100000) (hs:YP aC Yp l) (hh:XF Yp l s=false):Con prog 296 [] [.d (.sl 1 (l.map Xf)),Xa s] [] (.d (.sl 1 ((UY aC Yp l s [s]).map Xf))):=by
 refine ZC1 func296 ntmps296 fun E=> ?_;have hlm:J (l.map Xf)=J l:=Oc
 rw[X5u hh];have hle:=X6A (lt:=aC) (key:=Yp) l s;have h1:=Xcl (lt:=aC) (key:=Yp) (l:=l) (k:=s);have h2:∀x,l[Xr aC Yp l s]? =some x->aC x s=false/\x≠s:=fun x hx=>⟨Xar hx,fun e=>by
  subst e;have:XF Yp l x=true:=by unfold XF;rw[any_eq_true];exact⟨x,mem_of_getElem? hx,Oc⟩
  rw[hh] at this;cases this⟩
 generalize Xr aC Yp l s=k at*;clear hs hh;refine XD ?_
 refine Xl (fun i:Nat=>i<=k) (fun i=>⟨47,[(0,.d (.sl 1 (l.map Xf))),(1,Xa s),(5,aq),(6,ai i)],[]⟩) (fun i=>J l-i) 0 (Nat.zero_le _)
  (ZL0) ?_
 intro i hi;by_cases hik:i<k
 case pos=>
  have hil:i<J l:=Oa
  have hn:(i:Int)<J (l.map Xf):=Oa
  obtain⟨x,hx⟩:=Xn (l:=l) hil;have au:(l.map Xf)[i]? =some (Xf x):=XC hx;have hlt:=h1 x (by rw[mem_take_iff_getElem];obtain⟨hl,rfl⟩:=GS.1 hx;exact⟨i,Oa,rfl⟩);have hlt:Op.bytesLess x s=true:=hlt;simp only[Xf] at au;clear h1 h2;refine XK ?_;refine QGc ?_;refine XA ?_;exact⟨i+1,Oa,Oa,ZL0⟩
 obtain rfl:i=k:=Oa
 have rK:(l.take i++[s]++l.drop i).map Xf=[]++((l.map Xf).take i).drop 0++[Xf s]++((l.map Xf).take (J (l.map Xf))).drop i:=by rw[take_length];simp
 rw[rK];have fE:J ((l.map Xf).take i)=i:=Oz
 have gh:J ((l.map Xf).drop i)=J l-i:=OR
 by_cases hil:i<J l
 case pos=>
  have hn:(i:Int)<J (l.map Xf):=Oa
  have hn2:¬(i:Int)=J (l.map Xf):=Oa
  obtain⟨x,hx⟩:=Xn (l:=l) hil;have au:(l.map Xf)[i]? =some (Xf x):=XC hx;obtain⟨hlt,hne⟩:=h2 x hx;have hlt:Op.bytesLess x s=false:=hlt;simp only[Xf] at au;clear h1 h2 hx hik hi;refine XK ?_;refine QGc ?_;refine W5_ ?_;refine X8 (Uo 5 130 1 rfl rfl rfl) ?_;refine QO ?_;refine Qdc ?_;refine X8 (XX 4 130 rfl rfl Jt) ?_
  (exact Zz2)
 case neg=>
  have hn:¬(i:Int)<J (l.map Xf):=Oa
  have hn2:(i:Int)=J (l.map Xf):=Oa
  clear h1 h2 hik hi;refine YS ?_;refine X8 (Uo 5 130 1 rfl rfl rfl) ?_;refine QO ?_;refine Qdc ?_;refine X8 (XX 4 130 rfl rfl Jt) ?_
  (exact Zz2)
def XlG (l:List Prp) (key:List UInt8) (v:Val) (hl:J l<=100000) (hv:U1 v):Con prog 293 [] [.d (.sl 6 (l.map Xb)),Xa key,Xt v] [] (.tup [.d (.sl 6 ((Uh l key v).map Xb)),ab (decide (J (Uh l key v)<=16))]):=by
 refine ZCt func293 ntmps293 fun E=> ?_;have hlm:J (l.map Xb)=J l:=Oc
 have nL:=Xpe v hv;have bP:J (Uh l key v)<=J l+1:=by
  refine Nat.le_trans X6G ?_;split<;>simp
 generalize hR:Uh l key v=R at*;unfold Uh at hR;clear hv;obtain⟨vk,vn,vd,vs,vl⟩:=v;simp only[Xt] at*;refine YV ?_;refine X8 (Uo 8 130 6 rfl rfl rfl) ?_
 refine Xl (ι:=Nat×Bool×List Prp) (fun q=>q.1<=J l/\q.2.2++X3c aC Prp.key (l.drop q.1) key (if Vf (.mk vk vn vd vs vl)=true then [] else [⟨key,.mk vk vn vd vs vl⟩]) q.2.1=R) (fun q=>⟨68,[(0,.d (.sl 6 (l.map Xb))),(1,Xa key),(5,.ptr 100 0),(8,.own 130 (J (q.2.2.map Xb))),(9,ab q.2.1),(10,ai q.1)],[(100,.box [ai vk,ai vn,ai vd,.d (.v (.string (X7 vs))),.d (.sl 5 (XR vl))]),(130,.row 6 (q.2.2.map Xb))]⟩) (fun q=>J l-q.1) (0,false,[]) ⟨Nat.zero_le _,by simpa [X3c] using hR⟩
  (ZL0) ?_
 rintro⟨i,b,out⟩ ⟨hi,hg⟩;simp only at hi hg;have dW:=X8V hg;have hroom:J (out.map Xb)<=100001:=Oj
 by_cases hil:i<J l
 case neg=>
  have hn:¬(i:Int)<J (l.map Xb):=Oa
  rw[drop_of_length_le Oa,Xey] at hg;cases b with
  |true=>
   rw[PI rfl,append_nil] at hg;subst hg;have hm:J (out.map Xb)=J out:=Oc
   exact Yt22
  |false=>
   rw[NI Oc] at hg;cases hz:Vf (.mk vk vn vd vs vl) with
   |true=>
    rw[hz] at hg nL;rw[PI rfl,append_nil] at hg;subst hg;have hm:J (out.map Xb)=J out:=Oc
    exact Yt22
   |false=>
    rw[hz] at hg nL;rw[NI Oc] at hg;subst hg;have hm:J (out.map Xb)=J out:=Oc
    have hap:(out++[(⟨key,.mk vk vn vd vs vl⟩:Prp)]).map Xb=out.map Xb++[[.v (.string (X7 key)),.v (.int .i64 vk),.v (.int .i64 vn),.v (.int .i64 vd),.v (.string (X7 vs)),.sl 5 (XR vl)]]:=by simp[Xb,UB]
    rw[hap,LA,length_singleton];refine X4 ?_;refine Qdc ?_;refine X8 (XX 6 130 rfl rfl Jt) ?_
    (show AWP prog E _ _ _;refine X3 ?_;refine(show Vw _ _ _ _ _ from⟨_,ZzS,⟨rfl,?_,TV⟩,X5 _⟩);refine Eq.trans (b:=ab (decide ((_:Int)<=16))) rfl ?_;exact CG ab (decide_eq_decide.2 (by(try simp only[LA,LM,length_singleton]);omega)))
 have hn:(i:Int)<J (l.map Xb):=Oa
 obtain⟨x,hx⟩:=Xn (l:=l) hil;have au:(l.map Xb)[i]? =some (Xb x):=XC hx;have eY:aC x.key key=true->x.key≠key:=fun h e=>by rw[e,X2a.irr] at h;cases h
 rw[Xe9 hx eY] at hg;obtain⟨xk,⟨wk,wn,wd,ws,wl⟩⟩:=x;simp only[Xb,UB] at au hg eY;clear hx;cases b with
 |true=>
  rw[NI Oc,nil_append,Bool.true_or] at hg;by_cases hq:xk=key
  ·subst hq;rw[PI rfl,nil_append] at hg;refine QS ?_;refine⟨(i+1,true,out),⟨Od,hg⟩,Od,?_⟩;dsimp only
   skip
   exact X9 rfl ⟨JL,JL,JL,JL,JL,JL,TV⟩ ⟨rfl,rfl,TV⟩
  ·rw[NI hq,<-AS] at hg;have hap:(out++[(⟨xk,.mk wk wn wd ws wl⟩:Prp)]).map Xb=out.map Xb++[[.v (.string (X7 xk)),.v (.int .i64 wk),.v (.int .i64 wn),.v (.int .i64 wd),.v (.string (X7 ws)),.sl 5 (XR wl)]]:=by simp[Xb,UB]
   refine QWa ?_;refine⟨(i+1,true,out++[(⟨xk,.mk wk wn wd ws wl⟩:Prp)]),⟨Od,hg⟩,Od,?_⟩;dsimp only;rw[hap];exact QPd
 |false=>
  by_cases hp:aC xk key=true
  ·have hq:=eY hp;rw[hp,NI Oc,NI hq,nil_append,<-AS] at hg;have hp':Op.bytesLess xk key=true:=hp;have hap:(out++[(⟨xk,.mk wk wn wd ws wl⟩:Prp)]).map Xb=out.map Xb++[[.v (.string (X7 xk)),.v (.int .i64 wk),.v (.int .i64 wn),.v (.int .i64 wd),.v (.string (X7 ws)),.sl 5 (XR wl)]]:=by simp[Xb,UB]
   refine QQd ?_;refine UI ?_;refine⟨(i+1,false,out++[(⟨xk,.mk wk wn wd ws wl⟩:Prp)]),⟨Od,hg⟩,Od,?_⟩;dsimp only;rw[hap];exact QPd
  ·have hp:aC xk key=false:=by simpa using hp
   have hp':Op.bytesLess xk key=false:=hp;rw[hp,PI ⟨rfl,rfl⟩] at hg;cases hz:Vf (.mk vk vn vd vs vl) with
   |true=>
    rw[hz] at hg nL;rw[PI rfl,nil_append] at hg;by_cases hq:xk=key
    ·subst hq;rw[PI rfl,nil_append] at hg;refine QQd ?_;refine Uf ?_;refine⟨(i+1,true,out),⟨Od,hg⟩,Od,?_⟩;dsimp only
     skip
     exact X9 rfl ⟨JL,JL,JL,JL,JL,JL,TV⟩ ⟨rfl,rfl,TV⟩
    ·rw[NI hq,<-AS] at hg;have hap:(out++[(⟨xk,.mk wk wn wd ws wl⟩:Prp)]).map Xb=out.map Xb++[[.v (.string (X7 xk)),.v (.int .i64 wk),.v (.int .i64 wn),.v (.int .i64 wd),.v (.string (X7 ws)),.sl 5 (XR wl)]]:=by simp[Xb,UB]
     refine QQd ?_;refine QO ?_;refine⟨(i+1,true,out++[(⟨xk,.mk wk wn wd ws wl⟩:Prp)]),⟨Od,hg⟩,Od,?_⟩;dsimp only;rw[hap];exact QPd
   |false=>
    rw[hz] at hg nL;rw[NI Oc] at hg;by_cases hq:xk=key
    ·subst hq;rw[PI rfl,append_nil,<-AS] at hg;have hap:(out++[(⟨xk,.mk vk vn vd vs vl⟩:Prp)]).map Xb=out.map Xb++[[.v (.string (X7 xk)),.v (.int .i64 vk),.v (.int .i64 vn),.v (.int .i64 vd),.v (.string (X7 vs)),.sl 5 (XR vl)]]:=by simp[Xb,UB]
     refine QQd ?_;refine X4 ?_;refine⟨(i+1,true,out++[(⟨xk,.mk vk vn vd vs vl⟩:Prp)]),⟨Od,hg⟩,Od,?_⟩;dsimp only;rw[hap];exact QPd
    ·rw[NI hq,AS,<-AS,<-AS] at hg;have hap:(out++[(⟨key,.mk vk vn vd vs vl⟩:Prp)]++[(⟨xk,.mk wk wn wd ws wl⟩:Prp)]).map Xb=(out.map Xb++[[.v (.string (X7 key)),.v (.int .i64 vk),.v (.int .i64 vn),.v (.int .i64 vd),.v (.string (X7 vs)),.sl 5 (XR vl)]])++[[.v (.string (X7 xk)),.v (.int .i64 wk),.v (.int .i64 wn),.v (.int .i64 wd),.v (.string (X7 ws)),.sl 5 (XR wl)]]:=by simp[Xb,UB]
     refine QQd ?_;refine QHa ?_;refine⟨(i+1,true,out++[(⟨key,.mk vk vn vd vs vl⟩:Prp)]++[(⟨xk,.mk wk wn wd ws wl⟩:Prp)]),⟨Od,hg⟩,Od,?_⟩;dsimp only;rw[hap];exact QPd
def Xlw (g:Gra) (n:Nod) (hl:J g.nodes<=100000) (fq:0<=n.id) (hn2:n.id<=1000000):Con prog 246 [] [XZ g,.agg [ai n.id,.d (.sl 1 (n.labels.map Xf)),.d (.sl 6 (n.props.map Xb))]] [] (XZ (VB g n)):=by
 refine ZC1 func246 ntmps246 fun E=> ?_;obtain⟨ns,es,nn,ne⟩:=g;obtain⟨aJ,nl,np⟩:=n;unfold VB XZ;simp only at hl fq hn2 |-;have bP:J (UY ltI Nod.id ns aJ [(⟨aJ,nl,np⟩:Nod)])<=J ns+1:=by
  have:=X6G (lt:=ltI) (key:=Nod.id) (l:=ns) (k:=aJ) (ns:=[(⟨aJ,nl,np⟩:Nod)]);simpa using this
 generalize hR:UY ltI Nod.id ns aJ [(⟨aJ,nl,np⟩:Nod)]=R at*;have hlm:J (ns.map Xi)=J ns:=Oc
 refine YV ?_;refine X8 (Uo 5 130 3 rfl rfl rfl) ?_
 refine Xl (ι:=Nat×Bool×List Nod) (fun q=>q.1<=J ns/\q.2.2++X3c ltI Nod.id (ns.drop q.1) aJ [(⟨aJ,nl,np⟩:Nod)] q.2.1=R) (fun q=>⟨65,[(2,.ptr 100 0),(3,.ptr 101 0),(4,.ptr 102 0),(5,.own 130 (J (q.2.2.map Xi))),(6,ab q.2.1),(7,ai q.1)],[(100,.box [.d (.sl 3 (ns.map Xi)),.d (.sl 5 (es.map Xk)),ai nn,ai ne]),(101,.box [ai aJ,.d (.sl 1 (nl.map Xf)),.d (.sl 6 (np.map Xb))]),(102,.box [aq,aq,ai 0,ai 0]),(130,.row 3 (q.2.2.map Xi))]⟩) (fun q=>J ns-q.1) (0,false,[]) ⟨Nat.zero_le _,by simpa [X3c] using hR⟩
  (ZL0) ?_
 rintro⟨i,b,out⟩ ⟨hi,hg⟩;simp only at hi hg;have dW:=X8V hg;have hroom:J (out.map Xi)<=100001:=Oj
 by_cases hil:i<J ns
 case neg=>
  have hn:¬(i:Int)<J (ns.map Xi):=Oa
  rw[drop_of_length_le Oa,Xey] at hg;have u6:J R<=J ns+1:=bP;cases b with
  |true=>
   exact Yt43
  |false=>
   rw[NI Oc] at hg;subst hg;have hap:(out++[(⟨aJ,nl,np⟩:Nod)]).map Xi=out.map Xi++[[.v (.int .i64 aJ),.sl 1 (nl.map Xf),.sl 6 (np.map Xb)]]:=by simp[Xi]
   exact Yt56
 have hn:(i:Int)<J (ns.map Xi):=Oa
 obtain⟨x,hx⟩:=Xn (l:=ns) hil;have au:(ns.map Xi)[i]? =some (Xi x):=XC hx;have eY:ltI x.id aJ=true->x.id≠aJ:=fun h e=>by rw[e,Vp.irr] at h;cases h
 rw[Xe9 hx eY] at hg;obtain⟨aK,xl,xp⟩:=x;simp only[Xi] at au hg eY;clear hx;cases b with
 |true=>
  rw[NI Oc,nil_append,Bool.true_or] at hg;by_cases hq:aK=aJ
  ·subst hq;rw[PI rfl,nil_append] at hg;refine Qxa ?_;refine⟨(i+1,true,out),⟨Od,hg⟩,Od,?_⟩;dsimp only
   skip
   exact X9 rfl ⟨JL,JL,JL,JL,JL,JL,TV⟩ ⟨rfl,rfl,rfl,rfl,TV⟩
  ·rw[NI hq,<-AS] at hg;have hap:(out++[(⟨aK,xl,xp⟩:Nod)]).map Xi=out.map Xi++[[.v (.int .i64 aK),.sl 1 (xl.map Xf),.sl 6 (xp.map Xb)]]:=by simp[Xi]
   refine QUa ?_;refine⟨(i+1,true,out++[(⟨aK,xl,xp⟩:Nod)]),⟨Od,hg⟩,Od,?_⟩;dsimp only;rw[hap];exact QSd
 |false=>
  by_cases hp:aK<aJ
  ·have jh:ltI aK aJ=true:=DT hp;have hq:=eY jh;have hp':¬aJ<=aK:=by omega
   rw[jh,NI Oc,NI hq,nil_append,<-AS] at hg;have hap:(out++[(⟨aK,xl,xp⟩:Nod)]).map Xi=out.map Xi++[[.v (.int .i64 aK),.sl 1 (xl.map Xf),.sl 6 (xp.map Xb)]]:=by simp[Xi]
   refine QUa ?_;refine⟨(i+1,false,out++[(⟨aK,xl,xp⟩:Nod)]),⟨Od,hg⟩,Od,?_⟩;dsimp only;rw[hap];exact QSd
  ·have jh:ltI aK aJ=false:=DF hp;have hp':aJ<=aK:=by omega
   rw[jh,PI ⟨rfl,rfl⟩] at hg;by_cases hq:aK=aJ
   ·subst hq;rw[PI rfl,append_nil,<-AS] at hg;have hap:(out++[(⟨aK,nl,np⟩:Nod)]).map Xi=out.map Xi++[[.v (.int .i64 aK),.sl 1 (nl.map Xf),.sl 6 (np.map Xb)]]:=by simp[Xi]
    refine QUa ?_;refine⟨(i+1,true,out++[(⟨aK,nl,np⟩:Nod)]),⟨Od,hg⟩,Od,?_⟩;dsimp only;rw[hap];exact QSd
   ·rw[NI hq,AS,<-AS,<-AS] at hg;have hap:(out++[(⟨aJ,nl,np⟩:Nod)]++[(⟨aK,xl,xp⟩:Nod)]).map Xi=(out.map Xi++[[.v (.int .i64 aJ),.sl 1 (nl.map Xf),.sl 6 (np.map Xb)]])++[[.v (.int .i64 aK),.sl 1 (xl.map Xf),.sl 6 (xp.map Xb)]]:=by simp[Xi]
    refine X4 ?_;refine UK ?_;refine⟨(i+1,true,out++[(⟨aJ,nl,np⟩:Nod)]++[(⟨aK,xl,xp⟩:Nod)]),⟨Od,hg⟩,Od,?_⟩;dsimp only;rw[hap];exact QSd
def Xo0 (g:Gra) (n:Edg) (hl:J g.aj<=100000) (fq:0<=n.id) (hn2:n.id<=1000000):Con prog 247 [] [XZ g,.agg [ai n.id,ai n.src,ai n.dst,Xa n.typ,.d (.sl 6 (n.props.map Xb))]] [] (XZ (X1v g n)):=by
 refine ZC1 func247 ntmps247 fun E=> ?_;obtain⟨ns,es,nn,ne⟩:=g;obtain⟨aJ,nsr,nds,nt,np⟩:=n;unfold X1v XZ;simp only at hl fq hn2 |-;have bP:J (UY ltI Edg.id es aJ [(⟨aJ,nsr,nds,nt,np⟩:Edg)])<=J es+1:=by
  have:=X6G (lt:=ltI) (key:=Edg.id) (l:=es) (k:=aJ) (ns:=[(⟨aJ,nsr,nds,nt,np⟩:Edg)]);simpa using this
 generalize hR:UY ltI Edg.id es aJ [(⟨aJ,nsr,nds,nt,np⟩:Edg)]=R at*;have hlm:J (es.map Xk)=J es:=Oc
 refine YV ?_;refine X8 (Uo 5 130 5 rfl rfl rfl) ?_
 refine Xl (ι:=Nat×Bool×List Edg) (fun q=>q.1<=J es/\q.2.2++X3c ltI Edg.id (es.drop q.1) aJ [(⟨aJ,nsr,nds,nt,np⟩:Edg)] q.2.1=R) (fun q=>⟨65,[(2,.ptr 100 0),(3,.ptr 101 0),(4,.ptr 102 0),(5,.own 130 (J (q.2.2.map Xk))),(6,ab q.2.1),(7,ai q.1)],[(100,.box [.d (.sl 3 (ns.map Xi)),.d (.sl 5 (es.map Xk)),ai nn,ai ne]),(101,.box [ai aJ,ai nsr,ai nds,.d (.v (.string (X7 nt))),.d (.sl 6 (np.map Xb))]),(102,.box [aq,aq,ai 0,ai 0]),(130,.row 5 (q.2.2.map Xk))]⟩) (fun q=>J es-q.1) (0,false,[]) ⟨Nat.zero_le _,by simpa [X3c] using hR⟩
  (ZL0) ?_
 rintro⟨i,b,out⟩ ⟨hi,hg⟩;simp only at hi hg;have dW:=X8V hg;have hroom:J (out.map Xk)<=100001:=Oj
 by_cases hil:i<J es
 case neg=>
  have hn:¬(i:Int)<J (es.map Xk):=Oa
  rw[drop_of_length_le Oa,Xey] at hg;have u6:J R<=J es+1:=bP;cases b with
  |true=>
   exact Yt43
  |false=>
   rw[NI Oc] at hg;subst hg;have hap:(out++[(⟨aJ,nsr,nds,nt,np⟩:Edg)]).map Xk=out.map Xk++[[.v (.int .i64 aJ),.v (.int .i64 nsr),.v (.int .i64 nds),.v (.string (X7 nt)),.sl 6 (np.map Xb)]]:=by simp[Xk]
   exact Yt56
 have hn:(i:Int)<J (es.map Xk):=Oa
 obtain⟨x,hx⟩:=Xn (l:=es) hil;have au:(es.map Xk)[i]? =some (Xk x):=XC hx;have eY:ltI x.id aJ=true->x.id≠aJ:=fun h e=>by rw[e,Vp.irr] at h;cases h
 rw[Xe9 hx eY] at hg;obtain⟨aK,xs,xd,xt,xp⟩:=x;simp only[Xk] at au hg eY;clear hx;cases b with
 |true=>
  rw[NI Oc,nil_append,Bool.true_or] at hg;by_cases hq:aK=aJ
  ·subst hq;rw[PI rfl,nil_append] at hg;refine Qxa ?_;refine⟨(i+1,true,out),⟨Od,hg⟩,Od,?_⟩;dsimp only
   skip
   exact X9 rfl ⟨JL,JL,JL,JL,JL,JL,TV⟩ ⟨rfl,rfl,rfl,rfl,TV⟩
  ·rw[NI hq,<-AS] at hg;have hap:(out++[(⟨aK,xs,xd,xt,xp⟩:Edg)]).map Xk=out.map Xk++[[.v (.int .i64 aK),.v (.int .i64 xs),.v (.int .i64 xd),.v (.string (X7 xt)),.sl 6 (xp.map Xb)]]:=by simp[Xk]
   refine QUa ?_;refine⟨(i+1,true,out++[(⟨aK,xs,xd,xt,xp⟩:Edg)]),⟨Od,hg⟩,Od,?_⟩;dsimp only;rw[hap];exact QSd
 |false=>
  by_cases hp:aK<aJ
  ·have jh:ltI aK aJ=true:=DT hp;have hq:=eY jh;have hp':¬aJ<=aK:=by omega
   rw[jh,NI Oc,NI hq,nil_append,<-AS] at hg;have hap:(out++[(⟨aK,xs,xd,xt,xp⟩:Edg)]).map Xk=out.map Xk++[[.v (.int .i64 aK),.v (.int .i64 xs),.v (.int .i64 xd),.v (.string (X7 xt)),.sl 6 (xp.map Xb)]]:=by simp[Xk]
   refine QUa ?_;refine⟨(i+1,false,out++[(⟨aK,xs,xd,xt,xp⟩:Edg)]),⟨Od,hg⟩,Od,?_⟩;dsimp only;rw[hap];exact QSd
  ·have jh:ltI aK aJ=false:=DF hp;have hp':aJ<=aK:=by omega
   rw[jh,PI ⟨rfl,rfl⟩] at hg;by_cases hq:aK=aJ
   ·subst hq;rw[PI rfl,append_nil,<-AS] at hg;have hap:(out++[(⟨aK,nsr,nds,nt,np⟩:Edg)]).map Xk=out.map Xk++[[.v (.int .i64 aK),.v (.int .i64 nsr),.v (.int .i64 nds),.v (.string (X7 nt)),.sl 6 (np.map Xb)]]:=by simp[Xk]
    refine QUa ?_;refine⟨(i+1,true,out++[(⟨aK,nsr,nds,nt,np⟩:Edg)]),⟨Od,hg⟩,Od,?_⟩;dsimp only;rw[hap];exact QSd
   ·rw[NI hq,AS,<-AS,<-AS] at hg;have hap:(out++[(⟨aJ,nsr,nds,nt,np⟩:Edg)]++[(⟨aK,xs,xd,xt,xp⟩:Edg)]).map Xk=(out.map Xk++[[.v (.int .i64 aJ),.v (.int .i64 nsr),.v (.int .i64 nds),.v (.string (X7 nt)),.sl 6 (np.map Xb)]])++[[.v (.int .i64 aK),.v (.int .i64 xs),.v (.int .i64 xd),.v (.string (X7 xt)),.sl 6 (xp.map Xb)]]:=by simp[Xk]
    refine X4 ?_;refine UK ?_;refine⟨(i+1,true,out++[(⟨aJ,nsr,nds,nt,np⟩:Edg)]++[(⟨aK,xs,xd,xt,xp⟩:Edg)]),⟨Od,hg⟩,Od,?_⟩;dsimp only;rw[hap];exact QSd
end Go.Fw
