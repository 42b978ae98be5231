/- Changes and rules put: the program's. -/
import Derived.KernelRfl
import Derived.Test.YtfmfekakaeafhaaGreatDoorP21
import Derived.Test.YtfmfekakaeafhaaGreatDoorP23
import Derived.Test.YtfmfekakaeafhaaGreatDoorP24
set_option linter.all false
set_option maxHeartbeats 16000000
namespace Go.Fw
open Go Go.Proofs Tryz List
open List renaming length->J
set_option maxRecDepth 100000
def XqT (c:Chg):Con prog 150 [] [Xu c] [] (.d (Xc (cw c))):=by
 refine ZC1 func150 ntmps150 fun E=> ?_;have hc:=X63 c;unfold cw;by_cases h:YE c=0
 ·have hp:=Xne c h;rw[h] at hc;rw[PI h];generalize U3 c=w at*;obtain⟨op,id,src,dst,name,⟨k,n,d,s,l⟩⟩:=c;simp only[Xu] at*;exact QD
 ·rw[NI h];generalize YE c=e at*;obtain⟨op,id,src,dst,name,⟨k,n,d,s,l⟩⟩:=c;simp only[Xu] at*;exact QMa
abbrev cS (s:List UInt8):List D:=[.v (.string (X7 s))]
def X3w (l:List (List UInt8)):List UInt8:=(l.map Ys).flatten
variable{i:Nat}{a e:Int}{b s:List UInt8}{l:List Chg}{x:Chg}{r:Rul}
def Xru {l:List (List UInt8)}{x:List UInt8} (h:l[i]? =some x):X3w (l.take (i+1))=X3w (l.take i)++Ys x:=by
 unfold X3w;rw[take_add_one,h];simp
def X2v (h:J s<=20):J (Ys s)<=30:=by
 have:=X6U (n:=J s) Oa;unfold Ys;rw[LA];omega
def XlL:∀{l:List (List UInt8)},(∀x∈l,J x<=20)->J (X3w l)<=30*J l
 |[],_=>by simp[X3w]
 |x::r,h=>by
  have h1:=X2v (h x Oc);have h2:=XlL (l:=r) fun y hy=>h y I6;unfold X3w at*;simp only[map_cons,flatten_cons,LA,LC];omega
def Xqs (r:Rul) (h:Uu r=0) (hn: -9223372036854775808<=r.n/\r.n<=9223372036854775807) (hl:J r.name<=20/\J r.key<=20/\J r.src<=20/\J r.dst<=20) (hk:1<=r.kind/\r.kind<=7):
  Con prog 208 [] [Yu r] [(130,.row 1 ((VN r).map X6))] (.own 130 (J ((VN r).map X6))):=by
 obtain⟨k,n,name,key,src,dst⟩:=r;simp only at hn hl hk;obtain⟨m,rfl⟩:∃m:Nat,k=m:=⟨k.toNat,Oa⟩
 simp only[Yu] at*;clear h;refine ZC1 func208 ntmps208 fun E=> ?_;have e8:n8 (m%256)=n8 (UInt8.ofNat m).toNat:=Ia
 have hL:∀x∈[name,key,src,dst],J x<=20:=by
  intro x hx;simp only[mem_cons,not_mem_nil,or_false] at hx;rcases hx with rfl|rfl|rfl|rfl<;>omega
 have hput:VN ⟨m,n,name,key,src,dst⟩=(UInt8.ofNat m::X3w [name,key,src,dst])++U5 n:=by
  unfold VN X3w;simp
 have fY:=X7B n hn;have aT:=X8m hn;rw[hput];clear hput;refine W9_ ?_;(refine Z1 (u:=nj m) (r:=n8 (UInt8.ofNat m).toNat) ?_ (hr:=by exact by rw[<-e8];exact Ui rfl rfl));refine Qqc ?_;refine Yh ?_;generalize eC:[name,key,src,dst]=L at*;have vB:J L=4:=by rw[<-eC];rfl
 have hlm:J (L.map cS)=J L:=Oc
 refine Xl (fun i:Nat=>i<=J L) (fun i=>⟨34,[(1,.ptr 100 0),(3,.own 130 (J ((UInt8.ofNat m::X3w (L.take i)).map X6))),(18,.d (.sl 1 (L.map cS))),(19,ai (J (L.map cS))),(20,ai i)],
   [(100,.box [ai m,ai n,.d (.v (.string (X7 name))),.d (.v (.string (X7 key))),.d (.v (.string (X7 src))),.d (.v (.string (X7 dst)))]),(130,.row 1 ((UInt8.ofNat m::X3w (L.take i)).map X6))]⟩) (fun i=>J L-i) 0 Oa
  (by subst eC;exact X9 rfl ⟨JL,JL,JL,JL,JL,TV⟩ ⟨rfl,rfl,TV⟩) ?_
 intro i hi;have hlen:J ((UInt8.ofNat m::X3w (L.take i)).map X6)<=200:=by
  have h1:=XlL (l:=L.take i) fun x hx=>hL x (mem_of_mem_take hx);have h2:J (L.take i)<=4:=Ou
  simp only[LM,LC];omega
 by_cases hil:i<J L
 case neg=>
  obtain rfl:i=J L:=Oa
  rw[take_length] at hlen |-;have dB:¬((J L:Nat):Int)<J (L.map cS):=Oa
  generalize UInt8.ofNat m::X3w L=B at*;generalize U5 n=w at*;refine Yr ?_;refine X3 ⟨_,Xe 2 (y:= .own 130 (J ((B++w).map X6))) (ZzQ ?_),⟨rfl,TV⟩,Xm ⟨?_,TV⟩⟩
  ·refine Qb ?_;congr 1;simp only[LA,LM]<;>omega
  ·refine QKa ?_;simp only[map_append]
 have dB:(i:Int)<J (L.map cS):=Oa
 obtain⟨x,hx⟩:=Xn (l:=L) hil;have bu:(L.map cS)[i]? =some (cS x):=XC hx;have hxl:=hL x (mem_of_getElem? hx);have hps:=X7F x Oa;have uX:=X2v hxl;have cH:=Xru hx;generalize Ys x=w at*;refine XM ?_;refine⟨i+1,Oa,Oa,?_⟩
 try dsimp only
 rw[cH];refine X9 rfl ⟨JL,(by refine ZzQ ?_;refine Eq.trans (b:=AVal.own 130 (_+_)) rfl ?_;congr 1;simp only[LA,LM,LC]<;>omega),JL,JL,JL,TV⟩ ⟨rfl,?_,TV⟩;refine QKa ?_;simp only[map_append,map_cons,cons_append]
def Xci (h:Yc s=true):J s<=20:=by
 unfold Yc at h;simp at h;omega
def X8o (h:Uu r=0):(-9223372036854775808<=r.n/\r.n<=9223372036854775807)/\(J r.name<=20/\J r.key<=20/\J r.src<=20/\J r.dst<=20)/\(1<=r.kind/\r.kind<=7):=by
 rw[Xgq] at h;unfold kE at h;split at h
 ·omega
 rename_i h1;split at h
 ·omega
 rename_i h2;split at h
 ·omega
 rename_i h3;have i1:1<=r.kind/\r.kind<=7:=by
  cases hd:decide (1<=r.kind/\r.kind<=7) with
  |true=>exact of_decide_eq_true hd
  |false=>exact absurd (.inl hd) h1
 have i2:X37 r.kind r.n=true:=by
  cases hd:X37 r.kind r.n with
  |true=>rfl
  |false=>exact absurd (.inr hd) h1
 have nm:Yc r.name=true:=by
  cases hd:Yc r.name with
  |true=>rfl
  |false=>exact absurd (.inl hd) h3
 have ky:J r.key<=20:=by
  by_cases hk:X2w r.kind=true
  ·refine Xci (s:=r.key) ?_;cases hd:Yc r.key with
   |true=>rfl
   |false=>exact absurd (.inr (.inl ⟨hk,hd⟩)) h3
  ·by_cases he:r.key=[]
   ·rw[he];simp
   ·exact absurd (.inl ⟨by simpa using hk,he⟩) h2
 have sr:J r.src<=20:=by
  by_cases he:r.src=[]
  ·rw[he];simp
  ·refine Xci (s:=r.src) ?_;cases hd:Yc r.src with
   |true=>rfl
   |false=>exact absurd (.inr (.inr (.inl ⟨he,hd⟩))) h3
 have ds:J r.dst<=20:=by
  by_cases he:r.dst=[]
  ·rw[he];simp
  ·refine Xci (s:=r.dst) ?_;cases hd:Yc r.dst with
   |true=>rfl
   |false=>exact absurd (.inr (.inr (.inr ⟨he,hd⟩))) h3
 refine⟨?_,⟨Xci nm,ky,sr,ds⟩,i1⟩;unfold X37 at i2;split at i2
 ·have:=of_decide_eq_true i2;omega
 ·split at i2
  ·have:=of_decide_eq_true i2;omega
  ·have:=of_decide_eq_true i2;omega
def Xmn (r:Rul) (h:Uu r=0):Con prog 208 [] [Yu r] [] (.d (Xc (VN r))):=
 (Xqs r h (X8o h).1 (X8o h).2.1 (X8o h).2.2).data Oc
def Xx3 (r:Rul):Con prog 148 [] [Yu r] [] (.d (Xc (cu r))):=by
 refine ZC1 func148 ntmps148 fun E=> ?_;have hc:=X8i r;unfold cu;by_cases h:Uu r=0
 ·have hp:=Xmn r h;rw[h] at hc;rw[PI h];generalize VN r=w at*;obtain⟨k,n,name,key,src,dst⟩:=r;simp only[Yu] at*;exact QD
 ·rw[NI h];generalize Uu r=e at*;obtain⟨k,n,name,key,src,dst⟩:=r;simp only[Yu] at*;exact QMa
def Xp:Chg->List D
 |⟨op,id,src,dst,name,.mk k n d s l⟩=>[.v (.int .i64 op),.v (.int .i64 id),.v (.int .i64 src),.v (.int .i64 dst),.v (.string (X7 name)),.v (.int .i64 k),.v (.int .i64 n),.v (.int .i64 d),.v (.string (X7 s)),.sl 5 (XR l)]
def X4G (c:Chg):Prop:=J c.name<=9223372036854775807/\U1 c.v
def rkS (b:List UInt8) (a:Nat) (e limit:Int):Int×Int×Int:=
 if e≠0 then (0,(a:Int),e) else if J b<=a then (0,(a:Int),3) else
  if ((((b[a]?).getD 0).toNat:Nat):Int)<1\/limit<((((b[a]?).getD 0).toNat:Nat):Int) then (0,(a:Int),2) else ((((b[a]?).getD 0).toNat:Nat),(a:Int)+1,0)
def XtM (b:List UInt8) (a:Nat) (e limit:Int) (hb:J b<=281474976710656) (ha:a<=281474976710656):Con prog 198 [(0,oRd b a e)] [.ptr 0 0,ai limit] [(0,oRd b (rkS b a e limit).2.1 (rkS b a e limit).2.2)] (ai (rkS b a e limit).1):=by
 refine ZC1 func198 ntmps198 fun E=> ?_;have hlm:J (b.map X6)=J b:=Oc
 by_cases he:e=0
 case neg=>
  rw[show rkS b a e limit=(0,(a:Int),e) by unfold rkS;rw[PI he]];exact QLc
 subst he;by_cases h1:J b<=a
 ·rw[show rkS b a 0 limit=(0,(a:Int),3) by unfold rkS;rw[NI Oc,PI h1]];have bY:(J (b.map X6):Int)<=a:=by omega
  exact QVa
 have bY:¬(J (b.map X6):Int)<=a:=Oa
 obtain⟨c,hc⟩:=Xn (l:=b) (k:=a) Oa;have kF:rkS b a 0 limit=if ((c.toNat:Nat):Int)<1\/limit<((c.toNat:Nat):Int) then (0,(a:Int),2) else (((c.toNat:Nat):Int),(a:Int)+1,0):=by
  unfold rkS;rw[NI Oc,NI h1,hc,Option.getD_some]
 have bu:(b.map X6)[a]? =some (X6 c):=XC hc;by_cases h2:((c.toNat:Nat):Int)<1
 ·rw[kF,PI (.inl h2)];refine QBa ?_;exact Qo
 by_cases h3:limit<((c.toNat:Nat):Int)
 ·rw[kF,PI (.inr h3)];refine QBa ?_;exact Qo
 rw[kF,NI Oa];refine QYa ?_;refine W3_ ?_
 (refine Z3 (op:= .sub) (r':=nj a) (u:= .int .i64 ((a:Int)+1)) (v:= .int .i64 1) ?_ (hr':=by exact CG (Value.int .i64) (show((a:Int)+1-1)=(a:Int) by omega)) (hr:=OO))
 refine W5_ ?_;exact Qo
def XuE (b:List UInt8) (a e:Int) (hb:J b<=281474976710656):Con prog 199 [(0,oRd b a e)] [.ptr 0 0] [(0,if e=0 then oRd b (Xd b a).2.1 (Xd b a).2.2 else oRd b a e)] (ai (if e=0 then (Xd b a).1 else 0)):=by
 refine ZC1 func199 ntmps199 fun E=> ?_;by_cases h:e=0
 ·rw[PI h,PI h];have hu:=X7h b a hb;generalize Xd b a=u at*;obtain⟨u1,u2,u3⟩:=u;refine QU ?_;exact Qo
 ·rw[NI h,NI h];refine YA ?_;exact Qo
def rkI (b:List UInt8) (a e limit:Int):Int×Int×Int:=if e≠0 then (0,a,e) else rkS b a.toNat 0 limit
def rnS (b:List UInt8) (a e:Int):Int×Int×Int:=if e≠0 then (0,a,e) else Xd b a
def riS (b:List UInt8) (a e:Int):Int×Int×Int:=if e≠0 then (0,a,e) else Y9 b a
def rsS (b:List UInt8) (a e:Int):List UInt8×Int×Int:=if e≠0 then ([],a,e) else VZ b a 20
def rvS (b:List UInt8) (a e:Int):Val×Int×Int:=if e≠0 then (zV,a,e) else X03 b a
def Xhl (b:List UInt8) (a e limit:Int) (hb:J b<=281474976710656) (ha:e=0->0<=a/\a<=J b):Con prog 198 [(0,oRd b a e)] [.ptr 0 0,ai limit] [(0,oRd b (rkI b a e limit).2.1 (rkI b a e limit).2.2)] (ai (rkI b a e limit).1):=by
 by_cases h:e=0
 ·subst h;obtain⟨m,rfl⟩:∃m:Nat,a=m:=⟨a.toNat,Jl⟩
  have:=ha rfl;have hk:=XtM b m 0 limit hb Oa;rw[show rkI b m 0 limit=rkS b m 0 limit by unfold rkI;simp];exact hk
 ·unfold rkI;rw[PI h];refine ZC1 func198 ntmps198 fun E=> ?_;exact QLc
def Xax (b:List UInt8) (a e:Int) (hb:J b<=281474976710656):Con prog 199 [(0,oRd b a e)] [.ptr 0 0] [(0,oRd b (rnS b a e).2.1 (rnS b a e).2.2)] (ai (rnS b a e).1):=by
 have h:=XuE b a e hb;unfold rnS;by_cases he:e=0
 ·rw[PI he,PI he] at h;rw[NI Jo];exact h
 ·rw[NI he,NI he] at h;rw[PI he];exact h
def X7u (b:List UInt8) (a e:Int) (hb:J b<=281474976710656):Con prog 257 [(0,oRd b a e)] [.ptr 0 0] [(0,oRd b (rsS b a e).2.1 (rsS b a e).2.2)] (Xa (rsS b a e).1):=by
 refine ZC1 func257 ntmps257 fun E=> ?_;have hu:=XiB b a 20 hb;unfold rsS;generalize VZ b a 20=u at*;obtain⟨u1,u2,u3⟩:=u;obtain⟨r,hr⟩:∃r,r=(if e≠0 then (([]:List UInt8),a,e) else (u1,u2,u3)):=⟨_,rfl⟩
 rw[<-hr];refine Yb ?_;refine VI rfl ?_ ?_<;>intro hq;refine VM ?_;(simp[*] at hr;subst hr;exact X3 ⟨_,ZzS,⟨rfl,TV⟩,Xm ⟨rfl,TV⟩⟩);refine W6_ ?_
 (simp[*] at hr;subst hr;exact X3 ⟨_,ZzS,⟨rfl,TV⟩,Xm ⟨rfl,TV⟩⟩)
def UE (b:List UInt8) (a e:Int):Chg×Int×Int:=
 let k:=rkI b a e 8
 let i:=rnS b k.2.1 k.2.2
 let f:=if k.1=6 then rnS b i.2.1 i.2.2 else (0,i.2.1,i.2.2)
 let t:=if k.1=6 then rnS b f.2.1 f.2.2 else (0,f.2.1,f.2.2)
 let s:=if YO k.1=true then rsS b t.2.1 t.2.2 else ([],t.2.1,t.2.2)
 let v:=if YL k.1=true then rvS b s.2.1 s.2.2 else (zV,s.2.1,s.2.2)
 (⟨k.1,i.1,f.1,t.1,s.1,v.1⟩,v.2.1,v.2.2)
def Xpl (b:List UInt8) (a e limit:Int):((rkI b a e limit).1=0/\(rkI b a e limit).2.2≠0)\/(1<=(rkI b a e limit).1/\(rkI b a e limit).1<=limit/\(rkI b a e limit).2.2=0):=by
 unfold rkI;by_cases h:e=0
 ·subst h;rw[NI Oc];unfold rkS;rw[NI Oc];split
  ·exact .inl ⟨rfl,Oc⟩
  ·split
   ·exact .inl ⟨rfl,Oc⟩
   ·exact .inr ⟨Od,Od,rfl⟩
 ·rw[PI h];exact .inl ⟨rfl,h⟩
def Xh3 (h:e≠0):rnS b a e=(0,a,e):=PI h
def XjL (h:e≠0):rsS b a e=([],a,e):=PI h
def Xf9 (h:e≠0):riS b a e=(0,a,e):=PI h
def XnW (h:e≠0):rvS b a e=(zV,a,e):=PI h
theorem XgZ:rvS b a 0=X03 b a:=NI Oc
def Xpm (b:List UInt8) (a e:Int) (hb:J b<=281474976710656) (ha:e=0->0<=a/\a<=J b):Con prog 196 [(0,oRd b a e)] [.ptr 0 0] [(0,oRd b (UE b a e).2.1 (UE b a e).2.2)] (Xu (UE b a e).1):=by
 refine ZC1 func196 ntmps196 fun E=> ?_;have hk:=Xhl b a e 8 hb ha;have hop:=Xpl b a e 8;unfold UE;generalize rkI b a e 8=k at*;obtain⟨op,a1,e1⟩:=k;simp only at hk hop |-;have hf:=XiE op;by_cases h0:op=0
 ·subst h0;have he:e1≠0:=by omega
  have hi:=Xax b a1 e1 hb;have hs:=X7u b a1 e1 hb;rw[Xh3 he] at hi |-;rw[XjL he] at hs;simp only[NI (show ¬(0:Int)=6 by omega),NI (show ¬YO 0=true by decide),NI (show ¬YL 0=true by decide)];simp only[Xu] at*;refine QMc ?_;refine YJ ?_;exact X3 ⟨_,Xg 100 (cs':=[ai 0,ai 0,ai 0,ai 0,Xa [],ai 0,ai 0,ai 0,Xa [],.d (.sl 5 [])]) rfl JM rfl,⟨⟨100,0,_,rfl,rfl,.inr ⟨10,_,rfl,rfl,rfl,rfl⟩⟩,TV⟩,Xm ⟨rfl,TV⟩⟩
 have hop:1<=op/\op<=8/\e1=0:=Oa
 obtain⟨o1,o2,rfl⟩:=hop;have hi:=Xax b a1 0 hb;generalize rnS b a1 0=i at*;obtain⟨id,a2,e2⟩:=i;simp only at hi |-;by_cases h6:op=6
 ·subst h6;simp only[if_true,PI (show YO 6=true by decide),NI (show ¬YL 6=true by decide)];have hs:=Xax b a2 e2 hb;generalize rnS b a2 e2=f at*;obtain⟨src,a3,e3⟩:=f;simp only at hs |-;have hd:=Xax b a3 e3 hb;generalize rnS b a3 e3=t at*;obtain⟨dst,a4,e4⟩:=t;simp only at hd |-;have hn:=X7u b a4 e4 hb;generalize rsS b a4 e4=s at*;obtain⟨name,a5,e5⟩:=s;simp only[Xu] at*;refine U7 ?_;refine Z5 (ag:=hi) ?_;refine XG ?_;refine Z5 (ag:=hs) ?_;refine W5_ ?_;refine Z5 (ag:=hd) ?_;refine XB ?_;refine QQb ?_;refine YJ ?_;exact X3 ⟨_,Xg 100 (cs':=[ai 6,ai id,ai src,ai dst,Xa name,ai 0,ai 0,ai 0,Xa [],.d (.sl 5 [])]) rfl JM rfl,⟨⟨100,0,_,rfl,rfl,.inr ⟨10,_,rfl,rfl,rfl,rfl⟩⟩,TV⟩,Xm ⟨rfl,TV⟩⟩
 simp only[NI h6];by_cases hn:YO op=true
 case neg=>
  have hv:¬YL op=true:=by revert hn;unfold YO YL;simp;omega
  simp only[NI hn,NI hv];have hu:op=1\/op=2\/op=7:=by revert hn;unfold YO;simp;omega
  rcases hu with rfl|rfl|rfl
  ·simp only[Xu] at*;exact QNc
  ·simp only[Xu] at*;exact QNc
  ·simp only[Xu] at*;exact QNc
 simp only[PI hn];have hs:=X7u b a2 e2 hb;generalize rsS b a2 e2=s at*;obtain⟨name,a3,e3⟩:=s;simp only at hs |-;by_cases hv:YL op=true
 case neg=>
  simp only[NI hv];have hu:op=3\/op=4:=by revert hn hv;unfold YO YL;simp;omega
  rcases hu with rfl|rfl
  ·simp only[Xu] at*;exact QOc
  ·simp only[Xu] at*;exact QOc
 simp only[PI hv];have hu:op=5\/op=8:=by revert hv;unfold YL;simp
 by_cases he:e3=0
 ·subst he;rw[XgZ];have hr:=Xz2 b hb a3;generalize X03 b a3=v at*;obtain⟨⟨vk,vn,vd,vs,vl⟩,a4,e4⟩:=v;rcases hu with rfl|rfl
  ·simp only[Xu,Xt] at*;refine QMc ?_;refine Qxa ?_;exact QPc
  ·simp only[Xu,Xt] at*;refine QMc ?_;refine Qxa ?_;exact QPc
 ·rw[XnW he];rcases hu with rfl|rfl
  ·simp only[Xu] at*;exact QOc
  ·simp only[Xu] at*;exact QOc
def VW (b:List UInt8) (a e:Int):Rul×Int×Int:=
 let k:=rkI b a e 7
 let n:=rsS b k.2.1 k.2.2
 let y:=rsS b n.2.1 n.2.2
 let s:=rsS b y.2.1 y.2.2
 let d:=rsS b s.2.1 s.2.2
 let i:=riS b d.2.1 d.2.2
 (⟨k.1,i.1,n.1,y.1,s.1,d.1⟩,i.2.1,i.2.2)
theorem Xbl:riS b a 0=Y9 b a:=NI Oc
def Xw2 (b:List UInt8) (a e:Int) (hb:J b<=281474976710656) (ha:e=0->0<=a/\a<=J b):Con prog 195 [(0,oRd b a e)] [.ptr 0 0] [(0,oRd b (VW b a e).2.1 (VW b a e).2.2)] (Yu (VW b a e).1):=by
 refine ZC1 func195 ntmps195 fun E=> ?_;have hk:=Xhl b a e 7 hb ha;unfold VW;generalize rkI b a e 7=k at*;obtain⟨kd,a1,e1⟩:=k;simp only at hk |-;have h1:=X7u b a1 e1 hb;generalize rsS b a1 e1=u1 at*;obtain⟨s1,a2,e2⟩:=u1;simp only at h1 |-;have h2:=X7u b a2 e2 hb;generalize rsS b a2 e2=u2 at*;obtain⟨s2,a3,e3⟩:=u2;simp only at h2 |-;have h3:=X7u b a3 e3 hb;generalize rsS b a3 e3=u3 at*;obtain⟨s3,a4,e4⟩:=u3;simp only at h3 |-;have h4:=X7u b a4 e4 hb;generalize rsS b a4 e4=u4 at*;obtain⟨s4,a5,e5⟩:=u4;simp only[Yu] at h4 |-;refine YV ?_;refine XwU (hg:=JSa) (hx:=JSb) (hT:=JSb) (hd:=JSb) ?_;refine W3_ ?_;refine Xl (ι:=Nat) (fun i=>i<=4) (fun i=>⟨52,[(0,.ptr 0 0),(2,.ptr 100 0),(3,.ptr 101 0),(14,.bsl 102 4),(15,ai 4),(16,ai i)],match i with
   |0=>[(0,oRd b a1 e1),(100,.box [ai 0,ai 0,Xa [],Xa [],Xa [],Xa []]),(101,.box [ai kd,ai 0,Xa [],Xa [],Xa [],Xa []]),(102,.box [.ptr 101 2,.ptr 101 3,.ptr 101 4,.ptr 101 5])]
   |1=>[(0,oRd b a2 e2),(100,.box [ai 0,ai 0,Xa [],Xa [],Xa [],Xa []]),(101,.box [ai kd,ai 0,Xa s1,Xa [],Xa [],Xa []]),(102,.box [.ptr 101 2,.ptr 101 3,.ptr 101 4,.ptr 101 5])]
   |2=>[(0,oRd b a3 e3),(100,.box [ai 0,ai 0,Xa [],Xa [],Xa [],Xa []]),(101,.box [ai kd,ai 0,Xa s1,Xa s2,Xa [],Xa []]),(102,.box [.ptr 101 2,.ptr 101 3,.ptr 101 4,.ptr 101 5])]
   |3=>[(0,oRd b a4 e4),(100,.box [ai 0,ai 0,Xa [],Xa [],Xa [],Xa []]),(101,.box [ai kd,ai 0,Xa s1,Xa s2,Xa s3,Xa []]),(102,.box [.ptr 101 2,.ptr 101 3,.ptr 101 4,.ptr 101 5])]
   |_=>[(0,oRd b a5 e5),(100,.box [ai 0,ai 0,Xa [],Xa [],Xa [],Xa []]),(101,.box [ai kd,ai 0,Xa s1,Xa s2,Xa s3,Xa s4]),(102,.box [.ptr 101 2,.ptr 101 3,.ptr 101 4,.ptr 101 5])]⟩) (fun i=>4-i) 0 Oa
  (X9 rfl ⟨JL,JL,JL,JL,JL,JL,TV⟩ ⟨rfl,rfl,rfl,rfl,TV⟩) ?_
 intro i hi
 match i,hi with
 |0,_=>
  refine QQc ?_;refine Z5 (ag:=h1) ?_;refine W7_ ?_;exact⟨1,Oa,Oa,X9 rfl ⟨JL,JL,JL,JL,JL,JL,TV⟩ ⟨rfl,rfl,rfl,rfl,TV⟩⟩
 |1,_=>
  refine QQc ?_;refine Z5 (ag:=h2) ?_;refine W7_ ?_;exact⟨2,Oa,Oa,X9 rfl ⟨JL,JL,JL,JL,JL,JL,TV⟩ ⟨rfl,rfl,rfl,rfl,TV⟩⟩
 |2,_=>
  refine QQc ?_;refine Z5 (ag:=h3) ?_;refine W7_ ?_;exact⟨3,Oa,Oa,X9 rfl ⟨JL,JL,JL,JL,JL,JL,TV⟩ ⟨rfl,rfl,rfl,rfl,TV⟩⟩
 |3,_=>
  refine QQc ?_;refine Z5 (ag:=h4) ?_;refine W7_ ?_;exact⟨4,Oa,Oa,X9 rfl ⟨JL,JL,JL,JL,JL,JL,TV⟩ ⟨rfl,rfl,rfl,rfl,TV⟩⟩
 |4,_=>
  by_cases he:e5=0
  ·subst he;have hi:=XiX b a5 hb;rw[Xbl];generalize Y9 b a5=u5 at*;obtain⟨n,a6,e6⟩:=u5;refine QU ?_;exact QRc
  ·rw[Xf9 he];refine Us ?_;exact QRc
def roS (b:List UInt8) (a e:Int):Bool×Int×Int:=
 if e≠0 then (false,a,e) else if (J b:Int)<=a then (false,a,3) else
  if 1<((b[a.toNat]?).getD 0).toNat then (false,a,2) else (decide ((((b[a.toNat]?).getD 0).toNat:Int)=1),a+1,0)
def XpW (b:List UInt8) (a e:Int) (hb:J b<=281474976710656) (ha:e=0->0<=a/\a<=J b):Con prog 200 [(0,oRd b a e)] [.ptr 0 0] [(0,oRd b (roS b a e).2.1 (roS b a e).2.2)] (ab (roS b a e).1):=by
 refine ZC1 func200 ntmps200 fun E=> ?_;have hlm:J (b.map X6)=J b:=Oc
 unfold roS;by_cases he:e=0
 case neg=>
  rw[PI he];exact QLc
 subst he;obtain⟨m,rfl⟩:∃m:Nat,a=m:=⟨a.toNat,Jl⟩
 rw[NI Oc,Int.toNat_natCast];by_cases h1:(J b:Int)<=m
 ·rw[PI h1];have bY:(J (b.map X6):Int)<=m:=by omega
  exact QVa
 rw[NI h1];have bY:¬(J (b.map X6):Int)<=m:=Oa
 obtain⟨c,hc⟩:=Xn (l:=b) (k:=m) Oa;have bu:(b.map X6)[m]? =some (X6 c):=XC hc;rw[hc,Option.getD_some];by_cases h2:1<c.toNat
 ·rw[PI h2];refine Qab ?_;exact Qo
 rw[NI h2];refine X4 ?_;refine U7 ?_
 (refine Z3 (op:= .sub) (r':=nj m) (u:= .int .i64 ((m:Int)+1)) (v:= .int .i64 1) ?_ (hr':=by exact CG (Value.int .i64) (show((m:Int)+1-1)=(m:Int) by omega)) (hr:=OO))
 refine W5_ ?_;exact Qo
def X4h:X8W prog 68=some [.i .i64,.i .i64,.s,.s,.s,.s]:=Oh
def Um:Rcd->AVal
 |⟨kd,ts,l,⟨k,n,name,key,src,dst⟩,off⟩=> .agg [ai kd,ai ts,.d (.sl 10 (l.map Xp)),ai k,ai n,Xa name,Xa key,Xa src,Xa dst,ab off]
def X0z (r:Rcd):Prop:=J r.changes<=9223372036854775807/\∀c∈r.changes,X4G c
theorem Xq9 (s:List UInt8):(X7 s).data.toList=s:=by simp[X7]
def eqZ (k n:Int) (name key src dst:List UInt8):X2g [.int .i64 k,.int .i64 n,.string (X7 name),.string (X7 key),.string (X7 src),.string (X7 dst)] [.int .i64 0,.int .i64 0,.string (X7 []),.string (X7 []),.string (X7 []),.string (X7 [])]=X59 ⟨k,n,name,key,src,dst⟩:=by
 unfold X59;simp only[X2g,X5w,Xq9,Bool.and_true];by_cases h1:k=0<;>by_cases h2:n=0<;>by_cases h3:name=[]<;>by_cases h4:key=[]<;>by_cases h5:src=[]<;>by_cases h6:dst=[]<;>simp[*]
def XoY (h:l[i]? =some x):X24 (l.drop i)=if YE x≠0 then YE x else X24 (l.drop (i+1)):=by
 rw[drop_eq_getElem_cons (GS.1 h).1,(GS.1 h).2,X24]
def XdC (r:Rcd) (hok:X0z r):Con prog 108 [] [Um r] [] (ai (UO r)):=by
 obtain⟨kd,ts,l,⟨k,n,name,key,src,dst⟩,off⟩:=r;obtain⟨hlen,gP⟩:=hok;simp only at hlen gP;have hlm:J (l.map Xp)=J l:=Oc
 refine ZC1 func108 ntmps108 fun E=> ?_;have hz:=eqZ k n name key src dst;have hr:=X8i ⟨k,n,name,key,src,dst⟩;unfold UO;simp only[Um,Yu] at hr |-;generalize X59 ⟨k,n,name,key,src,dst⟩=z at*;generalize Uu ⟨k,n,name,key,src,dst⟩=re at*;by_cases h1:¬(1<=kd/\kd<=3/\0<=ts/\ts<=1000000000000000)
 ·rw[PI h1];refine XG ?_;refine Ye rfl rfl ?_ ?_<;>intro hq;exact QD;refine W5_ ?_;refine Ye rfl rfl ?_ ?_<;>intro hq;exact QFa;refine W5_ ?_;refine Ye rfl rfl ?_ ?_<;>intro hq;refine XA ?_;exact Zr0;refine XA ?_;exact Zr0
 rw[NI h1];by_cases h2:(kd≠1/\0<J l)\/(kd≠2/\(off=true\/z=false))
 ·rw[PI h2];refine X04 ?_;refine Ye rfl rfl ?_ ?_<;>intro hq;refine W6_ ?_;refine Ye rfl rfl ?_ ?_<;>intro hq;refine W4_ ?_;refine Qva ?_;exact QE;refine W7_ ?_;refine X5f rfl rfl ?_ ?_<;>intro hq;exact Qe;refine W3_ ?_;refine QSc ?_;refine W4_ ?_;refine YQ rfl ?_ ?_<;>intro hq;exact QG;refine YS ?_;(exfalso;clear hr hz;simp_all<;>omega);refine XK ?_;refine X5f rfl rfl ?_ ?_<;>intro hq;exact Qe;refine W3_ ?_;refine QSc ?_;refine W4_ ?_;refine YQ rfl ?_ ?_<;>intro hq;exact QG;refine YS ?_;(exfalso;clear hr hz;simp_all<;>omega)
 rw[NI h2];by_cases h3:kd=2
 ·subst h3;rw[PI rfl];have h4:¬0<J l:=by omega
  refine QHa ?_;refine Qu ?_;exact Ql
 rw[NI h3];have pT:off=false/\z=true:=by cases off<;>cases z<;>simp_all
 obtain⟨ho,cE⟩:=pT;have hk:kd=1\/(kd=3/\¬0<J l):=Oa
 rcases hk with cq|⟨cq,hn0⟩
 case inr=>
  obtain rfl:l=[]:=eq_nil_of_length_eq_zero Oa;clear h2 hlm gP hlen;refine QU ?_;refine QTc ?_
  refine Xl (ι:=Nat) (fun i=>i=0) (fun i=>⟨71,[(1,.ptr 100 0),(55,.d (.sl 10 [])),(56,ai 0),(57,ai i)],[(100,.box [ai kd,ai ts,.d (.sl 10 []),ai k,ai n,Xa name,Xa key,Xa src,Xa dst,ab off])]⟩) (fun i=>0) 0 rfl
   (ZL0) ?_
  rintro i rfl;exact Ql
 generalize hG:X24 l=G;refine QU ?_;refine QTc ?_
 refine Xl (ι:=Nat) (fun i=>i<=J l/\X24 (l.drop i)=G) (fun i=>⟨71,[(1,.ptr 100 0),(55,.d (.sl 10 (l.map Xp))),(56,ai (J (l.map Xp))),(57,ai i)],[(100,.box [ai kd,ai ts,.d (.sl 10 (l.map Xp)),ai k,ai n,Xa name,Xa key,Xa src,Xa dst,ab off])]⟩) (fun i=>J l-i) 0 ⟨Oa,hG⟩
  (ZL0) ?_
 rintro i ⟨hi,hg⟩;by_cases hil:i<J l
 case neg=>
  obtain rfl:i=J l:=Oa
  rw[drop_length,X24] at hg;subst hg;rw[NI Oc];have hn:¬((J l:Nat):Int)<J (l.map Xp):=Oa
  by_cases hb:1000<J l
  ·rw[PI hb];exact QD
  ·rw[NI hb];exact Ql
 have hn:(i:Int)<J (l.map Xp):=Oa
 obtain⟨x,hx⟩:=Xn (l:=l) hil;have au:(l.map Xp)[i]? =some (Xp x):=XC hx;have jY:=gP x (mem_of_getElem? hx);have aA:=X63 x;rw[XoY hx] at hg;generalize YE x=e at*;obtain⟨op,id,dZ,e7,cK,⟨xk,xn,xd,xs,xl⟩⟩:=x;simp only[Xu,Xp] at aA au;by_cases he:e=0
 ·subst he;rw[NI Oc] at hg;refine UA ?_;exact Qfc
 ·rw[PI he] at hg;subst hg;rw[PI he];refine UA ?_;exact Zr0
def Xj3:∀{l:List Chg},X24 l=0->∀c∈l,YE c=0
 |[],_,c,hc=>by simp at hc
 |x::r,h,c,hc=>by
  rw[X24] at h;by_cases hx:YE x=0
  ·rw[NI (by simpa using hx)] at h;rcases mem_cons.1 hc with rfl|hc
   ·exact hx
   ·exact Xj3 h c hc
  ·rw[PI hx] at h;exact absurd h hx
def XeV {r:Rcd} (h:UO r=0):(r.kind=1\/r.kind=2\/r.kind=3)/\(0<=r.ts/\r.ts<=1000000000000000)/\(r.kind≠2->(∀c∈r.changes,YE c=0)/\J r.changes<=1000)/\(r.kind=2->Uu r.rule=0)/\(r.kind≠1->r.changes=[])/\(r.kind≠2->r.off=false/\X59 r.rule=true):=by
 unfold UO at h;split at h
 ·omega
 rename_i h1;split at h
 ·omega
 rename_i h2;refine⟨Oa,Oa,fun hk=> ?_,fun hk=> ?_,fun hk=> ?_,fun hk=> ?_⟩
 ·rw[NI hk] at h;split at h
  ·omega
  ·rename_i h3;split at h
   ·omega
   ·exact⟨Xj3 Jp,Oa⟩
 ·rwa [PI hk] at h
 ·exact eq_nil_of_length_eq_zero Oa
 ·cases ho:r.off<;>cases hz:X59 r.rule<;>simp[ho,hz,hk] at h2 |-
theorem Xjw:X0A []=[]:=rfl
def Xkw (h:l[i]? =some x):X0A (l.take (i+1))=X0A (l.take i)++U3 x:=by
 unfold X0A;rw[take_add_one,h];simp
def X0g {n:Int} (h:0<=n/\n<=9223372036854775807):J (Xq n)<=10:=by
 rw[X2z h.1];exact X2n Oa
def X5X {c:Chg} (h:YE c=0):J (U3 c)<=200:=by
 obtain⟨h1,h2,h3,h4,h5⟩:=XbQ h;unfold U3;have p1:=X0g (n:=c.id) Oa;have p2:J (if c.op=6 then Xq c.src++Xq c.dst else [])<=20:=by
  split
  ·rename_i h6;have q1:=X0g (n:=c.src) (by have:=h3 h6;omega);have q2:=X0g (n:=c.dst) (by have:=h3 h6;omega);rw[LA];omega
  ·simp
 have p3:J (if YO c.op=true then Ys c.name else [])<=30:=by
  split
  ·rename_i h6;exact X2v (h4 h6)
  ·simp
 have p4:J (if YL c.op=true then UP c.v else [])<=111:=by
  split
  ·rename_i h6;unfold UP;rw[PI (h5 h6).1];exact(h5 h6).2
  ·simp
 simp only[LC,LA];omega
def Xdj:∀{l:List Chg},(∀c∈l,YE c=0)->J (X0A l)<=200*J l
 |[],_=>by simp[X0A]
 |x::r,h=>by
  have h1:=X5X (h x Oc);have h2:=Xdj (l:=r) fun y hy=>h y I6;unfold X0A at*;simp only[map_cons,flatten_cons,LA,LC];omega
def X5Z (h:Uu r=0):J (VN r)<=200:=by
 obtain⟨h1,⟨l1,l2,l3,l4⟩,h3⟩:=X8o h;have:=X2v l1;have:=X2v l2;have:=X2v l3;have:=X2v l4;have:=X8m h1;unfold VN;simp only[LC,LA];omega
def Xy4 (r:Rcd) (hok:X0z r):Con prog 241 [] [Um r] [] (.d (Xc (X0e r))):=by
 have hc:=XdC r hok;obtain⟨hlen,gP⟩:=hok;unfold X0e;by_cases h:UO r=0
 case neg=>
  rw[NI h];generalize UO r=e at*;obtain⟨kd,ts,l,⟨k,n,name,key,src,dst⟩,off⟩:=r;simp only[Um] at*;refine ZC1 func241 ntmps241 fun E=> ?_;exact QMa
 rw[PI h];rw[h] at hc;obtain⟨fZ,hts,h1,h2,h3,h4⟩:=XeV h;clear h;obtain⟨kd,ts,l,⟨k,n,name,key,src,dst⟩,off⟩:=r;simp only at hlen gP fZ hts h1 h2 h3 h4;have mh:=X3f ts Oa;have tQ:=X0g (n:=ts) Oa;have hlm:J (l.map Xp)=J l:=Oc
 by_cases k3:kd=3
 ·subst k3;obtain rfl:=h3 Oi;have hput:X1c ⟨3,ts,[],⟨k,n,name,key,src,dst⟩,off⟩=UInt8.ofNat 3::Xq ts:=by unfold X1c;simp
  rw[hput];generalize Xq ts=w0 at*;simp only[Um] at*;refine ZC1 func241 ntmps241 fun E=> ?_;refine QCc ?_;refine UK ?_;refine QUc ?_;exact QVc
 by_cases k2:kd=2
 ·subst k2;obtain rfl:=h3 Oi;have h2:=h2 rfl;have tR:=Xmn ⟨k,n,name,key,src,dst⟩ h2;have hlr:=X5Z h2;have hput:X1c ⟨2,ts,[],⟨k,n,name,key,src,dst⟩,off⟩=UInt8.ofNat 2::(Xq ts++(VN ⟨k,n,name,key,src,dst⟩++[if off then 1 else 0])):=by unfold X1c;simp
  rw[hput];generalize Xq ts=w0 at*;generalize VN ⟨k,n,name,key,src,dst⟩=w1 at*;simp only[Um,Yu] at*;cases off with
  |true=>
   refine ZC1 func241 ntmps241 fun E=> ?_;refine QBc ?_;refine X4 ?_;refine W8_ ?_;refine QUc ?_;exact QWc
  |false=>
   refine ZC1 func241 ntmps241 fun E=> ?_;refine QBc ?_;refine QHa ?_;refine QUc ?_;exact QXc
 have k1:kd=1:=Oa
 subst k1;obtain⟨h1,hl⟩:=h1 Oi;have aT:=X3f (J l:Nat) Oa;have bz:=X0g (n:=(J l:Nat)) Oa;have hput:X1c ⟨1,ts,l,⟨k,n,name,key,src,dst⟩,off⟩=UInt8.ofNat 1::(Xq ts++Xq (J l:Nat))++X0A l:=by unfold X1c;simp
 rw[hput];clear hput h2 h3 h4 fZ k2 k3;rw[<-hlm] at aT;rw[<-hlm] at bz |-;generalize Xq ts=w0 at*;generalize Xq (J (l.map Xp):Nat)=w1 at*;simp only[Um] at*;refine ZC1 func241 ntmps241 fun E=> ?_;refine QAc ?_;refine X17 ?_;generalize hA:UInt8.ofNat 1::(w0++w1)=A at*;have fu:J A<=21:=by rw[<-hA];simp only[LC,LA];omega
 refine Xl (ι:=Nat) (fun i=>i<=J l) (fun i=>⟨55,[(1,.ptr 100 0),(3,.own 130 (J ((A++X0A (l.take i)).map X6))),(28,.d (.sl 10 (l.map Xp))),(29,ai (J (l.map Xp))),(30,ai i)],[(100,.box [ai 1,ai ts,.d (.sl 10 (l.map Xp)),ai k,ai n,Xa name,Xa key,Xa src,Xa dst,ab off]),(130,.row 1 ((A++X0A (l.take i)).map X6))]⟩) (fun i=>J l-i) 0 Oa
  (by
   rw[take_zero,Xjw];subst hA;exact X9 rfl ⟨JL,Oo,JL,JL,JL,TV⟩ ⟨rfl,Ot,TV⟩) ?_
 intro i hi;have hrow:J ((A++X0A (l.take i)).map X6)<=300000:=by
  exact Yt58
 by_cases hil:i<J l
 case neg=>
  obtain rfl:i=J l:=Oa
  rw[take_length] at hrow |-;have hn:¬((J l:Nat):Int)<J (l.map Xp):=Oa
  generalize A++X0A l=B at*;refine QYc ?_;refine X8 (XX 2 130 rfl rfl rfl) ?_;exact Zr0
 have hn:(i:Int)<J (l.map Xp):=Oa
 obtain⟨x,hx⟩:=Xn (l:=l) hil;have au:(l.map Xp)[i]? =some (Xp x):=XC hx;have fP:=h1 x (mem_of_getElem? hx);have aA:=Xne x fP;have hxl:=X5X fP;have cH:=Xkw hx;generalize U3 x=w at*;obtain⟨op,id,dZ,e7,cK,⟨xk,xn,xd,xs,xl⟩⟩:=x;simp only[Xu,Xp] at aA au;generalize hB:A++X0A (l.take i)=B at*;refine YT ?_;refine⟨i+1,Oa,Oa,?_⟩;dsimp only;rw[cH,<-AS,hB];exact X9 rfl ⟨JL,Oo,JL,JL,JL,TV⟩ ⟨rfl,Ot,TV⟩
def X10:prog.cellsOf 3=1:=Oh
end Go.Fw
