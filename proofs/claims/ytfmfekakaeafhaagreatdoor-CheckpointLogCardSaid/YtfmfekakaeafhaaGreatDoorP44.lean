/- Headers of the program: padded bytes, sectors, a header read. -/
import Derived.Test.YtfmfekakaeafhaaGreatDoorP38
import Derived.Test.YtfmfekakaeafhaaGreatDoorP40
set_option linter.all false
set_option maxHeartbeats 128000000
namespace Go.Fw
open Go Go.Proofs Tryz List
open List renaming length->J
set_option maxRecDepth 100000
def XiU (b:List UInt8) (hb:J b<=1000000):Con prog 89 [] [.d (Xc b)] [(130,.row 1 ((YI b).map X6))] (.own 130 (J ((YI b).map X6))):=by
 refine ZC1 func89 ntmps89 fun E=> ?_;unfold Xc;rw[<-Xh5];have hlm:J (b.map X6)=J b:=LM ..;rw[<-hlm] at hb |-;generalize b.map X6=xs at*;clear hlm;obtain⟨N,hN⟩:∃N,(J xs+63)/64*64=N:=⟨_,rfl⟩
 obtain⟨k,hk⟩:∃k,(64-J xs%64)%64=k:=⟨_,rfl⟩
 have rU:N=J xs+k:=Oa
 rw[hk];have hmin:J xs=min (J xs) (J (replicate N cL)):=by rw[length_replicate];omega
 have hrow:xs.take (J xs)++(replicate N cL).drop (J xs)=xs++replicate k cL:=by rw[take_length,drop_replicate,rU,Nat.add_sub_cancel_left]
 have ax:N=J (xs++replicate k cL):=by rw[LA,length_replicate];exact rU
 have lJ:N<=1000100:=Oa
 clear hk;refine W8_ ?_;refine ZBA (J xs) 64 ?_;refine ZBs (((J xs+64):Nat):Int) ((1:Nat):Int) (((J xs+63):Nat):Int) ?_;refine ZBq (J xs+63) 64 ?_
 (refine Z3 (op:= .mul) (r':=ni N) (u:=ni ((J xs+63)/64)) (v:=ni 64) ?_ (hr':=by exact CG ni hN) (hr:=OU))
 refine QOa ?_;refine W6_ ?_;refine Xb4 (m:=J xs) (hg:=JSa) (hx:=JSb) (hL:=JSb) (hn:=JSe) (hy:=JSb) (hT:=JSb) (hd:=JSb) ?_ (hm:=by exact hmin);refine W6_ ?_;exact X3 ⟨_,Xe 2 (y:= .own 130 (J (xs++replicate k cL))) (ZzQ (by refine Eq.trans (b:=AVal.own 130 N) rfl ?_;rw[<-ax])),⟨rfl,TV⟩,Xm ⟨CG (AObj.row 1) hrow,TV⟩⟩
def Xow (b:List UInt8) (hb:J b<=1000000):Con prog 89 [] [.d (Xc b)] [] (.d (Xc (YI b))):=(XiU b hb).data rfl
def Xko (b:List UInt8):4<=J (Yx b):=by
 unfold Yx X0J;simp only[LA,LC,length_nil];omega
def XiO {a b c e:Int} (h:∀x∈[a,b,c,e],0<=x/\x<=9223372036854775807):J (YI (VX a b c e))=64/\(YI (VX a b c e)).set 63 1=Vj a b c e:=by
 have h1:=Xdp a b c e h;have h2:4<=J (VX a b c e):=Xko _;unfold YI Vj;generalize VX a b c e=F at*;refine⟨by rw[LA,length_replicate];omega,?_⟩;rw[set_append_right _ _ Oa,show(64-J F%64)%64=(63-J F)+1 by omega,replicate_succ',set_append_right _ _ (by rw[length_replicate];omega),length_replicate,show 63-J F-(63-J F)=0 by omega];rfl
def XgI (a b c e:Int) (h:∀x∈[a,b,c,e],0<=x/\x<=9223372036854775807):Con prog 92 [] [.agg [ai a,ai b,ai c,ai e]] [] (.d (Xc (Vj a b c e))):=by
 refine ZC1 func92 ntmps92 fun E=> ?_;obtain⟨s1,s2⟩:=XiO h;have hu:=XeN fun x hx=>(h x hx).2;have hf:=XhS (X0n [a,b,c,e]) (by simp only[LC,length_nil] at hu;omega);have hF:=Xdp a b c e h;have hp:Con prog 89 [] [.d (Xc (VX a b c e))] [(132,.row 1 ((YI (VX a b c e)).map X6))] (.own 132 (J ((YI (VX a b c e)).map X6))):=YU 130 132 (XiU (VX a b c e) Oa);rw[show Yx (X0n [a,b,c,e])=VX a b c e from rfl] at hf;have s4:J ((YI (VX a b c e)).map X6)=64:=by rw[LM];exact s1
 have s3:((YI (VX a b c e)).map X6).take 63++[[D.v (.int .u8 1)]]++((YI (VX a b c e)).map X6).drop (63+1)=(Vj a b c e).map X6:=by
  rw[<-s2,map_set,set_eq_take_append_cons_drop,PI Oa,AS];rfl
 unfold Xc at*;rw[<-s3];clear s1 s2 s3 hF;generalize (YI (VX a b c e)).map X6=P at*;generalize (VX a b c e).map X6=F at*;have lI:J [a,b,c,e]=4:=rfl;have kQ:[[D.v (.int .i64 a)],[D.v (.int .i64 b)],[D.v (.int .i64 c)],[D.v (.int .i64 e)]]=[a,b,c,e].map cI:=rfl;refine V4 ?_;refine X8 (Uo 3 130 1 rfl rfl rfl) ?_;generalize [a,b,c,e]=l at*
 refine Xl (fun i:Nat=>i<=J l) (fun i=>⟨35,[(3,.own 130 (J ((X0n (l.take i)).map X6))),(15,.d (.sl 1 (l.map cI))),(16,ai (J (l.map cI))),(17,ai i)],[(130,.row 1 ((X0n (l.take i)).map X6))]⟩) (fun i=>J l-i) 0 (Nat.zero_le _)
  (X9 rfl ⟨JL,ZzQ (by rw[<-kQ];rfl),ZzQ (by rw[<-kQ];rfl),JL,TV⟩ ⟨rfl,TV⟩) ?_
 clear kQ;intro i hi;have hlm:J (l.map cI)=J l:=Oc
 by_cases hil:i<J l
 case neg=>
  obtain rfl:i=J l:=Oa
  have hn:¬((J l:Nat):Int)<J (l.map cI):=Oa
  rw[take_length];refine W8_ ?_;refine Qdc ?_;refine X8 (XX 3 130 rfl rfl rfl) ?_;refine XB ?_;refine ZBs ((J P:Nat):Int) ((1:Nat):Int) ((63:Nat):Int) ?_;refine W8_ ?_;refine X8 (XI 132 rfl) ?_;refine X8 (XX 2 132 rfl rfl (by simp only[LA,LT,LD,LC,length_nil];omega)) ?_
  (exact Zz2)
 have hn:(i:Int)<J (l.map cI):=Oa
 obtain⟨x,qp⟩:=Xn (l:=l) hil;have au:(l.map cI)[i]? =some (cI x):=XC qp;have rV:=(h x (mem_of_getElem? qp)).2;have hc:=X3f x rV;have hlen:=XeN (l:=l.take i) fun y hy=>(h y (mem_of_mem_take hy)).2;have ay:=Xiy rV;have hlt:J (l.take i)<=4:=Oz
 have hroom:J ((X0n (l.take i)).map X6)<=10000:=Oj
 have sN:J ((Xq x).map X6)<=10:=Oj
 have bA:=XrR qp;clear hf hp h hu hlen ay;generalize X0n (l.take i)=u at*;unfold Xc at hc;generalize Xq x=v at*;simp only[cI] at au;refine XM ?_;refine⟨i+1,hil,Oa,?_⟩;rw[bA];exact X9 rfl ⟨ZzQ Ol,JL,JL,JL,TV⟩ ⟨rfl,TV⟩
def X9k (h:Int×Int×Int×Int):AVal:= .agg [ai h.1,ai h.2.1,ai h.2.2.1,ai h.2.2.2]
def Xpo (b:List UInt8) (hb:J b<=1000):Con prog 73 [] [.d (Xc b)] [] (.tup [X9k (UM b).1,ab (UM b).2]):=by
 refine ZCt func73 ntmps73 fun E=> ?_;have hun:=Xhy b 0 Oa;have fL:=X8D b 0;unfold UM;generalize Y8 b 0=u at*;obtain⟨c,u2,u3⟩:=u;simp only[X7E] at*;by_cases q:u3=0
 case neg=>
  rw[PI q];simp only[X9k];refine UI ?_;exact Qve
 subst q;rw[NI Oc];have n0:Con prog 129 [(101,oC ⟨0,c,0,0⟩)] [.ptr 101 0] [(101,oC (Ym ⟨0,c,0,0⟩).2)] (ai (Ym ⟨0,c,0,0⟩).1):=YU 0 101 (X6E ⟨0,c,0,0⟩ Od);have hP:X5N ⟨0,c,0,0⟩=(((Ym ⟨0,c,0,0⟩).1,(Ym (Ym ⟨0,c,0,0⟩).2).1,(Ym (Ym (Ym ⟨0,c,0,0⟩).2).2).1,(Ym (Ym (Ym (Ym ⟨0,c,0,0⟩).2).2).2).1),(Ym (Ym (Ym (Ym ⟨0,c,0,0⟩).2).2).2).2):=rfl;rw[hP];clear hP;have c1:=(X16.keep ⟨0,c,0,0⟩).2;obtain⟨m1,e1,b1⟩:=X4s ⟨0,c,0,0⟩;rw[e1] at n0 |-;generalize (Ym ⟨0,c,0,0⟩).2=s1 at*;have n1:Con prog 129 [(101,oC s1)] [.ptr 101 0] [(101,oC (Ym s1).2)] (ai (Ym s1).1):=YU 0 101 (X6E s1 (by rw[c1];simp only;omega));have c2:=(X16.keep s1).2.trans c1;obtain⟨m2,e2,b2⟩:=X4s s1;rw[e2] at n1 |-;generalize (Ym s1).2=s2 at*;have n2:Con prog 129 [(101,oC s2)] [.ptr 101 0] [(101,oC (Ym s2).2)] (ai (Ym s2).1):=YU 0 101 (X6E s2 (by rw[c2];simp only;omega));have c3:=(X16.keep s2).2.trans c2;obtain⟨m3,e3,b3⟩:=X4s s2;rw[e3] at n2 |-;generalize (Ym s2).2=s3 at*;have n3:Con prog 129 [(101,oC s3)] [.ptr 101 0] [(101,oC (Ym s3).2)] (ai (Ym s3).1):=YU 0 101 (X6E s3 (by rw[c3];simp only;omega));have c4:=(X16.keep s3).2.trans c3;obtain⟨m4,e4,b4⟩:=X4s s3;rw[e4] at n3 |-;generalize (Ym s3).2=s4 at*;clear e1 e2 e3 e4;have fK:=XgI m1 m2 m3 m4 (fun x hx=>by
  simp only[mem_cons,mem_nil_iff,or_false] at hx;rcases hx with rfl|rfl|rfl|rfl<;>omega)
 have heq:=XjT (Vj m1 m2 m3 m4) b (by
  have:=X7g (a:=m1) (b:=m2) (c:=m3) (e:=m4) (fun x hx=>by
   simp only[mem_cons,mem_nil_iff,or_false] at hx;rcases hx with rfl|rfl|rfl|rfl<;>omega)
  omega)
 have fk:J (c.map X6)=J c:=LM ..;obtain⟨k1,d1,a1,x1⟩:=s1;obtain⟨k2,d2,a2,x2⟩:=s2;obtain⟨k3,d3,a3,x3⟩:=s3;obtain⟨k4,d4,a4,x4⟩:=s4;simp only at c1 c2 c3 c4 |-;subst c1;subst c2;subst c3;subst c4;unfold Xc at*;simp only[X8r,if_true,ne_eq,not_true_eq_false,decide_false] at n0 n1 n2 n3;unfold Xc at*;generalize (Vj m1 m2 m3 m4)=HB at*;generalize decide (HB=b)=G at*;simp only[X9k];by_cases q1:x4=0
 case neg=>
  have dF:decide (¬x4=0)=true:=DT q1;rw[dF] at n3;rw[DF (fun h=>q1 h.1),Bool.false_and];exact Qwe
 subst q1;simp only[if_true,ne_eq,not_true_eq_false,decide_false] at n3;by_cases q2:a4=(J d4:Nat)
 case neg=>
  have gz:¬a4=(J (d4.map X6):Nat):=Oa
  rw[DF (fun h=>q2 h.2),Bool.false_and];exact Qwe
 have gz:a4=(J (d4.map X6):Nat):=Oa
 rw[DT (⟨rfl,q2⟩:(0:Int)=0/\a4=(J d4:Nat)),Bool.true_and];clear q2;exact Qwe
def X61:GoR 1 Vy:=XfV Oa fun c a x e h=>by
 unfold X1h at h;by_cases h0:a<0\/(J c:Int)<a
 ·rw[PI h0] at h;simp at h
 ·rw[NI h0] at h;generalize hr:VW c a 0=r at h;obtain⟨y,z,e'⟩:=r;simp only at h;by_cases he:e'=0
  ·subst he;simp only[if_true] at h;by_cases hy:Uu y=0
   ·rw[NI I6] at h;simp only[Prod.mk.injEq,and_true] at h;obtain⟨rfl,rfl⟩:=h;have h1:=XhV Oa hr;exact⟨by have:=h1.2;omega,h1.1.2.2.1⟩
   ·rw[PI hy] at h;simp only[Prod.mk.injEq] at h;exact absurd h.2.2 hy
  ·rw[NI he,PI he] at h;simp only[Prod.mk.injEq] at h;exact absurd h.2.2 he
def Xrg (b:List UInt8) (ts ep:Int) (hb:J b<=1000000):Con prog 75 [] [.d (Xc b),.agg [aq,aq,ai 0,ai 0,aq,ai ts,ai ep,ai 0]] [] (.tup [Xz (X1t b ts ep).1,ab (X1t b ts ep).2]):=by
 refine ZCt func75 ntmps75 fun E=> ?_;have mI:Con prog 129 [(102,oC ⟨0,b,0,0⟩)] [.ptr 102 0] [(102,oC (Ym ⟨0,b,0,0⟩).2)] (ai (Ym ⟨0,b,0,0⟩).1):=YU 0 102 (X6E ⟨0,b,0,0⟩ Od);obtain⟨m0,hm0,jP⟩:=X4s ⟨0,b,0,0⟩;have bL:=X7b.ok ⟨0,b,0,0⟩ ⟨Int.le_refl _,Oc⟩;have fc:=(X16.keep ⟨0,b,0,0⟩).2;obtain⟨L1,ek⟩:∃L,Vc Vy m0 (Ym ⟨0,b,0,0⟩).2=L:=⟨_,rfl⟩
 have bh:UL Vy ⟨0,b,0,0⟩=L1:=IM
 have fQ:X0i ⟨0,b,0,0⟩=(((UL Vy ⟨0,b,0,0⟩).1,((UL X0D (UL Vy ⟨0,b,0,0⟩).2).1,((Ym (UL X0D (UL Vy ⟨0,b,0,0⟩).2).2).1,(Ym (Ym (UL X0D (UL Vy ⟨0,b,0,0⟩).2).2).2).1))),(Ym (Ym (UL X0D (UL Vy ⟨0,b,0,0⟩).2).2).2).2):=rfl;rw[bh] at fQ;have jQ:=X7K X7X X61 (n:=m0) bL I3;rw[ek] at jQ;have fe:L1.2.c=b:=by rw[<-bh];exact(X9c X7X).keep _|>.2
 have fh:X2O L1.2:=by rw[<-ek];exact Xee X61 m0 _ bL
 rw[hm0] at mI;generalize (Ym ⟨0,b,0,0⟩).2=s0 at*;have e0:oC ⟨0,b,0,0⟩= .box [.d (Xc b),ai 0,ab false]:=rfl;rw[e0] at mI;obtain⟨k0,c0,a0,x0⟩:=s0;simp only at fc;subst fc;simp only[X8r] at mI;have qq:=fh;refine Yb ?_;refine Z5 (ag:=mI) ?_;refine W2_ ?_;clear mI;refine X4q ⟨137,[(0,.d (Xc c0)),(3,.ptr 100 0),(4,.ptr 101 0),(6,.ptr 102 0)],[(100,.box [.d (.sl 3 []),.d (.sl 5 []),ai 0,ai 0,.d (.sl 6 (L1.1.map Xh)),ai ts,ai ep,ai 0]),(101,.box [aq,aq,ai 0,ai 0,aq,ai 0,ai 0,ai 0]),(102,.box [.d (Xc c0),ai (if L1.2.e=0 then L1.2.a else 0),ab (decide (L1.2.e≠0))])]⟩ ?_ ?_
 ·refine X8 (X1Y 100 4 130 6 (cs:=[aq,aq,ai 0,ai 0,aq,ai ts,ai ep,ai 0]) rfl rfl rfl rfl rfl) ?_;clear fQ bh fe fh qq;refine W1_ ?_
  refine Xl (ι:=List Rul×Nat×Rd) (fun q=>q.1++(Vc Vy q.2.1 q.2.2).1=L1.1/\(Vc Vy q.2.1 q.2.2).2=L1.2/\q.2.2.c=c0/\X2O q.2.2/\q.2.1<=9223372036854775807)
   (fun q=>⟨137,[(0,.d (Xc c0)),(3,.ptr 100 0),(4,.ptr 101 0),(6,.ptr 102 0),(7,ai q.2.1)],[(100,.box [aq,aq,ai 0,ai 0,.own 130 (J (q.1.map Xh)),ai ts,ai ep,ai 0]),(101,.box [aq,aq,ai 0,ai 0,aq,ai 0,ai 0,ai 0]),(102,.box [.d (Xc c0),ai (if q.2.2.e=0 then q.2.2.a else 0),ab (decide (q.2.2.e≠0))]),(130,.row 6 (q.1.map Xh))]⟩) (fun q=>q.2.1) ([],m0,⟨k0,c0,a0,x0⟩)
   ⟨by rw[ek];rfl,by rw[ek],rfl,bL,jP⟩
   (ZL0) ?_
  rintro⟨acc,j,s⟩ ⟨h1,h2,h3,h4,h5⟩;simp only at h1 h2 h3 h4 h5;have dY:=Xcx h1 jQ;have hroom:J (acc.map Xh)<=1073741825:=Jz
  by_cases bD:j=0\/s.e≠0
  ·have eC:=Xcb h1 h2 bD;subst eC;have hgd:(¬(0:Int)<(j:Nat))\/((0:Int)<(j:Nat)/\s.e≠0):=by
    exact Yt69
   obtain⟨k,c,a,e⟩:=s;simp only at hgd |-;rcases hgd with hj'|⟨hj',he⟩
   ·have mJ:¬((j:Nat):Int)>0:=hj';refine Ya ?_;refine St.le_trans (XI 130 rfl) ?_;refine Qxe ?_;refine Qye ?_;exact ZL0
   ·have mJ:((j:Nat):Int)>0:=hj';have he':decide (e≠0)=true:=DT he;rw[he'];refine Ya ?_;refine St.le_trans (XI 130 rfl) ?_;refine Qxe ?_;refine Qye ?_;exact ZL0
  have he:s.e=0:=by
   by_cases q:s.e=0
   ·exact q
   ·exact absurd (.inr q) bD
  obtain⟨i,rfl⟩:∃i,j=i+1:=⟨j-1,Oa⟩
  have hj':((i+1:Nat):Int)>0:=Oa
  rw[Xd0 he] at h1 h2;simp only at h1 h2;have bX:=X61.ok s h4;obtain⟨k,c,a,e⟩:=s;simp only at he h3;subst he;subst h3;have hr:=Xxo c a Oa;have hz:=Xm4 (b:=c) (a:=a);rw[Xml] at h1 h2 bX;simp only at h1 h2 bX;generalize X1h c a=u at*;obtain⟨x,u2,u3⟩:=u;simp only at hr hz h1 h2 bX;have ht:Con prog 132 [(102,.box [.d (Xc c),ai a,ab false])] [.ptr 102 0,ai u2,ai u3] [(102,.box [.d (Xc c),ai u2,ab (decide (u3≠0))])] (.tup []):=YU 0 102 (XdY c a u2 u3);have lH:(.box [.d (Xc c),ai (if u3=0 then (if u3=0 then u2 else a) else 0),ab (decide (u3≠0))]:AObj)= .box [.d (Xc c),ai u2,ab (decide (u3≠0))]:=(X8r k c _ _).symm.trans (Xn3 hz);have cZ:(acc++[x]).map Xh=acc.map Xh++[Xh x]:=Oc
  have f1:(if (0:Int)=0 then a else 0)=a:=rfl;have f2:decide ((0:Int)≠0)=false:=rfl;clear hz ek bD h4;obtain⟨rk,rn,dX,g8,g9,ga⟩:=x;simp only[Yu,Xh] at hr cZ;simp only[f1,f2];refine YT ?_;refine Z5 (ag:=hr) ?_;refine YT ?_;refine ZBs (((i+1:Nat):Int)) (1) ((i:Nat):Int) ?_;refine W2_ ?_;refine⟨(acc++[⟨rk,rn,dX,g8,g9,ga⟩],i,⟨k,c,if u3=0 then u2 else a,u3⟩),⟨Iq,h2,rfl,bX,Od⟩,I8,?_⟩;dsimp only;rw[cZ,lH];exact X9 rfl JM ⟨by refine Eq.trans (b:=AObj.box [aq,aq,ai 0,ai 0,.own 130 (_+_),ai ts,ai ep,ai 0]) rfl ?_;rw[LA],rfl,rfl,rfl,TV⟩
 clear ek bh bL jP hm0;generalize mK:L1.1=rs at*;generalize qt:L1.2=s at*;clear mK qt;have fU:Con prog 129 [(102,oC s)] [.ptr 102 0] [(102,oC (Ym s).2)] (ai (Ym s).1):=YU 0 102 (X6E s (by rw[fe];omega));obtain⟨m1,fm,oO⟩:=X4s s;have mL:=X7b.ok s fh;have aM:=(X16.keep s).2;obtain⟨L2,hL2⟩:∃L,Vc X0D m1 (Ym s).2=L:=⟨_,rfl⟩
 have bM:UL X0D s=L2:=by unfold UL;simp only;rw[fm,Int.toNat_natCast,hL2]
 have oP:=X7K X9S XdB (n:=m1) mL (by rw[aM,fe];omega);rw[hL2] at oP;have fC:L2.2.c=c0:=by rw[<-bM];exact((X9c X9S).keep s).2.trans fe
 rw[bM] at fQ;rw[fm] at fU;generalize (Ym s).2=s1 at*;rw[fe] at aM;obtain⟨k,c,a,e⟩:=s;obtain⟨k1,c1,a1,e1⟩:=s1;simp only at fe aM;subst fe;subst aM;simp only[X8r] at fU;refine W8_ ?_;refine Z5 (ag:=fU) ?_;refine W2_ ?_;clear fU;refine X4q ⟨137,[(0,.d (Xc c1)),(3,.ptr 100 0),(4,.ptr 101 0),(6,.ptr 102 0),(11,.d (.sl 10 (L2.1.map Xp)))],[(100,.box [.d (.sl 3 []),.d (.sl 5 []),ai 0,ai 0,.d (.sl 6 (rs.map Xh)),ai ts,ai ep,ai 0]),(101,.box [aq,aq,ai 0,ai 0,aq,ai 0,ai 0,ai 0]),(102,.box [.d (Xc c1),ai (if L2.2.e=0 then L2.2.a else 0),ab (decide (L2.2.e≠0))])]⟩ ?_ ?_
 ·refine X8 (Uo 11 131 10 rfl rfl rfl) ?_;clear fQ bM fC;refine W1_ ?_
  refine Xl (ι:=List Chg×Nat×Rd) (fun q=>q.1++(Vc X0D q.2.1 q.2.2).1=L2.1/\(Vc X0D q.2.1 q.2.2).2=L2.2/\q.2.2.c=c1/\X2O q.2.2/\q.2.1<=9223372036854775807)
   (fun q=>⟨137,[(0,.d (Xc c1)),(3,.ptr 100 0),(4,.ptr 101 0),(6,.ptr 102 0),(11,.own 131 (J (q.1.map Xp))),(12,ai q.2.1)],[(100,.box [.d (.sl 3 []),.d (.sl 5 []),ai 0,ai 0,.d (.sl 6 (rs.map Xh)),ai ts,ai ep,ai 0]),(101,.box [aq,aq,ai 0,ai 0,aq,ai 0,ai 0,ai 0]),(102,.box [.d (Xc c1),ai (if q.2.2.e=0 then q.2.2.a else 0),ab (decide (q.2.2.e≠0))]),(131,.row 10 (q.1.map Xp))]⟩) (fun q=>q.2.1) ([],m1,⟨k1,c1,a1,e1⟩)
   ⟨by rw[hL2];rfl,by rw[hL2],rfl,mL,oO⟩
   (ZL0) ?_
  rintro⟨acc,j,s⟩ ⟨h1,h2,h3,h4,h5⟩;simp only at h1 h2 h3 h4 h5;have dY:=Xcx h1 oP;have hroom:J (acc.map Xp)<=1073741825:=Jz
  by_cases bD:j=0\/s.e≠0
  ·have eC:=Xcb h1 h2 bD;subst eC;have hgd:(¬(0:Int)<(j:Nat))\/((0:Int)<(j:Nat)/\s.e≠0):=by
    exact Yt69
   obtain⟨k,c,a,e⟩:=s;simp only at hgd |-;rcases hgd with hj'|⟨hj',he⟩
   ·have mJ:¬((j:Nat):Int)>0:=hj';refine Ya ?_;refine St.le_trans (XI 131 rfl) ?_;refine St.le_trans (XX 11 131 rfl rfl rfl) ?_;exact ZL0
   ·have mJ:((j:Nat):Int)>0:=hj';have he':decide (e≠0)=true:=DT he;rw[he'];refine Ya ?_;refine St.le_trans (XI 131 rfl) ?_;refine St.le_trans (XX 11 131 rfl rfl rfl) ?_;exact ZL0
  have he:s.e=0:=by
   by_cases q:s.e=0
   ·exact q
   ·exact absurd (.inr q) bD
  obtain⟨i,rfl⟩:∃i,j=i+1:=⟨j-1,Oa⟩
  have hj':((i+1:Nat):Int)>0:=Oa
  rw[Xd0 he] at h1 h2;simp only at h1 h2;have bX:=XdB.ok s h4;obtain⟨k,c,a,e⟩:=s;simp only at he h3;subst he;subst h3;have hr:=XqZ c a Oa;have hz:=Xl4 (b:=c) (a:=a);rw[Xlt] at h1 h2 bX;simp only at h1 h2 bX;generalize X0L c a=u at*;obtain⟨x,u2,u3⟩:=u;simp only at hr hz h1 h2 bX;have ht:Con prog 132 [(102,.box [.d (Xc c),ai a,ab false])] [.ptr 102 0,ai u2,ai u3] [(102,.box [.d (Xc c),ai u2,ab (decide (u3≠0))])] (.tup []):=YU 0 102 (XdY c a u2 u3);have lH:(.box [.d (Xc c),ai (if u3=0 then (if u3=0 then u2 else a) else 0),ab (decide (u3≠0))]:AObj)= .box [.d (Xc c),ai u2,ab (decide (u3≠0))]:=(X8r k c _ _).symm.trans (Xn3 hz);have cZ:(acc++[x]).map Xp=acc.map Xp++[Xp x]:=Oc
  have f1:(if (0:Int)=0 then a else 0)=a:=rfl;have f2:decide ((0:Int)≠0)=false:=rfl;clear hz hL2 bD h4;obtain⟨op,id,src,dst,name,⟨vk,vn,vd,vs,vl⟩⟩:=x;simp only[Xu,Xp] at hr cZ;simp only[f1,f2];refine YT ?_;refine Z5 (ag:=hr) ?_;refine V4 ?_;refine ZBs (((i+1:Nat):Int)) (1) ((i:Nat):Int) ?_;refine W2_ ?_;refine⟨(acc++[⟨op,id,src,dst,name,.mk vk vn vd vs vl⟩],i,⟨k,c,if u3=0 then u2 else a,u3⟩),⟨Iq,h2,rfl,bX,Od⟩,I8,?_⟩;dsimp only;rw[cZ,lH];exact X9 rfl ⟨JL,JL,JL,JL,ZzQ (by refine Eq.trans (b:=AVal.own 131 (_+_)) rfl ?_;simp only[LA,LC,length_nil]),JL,TV⟩ ⟨rfl,rfl,rfl,rfl,TV⟩
 clear hL2 bM mL oO fm;generalize mK:L2.1=cs at*;generalize qt:L2.2=s at*;clear mK qt;have lE:Con prog 129 [(102,oC s)] [.ptr 102 0] [(102,oC (Ym s).2)] (ai (Ym s).1):=YU 0 102 (X6E s (by rw[fC];omega));have cM:(Ym s).2.c=c1:=(X16.keep s).2.trans fC;generalize (Ym s).1=n1 at*;generalize (Ym s).2=s2 at*;have iV:Con prog 129 [(102,oC s2)] [.ptr 102 0] [(102,oC (Ym s2).2)] (ai (Ym s2).1):=YU 0 102 (X6E s2 (by rw[cM];omega));have oQ:(Ym s2).2.c=c1:=(X16.keep s2).2.trans cM;generalize (Ym s2).1=n2 at*;generalize (Ym s2).2=s3 at*;obtain⟨k',c',a',e'⟩:=s;obtain⟨k2,c2,a2,e2⟩:=s2;obtain⟨k3,c3,a3,e3⟩:=s3;simp only at fC cM oQ;subst fC;subst cM;subst oQ;simp only[X8r] at lE iV;have hK:X1t c3 ts ep=if e3≠0\/a3≠J c3 then (XT,false) else X3h c3 ts ep rs n1 n2 (UW UJ cs):=by
  unfold X1t;simp only[fQ]
 have nX:=Xhi;have hap:=Xp2 UJ cs Xdk Oa;have dR:=XeQ UJ cs;have iL:J (c3.map X6)=J c3:=LM ..;have aV:Xz XT= .agg [.d (.sl 3 []),.d (.sl 5 []),ai 0,ai 0,.d (.sl 6 []),ai 0,ai 0,ai 0]:=rfl;clear fQ;generalize UW UJ cs=R at*;obtain⟨⟨iu,iw,rW,rX⟩,gk,ge⟩:=R;unfold Xc at*;simp only[XZ,map_nil] at nX hap dR;by_cases q1:e3=0
 case neg=>
  have e:X1t c3 ts ep=(XT,false):=by rw[hK,PI (Or.inl q1)]
  rw[e];clear e hK;simp only[aV];have dF:decide (e3≠0)=true:=DT q1;rw[dF] at iV;refine Qze ?_;refine YT ?_;exact QAe
 subst q1;simp only[if_true,ne_eq,not_true_eq_false,decide_false] at iV;by_cases q2:a3=(J c3:Nat)
 case neg=>
  have e:X1t c3 ts ep=(XT,false):=by rw[hK,PI (Or.inr q2)]
  rw[e];clear e hK;simp only[aV];have gz:¬a3=(J (c3.map X6):Nat):=Oa
  refine Qze ?_;refine YT ?_;exact QAe
 have gz:a3=(J (c3.map X6):Nat):=Oa
 rw[NI (by rintro(h|h);exact h rfl;exact h q2)] at hK;unfold X3h at hK;simp only at hK;by_cases q3:ge=0
 case neg=>
  have e:X1t c3 ts ep=(XT,false):=by rw[hK,PI q3]
  rw[e];clear e hK;simp only[aV];refine Qze ?_;refine QHa ?_;exact QAe
 subst q3;rw[NI Oc] at hK;rw[hK];clear hK;simp only;have kR:StaHold ⟨⟨iu,iw,n1,n2⟩,rs,ts,ep,0⟩:=⟨⟨dR.nl,dR.el,dR.nodes,dR.aj⟩,Od⟩
 have jm:=Xbx _ kR;by_cases q4:YH ⟨⟨iu,iw,n1,n2⟩,rs,ts,ep,0⟩=true
 case neg=>
  rw[show YH ⟨⟨iu,iw,n1,n2⟩,rs,ts,ep,0⟩=false by simpa using q4] at jm |-;rw[Bool.false_and];clear q4 kR dR;simp only[Xz] at jm |-;refine Qze ?_;refine X4 ?_;refine UA ?_;exact QBe
 obtain⟨v1,v2,_⟩:=Vz.1 q4;have bA:=Xh9 _ v1 v2 (X49 v1);have heq:=XjT (XQ ⟨iu,iw,n1,n2⟩ rs) c3 (by have:=Xam v1 v2;simp only at this;omega);rw[q4] at jm |-;rw[Bool.true_and];clear q4 kR dR v1 v2;unfold Xc at*;generalize (XQ ⟨iu,iw,n1,n2⟩ rs)=SB at*;generalize decide (SB=c3)=G at*;simp only[Xz] at jm bA |-;refine Qze ?_;refine X4 ?_;refine UA ?_;exact QBe
end Go.Fw
