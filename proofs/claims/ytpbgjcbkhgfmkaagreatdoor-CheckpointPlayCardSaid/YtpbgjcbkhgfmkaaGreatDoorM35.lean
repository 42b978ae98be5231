/- States saved by the program: save. -/
import Derived.Test.YtpbgjcbkhgfmkaaGreatDoorM34
set_option maxHeartbeats 256000000
namespace Go.Fw
open Go Go.Proofs Tryz List
set_option maxRecDepth 100000
set_option linter.unusedVariables false
set_option linter.unusedSimpArgs false
theorem X5G (d:ak):Con prog 64 [] [XU d] [] (.tup []):=by
 refine X0I (xs:=[]) func64 rfl ntmps64 rfl rfl rfl (fun E=> ?_);refine W3_ ?_;exact(show Xa _ _ _ _ _ from⟨_,St.le_refl _,TV,X4 _⟩)
variable{b:List UInt8}{R:List (List D)}{q sz:Nat}{r:List D}{d:ak}{n:Nod}{ns:List Nod}{ys:List XN}{u v:Value}
theorem XcU {k:Nat} (h:64*k<b.length):YC ((b.drop (64*k)).take 64)=((YC b).drop (64*k)).take 64:=by
 unfold YC;have hl:(b.drop (64*k)).length=b.length-64*k:=LD;rw[drop_append_of_le_length (by omega)];by_cases q:64<=b.length-64*k
 ·rw[take_append_of_le_length (by omega)];have:((b.drop (64*k)).take 64).length=64:=by rw[LT];omega
  rw[this];simp
 ·rw[take_append,take_of_length_le (l:=b.drop (64*k)) (by omega),take_replicate,hl];congr 2;omega
theorem Xvd (b:List UInt8) (d:ak) (a n:Nat):VX d a (replicate (n+1) b)=VX d a (replicate n b)++[Yc d a (replicate (n+1) b)]:=by
 rw[Xn5,replicate_succ',Xnk,length_replicate]
theorem XdB (h:DOk d):Uw d=((Uw d).1,0):=by rw[X70 h]
structure Stg (d:ak) (b:List UInt8) (K:Nat) (ep ts:Int) (n m:Nat) (D Z:Nat->ak) (a2 a3 a4 a5 a6:ak):Prop where
 n0:D 0=d
 okD:∀k,k<=n->DOk (D k)/\Vp (D k)
 wrD:∀k,k<n->Vs (D k) ((2+K*Xt d+k:Nat):Int) (((YC b).drop (64*k)).take 64)=(D (k+1),0)
 w2:Vs (D n) (K:Nat) Yy=(a2,0)
 dO:DOk a2/\Vp a2
 s3:Uw a2=(a3,0)
 gV:DOk a3/\Vp a3
 w4:Vs a3 (K:Nat) (UI ep ts (b.length:Nat) (XT b:Nat))=(a4,0)
 cR:DOk a4/\Vp a4
 s5:Uw a4=(a5,0)
 z0:Z 0=a5
 okZ:∀k,k<=m->DOk (Z k)/\Vp (Z k)/\(Z k).aa.length=d.aa.length
 wrZ:∀k,k<m->Vs (Z k) ((X9 d+k:Nat):Int) Yy=(Z (k+1),0)
 s6:Uw (Z m)=(a6,0)
 fin:a6=sv6 d b K ep ts
 trc:(∃R:Nat->List ak,R 0=[d]/\(∀k,k<n->R (k+1)=R k++[D (k+1)])/\(∀k,(R k).length=k+1)/\∃S:Nat->List ak,S 0=[a5]/\(∀k,k<m->S (k+1)=S k++[Z (k+1)])/\(∀k,(S k).length=k+1)/\svT d b K ep ts=R n++([a2,a3,a4]++(S m++[a6])))
theorem Xe8 {K:Nat}{ep ts:Int} (hd:DOk d) (hf:d.aa.length<=2000/\d.pending.length<=500) (aL:16<=d.aa.length) (hb:b.length<=Xt d*64) (hK:K<2) (hh:(UI ep ts (b.length:Nat) (XT b:Nat)).length=64):
  ∃n m D Z a2 a3 a4 a5 a6,Stg d b K ep ts n m D Z a2 a3 a4 a5 a6/\n*64=(YC b).length/\n<=Xt d/\m=d.aa.length-X9 d:=by
 obtain⟨p1,p2,p3⟩:=X2c b;obtain⟨l1,l2,l3⟩:=Vm aL;have l4:=X1l aL hK;have hn:(YC b).length=64*((YC b).length/64):=by omega
 have cH:WrOk d (2+K*Xt d) ((YC b).length/64) (YC b):=⟨hd,⟨by omega,by omega⟩,hn,by omega⟩
 obtain⟨s1,s2,s3⟩:=X0m (Vo b) d (2+K*Xt d);have o1:DOk (sv1 d b K):=(Xa7 cH (Nat.le_refl _)).1;have e1:(sv1 d b K).aa.length=d.aa.length:=by show(Yc _ _ _).aa.length=_;rw[s1]
 have o2:DOk (sv2 d b K):=X5F o1 (by omega) rfl;obtain⟨o3,e3,q3⟩:=X2E o2;have lW:(sv3 d b K).aa.length=d.aa.length:=e3.trans e1;have o4:DOk (sv4 d b K ep ts):=X5F o3 (by show K<(sv3 d b K).aa.length;omega) hh;obtain⟨o5,e5,q5⟩:=X2E o4;have lX:(sv5 d b K ep ts).aa.length=d.aa.length:=e5.trans lW;have hz:∀k,k<=d.aa.length-X9 d->DOk (Yc (sv5 d b K ep ts) (X9 d) (replicate k Yy))/\Vp (Yc (sv5 d b K ep ts) (X9 d) (replicate k Yy))/\(Yc (sv5 d b K ep ts) (X9 d) (replicate k Yy)).aa.length=d.aa.length:=fun k hk=>by
  obtain⟨k1,k2,k3⟩:=X0m (replicate k Yy) (sv5 d b K ep ts) (X9 d);have k4:=X1h (replicate k Yy) (sv5 d b K ep ts) (X9 d) o5 (by rw[length_replicate,lX];omega) (fun c hc=>by rw[eq_of_mem_replicate hc];rfl);exact⟨k4,X2d k4.v (by rw[k3,length_replicate,show(sv5 d b K ep ts).pending=[] from q5];simp;omega),by rw[k1,lX]⟩
 have ff:∀{x:ak},DOk x->x.pending.length<=4096->DOk x/\Vp x:=fun h h'=>⟨h,X2d h.v h'⟩
 have uU:(sv1 d b K).pending.length<=3000:=by
  unfold sv1 Vo;obtain⟨k1,k2,k3⟩:=X0m (UN ((YC b).length/64) (YC b)) d (2+K*Xt d);rw[k3,X3f];omega
 have tC:(sv2 d b K).pending.length<=3001:=by
  show((sv1 d b K).pending++[(⟨(K:Nat),Yy⟩:Wr)]).length<=3001;rw[LA,length_singleton];omega
 have tD:(sv4 d b K ep ts).pending.length<=1:=by
  show((sv3 d b K).pending++[_]).length<=1;rw[show (sv3 d b K).pending=[] from q3];simp
 refine⟨(YC b).length/64,d.aa.length-X9 d,fun k=>Yc d (2+K*Xt d) (UN k (YC b)),fun k=>Yc (sv5 d b K ep ts) (X9 d) (replicate k Yy),sv2 d b K,sv3 d b K,sv4 d b K ep ts,sv5 d b K ep ts,sv6 d b K ep ts,?_,by omega,by omega,rfl⟩;refine⟨rfl,fun k hk=>Xa7 cH hk,fun k hk=>(XbK cH hk).2.2.1,?_,ff o2 (by omega),XdB o2,ff o3 (by rw[show (sv3 d b K).pending=[] from q3];simp),?_,ff o4 (by omega),XdB o4,rfl,hz,fun k hk=> ?_,XdB (hz _ (Nat.le_refl _)).1,rfl,?_⟩
 ·exact X8L o1 (by show K<(sv1 d b K).aa.length;omega) rfl
 ·exact X8L o3 (by show K<(sv3 d b K).aa.length;omega) hh
 ·have:=X8L (a:=X9 d+k) (b:=Yy) (hz k (by omega)).1 (by have:=(hz k (by omega)).2.2;omega) rfl;rw[this];show(_,(0:Int))=(Yc _ _ (replicate (k+1) Yy),0)
  rw[Xn5]
 ·refine⟨fun k=>VX d (2+K*Xt d) (UN k (YC b)),rfl,fun k hk=>(XbK cH hk).2.2.2,fun k=>by rw[X8g,X3f],fun k=>VX (sv5 d b K ep ts) (X9 d) (replicate k Yy),rfl,fun k hk=>Xvd Yy _ _ k,fun k=>by rw[X8g,length_replicate],rfl⟩
theorem Xhc (d:ak) (s:Sta) (EP:Nat) (v:GV s.g) (hr:SchV s.rules) (hts:0<=s.ts/\s.ts<=1000000000000000) (cJ:EP<=1000000000000000) (hd:DOk d) (hf:d.aa.length<=2000/\d.pending.length<=500) (aL:16<=d.aa.length):
  Con prog 62 [] [XU d,Xy s,ai (EP:Nat),.fn 64 []] [] (.tup [XU (UR d s (EP:Nat)).1,Xy (UR d s (EP:Nat)).2.1,ai (UR d s (EP:Nat)).2.2]):=by
 refine ZCt func62 ntmps62 fun E=> ?_;have aC:=X3P (d.aa.length:Nat);rw[X37 aL (by omega)] at aC;have bD:=Xfv s v hr (X5u v);have bu:=X9n v hr;have pL:Xt d<=500:=by unfold Xt;omega
 have hrl:=hr.len;have aM:(d.aa.map XV).length=d.aa.length:=LM ..;by_cases hfull:Xt d*64<(Xv s.g s.rules).length
 case pos=>
  have e:UR d s (EP:Nat)=(YU,Yd,20):=PI hfull;rw[e];have ck:((((Xv s.g s.rules).map X5).length:Nat):Int)>((Xt d*64:Nat):Int):=by rw[LM];omega
  have aS:Xy Yd= .agg [.d (.sl 3 []),.d (.sl 5 []),ai 0,ai 0,.d (.sl 6 []),ai 0,ai 0,ai 0]:=rfl;unfold Xg at bD;simp only[aS];clear e v hr bu hfull;generalize (Xv s.g s.rules).map X5=B at*;generalize Xt d=SN at*;generalize X9 d=LN at*;rw[<-aM] at aC;obtain⟨secs,ag,on⟩:=d;obtain⟨⟨ns,es,nn,ne⟩,rs,ts,gM,tail⟩:=s;simp only[Xy] at*;refine Qud ?_;refine XK ?_;exact Qvd
 have e:UR d s (EP:Nat)=(sv6 d (Xv s.g s.rules) (XJ (EP:Nat)) (EP:Nat) s.ts,⟨s.g,s.rules,s.ts,(EP:Nat),0⟩,0):=NI hfull;rw[e];have aK:XJ (EP:Nat)=EP%2:=by unfold XJ;omega
 rw[aK];have aV:=X42 (Xv s.g s.rules);have gN:∀x∈[(EP:Int),s.ts,(((Xv s.g s.rules).length:Nat):Int),((XT (Xv s.g s.rules):Nat):Int)],0<=x/\x<=9223372036854775807:=fun x hx=>by
  simp only[mem_cons,mem_nil_iff,or_false] at hx;rcases hx with rfl|rfl|rfl|rfl
  ·omega
  ·omega
  ·omega
  ·exact aV
 have lY:=X6h gN;have gq:=Xdq (EP:Nat) s.ts ((Xv s.g s.rules).length:Nat) (XT (Xv s.g s.rules):Nat) gN;obtain⟨n,m,DD,Z,a2,a3,a4,a5,a6,G,g1,g2,g3⟩:=Xe8 (K:=EP%2) (ep:=(EP:Nat)) (ts:=s.ts) hd hf aL (by omega) (by omega) lY;obtain⟨l1,l2,l3⟩:=Vm aL;rw[<-G.fin];have eZ:=(XbR 100 (s.rules.map Xh) (by rw[LM];omega)).data rfl;have hsum:=X8h (Xv s.g s.rules);have aR:∀k,k<n->64*k<(Xv s.g s.rules).length:=fun k hk=>by
  have:=(X2c (Xv s.g s.rules)).2.2;omega
 have bx:¬64*n<(Xv s.g s.rules).length:=by
  have:=(X2c (Xv s.g s.rules)).2.1;omega
 have bJ:∀k,k<n->Con prog 107 [] [.d (Xg (((Xv s.g s.rules).drop (64*k)).take 64))] [] (.d (Xg (((YC (Xv s.g s.rules)).drop (64*k)).take 64))):=fun k hk=>by
  rw[<-XcU (aR k hk)];exact Xll _ (by rw[LT];omega)
 clear e hfull aV gN aK v hr;generalize Xv s.g s.rules=b at*;obtain⟨⟨ns,es,nn,ne⟩,rs,ts,gM,tail⟩:=s;simp only[Xy] at*;have dh:=G.n0;have dG:(b.map X5).length=b.length:=LM ..;rw[<-dG] at gq;have dw:=X5G d;have gj:d.aa.length<=2000:=hf.1;have hK:((EP%2:Nat):Int)<2:=by omega
 generalize lZ:Xt d=SN at*;generalize m5:X9 d=LN at*;have jz:=fun k (hk:k<n)=>X4P (DD k) ((2+EP%2*SN+k:Nat):Int) (((YC b).drop (64*k)).take 64) (G.okD k (by omega)).2 (by rw[LT];omega);have dY:∀k,k<n->Con prog 79 [] [XU (DD k),ai ((2+EP%2*SN+k:Nat):Int),.d (Xg (((YC b).drop (64*k)).take 64))] [] (X0O (XU (DD (k+1))) 0):=fun k hk=>by
  have h:=jz k hk;have g:=G.wrD k hk;rw[lZ] at g;rw[g] at h;exact h
 have bK:=X4P (DD n) ((EP%2:Nat):Int) Yy (G.okD n (Nat.le_refl _)).2 (by decide);rw[G.w2] at bK;have dZ:=X5s a2 G.dO.2;rw[G.s3] at dZ;have fF:=X4P a3 ((EP%2:Nat):Int) (UI (EP:Nat) ts (b.length:Nat) (XT b:Nat)) G.gV.2 (by omega);rw[G.w4,<-dG] at fF;have eE:=X5s a4 G.cR.2;rw[G.s5] at eE;have fG:∀k,k<m->Con prog 79 [] [XU (Z k),ai ((LN+k:Nat):Int),.d (Xg Yy)] [] (X0O (XU (Z (k+1))) 0):=fun k hk=>by
  have h:=X4P (Z k) ((LN+k:Nat):Int) Yy (G.okZ k (by omega)).2.1 (by decide);have g:=G.wrZ k hk;rw[m5] at g;rw[g] at h;exact h
 have fH:=X5s (Z m) (G.okZ m (Nat.le_refl _)).2.1;rw[G.s6] at fH;have fc:=fun k hk=>(G.okZ k hk).2.2;have bZ:=G.z0;clear G jz hd hf;have jg:¬(((b.map X5).length:Nat):Int)>((SN*64:Nat):Int):=by omega
 have m6:n<=500:=by omega
 have kP:m<=2000:=by omega
 have dA:Con prog 30 [] [ai ((a5.aa.map XV).length:Nat)] [] (.tup [ai (SN:Nat),ai (LN:Nat),ab true]):=by
  have h:=fc 0 (Nat.zero_le _);rw[bZ] at h;rw[LM,h];exact aC
 generalize UI (EP:Nat) ts ((b.map X5).length:Nat) (XT b:Nat)=HB at*;generalize m7:YC b=PB at*;clear m7;rw[<-aM] at aC;subst dh;refine Qud ?_;refine U8 ?_;refine Qwd ?_;refine W6_ ?_;refine Z5 (af:=dw) ?_;refine W7_ ?_;clear aC bD hsum dw
 refine Xn (fun k:Nat=>k<=n) (fun k=>⟨165,[(2,ai (EP:Nat)),(3,.fn 64 []),(4,.ptr 100 0),(5,.ptr 101 0),(8,.ptr 102 0),(9,.ptr 103 0),(11,ai (SN:Nat)),(14,.d (.sl 1 (b.map X5))),(15,.ptr 104 0),(16,ai (EP%2:Nat)),(17,ai (64*k:Nat))],[(100,.box [.d (XL (DD k).aa),.d (XS (DD k).pending),ab (DD k).on]),(101,.box [.d (.sl 3 (ns.map Xm)),.d (.sl 5 (es.map Xr)),ai nn,ai ne,.d (.sl 6 (rs.map Xh)),ai ts,ai gM,ai tail]),(102,.box [aq,aq,ab false]),(103,.box [aq,aq,ai 0,ai 0,aq,ai 0,ai 0,ai 0]),(104,.box [ai (EP:Nat),ai ts,ai (b.map X5).length,ai (XT b:Nat)])]⟩) (fun k=>n-k) 0 (Nat.zero_le _)
  (ZL0) ?_
 intro k hk;by_cases aE:k<n
 case pos=>
  have hkb:=aR k aE;have hn:((64*k:Nat):Int)<((b.map X5).length:Nat):=by omega
  have hp:=bJ k aE;have hw:=dY k aE;have hs:=X5G (DD (k+1));obtain⟨hb',hmin⟩:∃h:Nat,min (((64*k+64:Nat):Int)) ((b.map X5).length:Nat)=(h:Int)/\(h=min (64*k+64) (b.map X5).length):=⟨min (64*k+64) (b.map X5).length,by omega,rfl⟩
  have ir:((b.map X5).take hb').drop (64*k)=((b.drop (64*k)).take 64).map X5:=by
   rw[hmin.2,map_take,map_drop,drop_take];rw[take_eq_take_iff,LD];omega
  have r8:64*k<=hb':=by omega
  have r9:hb'<=(b.map X5).length:=by omega
  have jS:=hmin.1;unfold Xg at hp hw;clear bJ dY fG bK dZ fF eE fH aR fc hmin dA gq eZ;generalize ((b.drop (64*k)).take 64).map X5=C at*;generalize ((PB.drop (64*k)).take 64).map X5=C2 at*;refine Yv ?_;refine ZBA (64*k) 64 ?_;refine W2_ ?_;refine Qxd ?_;refine Z3 (af:=hp) ?_;refine W7_ ?_;refine Qyd ?_
  (refine Z1 (op:= .quo) (r':=ni k) (u:=ni (64*k)) (v:=ni 64) ?_ (hr':=by exact CG ni (show 64*k/64=k by omega)) (hr:=by exact X2m (by omega) (by rw[YO];omega)))
  refine Qzd ?_;refine QAd ?_;refine W3_ ?_;refine ZBA (64*k) 64 ?_;refine W2_ ?_;exact⟨k+1,aE,by omega,ZL0⟩
 obtain rfl:k=n:=by omega
 have hn:¬((64*k:Nat):Int)<((b.map X5).length:Nat):=by omega
 clear bJ dY aR hk aE;have v2:=X5G a2;have v3:=X5G a3;have v4:=X5G a4;have v5:=X5G a5;generalize DD k=dn at*;rw[<-bZ] at eE v5 dA;generalize m8:Z 0=a5' at*;obtain⟨sn,pn,tE⟩:=dn;obtain⟨x2,y2,z2⟩:=a2;obtain⟨x3,y3,z3⟩:=a3;obtain⟨x4,y4,z4⟩:=a4;obtain⟨x5,y5,z5⟩:=a5';refine Yx ?_;refine Z3 (af:=bK) ?_;refine W9_ ?_;refine Z5 (af:=v2) ?_;refine W4_ ?_;refine Z3 (af:=dZ) ?_;refine W9_ ?_;refine Z5 (af:=v3) ?_;refine W7_ ?_;refine Z3 (af:=fF) ?_;refine W9_ ?_;refine Z5 (af:=v4) ?_;refine W4_ ?_;refine Z3 (af:=eE) ?_;refine W9_ ?_;refine Z5 (af:=v5) ?_;refine W6_ ?_;refine Z3 (af:=dA) ?_;refine Yx ?_;clear bK dZ gq fF eE v2 v3 v4 v5 dA
 refine Xn (fun k:Nat=>k<=m) (fun k=>⟨165,[(2,ai (EP:Nat)),(3,.fn 64 []),(4,.ptr 100 0),(5,.ptr 101 0),(8,.ptr 102 0),(9,.ptr 103 0),(22,ai (LN+k:Nat))],[(100,.box [.d (XL (Z k).aa),.d (XS (Z k).pending),ab (Z k).on]),(101,.box [.d (.sl 3 (ns.map Xm)),.d (.sl 5 (es.map Xr)),ai nn,ai ne,.d (.sl 6 (rs.map Xh)),ai ts,ai gM,ai tail]),(102,.box [aq,aq,ab false]),(103,.box [aq,aq,ai 0,ai 0,aq,ai 0,ai 0,ai 0])]⟩) (fun k=>m-k) 0 (Nat.zero_le _)
  (by simp only[m8];exact ZL0) ?_
 clear hn bZ m8;intro i hi;have hzl:=fc i hi;have pM:((Z i).aa.map XV).length=LN+m:=by rw[LM];omega
 by_cases hil:i<m
 case pos=>
  have hn:((LN+i:Nat):Int)<(((Z i).aa.map XV).length:Nat):=by omega
  have hn':LN+i<(Z i).aa.length:=by omega
  have hw:=fG i hil;have hs:=X5G (Z (i+1));clear fG fc hzl fH eZ;refine Yf ?_;refine QAd ?_;refine W6_ ?_;exact Qac
 obtain rfl:i=m:=by omega
 have hn:¬((LN+i:Nat):Int)<(((Z i).aa.map XV).length:Nat):=by omega
 have hn':¬LN+i<(Z i).aa.length:=by omega
 have v6:=X5G a6;clear fG fc hzl;generalize Z i=d1 at*;obtain⟨s1,p1,o1⟩:=d1;obtain⟨x6,y6,z6⟩:=a6;simp only at pM hn hn';refine XG ?_;refine Z3 (af:=fH) ?_;refine W9_ ?_;refine Z5 (af:=v6) ?_;refine Yv ?_;exact QBd
theorem Xvw (l:List Rul) (r:Rul) (hl:l.length<=9223372036854775807):Con prog 71 [] [.d (.sl 6 (l.map Xh)),Yu r] [] (.tup [.d (.sl 6 ((Vc l r).1.map Xh)),ai (Vc l r).2]):=by
 refine ZCt func71 ntmps71 fun E=> ?_;have hv:=Xe5 l hl;have hc:=X7u r;have hlm:(l.map Xh).length=l.length:=by simp
 by_cases q1:X0W l=true
 case neg=>
  have e:Vc l r=([],19):=by unfold Vc;rw[PI (by simpa using q1)]
  rw[e];rw[show X0W l=false by simpa using q1] at hv;exact QDd
 rw[q1] at hv;by_cases q2:Uk r=0
 case neg=>
  have e:Vc l r=([],Uk r):=by unfold Vc;rw[NI (by simp[q1]),PI q2]
  rw[e];generalize Uk r=x at*;obtain⟨k,n,name,key,src,dst⟩:=r;simp only[Yu] at*;exact QEd
 rw[q2] at hc;have hS:=X6u.1 q1;have hlen:=hS.len;have hs:=Xhj l r (by omega) hS.st;have hb:=X10 (k:=r) X61 hS.st;have hle:=X5p (lt:=ltR) (key:=YB) l r;by_cases q3:XD YB l r=true
 ·have e:Vc l r=([],7):=by unfold Vc;rw[NI (by simp[q1]),NI (by simp[q2]),PI q3]
  rw[e];rw[q3] at hs;generalize Xo ltR YB l r=i at*;clear hb;obtain⟨k,n,name,key,src,dst⟩:=r;simp only[Yu] at*;refine QX ?_;exact QCd
 by_cases q4:l.length=40
 ·have e:Vc l r=([],20):=by unfold Vc;rw[NI (by simp[q1]),NI (by simp[q2]),NI q3,PI q4]
  rw[e];rw[show XD YB l r=false by simpa using q3] at hs;have n9:((l.map Xh).length:Int)=40:=by omega
  generalize Xo ltR YB l r=i at*;clear hb;obtain⟨k,n,name,key,src,dst⟩:=r;simp only[Yu] at*;refine X7 ?_;refine U8 ?_;exact QCd
 have e:Vc l r=(l.take (Xo ltR YB l r)++[r]++l.drop (Xo ltR YB l r),0):=by unfold Vc;rw[NI (by simp[q1]),NI (by simp[q2]),NI q3,NI q4,X4U (by simpa using q3)]
 rw[e];rw[show XD YB l r=false by simpa using q3] at hs;have n9:¬((l.map Xh).length:Int)=40:=by omega
 have hi:=YK 1 140 (Xrw (l.map Xh) (Xo ltR YB l r) (Xh r) (XmL l) rfl (by omega) (by omega));have bE:=XbR 140 (l.map Xh) (by omega);simp only[map_append,map_take,map_drop,map_cons,map_nil,AS,singleton_append];clear hb e hS q1 q2 q3;generalize Xo ltR YB l r=i at*;obtain⟨k,n,name,key,src,dst⟩:=r;simp only[Yu,Xh] at*;generalize l.map Xh=xs at*;refine X7 ?_;refine UU ?_;refine Z3 (af:=hi) ?_;refine W3_ ?_;refine X8 (XP 110 rfl) ?_;refine X8 (Y7 4 110 rfl rfl (by simp only[LA,LC,LT,LD];omega)) ?_
 (show AWP prog E _ _ _;refine X2 ?_;exact(show Xa _ _ _ _ _ from⟨_,St.le_refl _,⟨rfl,rfl,TV⟩,X4 _⟩))
theorem Xvm (l:List Rul) (r:Rul) (hl:l.length<=9223372036854775807):Con prog 70 [] [.d (.sl 6 (l.map Xh)),Yu r] [] (.tup [.d (.sl 6 ((VC l r).1.map Xh)),ai (VC l r).2]):=by
 refine ZCt func70 ntmps70 fun E=> ?_;have hv:=Xe5 l hl;have hc:=X7u r;have hlm:(l.map Xh).length=l.length:=by simp
 by_cases q1:X0W l=true
 case neg=>
  have e:VC l r=([],19):=by unfold VC;rw[PI (by simpa using q1)]
  rw[e];rw[show X0W l=false by simpa using q1] at hv;exact QDd
 rw[q1] at hv;by_cases q2:Uk r=0
 case neg=>
  have e:VC l r=([],Uk r):=by unfold VC;rw[NI (by simp[q1]),PI q2]
  rw[e];generalize Uk r=x at*;obtain⟨k,n,name,key,src,dst⟩:=r;simp only[Yu] at*;exact QEd
 rw[q2] at hc;have hS:=X6u.1 q1;have hlen:=hS.len;have hs:=Xhj l r (by omega) hS.st;have hb:=X10 (k:=r) X61 hS.st;have hle:=X5p (lt:=ltR) (key:=YB) l r;by_cases q3:XD YB l r=true
 case neg=>
  have e:VC l r=([],23):=by unfold VC;rw[NI (by simp[q1]),NI (by simp[q2]),PI (by simpa using q3)]
  rw[e];rw[show XD YB l r=false by simpa using q3] at hs;generalize Xo ltR YB l r=i at*;clear hb;obtain⟨k,n,name,key,src,dst⟩:=r;simp only[Yu] at*;refine Qla ?_;exact QCd
 rw[q3] at hs hb;obtain⟨x,hx,hk⟩:=decide_eq_true_iff.1 hb.symm;have hi:Xo ltR YB l r<l.length:=(GS.1 hx).1;have e:VC l r=(l.take (Xo ltR YB l r)++l.drop (Xo ltR YB l r+1),0):=by unfold VC;rw[NI (by simp[q1]),NI (by simp[q2]),NI (by simp[q3]),Xcu X61 hS.st hx hk]
 rw[e];have hd:=YK 1 140 (Xqj (l.map Xh) (Xo ltR YB l r) (XmL l) (by omega) (by omega));have bE:=XbR 140 (l.map Xh) (by omega);simp only[map_append,map_take,map_drop];clear hb e hS q1 q2 q3 hx hk;generalize Xo ltR YB l r=i at*;obtain⟨k,n,name,key,src,dst⟩:=r;simp only[Yu] at*;generalize l.map Xh=xs at*;refine X7 ?_;refine XG ?_;refine QZc ?_;refine Z3 (af:=hd) ?_;refine W3_ ?_;refine X8 (XP 110 rfl) ?_;refine X8 (Y7 4 110 rfl rfl (by simp only[LA,LT,LD];omega)) ?_
 (show AWP prog E _ _ _;refine X2 ?_;exact(show Xa _ _ _ _ _ from⟨_,St.le_refl _,⟨rfl,rfl,TV⟩,X4 _⟩))
theorem Xe9 {o:Nat}{d:D} (T:List (Option D)) (hz:∀x∈R,x.length=sz) (hq:R[q]? =some r) (ho:o<r.length):
  (R.flatten.map some++T).set (q*sz+o) (some d)=(R.set q (r.set o d)).flatten.map some++T:=by
 have hr:r.length=sz:=hz r (mem_of_getElem? hq);have h:=XbT hz hq (getElem?_eq_getElem ho);have hl:q*sz+o<R.flatten.length:=(GS.1 h).1;rw[Xdn (i:=0) hz hq (by omega),map_set,set_append_left _ _ (by rw[LM];exact hl)]
theorem XdF (T:List (Option D)) (hz:∀x∈R,x.length=sz) (hq:R[q]? =some r):((Yi (R.flatten.map some++T) none).drop (0+q*sz)).take sz=r.map .d:=by
 rw[Nat.zero_add];have hr:r.length=sz:=hz r (mem_of_getElem? hq);have mP:=(GS.1 hq).1;have e1:=XbL hq;have hl:(R.take q).flatten.length=q*sz:=by
  have h:=Vg (fun x hx=>hz x (mem_of_mem_take (i:=q) hx));rw[LT,Nat.min_eq_left (by omega)] at h;exact Eq.trans (by rw[<-length_map (f:=some)]) h
 conv=>lhs;rw[e1]
 simp only[Yi,map_append,flatten_append,flatten_cons,AS];rw[drop_left' (by rw[LM,LM];exact hl),take_left' (by rw[LM,LM];exact hr),map_map];rfl
theorem Xfc {C:List (Option D)}{j:Nat}{z:AVal} (h:j<C.length):Yi C (some (j,z))=(Yi C none).take j++[z]++(Yi C none).drop (j+1):=by
 simp only[Yi];exact Xbv (by rw[LM];exact h)
def X28 (ns:List Nod) (ys:List XN):List (List D):=(ys.map rXN).map cRN++(ns.drop ys.length).map Xm
theorem Xw8 (ns:List Nod) (ys:List XN):∀x∈X28 ns ys,x.length=3:=by
 intro x hx;rcases mem_append.1 hx with h|h
 ·obtain⟨p,_,rfl⟩:=mem_map.1 h;rfl
 ·obtain⟨p,_,rfl⟩:=mem_map.1 h;rfl
theorem XvD (h:ys.length<=ns.length):(X28 ns ys).length=ns.length:=by
 unfold X28;rw[LA,LM,LM,LM,LD];omega
theorem XpN (h:ns[ys.length]? =some n):(X28 ns ys)[ys.length]? =some (Xm n):=by
 unfold X28;rw[getElem?_append_right (by rw[LM,LM];exact Nat.le_refl _),LM,LM,Nat.sub_self,getElem?_map,getElem?_drop,Nat.add_zero,h];rfl
theorem XwQ (h:ns[ys.length]? =some n):(X28 ns ys).set ys.length (cRN (rXN (n,u,v)))=X28 ns (ys++[(n,u,v)]):=by
 unfold X28;have hlt:=(GS.1 h).1;have hd:ns.drop ys.length=n::ns.drop (ys.length+1):=by
  have:=drop_eq_getElem_cons hlt;rw[getElem?_eq_getElem hlt] at h;rw[this];congr 1;simpa using h
 rw[set_append_right _ _ (by rw[LM,LM];exact Nat.le_refl _),LM,LM,Nat.sub_self,hd,map_cons,set_cons_zero,map_append,map_append,AS,LA,length_singleton];rfl
theorem XnY (ns:List Nod):X28 ns []=ns.map Xm:=by simp[X28]
theorem Xse (h:ns.length<=ys.length):X28 ns ys=(ys.map rXN).map cRN:=by
 unfold X28;rw[drop_eq_nil_of_le h];simp
theorem XvZ (hy:ys.map (·.1)=ns.take ys.length) (h:ns[ys.length]? =some n):(ys++[((n,u,v):XN)]).map (·.1)=ns.take (ys++[((n,u,v):XN)]).length:=by
 have hlt:=(GS.1 h).1;rw[map_append,hy,LA,length_singleton,take_add_one,h];rfl
def X22 (ns:List Edg) (ys:List XE):List (List D):=(ys.map rXE).map cRE++(ns.drop ys.length).map Xr
theorem XrI (ns:List Edg) (ys:List XE):∀x∈X22 ns ys,x.length=5:=by
 intro x hx;rcases mem_append.1 hx with h|h
 ·obtain⟨p,_,rfl⟩:=mem_map.1 h;rfl
 ·obtain⟨p,_,rfl⟩:=mem_map.1 h;rfl
theorem XoY {ns:List Edg}{ys:List XE} (h:ys.length<=ns.length):(X22 ns ys).length=ns.length:=by
 unfold X22;rw[LA,LM,LM,LM,LD];omega
theorem Xs5 {ns:List Edg}{ys:List XE}{n:Edg} (h:ns[ys.length]? =some n):(X22 ns ys)[ys.length]? =some (Xr n):=by
 unfold X22;rw[getElem?_append_right (by rw[LM,LM];exact Nat.le_refl _),LM,LM,Nat.sub_self,getElem?_map,getElem?_drop,Nat.add_zero,h];rfl
theorem Xul {ns:List Edg}{ys:List XE}{n:Edg} (h:ns[ys.length]? =some n):(X22 ns ys).set ys.length (cRE (rXE (n,u)))=X22 ns (ys++[(n,u)]):=by
 unfold X22;have hlt:=(GS.1 h).1;have hd:ns.drop ys.length=n::ns.drop (ys.length+1):=by
  have:=drop_eq_getElem_cons hlt;rw[getElem?_eq_getElem hlt] at h;rw[this];congr 1;simpa using h
 rw[set_append_right _ _ (by rw[LM,LM];exact Nat.le_refl _),LM,LM,Nat.sub_self,hd,map_cons,set_cons_zero,map_append,map_append,AS,LA,length_singleton];rfl
theorem Xw6 (ns:List Edg):X22 ns []=ns.map Xr:=by simp[X22]
theorem XvM {ns:List Edg}{ys:List XE} (h:ns.length<=ys.length):X22 ns ys=(ys.map rXE).map cRE:=by
 unfold X22;rw[drop_eq_nil_of_le h];simp
theorem XxC {ns:List Edg}{ys:List XE}{n:Edg} (hy:ys.map (·.1)=ns.take ys.length) (h:ns[ys.length]? =some n):(ys++[((n,u):XE)]).map (·.1)=ns.take (ys++[((n,u):XE)]).length:=by
 have hlt:=(GS.1 h).1;rw[map_append,hy,LA,length_singleton,take_add_one,h];rfl
end Go.Fw
