/- States saved by the program: save. -/
import Derived.Test.YtfmfekakaeafhaaGreatDoorP44
import Derived.Test.YtfmfekakaeafhaaGreatDoorP45
set_option linter.all false
set_option maxHeartbeats 256000000
namespace Go.Fw
open Go Go.Proofs Tryz List
open List renaming length->J
set_option maxRecDepth 100000
def X6g (d:ak):Con prog 54 [] [XY d] [] (.tup []):=by
 refine VQ (xs:=[]) func54 rfl ntmps54 rfl rfl rfl (fun E=> ?_);refine W3_ ?_;exact(show Vw _ _ _ _ _ from⟨_,ZzS,TV,X5 _⟩)
variable{b:List UInt8}{d:ak}
def XgU {k:Nat} (h:64*k<J b):YI ((b.drop (64*k)).take 64)=((YI b).drop (64*k)).take 64:=by
 unfold YI;have hl:J (b.drop (64*k))=J b-64*k:=LD;rw[drop_append_of_le_length Oa];by_cases q:64<=J b-64*k
 ·rw[take_append_of_le_length Oa];have:J ((b.drop (64*k)).take 64)=64:=by rw[LT];omega
  rw[this];simp
 ·rw[take_append,take_of_length_le (l:=b.drop (64*k)) Oa,take_replicate,hl];congr 2;omega
def Xze (b:List UInt8) (d:ak) (a n:Nat):cD d a (replicate (n+1) b)=cD d a (replicate n b)++[Yt d a (replicate (n+1) b)]:=by
 rw[XkX,replicate_succ',Xkk,length_replicate]
def Xhb (h:DOk d):V1 d=((V1 d).1,0):=by rw[XfH h]
structure Stg (d:ak) (b:List UInt8) (K:Nat) (ep ts:Int) (n m:Nat) (D Z:Nat->ak) (a2 a3 a4 a5 a6:ak):Prop where
 n0:D 0=d
 okD:∀k,k<=n->DOk (D k)/\X05 (D k)
 wrD:∀k,k<n->VL (D k) ((2+K*Xx d+k:Nat):Int) (((YI b).drop (64*k)).take 64)=(D (k+1),0)
 w2:VL (D n) (K:Nat) Uz=(a2,0)
 eH:DOk a2/\X05 a2
 s3:V1 a2=(a3,0)
 iF:DOk a3/\X05 a3
 w4:VL a3 (K:Nat) (Vj ep ts (J b:Nat) (XP b:Nat))=(a4,0)
 dz:DOk a4/\X05 a4
 s5:V1 a4=(a5,0)
 z0:Z 0=a5
 okZ:∀k,k<=m->DOk (Z k)/\X05 (Z k)/\J (Z k).aa=J d.aa
 wrZ:∀k,k<m->VL (Z k) ((Xo d+k:Nat):Int) Uz=(Z (k+1),0)
 s6:V1 (Z m)=(a6,0)
 fin:a6=sv6 d b K ep ts
 trc:(∃R:Nat->List ak,R 0=[d]/\(∀k,k<n->R (k+1)=R k++[D (k+1)])/\(∀k,J (R k)=k+1)/\∃S:Nat->List ak,S 0=[a5]/\(∀k,k<m->S (k+1)=S k++[Z (k+1)])/\(∀k,J (S k)=k+1)/\svT d b K ep ts=R n++([a2,a3,a4]++(S m++[a6])))
def XgR {K:Nat}{ep ts:Int} (hd:DOk d) (hf:J d.aa<=2000/\J d.pending<=500) (aQ:16<=J d.aa) (hb:J b<=Xx d*64) (hK:K<2) (hh:J (Vj ep ts (J b:Nat) (XP b:Nat))=64):
  ∃n m D Z a2 a3 a4 a5 a6,Stg d b K ep ts n m D Z a2 a3 a4 a5 a6/\n*64=J (YI b)/\n<=Xx d/\m=J d.aa-Xo d:=by
 obtain⟨p1,p2,p3⟩:=X2i b;obtain⟨l1,l2,l3⟩:=X0m aQ;have l4:=X1L aQ hK;have hn:J (YI b)=64*(J (YI b)/64):=Oa
 have cO:WrOk d (2+K*Xx d) (J (YI b)/64) (YI b):=⟨hd,⟨Oa,Oa⟩,hn,Oa⟩
 obtain⟨s1,s2,s3⟩:=X1n (dV b) d (2+K*Xx d);have o1:DOk (sv1 d b K):=(X9p cO (Nat.le_refl _)).1;have e1:J (sv1 d b K).aa=J d.aa:=by show J (Yt _ _ _).aa=_;rw[s1]
 have o2:DOk (sv2 d b K):=X8A o1 Oa rfl;obtain⟨o3,e3,q3⟩:=X4S o2;have jK:J (sv3 d b K).aa=J d.aa:=e3.trans e1;have o4:DOk (sv4 d b K ep ts):=X8A o3 (by show K<J (sv3 d b K).aa;omega) hh;obtain⟨o5,e5,q5⟩:=X4S o4;have s9:J (sv5 d b K ep ts).aa=J d.aa:=e5.trans jK;have hz:∀k,k<=J d.aa-Xo d->DOk (Yt (sv5 d b K ep ts) (Xo d) (replicate k Uz))/\X05 (Yt (sv5 d b K ep ts) (Xo d) (replicate k Uz))/\J (Yt (sv5 d b K ep ts) (Xo d) (replicate k Uz)).aa=J d.aa:=fun k hk=>by
  obtain⟨k1,k2,k3⟩:=X1n (replicate k Uz) (sv5 d b K ep ts) (Xo d);have k4:=X2J (replicate k Uz) (sv5 d b K ep ts) (Xo d) o5 (by rw[length_replicate,s9];omega) (fun c hc=>by rw[eq_of_mem_replicate hc];rfl);exact⟨k4,X5x k4.v (by rw[k3,length_replicate,show(sv5 d b K ep ts).pending=[] from q5];simp;omega),by rw[k1,s9]⟩
 have ff:∀{x:ak},DOk x->J x.pending<=4096->DOk x/\X05 x:=fun h h'=>⟨h,X5x h.v h'⟩
 have vN:J (sv1 d b K).pending<=3000:=by
  unfold sv1 dV;obtain⟨k1,k2,k3⟩:=X1n (V0 (J (YI b)/64) (YI b)) d (2+K*Xx d);rw[k3,X3F];omega
 have vO:J (sv2 d b K).pending<=3001:=by
  show J ((sv1 d b K).pending++[(⟨(K:Nat),Uz⟩:Wr)])<=3001;rw[LA,length_singleton];omega
 have vP:J (sv4 d b K ep ts).pending<=1:=by
  show J ((sv3 d b K).pending++[_])<=1;rw[show (sv3 d b K).pending=[] from q3];simp
 refine⟨J (YI b)/64,J d.aa-Xo d,fun k=>Yt d (2+K*Xx d) (V0 k (YI b)),fun k=>Yt (sv5 d b K ep ts) (Xo d) (replicate k Uz),sv2 d b K,sv3 d b K,sv4 d b K ep ts,sv5 d b K ep ts,sv6 d b K ep ts,?_,Oa,Oa,rfl⟩;refine⟨rfl,fun k hk=>X9p cO hk,fun k hk=>(XdD cO hk).2.2.1,?_,ff o2 Oa,Xhb o2,ff o3 (by rw[show (sv3 d b K).pending=[] from q3];simp),?_,ff o4 Oa,Xhb o4,rfl,hz,fun k hk=> ?_,Xhb (hz _ (Nat.le_refl _)).1,rfl,?_⟩
 ·exact Xde o1 (by show K<J (sv1 d b K).aa;omega) rfl
 ·exact Xde o3 (by show K<J (sv3 d b K).aa;omega) hh
 ·have:=Xde (a:=Xo d+k) (b:=Uz) (hz k Oa).1 (by have:=(hz k Oa).2.2;omega) rfl;rw[this];show(_,(0:Int))=(Yt _ _ (replicate (k+1) Uz),0)
  rw[XkX]
 ·refine⟨fun k=>cD d (2+K*Xx d) (V0 k (YI b)),rfl,fun k hk=>(XdD cO hk).2.2.2,fun k=>by rw[X7f,X3F],fun k=>cD (sv5 d b K ep ts) (Xo d) (replicate k Uz),rfl,fun k hk=>Xze Uz _ _ k,fun k=>by rw[X7f,length_replicate],rfl⟩
def Xlh (d:ak) (s:Sta) (EP:Nat) (v:GV s.g) (hr:SchV s.rules) (hts:0<=s.ts/\s.ts<=1000000000000000) (c9:EP<=1000000000000000) (hd:DOk d) (hf:J d.aa<=2000/\J d.pending<=500) (aQ:16<=J d.aa):
  Con prog 53 [] [XY d,Xz s,ai (EP:Nat),.fn 54 []] [] (.tup [XY (Vi d s (EP:Nat)).1,Xz (Vi d s (EP:Nat)).2.1,ai (Vi d s (EP:Nat)).2.2]):=by
 refine ZCt func53 ntmps53 fun E=> ?_;have aD:=X5r (J d.aa:Nat);rw[X39 aQ Oa] at aD;have bA:=Xh9 s v hr (X49 v);have bx:=Xam v hr;have qw:Xx d<=500:=OZ
 have hrl:=hr.len;have aU:J (d.aa.map Yd)=J d.aa:=LM ..;by_cases hfull:Xx d*64<J (XQ s.g s.rules)
 case pos=>
  have e:Vi d s (EP:Nat)=(Ur,XT,20):=PI hfull;rw[e];have cx:((J ((XQ s.g s.rules).map X6):Nat):Int)>((Xx d*64:Nat):Int):=Oj
  have aV:Xz XT= .agg [.d (.sl 3 []),.d (.sl 5 []),ai 0,ai 0,.d (.sl 6 []),ai 0,ai 0,ai 0]:=rfl;unfold Xc at bA;simp only[aV];clear e v hr bx hfull;generalize (XQ s.g s.rules).map X6=B at*;generalize Xx d=SN at*;generalize Xo d=LN at*;rw[<-aU] at aD;obtain⟨secs,af,on⟩:=d;obtain⟨⟨ns,es,nn,ne⟩,rs,ts,iz,tail⟩:=s;simp only[Xz] at*;refine QKe ?_;refine XB ?_;exact QGe
 have e:Vi d s (EP:Nat)=(sv6 d (XQ s.g s.rules) (U8 (EP:Nat)) (EP:Nat) s.ts,⟨s.g,s.rules,s.ts,(EP:Nat),0⟩,0):=NI hfull;rw[e];have aL:U8 (EP:Nat)=EP%2:=Jh
 rw[aL];have b5:=X7z (XQ s.g s.rules);have iA:∀x∈[(EP:Int),s.ts,((J (XQ s.g s.rules):Nat):Int),((XP (XQ s.g s.rules):Nat):Int)],0<=x/\x<=9223372036854775807:=fun x hx=>by
  exact Yt34
 have mO:=X7g iA;have fK:=XgI (EP:Nat) s.ts (J (XQ s.g s.rules):Nat) (XP (XQ s.g s.rules):Nat) iA;obtain⟨n,m,DD,Z,a2,a3,a4,a5,a6,G,g1,g2,g3⟩:=XgR (K:=EP%2) (ep:=(EP:Nat)) (ts:=s.ts) hd hf aQ Oa Oa mO;obtain⟨l1,l2,l3⟩:=X0m aQ;rw[<-G.fin];have dA:=(XbT 100 (s.rules.map Xh) Oj).data rfl;have hsum:=X7V (XQ s.g s.rules);have aX:∀k,k<n->64*k<J (XQ s.g s.rules):=fun k hk=>by
  have:=(X2i (XQ s.g s.rules)).2.2;omega
 have aR:¬64*n<J (XQ s.g s.rules):=by
  have:=(X2i (XQ s.g s.rules)).2.1;omega
 have cB:∀k,k<n->Con prog 89 [] [.d (Xc (((XQ s.g s.rules).drop (64*k)).take 64))] [] (.d (Xc (((YI (XQ s.g s.rules)).drop (64*k)).take 64))):=fun k hk=>by
  rw[<-XgU (aX k hk)];exact Xow _ Oz
 clear e hfull b5 iA aL v hr;generalize XQ s.g s.rules=b at*;obtain⟨⟨ns,es,nn,ne⟩,rs,ts,iz,tail⟩:=s;simp only[Xz] at*;have gC:=G.n0;have ej:J (b.map X6)=J b:=LM ..;rw[<-ej] at fK;have dS:=X6g d;have nM:J d.aa<=2000:=hf.1;have hK:((EP%2:Nat):Int)<2:=Oa
 generalize mP:Xx d=SN at*;generalize nD:Xo d=LN at*;have jR:=fun k (hk:k<n)=>X5H (DD k) ((2+EP%2*SN+k:Nat):Int) (((YI b).drop (64*k)).take 64) (G.okD k Oa).2 Oz;have fB:∀k,k<n->Con prog 90 [] [XY (DD k),ai ((2+EP%2*SN+k:Nat):Int),.d (Xc (((YI b).drop (64*k)).take 64))] [] (X2S (XY (DD (k+1))) 0):=fun k hk=>by
  have h:=jR k hk;have g:=G.wrD k hk;rw[mP] at g;rw[g] at h;exact h
 have cC:=X5H (DD n) ((EP%2:Nat):Int) Uz (G.okD n (Nat.le_refl _)).2 Oi;rw[G.w2] at cC;have gM:=X64 a2 G.eH.2;rw[G.s3] at gM;have gN:=X5H a3 ((EP%2:Nat):Int) (Vj (EP:Nat) ts (J b:Nat) (XP b:Nat)) G.iF.2 Oa;rw[G.w4,<-ej] at gN;have fV:=X64 a4 G.dz.2;rw[G.s5] at fV;have gv:∀k,k<m->Con prog 90 [] [XY (Z k),ai ((LN+k:Nat):Int),.d (Xc Uz)] [] (X2S (XY (Z (k+1))) 0):=fun k hk=>by
  exact Yt59
 have gO:=X64 (Z m) (G.okZ m (Nat.le_refl _)).2.1;rw[G.s6] at gO;have fJ:=fun k hk=>(G.okZ k hk).2.2;have bH:=G.z0;clear G jR hd hf;have jv:¬((J (b.map X6):Nat):Int)>((SN*64:Nat):Int):=Oa
 have mQ:n<=500:=Oa
 have lg:m<=2000:=Oa
 have eJ:Con prog 29 [] [ai (J (a5.aa.map Yd):Nat)] [] (.tup [ai (SN:Nat),ai (LN:Nat),ab true]):=by
  have h:=fJ 0 (Nat.zero_le _);rw[bH] at h;rw[LM,h];exact aD
 generalize Vj (EP:Nat) ts (J (b.map X6):Nat) (XP b:Nat)=HB at*;generalize mR:YI b=PB at*;clear mR;rw[<-aU] at aD;subst gC;refine QKe ?_;refine YV ?_;refine QLe ?_;refine W6_ ?_;refine Z7 (ag:=dS) ?_;refine W7_ ?_;clear aD bA hsum dS
 refine Xl (fun k:Nat=>k<=n) (fun k=>⟨165,[(2,ai (EP:Nat)),(3,.fn 54 []),(4,.ptr 100 0),(5,.ptr 101 0),(8,.ptr 102 0),(9,.ptr 103 0),(11,ai (SN:Nat)),(14,.d (.sl 1 (b.map X6))),(15,.ptr 104 0),(16,ai (EP%2:Nat)),(17,ai (64*k:Nat))],[(100,.box [.d (XS (DD k).aa),.d (XW (DD k).pending),ab (DD k).on]),(101,.box [.d (.sl 3 (ns.map Xi)),.d (.sl 5 (es.map Xk)),ai nn,ai ne,.d (.sl 6 (rs.map Xh)),ai ts,ai iz,ai tail]),(102,.box [aq,aq,ab false]),(103,.box [aq,aq,ai 0,ai 0,aq,ai 0,ai 0,ai 0]),(104,.box [ai (EP:Nat),ai ts,ai (J (b.map X6)),ai (XP b:Nat)])]⟩) (fun k=>n-k) 0 (Nat.zero_le _)
  (ZL0) ?_
 intro k hk;by_cases aG:k<n
 case pos=>
  have hkb:=aX k aG;have hn:((64*k:Nat):Int)<(J (b.map X6):Nat):=Oa
  have hp:=cB k aG;have hw:=fB k aG;have hs:=X6g (DD (k+1));obtain⟨hb',hmin⟩:∃h:Nat,min (((64*k+64:Nat):Int)) (J (b.map X6):Nat)=(h:Int)/\(h=min (64*k+64) (J (b.map X6))):=⟨min (64*k+64) (J (b.map X6)),Oa,rfl⟩
  exact Yt8
 obtain rfl:k=n:=Oa
 have hn:¬((64*k:Nat):Int)<(J (b.map X6):Nat):=Oa
 clear cB fB aX hk aG;have v2:=X6g a2;have v3:=X6g a3;have v4:=X6g a4;have v5:=X6g a5;generalize DD k=dn at*;rw[<-bH] at fV v5 eJ;generalize mS:Z 0=a5' at*;obtain⟨sn,pn,uy⟩:=dn;obtain⟨x2,y2,z2⟩:=a2;obtain⟨x3,y3,z3⟩:=a3;obtain⟨x4,y4,z4⟩:=a4;obtain⟨x5,y5,z5⟩:=a5';refine Ya ?_;refine Z5 (ag:=cC) ?_;refine W9_ ?_;refine Z7 (ag:=v2) ?_;refine W4_ ?_;refine Z5 (ag:=gM) ?_;refine W9_ ?_;refine Z7 (ag:=v3) ?_;refine W7_ ?_;refine Z5 (ag:=gN) ?_;refine W9_ ?_;refine Z7 (ag:=v4) ?_;refine W4_ ?_;refine Z5 (ag:=fV) ?_;refine W9_ ?_;refine Z7 (ag:=v5) ?_;refine W6_ ?_;refine Z5 (ag:=eJ) ?_;refine Ya ?_;clear cC gM fK gN fV v2 v3 v4 v5 eJ
 refine Xl (fun k:Nat=>k<=m) (fun k=>⟨165,[(2,ai (EP:Nat)),(3,.fn 54 []),(4,.ptr 100 0),(5,.ptr 101 0),(8,.ptr 102 0),(9,.ptr 103 0),(22,ai (LN+k:Nat))],[(100,.box [.d (XS (Z k).aa),.d (XW (Z k).pending),ab (Z k).on]),(101,.box [.d (.sl 3 (ns.map Xi)),.d (.sl 5 (es.map Xk)),ai nn,ai ne,.d (.sl 6 (rs.map Xh)),ai ts,ai iz,ai tail]),(102,.box [aq,aq,ab false]),(103,.box [aq,aq,ai 0,ai 0,aq,ai 0,ai 0,ai 0])]⟩) (fun k=>m-k) 0 (Nat.zero_le _)
  (by simp only[mS];exact ZL0) ?_
 clear hn bH mS;intro i hi;have hzl:=fJ i hi;have qx:J ((Z i).aa.map Yd)=LN+m:=Oj
 by_cases hil:i<m
 case pos=>
  have hn:((LN+i:Nat):Int)<(J ((Z i).aa.map Yd):Nat):=Oa
  have hn':LN+i<J (Z i).aa:=Oa
  have hw:=gv i hil;have hs:=X6g (Z (i+1));clear gv fJ hzl gO dA;refine Yh ?_;refine QPe ?_;refine W6_ ?_;exact QDd
 obtain rfl:i=m:=Oa
 have hn:¬((LN+i:Nat):Int)<(J ((Z i).aa.map Yd):Nat):=Oa
 have hn':¬LN+i<J (Z i).aa:=Oa
 have v6:=X6g a6;clear gv fJ hzl;generalize Z i=d1 at*;obtain⟨s1,p1,o1⟩:=d1;obtain⟨x6,y6,z6⟩:=a6;simp only at qx hn hn';refine XD ?_;refine Z5 (ag:=gO) ?_;refine W9_ ?_;refine Z7 (ag:=v6) ?_;refine Yb ?_;exact QIe
def XkV (n:Int) (hn:n<=2000):Con prog 30 [] [ai n] [] (.tup [XY (X0F n).1,Xz (X0F n).2.1,ai (X0F n).2.2]):=by
 refine ZCt func30 ntmps30 fun E=> ?_;have hl:=X5r n;have aV:Xz XT= .agg [.d (.sl 3 []),.d (.sl 5 []),ai 0,ai 0,.d (.sl 6 []),ai 0,ai 0,ai 0]:=rfl;by_cases q:(X0x n).2.2=false
 ·have e:X0F n=(Ur,XT,1):=PI q;rw[e];simp only[aV];rw[q] at hl;generalize (X0x n).1=a at*;generalize (X0x n).2.1=b at*;refine XA ?_;refine Z5 (ag:=hl) ?_;refine YJ ?_;exact X3 ⟨_,St.le_trans (Xg 100 (cs:=[aq,aq,ab false]) (cs':=[.d (XS []),.d (XW []),ab false]) rfl ⟨AVal.le_nil 1,AVal.le_nil 2,ZzV,TV⟩ rfl) (Xg 101 (cs:=[aq,aq,ai 0,ai 0,aq,ai 0,ai 0,ai 0]) (cs':=[.d (.sl 3 []),.d (.sl 5 []),ai 0,ai 0,.d (.sl 6 []),ai 0,ai 0,ai 0]) rfl ⟨AVal.le_nil 3,AVal.le_nil 5,ZzV,ZzV,AVal.le_nil 6,ZzV,ZzV,ZzV,TV⟩ rfl),⟨⟨100,0,_,rfl,rfl,.inr ⟨3,_,rfl,rfl,rfl,rfl⟩⟩,⟨101,0,_,rfl,rfl,.inr ⟨8,_,rfl,rfl,rfl,rfl⟩⟩,rfl,TV⟩,X5 _⟩
 have e:X0F n=Vi (X0O n).1 ⟨UJ,[],0,0,0⟩ 1:=NI q;rw[e];rw[show (X0x n).2.2=true by simpa using q] at hl;have aQ:16<=n:=by
  by_cases h:n<16
  ·rw[XaS (.inl h)] at q;simp at q
  ·omega
 obtain⟨o1,o2,o3,_⟩:=Xmq aQ hn;have iR:=XwT n;have nX:=Xhi;have iM:=Xlh (X0O n).1 ⟨UJ,[],0,0,0⟩ 1 (X6Q.1 XbB) ⟨fun r h=>OQ,Pairwise.nil,Oc⟩ ⟨Oc,Oc⟩ Oi o1 ⟨by rw[o3];omega,by rw[o2];simp⟩ (by rw[o3];omega);generalize (X0x n).1=a at*;generalize (X0x n).2.1=b at*;have hX:Vi (X0O n).1 ⟨UJ,[],0,0,0⟩ 1=Vi (X0O n).1 ⟨UJ,[],0,0,0⟩ ((1:Nat):Int):=rfl;rw[hX];generalize Vi (X0O n).1 ⟨UJ,[],0,0,0⟩ ((1:Nat):Int)=X at*;clear hX e q o1 o2 o3;generalize (X0O n).1=d at*;generalize (X0O n).2=d2 at*;obtain⟨secs,af,on⟩:=d;obtain⟨⟨xs,xp,xo⟩,⟨⟨ns,es,nn,ne⟩,rs,ts,ep,tail⟩,xe⟩:=X;simp only[Xz,XZ,map_nil] at*;refine XA ?_;refine Z5 (ag:=hl) ?_;refine UK ?_;refine Z5 (ag:=iM) ?_;refine W7_ ?_;exact X3 ⟨_,ZzS,⟨⟨100,0,_,rfl,rfl,.inr ⟨3,_,rfl,rfl,rfl,rfl⟩⟩,⟨101,0,_,rfl,rfl,.inr ⟨8,_,rfl,rfl,rfl,rfl⟩⟩,rfl,TV⟩,X5 _⟩
def Xsm (s:Sta) (ts ep tail:Int) (hs:StaHold s):Con prog 14 [] [Xz s,Xz ⟨s.g,s.rules,ts,ep,tail⟩] [] (ab (decide (s.ts=ts/\s.ep=ep/\s.tail=tail))):=by
 refine ZC1 func14 ntmps14 fun E=> ?_;have hg:=Xql s.g hs.g;have hl:=hs.rl;clear hs;obtain⟨⟨ns,es,nn,ne⟩,l,ts',kU,tail'⟩:=s;simp only[Xz,XZ] at*;have hlm:J (l.map Xh)=J l:=Oc
 by_cases q1:ts'=ts
 case neg=>
  rw[DF (fun h=>q1 h.1)];refine Qxa ?_
  (exact Zz2)
 by_cases q2:kU=ep
 case neg=>
  rw[DF (fun h=>q2 h.2.1)];refine Qxa ?_
  (exact Zz2)
 by_cases q3:tail'=tail
 case neg=>
  rw[DF (fun h=>q3 h.2.2)];refine Qxa ?_
  (exact Zz2)
 subst q1;subst q2;subst q3;rw[DT ⟨rfl,rfl,rfl⟩];refine QZ ?_;clear hg
 refine Xl (fun i:Nat=>i<=J l) (fun i=>⟨60,[(2,.ptr 100 0),(3,.ptr 101 0),(5,ai i)],[(100,.box [.d (.sl 3 (ns.map Xi)),.d (.sl 5 (es.map Xk)),ai nn,ai ne,.d (.sl 6 (l.map Xh)),ai ts',ai kU,ai tail']),(101,.box [.d (.sl 3 (ns.map Xi)),.d (.sl 5 (es.map Xk)),ai nn,ai ne,.d (.sl 6 (l.map Xh)),ai ts',ai kU,ai tail'])]⟩) (fun i=>J l-i) 0 (Nat.zero_le _)
  (ZL0) ?_
 intro i hi;by_cases hil:i<J l
 case neg=>
  obtain rfl:i=J l:=Oa
  have hn:¬((J l:Nat):Int)<J (l.map Xh):=Oa
  refine Ya ?_
  (exact Zz2)
 have hn:(i:Int)<J (l.map Xh):=Oa
 obtain⟨x,hx⟩:=Xn (l:=l) hil;have au:(l.map Xh)[i]? =some (Xh x):=XC hx;obtain⟨rk,rn,dX,g8,g9,ga⟩:=x;simp only[Xh] at au;clear hx;have hz:=XvD [.int .i64 rk,.int .i64 rn,.string (X7 dX),.string (X7 g8),.string (X7 g9),.string (X7 ga)] [.i .i64,.i .i64,.s,.s,.s,.s] rfl;refine V4 ?_;refine X3Z (us:=[.int .i64 rk,.int .i64 rn,.string (X7 dX),.string (X7 g8),.string (X7 g9),.string (X7 ga)]) (vs:=[.int .i64 rk,.int .i64 rn,.string (X7 dX),.string (X7 g8),.string (X7 g9),.string (X7 ga)]) (r:=true) (hg:=JSa) (hx:=JSb) (hy:=JSb) (hcs:=JSb) (aP:=JSb) (hu:=JSb) (hv:=JSb) (hd:=JSb) ?_ (hk:=by exact X4h) (hr:=by exact hz);refine W8_ ?_;exact QDd
def X8E (s:Sta) (hs:StaHold s):Con prog 14 [] [Xz s,Xz s] [] (ab true):=by
 have h:=Xsm s s.ts s.ep s.tail hs
 rwa [DT ⟨rfl,rfl,rfl⟩] at h
def Xca {α:Type}{p:α->Bool}{l:List α}{i:Nat}{x:α} (h:l[i]? =some x):(l.drop i).all p=(p x&&(l.drop (i+1)).all p):=by
 obtain⟨h1,h2⟩:=GS.1 h;rw[drop_eq_getElem_cons h1,h2,all_cons]
def XoO (ts id:Int):Con prog 31 [] [ai ts,ai id] [] (Um ⟨1,ts,[⟨1,id,0,0,[],zV⟩],zR,false⟩):=by
 refine ZC1 func31 ntmps31 fun E=> ?_;simp only[Um,zR,map_cons,map_nil,Xp,zV,XR];refine XK ?_
 (exact Zz1 rfl ⟨_,Xg 100 (cs':=[ai 1,ai ts,.d (.sl 10 [[.v (.int .i64 1),.v (.int .i64 id),.v (.int .i64 0),.v (.int .i64 0),.v (.string (X7 [])),.v (.int .i64 0),.v (.int .i64 0),.v (.int .i64 0),.v (.string (X7 [])),.sl 5 []]]),ai 0,ai 0,Xa [],Xa [],Xa [],Xa [],ab false]) rfl
  ⟨ZzV,ZzV,AVal.le_d (XcE (XdN (X1p (X1O _) (X1p (X1O _) (X1p (X1O _) (X1p (X1O _) (X1p (X1O _) (X1p (X1O _) (X1p (X1O _) (X1p (X1O _) (X1p (X1O _) (X1p (XhI 5) XlW)))))))))) rfl (XmH 10))),ZzV,ZzV,ZzV,ZzV,ZzV,ZzV,ZzV,TV⟩ rfl,⟨⟨100,0,_,rfl,rfl,.inr ⟨10,_,rfl,rfl,rfl,rfl⟩⟩,TV⟩,X5 _⟩)
end Go.Fw
