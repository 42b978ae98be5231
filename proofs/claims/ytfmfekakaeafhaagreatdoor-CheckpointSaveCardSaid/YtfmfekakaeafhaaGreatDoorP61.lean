/- A result of one's own, let go. -/
import Derived.Test.YtfmfekakaeafhaaGreatDoorP46
import Derived.Test.YtfmfekakaeafhaaGreatDoorP52
import Derived.Test.YtfmfekakaeafhaaGreatDoorP54
import Derived.Test.YtfmfekakaeafhaaGreatDoorP56
import Derived.Test.YtfmfekakaeafhaaGreatDoorP57
set_option linter.all false
set_option maxHeartbeats 256000000
namespace Go.Fw
open Go List
open List renaming length->J
def Con.dataC {P:Program}{f:FuncId}{args:List AVal}{γ δ s1 s2 n m:Nat}{xs ys:List (List D)}{y:D} (h:Con P f [] args [(γ,.row s1 xs),(δ,.row s2 ys)] (.agg [.own γ n,.own δ m,.d y])) (hn:n=J xs) (hm:m=J ys) (hne:γ≠δ):Con P f [] args [] (.agg [.d (.sl s1 xs),.d (.sl s2 ys),.d y]):=by
 intro g w vs hi hs;refine(h g w vs hi hs).mono ?_;rintro e w' ⟨v,g',h1,h2,h3,_⟩;obtain⟨M1,l1,i1⟩:=X8F (S:=⟨0,[],[(γ,.row s1 xs),(δ,.row s2 ys)]⟩) (γ:=γ) h3 (YK _ _ _ _);obtain⟨M2,l2,i2⟩:=X8F (S:=⟨0,[],[(γ,.froz s1 xs),(γ,.row s1 xs),(δ,.row s2 ys)]⟩) (γ:=δ) i1 (by simp only[St.obj];rw[YC _ _ _ hne,YC _ _ _ hne,YK]);have o1:=i2.obj γ;have o2:=i2.obj δ;rw[YK] at o2;rw[YC _ _ _ (Ne.symm hne),YK] at o1;have cV:(AVal.agg [.own γ n,.own δ m,.d y]).sat {g' with M:=M2} v:=X3R (g:=g') (g':={g' with M:=M2}) (l1.trans l2) rfl rfl rfl h2;refine⟨v,{g' with M:=M2},h1,?_,(i2.free (g0:={g' with M:=M2}) fun γ _=>Gh.keeps_refl _ _).sub fun k=> .inr rfl,fun γ b6=>by simp[Yg] at b6⟩;simp only[AVal.sat] at cV |-;obtain⟨us,e1,e2⟩:=cV;refine⟨us,e1,?_⟩;generalize us.toList=l at*
 match l,e2 with
 |[a,b,c],e2=>
  simp only[Xy,AVal.sat,and_true] at e2 |-;have k1:=X75 (γ:=γ) (u:=a) o1 hn (by simp only[AVal.sat];exact e2.1);have k2:=X75 (γ:=δ) (u:=b) o2 hm (by simp only[AVal.sat];exact e2.2.1);simp only[AVal.sat] at k1 k2;exact⟨k1,k2,e2.2.2⟩
def X5K (d:ak) (s:Sta):List ak:=if (Up d s).2.2≠0 then [] else svT d (XQ s.g s.rules) (U8 (s.ep+1)) (s.ep+1) s.ts
open Go Go.Proofs Tryz
open List renaming length->J
set_option maxRecDepth 100000
variable{b:List UInt8}{K:Nat}{ep ts:Int}{d:ak}{s:Sta}
def Xpi (hb:J b<=64):J (X54 b)=64:=by
 unfold X54;rw[LA,length_replicate];omega
def XhH (b:List UInt8) (hb:J b<=64):Con prog 100 [] [.d (Xc b)] [] (.d (Xc (X54 b))):=(Xpd b hb).data (by rw[LM,Xpi hb])
def Xst (d:ak) (hl:X05 d):Con prog 45 [] [XY d] [] (XY d):=
 (X7P d hl).dataC (LM ..).symm (LM ..).symm Oi
abbrev oD (T:List (List D)):List (Nat×AObj):=[(0,.box [.own 1 (J T)]),(1,.row 3 T)]
def X6r (T:List (List D)) (d:ak) (hT:J T<=100000):Con prog 57 (oD T) [XY d,.ptr 0 0] (oD (T++[XO d])) (.tup []):=by
 refine VQ (xs:=[]) func57 rfl ntmps57 rfl rfl rfl (fun E=> ?_);obtain⟨secs,af,on⟩:=d;simp only[XO];refine XB ?_;exact QMd
def X5v (d:ak) (s:Sta) (ep:Int):List ak:=if (Xx d*64:Nat)<J (XQ s.g s.rules) then [] else svT d (XQ s.g s.rules) (U8 ep) ep s.ts
def Xy0 (d:ak) (s:Sta) (EP:Nat) (v:GV s.g) (hr:SchV s.rules) (hts:0<=s.ts/\s.ts<=1000000000000000) (c9:EP<=1000000000000000) (hd:DOk d) (hf:J d.aa<=2000/\J d.pending<=500) (aQ:16<=J d.aa):
  Con prog 53 (oD []) [XY d,Xz s,ai (EP:Nat),.fn 57 [.ptr 0 0]] (oD ((X5v d s (EP:Nat)).map XO)) (.tup [XY (Vi d s (EP:Nat)).1,Xz (Vi d s (EP:Nat)).2.1,ai (Vi d s (EP:Nat)).2.2]):=by
 refine ZCt func53 ntmps53 fun E=> ?_;have aD:=X5r (J d.aa:Nat);rw[X39 aQ Oa] at aD;have bA:=Xh9 s v hr (X49 v);have bx:=Xam v hr;have qw:Xx d<=500:=OZ
 have hrl:=hr.len;have aU:J (d.aa.map Yd)=J d.aa:=LM ..;by_cases hfull:Xx d*64<J (XQ s.g s.rules)
 case pos=>
  have e:Vi d s (EP:Nat)=(Ur,XT,20):=PI hfull;rw[e];rw[show X5v d s (EP:Nat)=[] from PI hfull];have cx:((J ((XQ s.g s.rules).map X6):Nat):Int)>((Xx d*64:Nat):Int):=Oj
  have aV:Xz XT= .agg [.d (.sl 3 []),.d (.sl 5 []),ai 0,ai 0,.d (.sl 6 []),ai 0,ai 0,ai 0]:=rfl;unfold Xc at bA;simp only[aV];clear e v hr bx hfull;generalize (XQ s.g s.rules).map X6=B at*;generalize Xx d=SN at*;generalize Xo d=LN at*;rw[<-aU] at aD;obtain⟨secs,af,on⟩:=d;obtain⟨⟨ns,es,nn,ne⟩,rs,ts,iz,tail⟩:=s;simp only[Xz,map_nil] at*;refine QKe ?_;refine XB ?_;exact X3 ⟨_,St.le_trans (Xg 102 (cs:=[aq,aq,ab false]) (cs':=[.d (XS []),.d (XW []),ab false]) rfl ⟨AVal.le_nil 1,AVal.le_nil 2,ZzV,TV⟩ rfl) (Xg 103 (cs:=[aq,aq,ai 0,ai 0,aq,ai 0,ai 0,ai 0]) (cs':=[.d (.sl 3 []),.d (.sl 5 []),ai 0,ai 0,.d (.sl 6 []),ai 0,ai 0,ai 0]) rfl ⟨AVal.le_nil 3,AVal.le_nil 5,ZzV,ZzV,AVal.le_nil 6,ZzV,ZzV,ZzV,TV⟩ rfl),⟨⟨102,0,_,rfl,rfl,.inr ⟨3,_,rfl,rfl,rfl,rfl⟩⟩,⟨103,0,_,rfl,rfl,.inr ⟨8,_,rfl,rfl,rfl,rfl⟩⟩,rfl,TV⟩,Xm ⟨rfl,rfl,TV⟩⟩
 have e:Vi d s (EP:Nat)=(sv6 d (XQ s.g s.rules) (U8 (EP:Nat)) (EP:Nat) s.ts,⟨s.g,s.rules,s.ts,(EP:Nat),0⟩,0):=NI hfull;rw[e];rw[show X5v d s (EP:Nat)=svT d (XQ s.g s.rules) (U8 (EP:Nat)) (EP:Nat) s.ts from NI hfull];have aL:U8 (EP:Nat)=EP%2:=Jh
 rw[aL];have b5:=X7z (XQ s.g s.rules);have iA:∀x∈[(EP:Int),s.ts,((J (XQ s.g s.rules):Nat):Int),((XP (XQ s.g s.rules):Nat):Int)],0<=x/\x<=9223372036854775807:=fun x hx=>by
  exact Yt34
 have mO:=X7g iA;have fK:=XgI (EP:Nat) s.ts (J (XQ s.g s.rules):Nat) (XP (XQ s.g s.rules):Nat) iA;obtain⟨n,m,DD,Z,a2,a3,a4,a5,a6,G,g1,g2,g3⟩:=XgR (K:=EP%2) (ep:=(EP:Nat)) (ts:=s.ts) hd hf aQ Oa Oa mO;obtain⟨l1,l2,l3⟩:=X0m aQ;rw[<-G.fin];have dA:=(XbT 100 (s.rules.map Xh) Oj).data rfl;have hsum:=X7V (XQ s.g s.rules);have aX:∀k,k<n->64*k<J (XQ s.g s.rules):=fun k hk=>by
  have:=(X2i (XQ s.g s.rules)).2.2;omega
 have aR:¬64*n<J (XQ s.g s.rules):=by
  have:=(X2i (XQ s.g s.rules)).2.1;omega
 have cB:∀k,k<n->Con prog 89 [] [.d (Xc (((XQ s.g s.rules).drop (64*k)).take 64))] [] (.d (Xc (((YI (XQ s.g s.rules)).drop (64*k)).take 64))):=fun k hk=>by
  rw[<-XgU (aX k hk)];exact Xow _ Oz
 clear e hfull b5 iA aL v hr;generalize XQ s.g s.rules=b at*;obtain⟨⟨ns,es,nn,ne⟩,rs,ts,iz,tail⟩:=s;simp only[Xz] at*;have gC:=G.n0;have ej:J (b.map X6)=J b:=LM ..;rw[<-ej] at fK;obtain⟨R,r1,r2,r3,S,t1,t2,t3,t4⟩:=G.trc;obtain⟨X,hX⟩:∃X:Nat->List (List D),∀k,(R k).map XO=X k:=⟨_,fun _=>rfl⟩
 have bF:[]++[XO d]=X 0:=by rw[<-hX,r1];rfl
 have bw:∀k,k<n->X k++[XO (DD (k+1))]=X (k+1):=fun k hk=>by rw[<-hX,<-hX,r2 k hk,map_append];rfl
 have b7:∀k,J (X k)=k+1:=fun k=>by rw[<-hX,LM,r3]
 obtain⟨Y2,iI⟩:∃Y,X n++[XO a2]=Y:=⟨_,rfl⟩
 obtain⟨Y3,jj⟩:∃Y,Y2++[XO a3]=Y:=⟨_,rfl⟩
 obtain⟨Y4,qB⟩:∃Y,Y3++[XO a4]=Y:=⟨_,rfl⟩
 have ey:J Y2=n+2/\J Y3=n+3/\J Y4=n+4:=by
  refine⟨by rw[<-iI,LA,b7];rfl,by rw[<-jj,<-iI,LA,LA,b7];rfl,by rw[<-qB,<-jj,<-iI,LA,LA,LA,b7];rfl⟩
 obtain⟨V,hV⟩:∃V:Nat->List (List D),∀k,Y4++(S k).map XO=V k:=⟨_,fun _=>rfl⟩
 have kV:Y4++[XO a5]=V 0:=by rw[<-hV,t1];rfl
 have kW:∀k,k<m->V k++[XO (Z (k+1))]=V (k+1):=fun k hk=>by rw[<-hV,<-hV,t2 k hk,map_append,AS];rfl
 have lQ:∀k,J (V k)=n+5+k:=fun k=>by rw[<-hV,LA,LM,t3];omega
 have kD:(svT d b (EP%2) (EP:Nat) ts).map XO=V m++[XO a6]:=by
  rw[t4,<-hV,<-qB,<-jj,<-iI,<-hX];simp only[map_append,map_cons,map_nil,AS,cons_append,nil_append]
 rw[kD];clear r1 r2 r3 t1 t2 t3 t4 hX hV kD;have dS:=X6r [] d Oc;rw[bF] at dS;have nM:J d.aa<=2000:=hf.1;have hK:((EP%2:Nat):Int)<2:=Oa
 generalize mP:Xx d=SN at*;generalize nD:Xo d=LN at*;have jR:=fun k (hk:k<n)=>X5H (DD k) ((2+EP%2*SN+k:Nat):Int) (((YI b).drop (64*k)).take 64) (G.okD k Oa).2 Oz;have fB:∀k,k<n->Con prog 90 [] [XY (DD k),ai ((2+EP%2*SN+k:Nat):Int),.d (Xc (((YI b).drop (64*k)).take 64))] [] (X2S (XY (DD (k+1))) 0):=fun k hk=>by
  have h:=jR k hk;have g:=G.wrD k hk;rw[mP] at g;rw[g] at h;exact h
 have cC:=X5H (DD n) ((EP%2:Nat):Int) Uz (G.okD n (Nat.le_refl _)).2 Oi;rw[G.w2] at cC;have gM:=X64 a2 G.eH.2;rw[G.s3] at gM;have gN:=X5H a3 ((EP%2:Nat):Int) (Vj (EP:Nat) ts (J b:Nat) (XP b:Nat)) G.iF.2 Oa;rw[G.w4,<-ej] at gN;have fV:=X64 a4 G.dz.2;rw[G.s5] at fV;have gv:∀k,k<m->Con prog 90 [] [XY (Z k),ai ((LN+k:Nat):Int),.d (Xc Uz)] [] (X2S (XY (Z (k+1))) 0):=fun k hk=>by
  exact Yt59
 have gO:=X64 (Z m) (G.okZ m (Nat.le_refl _)).2.1;rw[G.s6] at gO;have fJ:=fun k hk=>(G.okZ k hk).2.2;have bH:=G.z0;clear G jR hd hf;have jv:¬((J (b.map X6):Nat):Int)>((SN*64:Nat):Int):=Oa
 have mQ:n<=500:=Oa
 have lg:m<=2000:=Oa
 have eJ:Con prog 29 [] [ai (J (a5.aa.map Yd):Nat)] [] (.tup [ai (SN:Nat),ai (LN:Nat),ab true]):=by
  have h:=fJ 0 (Nat.zero_le _);rw[bH] at h;rw[LM,h];exact aD
 generalize Vj (EP:Nat) ts (J (b.map X6):Nat) (XP b:Nat)=HB at*;generalize mR:YI b=PB at*;clear mR;rw[<-aU] at aD;subst gC;refine QKe ?_;refine YV ?_;refine QLe ?_;refine W6_ ?_;refine Z7 (ag:=dS) ?_;refine W7_ ?_;clear aD bA hsum dS
 refine Xl (fun k:Nat=>k<=n) (fun k=>⟨165,[(2,ai (EP:Nat)),(3,.fn 57 [.ptr 0 0]),(4,.ptr 100 0),(5,.ptr 101 0),(8,.ptr 102 0),(9,.ptr 103 0),(11,ai (SN:Nat)),(14,.d (.sl 1 (b.map X6))),(15,.ptr 104 0),(16,ai (EP%2:Nat)),(17,ai (64*k:Nat))],[(0,.box [.own 1 (J (X k))]),(1,.row 3 (X k)),(100,.box [.d (XS (DD k).aa),.d (XW (DD k).pending),ab (DD k).on]),(101,.box [.d (.sl 3 (ns.map Xi)),.d (.sl 5 (es.map Xk)),ai nn,ai ne,.d (.sl 6 (rs.map Xh)),ai ts,ai iz,ai tail]),(102,.box [aq,aq,ab false]),(103,.box [aq,aq,ai 0,ai 0,aq,ai 0,ai 0,ai 0]),(104,.box [ai (EP:Nat),ai ts,ai (J (b.map X6)),ai (XP b:Nat)])]⟩) (fun k=>n-k) 0 (Nat.zero_le _)
  (ZL0) ?_
 intro k hk;by_cases aG:k<n
 case pos=>
  have hkb:=aX k aG;have hn:((64*k:Nat):Int)<(J (b.map X6):Nat):=Oa
  have hp:=cB k aG;have hw:=fB k aG;have hs:=X6r (X k) (DD (k+1)) (by rw[b7];omega);rw[bw k aG] at hs;obtain⟨hb',hmin⟩:∃h:Nat,min (((64*k+64:Nat):Int)) (J (b.map X6):Nat)=(h:Int)/\(h=min (64*k+64) (J (b.map X6))):=⟨min (64*k+64) (J (b.map X6)),Oa,rfl⟩
  exact Yt8
 obtain rfl:k=n:=Oa
 have hn:¬((64*k:Nat):Int)<(J (b.map X6):Nat):=Oa
 clear cB fB aX hk aG;have v2:=X6r (X k) a2 (by rw[b7];omega);have v3:=X6r Y2 a3 Oa;have v4:=X6r Y3 a4 Oa;have v5:=X6r Y4 a5 Oa;rw[iI] at v2;rw[jj] at v3;rw[qB] at v4;rw[kV] at v5;generalize DD k=dn at*;rw[<-bH] at fV v5 eJ;generalize mS:Z 0=a5' at*;obtain⟨sn,pn,uy⟩:=dn;obtain⟨x2,y2,z2⟩:=a2;obtain⟨x3,y3,z3⟩:=a3;obtain⟨x4,y4,z4⟩:=a4;obtain⟨x5,y5,z5⟩:=a5';refine Ya ?_;refine Z5 (ag:=cC) ?_;refine W9_ ?_;refine Z7 (ag:=v2) ?_;refine W4_ ?_;refine Z5 (ag:=gM) ?_;refine W9_ ?_;refine Z7 (ag:=v3) ?_;refine W7_ ?_;refine Z5 (ag:=gN) ?_;refine W9_ ?_;refine Z7 (ag:=v4) ?_;refine W4_ ?_;refine Z5 (ag:=fV) ?_;refine W9_ ?_;refine Z7 (ag:=v5) ?_;refine W6_ ?_;refine Z5 (ag:=eJ) ?_;refine Ya ?_;clear cC gM fK gN fV v2 v3 v4 v5 eJ
 refine Xl (fun k:Nat=>k<=m) (fun k=>⟨165,[(2,ai (EP:Nat)),(3,.fn 57 [.ptr 0 0]),(4,.ptr 100 0),(5,.ptr 101 0),(8,.ptr 102 0),(9,.ptr 103 0),(22,ai (LN+k:Nat))],[(0,.box [.own 1 (J (V k))]),(1,.row 3 (V k)),(100,.box [.d (XS (Z k).aa),.d (XW (Z k).pending),ab (Z k).on]),(101,.box [.d (.sl 3 (ns.map Xi)),.d (.sl 5 (es.map Xk)),ai nn,ai ne,.d (.sl 6 (rs.map Xh)),ai ts,ai iz,ai tail]),(102,.box [aq,aq,ab false]),(103,.box [aq,aq,ai 0,ai 0,aq,ai 0,ai 0,ai 0])]⟩) (fun k=>m-k) 0 (Nat.zero_le _)
  (by simp only[mS];exact ZL0) ?_
 clear hn bH mS;intro i hi;have hzl:=fJ i hi;have qx:J ((Z i).aa.map Yd)=LN+m:=Oj
 by_cases hil:i<m
 case pos=>
  have hn:((LN+i:Nat):Int)<(J ((Z i).aa.map Yd):Nat):=Oa
  have hn':LN+i<J (Z i).aa:=Oa
  have hw:=gv i hil;have hs:=X6r (V i) (Z (i+1)) (by rw[lQ];omega);rw[kW i hil] at hs;clear gv fJ hzl gO dA;refine Yh ?_;refine QPe ?_;refine W6_ ?_;exact QDd
 obtain rfl:i=m:=Oa
 have hn:¬((LN+i:Nat):Int)<(J ((Z i).aa.map Yd):Nat):=Oa
 have hn':¬LN+i<J (Z i).aa:=Oa
 have v6:=X6r (V i) a6 (by rw[lQ];omega);clear gv fJ hzl;generalize Z i=d1 at*;obtain⟨s1,p1,o1⟩:=d1;obtain⟨x6,y6,z6⟩:=a6;simp only at qx hn hn';generalize V i++[XO ⟨x6,y6,z6⟩]=VV at*;refine XD ?_;refine Z5 (ag:=gO) ?_;refine W9_ ?_;refine Z7 (ag:=v6) ?_;refine Yb ?_;exact X3 ⟨_,ZzS,⟨⟨102,0,_,rfl,rfl,.inr ⟨3,_,rfl,rfl,rfl,rfl⟩⟩,⟨103,0,_,rfl,rfl,.inr ⟨8,_,rfl,rfl,rfl,rfl⟩⟩,rfl,TV⟩,Xm ⟨rfl,rfl,TV⟩⟩
def Xnv {X:List (List D)}{k:Nat}{x:ak} (hl:J X=k+1) (hall:∀r∈X,J r=3) (h:X[k]? =some (XO x)):k*3+3<=J X*3/\(X.flatten.drop (k*3)).take 3=[XS x.aa,XW x.pending,.v (.bool x.on)]:=by
 have hp:=X9U hall h (o:=0) (q:=3) Oa;rw[Nat.add_zero] at hp;exact⟨Oa,by rw[hp];simp[XO]⟩
def Xot {l:List ak}:∀r∈l.map XO,J r=3:=fun r hr=>by
 obtain⟨p,_,rfl⟩:=mem_map.1 hr;rfl
def Xic (d:ak) (s:Sta) (EP:Nat) (hE:s.ep+1=(EP:Nat)) (v:GV s.g) (hr:SchV s.rules) (hts:0<=s.ts/\s.ts<=1000000000000000) (c9:EP<=1000000000000000) (hd:DOk d) (hf:J d.aa<=2000/\J d.pending<=500) (aQ:16<=J d.aa) (hfit:J (XQ s.g s.rules)<=Xx d*64):Con prog 56 [] [XY d,Xz s] [] (.d (.sl 3 ((svT d (XQ s.g s.rules) (U8 (EP:Nat)) (EP:Nat) s.ts).map XO))):=by
 refine ZC1 func56 ntmps56 fun E=> ?_;have aD:=X6n (J d.aa:Nat);rw[X39 aQ Oa] at aD;have bA:=XfI s v hr (X49 v);have bx:=Xam v hr;have qw:Xx d<=500:=OZ
 have aU:J (d.aa.map Yd)=J d.aa:=LM ..;have aL:U8 (EP:Nat)=EP%2:=Jh
 rw[aL];have b5:=X7z (XQ s.g s.rules);have iA:∀x∈[(EP:Int),s.ts,((J (XQ s.g s.rules):Nat):Int),((XP (XQ s.g s.rules):Nat):Int)],0<=x/\x<=9223372036854775807:=fun x hx=>by
  exact Yt34
 have mO:=X7g iA;have fK:=XnN (EP:Nat) s.ts (XQ s.g s.rules) iA;obtain⟨n,m,DD,Z,a2,a3,a4,a5,a6,G,g1,g2,g3⟩:=XgR (K:=EP%2) (ep:=(EP:Nat)) (ts:=s.ts) hd hf aQ Oa Oa mO;obtain⟨l1,l2,l3⟩:=X0m aQ;have aX:∀k,k<n->64*k<J (XQ s.g s.rules):=fun k hk=>by
  have:=(X2i (XQ s.g s.rules)).2.2;omega
 have aR:¬64*n<J (XQ s.g s.rules):=by
  have:=(X2i (XQ s.g s.rules)).2.1;omega
 have cB:∀k,k<n->Con prog 100 [] [.d (Xc (((XQ s.g s.rules).drop (64*k)).take 64))] [] (.d (Xc (((YI (XQ s.g s.rules)).drop (64*k)).take 64))):=fun k hk=>by
  have hq:=aX k hk;rw[<-XgU hq,<-XmB (by rw[LT,LD];omega) Oz];exact XhH _ Oz
 have dG:=Xst d (X5x hd.v Oa);have hz:=XhH [] Oc;rw[show X54 []=Uz from rfl] at hz;clear b5 iA aL v hr;generalize XQ s.g s.rules=b at*;obtain⟨⟨ns,es,nn,ne⟩,rs,ts,iz,tail⟩:=s;simp only[Xz] at*;have gC:=G.n0;have ej:J (b.map X6)=J b:=LM ..;obtain⟨R,r1,r2,r3,S,t1,t2,t3,t4⟩:=G.trc;obtain⟨X,hX⟩:∃X:Nat->List (List D),∀k,(R k).map XO=X k:=⟨_,fun _=>rfl⟩
 have bF:[XO d]=X 0:=by rw[<-hX,r1];rfl
 have bw:∀k,k<n->X (k+1)=X k++[XO (DD (k+1))]:=fun k hk=>by rw[<-hX,<-hX,r2 k hk,map_append];rfl
 have b7:∀k,J (X k)=k+1:=fun k=>by rw[<-hX,LM,r3]
 have qC:∀k,k<=n->(X k)[k]? =some (XO (DD k)):=fun k hk=>by
  cases k with
  |zero=>rw[<-bF,gC];rfl
  |succ k=>rw[bw k Oa,getElem?_append_right (by rw[b7];omega),b7,Nat.sub_self];rfl
 have oh:∀k,∀r∈X k,J r=3:=fun k=>by rw[<-hX];exact Xot
 obtain⟨V,hV⟩:∃V:Nat->List (List D),∀k,X n++([XO a2,XO a3,XO a4]++(S k).map XO)=V k:=⟨_,fun _=>rfl⟩
 have kV:X n++[XO a2,XO a3,XO a4,XO a5]=V 0:=by rw[<-hV,t1];rfl
 have kW:∀k,k<m->V (k+1)=V k++[XO (Z (k+1))]:=fun k hk=>by rw[<-hV,<-hV,t2 k hk,map_append];simp only[AS];rfl
 have lQ:∀k,J (V k)=n+4+k+1:=fun k=>by rw[<-hV,LA,b7,LA,LM,t3];simp only[LC,length_nil];omega
 have bH:=G.z0;have om:∀k,k<=m->(V k)[n+4+k]? =some (XO (Z k)):=fun k hk=>by
  cases k with
  |zero=>rw[<-kV,bH,getElem?_append_right (by rw[b7];omega),b7,show n+4+0-(n+1)=3 by omega];rfl
  |succ k=>rw[kW k Oa,getElem?_append_right (by rw[lQ];omega),lQ,show n+4+(k+1)-(n+4+k+1)=0 by omega];rfl
 have jc:∀k,∀r∈V k,J r=3:=fun k r hr=>by
  rw[<-hV] at hr;rcases mem_append.1 hr with h|h
  ·exact oh n r h
  ·rcases mem_append.1 h with h|h
   ·simp only[mem_cons,mem_nil_iff,or_false] at h;rcases h with rfl|rfl|rfl<;>rfl
   ·exact Xot r h
 have kD:(svT d b (EP%2) (EP:Nat) ts).map XO=V m++[XO a6]:=by
  rw[t4,<-hV,<-hX];simp only[map_append,map_cons,map_nil,AS,cons_append,nil_append]
 rw[kD];clear r1 r2 r3 t1 t2 t3 t4 hX hV kD;have nM:J d.aa<=2000:=hf.1;generalize mP:Xx d=SN at*;generalize nD:Xo d=LN at*;have jR:=fun k (hk:k<n)=>Xau (DD k) ((2+EP%2*SN+k:Nat):Int) (((YI b).drop (64*k)).take 64) (G.okD k Oa).2 Oz;have fB:∀k,k<n->Con prog 99 [] [XY (DD k),ai ((2+EP%2*SN+k:Nat):Int),.d (Xc (((YI b).drop (64*k)).take 64))] [] (X2S (XY (DD (k+1))) 0):=fun k hk=>by
  have h:=jR k hk;have g:=G.wrD k hk;rw[mP] at g;rw[g] at h;exact h
 have cC:=Xau (DD n) ((EP%2:Nat):Int) Uz (G.okD n (Nat.le_refl _)).2 Oi;rw[G.w2] at cC;have gM:=Xdd a2 G.eH.2;rw[G.s3] at gM;have gN:=Xau a3 ((EP%2:Nat):Int) (Vj (EP:Nat) ts (J b:Nat) (XP b:Nat)) G.iF.2 Oa;rw[G.w4] at gN;have fV:=Xdd a4 G.dz.2;rw[G.s5] at fV;have gv:∀k,k<m->Con prog 99 [] [XY (Z k),ai ((LN+k:Nat):Int),.d (Xc Uz)] [] (X2S (XY (Z (k+1))) 0):=fun k hk=>by
  have h:=Xau (Z k) ((LN+k:Nat):Int) Uz (G.okZ k Oa).2.1 Oi;have g:=G.wrZ k hk;rw[nD] at g;rw[g] at h;exact h
 have gO:=Xdd (Z m) (G.okZ m (Nat.le_refl _)).2.1;rw[G.s6] at gO;have fJ:=fun k hk=>(G.okZ k hk).2.2;clear G jR hd hf;have mQ:n<=500:=Oa
 have lg:m<=2000:=Oa
 generalize Vj (EP:Nat) ts (J b:Nat) (XP b:Nat)=HB at*;generalize mR:YI b=PB at*;clear mR;rw[<-aU] at aD;refine YA ?_;refine ZBa (iz) (1) ((EP:Nat):Int) ?_ (e:=hE);refine XG ?_;refine Za (γ:=130) (d:=46) ?_;refine W8_ ?_;clear bA dG
 refine Xl (fun k:Nat=>k<=n) (fun k=>⟨175,[(2,.ptr 100 0),(3,.ptr 101 0),(4,aq),(5,ai (SN:Nat)),(8,ai (EP:Nat)),(9,.d (.sl 1 (b.map X6))),(10,.own 130 (J (X k))),(11,ai (k:Nat))],[(100,.box [.d (XS d.aa),.d (XW d.pending),ab d.on]),(101,.box [.d (.sl 3 (ns.map Xi)),.d (.sl 5 (es.map Xk)),ai nn,ai ne,.d (.sl 6 (rs.map Xh)),ai ts,ai iz,ai tail]),(130,.row 3 (X k))]⟩) (fun k=>n-k) 0 (Nat.zero_le _)
  (X9 rfl ⟨JL,JL,JL,JL,JL,JL,(by rw[<-bF];exact ZzV),JL,TV⟩ ⟨rfl,rfl,(by rw[<-bF];rfl),TV⟩) ?_
 intro k hk;have hxl:=b7 k;have ve:k+1=J (X k):=hxl.symm;obtain⟨hroom,hys⟩:=Xnv hxl (oh k) (qC k hk);have h0:0<J (X k):=Oa
 by_cases aG:k<n
 case pos=>
  have hkb:=aX k aG;have hn:((64*k:Nat):Int)<(J (b.map X6):Nat):=Oa
  have hp:=cB k aG;have hw:=fB k aG;have hst:=bw k aG;obtain⟨hb',hmin⟩:∃h:Nat,min (J (b.map X6):Int) (((64*k+64:Nat):Int))=(h:Int)/\(h=min (64*k+64) (J (b.map X6))):=⟨min (64*k+64) (J (b.map X6)),Oa,rfl⟩
  have hO:((b.map X6).take hb').drop (64*k)=((b.drop (64*k)).take 64).map X6:=by
   rw[hmin.2,map_take,map_drop,drop_take];rw[take_eq_take_iff,LD];omega
  have tD:64*k<=hb':=Oa
  have tE:hb'<=J (b.map X6):=Oa
  have m9:=hmin.1;unfold Xc at hp hw;clear cB fB gv cC gM gN fV gO aX fJ hmin aD fK bw qC oh kW om jc bF kV hz;generalize ((b.drop (64*k)).take 64).map X6=C at*;generalize ((PB.drop (64*k)).take 64).map X6=C2 at*;refine W4_ ?_;(refine Z3 (op:= .mul) (r':=ni (64*k)) (u:=ni k) (v:=ni 64) ?_ (hr':=IW) (hr:=OU));refine XG ?_;(refine Z3 (op:= .mul) (r':=ni (64*k)) (u:=ni k) (v:=ni 64) ?_ (hr':=IW) (hr:=OU));refine W3_ ?_;refine ZBA k 1 ?_
  (refine Z3 (op:= .mul) (r':=ni (64*k+64)) (u:=ni (k+1)) (v:=ni 64) ?_ (hr':=by exact CG ni (show(k+1)*64=64*k+64 by omega)) (hr:=OU))
  refine QMe ?_;refine W7_ ?_;refine ZBs ((J (X k):Nat):Int) ((1:Nat):Int) (((k):Nat):Int) ?_;refine Qbd ?_;refine Qbf ?_;refine W1_ ?_;refine QLe ?_;refine W1_ ?_;refine QNe ?_;refine QOe ?_;refine YS ?_;refine ZBA k 1 ?_;refine W2_ ?_;refine⟨k+1,aG,Oa,?_⟩;rw[hst];exact X9 rfl ⟨JL,JL,JL,JL,JL,JL,ZzQ Jk,JL,TV⟩ ⟨rfl,rfl,rfl,TV⟩
 obtain rfl:k=n:=Oa
 have hn:¬((64*k:Nat):Int)<(J (b.map X6):Nat):=Oa
 clear cB fB aX hk aG bw qC oh;unfold Xc at fK;refine W4_ ?_;(refine Z3 (op:= .mul) (r':=ni (64*k)) (u:=ni k) (v:=ni 64) ?_ (hr':=IW) (hr:=OU));refine XB ?_;refine ZBs ((J (X k):Nat):Int) ((1:Nat):Int) (((k):Nat):Int) ?_;refine Qbd ?_;refine Qbf ?_;refine W1_ ?_;refine QLe ?_;refine YA ?_;refine QLe ?_;refine X4 ?_;refine Yr ?_;clear cC gM fK gN fV aD hroom hys
 refine Xl (fun j:Nat=>j<=m) (fun j=>⟨175,[(2,.ptr 100 0),(3,.ptr 101 0),(4,aq),(10,.own 130 (J (V j))),(26,ai ((LN+j:Nat):Int))],[(100,.box [.d (XS d.aa),.d (XW d.pending),ab d.on]),(101,.box [.d (.sl 3 (ns.map Xi)),.d (.sl 5 (es.map Xk)),ai nn,ai ne,.d (.sl 6 (rs.map Xh)),ai ts,ai iz,ai tail]),(130,.row 3 (V j))]⟩) (fun j=>m-j) 0 (Nat.zero_le _)
  (by rw[<-kV];exact X9 rfl ⟨JL,JL,JL,ZzQ Jk,JL,TV⟩ ⟨rfl,rfl,rfl,TV⟩) ?_
 intro j hj;have hvl:=lQ j;obtain⟨hroom,hys⟩:=Xnv hvl (jc j) (om j hj);have h0:0<J (V j):=Oa
 by_cases hjl:j<m
 case pos=>
  have hn:((LN+j:Nat):Int)<(J (d.aa.map Yd):Nat):=Oa
  have hw:=gv j hjl;have hst:=kW j hjl;clear gv gO kW om jc fJ kV;refine Yh ?_;refine ZBs ((J (V j):Nat):Int) ((1:Nat):Int) (((k+4+j):Nat):Int) ?_;refine Qbd ?_;refine Qcf ?_;refine YJ ?_;refine⟨j+1,hjl,Oa,?_⟩;rw[hst];exact QJe
 obtain rfl:j=m:=Oa
 have hn:¬((LN+j:Nat):Int)<(J (d.aa.map Yd):Nat):=Oa
 clear gv kW om jc fJ kV;refine Yr ?_;refine ZBs ((J (V j):Nat):Int) ((1:Nat):Int) (((k+4+j):Nat):Int) ?_;refine Qbd ?_;refine Qcf ?_;refine Yr ?_;exact X3 ⟨_,St.le_trans (XI 130 rfl) (XX 4 130 rfl rfl Oc),⟨rfl,TV⟩,X5 _⟩
theorem XuZ:X5K d s=if bW d s≠0 then [] else X5v d s (s.ep+1):=by
 unfold X5K Up X5v Vi;by_cases q:bW d s≠0
 ·rw[PI q,PI q];simp[q]
 ·rw[NI q,NI q];by_cases c:(Xx d*64:Nat)<J (XQ s.g s.rules)
  ·rw[PI c,PI c];simp
  ·rw[NI c,NI c];simp
def XtZ (d:ak) (s:Sta) (hs:StaHold s) (hf:J d.aa<=2000/\J d.pending<=500):Con prog 27 [] [XY d,Xz s] [] (.d (.sl 3 ((X5K d s).map XO))):=by
 refine ZC1 func27 ntmps27 fun E=> ?_;have hv:=Xnp d s hs;rw[XuZ];by_cases q:bW d s=0
 case neg=>
  rw[PI q];simp only[map_nil];clear hs hf;generalize bW d s=x at*;obtain⟨secs,af,on⟩:=d;obtain⟨⟨ns,es,nn,ne⟩,rs,ts,ep,tail⟩:=s;simp only[Xz] at*;refine YS ?_;exact Qdf
 rw[NI Ip];obtain⟨o1,o2,o3,o4⟩:=Xd1 q;obtain⟨v1,v2,t0,t1,t2,t3,_⟩:=Vz.1 o3;rw[q] at hv;obtain⟨EP,hE⟩:∃EP:Nat,s.ep+1=(EP:Int):=⟨(s.ep+1).toNat,Oa⟩
 have jw:=Xy0 d s EP v1 v2 ⟨t0,t1⟩ Oa o1 hf o2;have sI:(Vi d s (EP:Nat)).2.2≠0->X5v d s (EP:Nat)=[]:=fun h=>by
  unfold Vi at h;by_cases c:(Xx d*64:Nat)<J (XQ s.g s.rules)
  ·exact PI c
  ·rw[NI c] at h;simp at h
 rw[hE];have iM:Con prog 53 [(102,.box [.own 130 (J ([]:List (List D)))]),(130,.row 3 [])] [XY d,Xz s,ai (EP:Nat),.fn 57 [.ptr 102 0]] [(102,.box [.own 130 (J ((X5v d s (EP:Nat)).map XO))]),(130,.row 3 ((X5v d s (EP:Nat)).map XO))] (.tup [XY (Vi d s (EP:Nat)).1,Xz (Vi d s (EP:Nat)).2.1,ai (Vi d s (EP:Nat)).2.2]):=by
  have h:=YU 0 102 (YU 1 130 jw);rw[show X0t (swp 0 102) (X0t (swp 1 130) [XY d,Xz s,ai (EP:Nat),.fn 57 [.ptr 0 0]])=[XY d,Xz s,ai (EP:Nat),.fn 57 [.ptr 102 0]] from rfl] at h;exact h
 clear jw;generalize Vi d s (EP:Nat)=X at*;generalize X5v d s (EP:Nat)=TT at*;clear o1 o2 o3 o4 v1 v2 hf hs q;obtain⟨⟨xs,xp,xo⟩,⟨⟨yn,ye,ck,cm⟩,yr,yt,yp,yl⟩,xe⟩:=X;obtain⟨secs,af,on⟩:=d;obtain⟨⟨ns,es,nn,ne⟩,rs,ts,ep,tail⟩:=s;simp only[Xz] at*;refine YJ ?_;refine X8 (X1Y 102 0 130 3 (cs:=[aq]) rfl rfl rfl rfl rfl) ?_;by_cases q:xe=0
 case neg=>
  rw[sI q] at iM |-;simp only[map_nil] at iM |-;refine W5_ ?_;refine ZBa (ep) (1) ((EP:Nat)) ?_ (e:=hE);refine YJ ?_;exact Qdf
 subst q;generalize TT.map XO=W at*;refine W5_ ?_;refine ZBa (ep) (1) ((EP:Nat)) ?_ (e:=hE);refine YA ?_;refine QId ?_
 (exact Zz2)
def Xkf (hf:J d.aa<=2000) (hb:J b<=Xx d*64):J (svT d b K ep ts)<=100000:=by
 have hpf:=X8x hb;have hzl:=XkD d;have bA:Xx d<=500:=OZ
 unfold svT;simp only[LA,X7f,LC,length_nil];omega
def XuT:((svT d b K ep ts).map XO)[J ((svT d b K ep ts).map XO)-1]? =some (XO (sv6 d b K ep ts))/\0<J ((svT d b K ep ts).map XO):=by
 have e:svT d b K ep ts=(cD d (2+K*Xx d) (dV b)++([sv2 d b K,sv3 d b K,sv4 d b K ep ts]++cD (sv5 d b K ep ts) (Xo d) (X5h d)))++[sv6 d b K ep ts]:=by unfold svT;simp only[AS]
 rw[e,map_append,LA];generalize (cD d (2+K*Xx d) (dV b)++_).map XO=L;exact⟨by rw[getElem?_append_right Oc];simp,Oc⟩
def Xla (d:ak) (s:Sta) (hs:StaHold s) (hf:J d.aa<=2000/\J d.pending<=500):Con prog 26 [] [XY d,Xz s] [] (.tup [XY (Up d s).1,Xz (Up d s).2.1,ai (Up d s).2.2]):=by
 refine ZCt func26 ntmps26 fun E=> ?_;have hu:=Xgo d;have hv:=Xc0 s hs;have aV:Xz XT= .agg [.d (.sl 3 []),.d (.sl 5 []),ai 0,ai 0,.d (.sl 6 []),ai 0,ai 0,ai 0]:=rfl;by_cases q0:UH d=0
 case neg=>
  have e:Up d s=(Ur,XT,UH d):=by
   have:bW d s=UH d:=PI q0;unfold Up;rw[this,PI q0]
  rw[e];simp only[aV];clear e hs hf hv;generalize UH d=x at*;obtain⟨secs,af,on⟩:=d;obtain⟨⟨ns,es,nn,ne⟩,rs,ts,ep,tail⟩:=s;simp only[Xz] at*;exact QHe
 rw[q0] at hu;by_cases q1:YH s=true
 case neg=>
  have q1:YH s=false:=ID
  have e:Up d s=(Ur,XT,19):=by
   have:bW d s=19:=by unfold bW;rw[NI (by simp[q0]),PI (.inl q1)]
   unfold Up;rw[this];rfl
  rw[e];simp only[aV];rw[q1] at hv;clear e hs hf q0 q1;obtain⟨secs,af,on⟩:=d;obtain⟨⟨ns,es,nn,ne⟩,rs,ts,ep,tail⟩:=s;simp only[Xz] at*;refine Qua ?_;exact QGe
 rw[q1] at hv;by_cases q2:s.ep=1000000000000000
 ·have e:Up d s=(Ur,XT,19):=by
   have:bW d s=19:=by unfold bW;rw[NI (by simp[q0]),PI (.inr q2)]
   unfold Up;rw[this];rfl
  rw[e];simp only[aV];clear e hs hf q0 q1;obtain⟨secs,af,on⟩:=d;obtain⟨⟨ns,es,nn,ne⟩,rs,ts,ep,tail⟩:=s;simp only[Xz] at*;refine Qua ?_;exact QGe
 have hq:bW d s=0:=by unfold bW;rw[NI (by simp[q0]),NI (by rintro(h|h);simp[q1] at h;exact q2 h)]
 have e:Up d s=Vi d s (s.ep+1):=NI (by simp[hq]);rw[e];obtain⟨o1,o2,o3,o4⟩:=Xd1 hq;obtain⟨v1,v2,t0,t1,t2,t3,_⟩:=Vz.1 o3;obtain⟨EP,hE⟩:∃EP:Nat,s.ep+1=(EP:Int):=⟨(s.ep+1).toNat,Oa⟩
 have aD:=X6n (J d.aa:Nat);rw[X39 o2 Oa] at aD;have bA:=XfI s v1 v2 (X49 v1);have bx:=Xam v1 v2;have qw:Xx d<=500:=OZ
 have aU:J (d.aa.map Yd)=J d.aa:=LM ..;have iL:J ((XQ s.g s.rules).map X6)=J (XQ s.g s.rules):=LM ..;rw[hE];by_cases hfull:Xx d*64<J (XQ s.g s.rules)
 case pos=>
  have e2:Vi d s (EP:Nat)=(Ur,XT,20):=PI hfull;rw[e2];have cx:((J ((XQ s.g s.rules).map X6):Nat):Int)>((Xx d*64:Nat):Int):=Oa
  unfold Xc at bA;simp only[aV];clear e e2 v1 v2 bx hfull hs hf o1 o2 o3 o4 iL q0 q1 hq;generalize (XQ s.g s.rules).map X6=B at*;generalize Xx d=SN at*;generalize Xo d=LN at*;rw[<-aU] at aD;obtain⟨secs,af,on⟩:=d;obtain⟨⟨ns,es,nn,ne⟩,rs,ts,ep,tail⟩:=s;simp only[Xz] at*;refine Qab ?_;refine ZBM SN 64 ?_;refine XB ?_;exact QGe
 have e2:Vi d s (EP:Nat)=(sv6 d (XQ s.g s.rules) (U8 (EP:Nat)) (EP:Nat) s.ts,⟨s.g,s.rules,s.ts,(EP:Nat),0⟩,0):=NI hfull;rw[e2];have hst:=Xic d s EP hE v1 v2 ⟨t0,t1⟩ Oa o1 hf o2 Oa;have lX:=XuT (d:=d) (b:=XQ s.g s.rules) (K:=U8 (EP:Nat)) (ep:=(EP:Nat)) (ts:=s.ts);have hT:=Xkf (K:=U8 (EP:Nat)) (ep:=(EP:Nat)) (ts:=s.ts) hf.1 (show J (XQ s.g s.rules)<=Xx d*64 by omega);rw[<-length_map (f:=XO)] at hT;have cx:¬((J ((XQ s.g s.rules).map X6):Nat):Int)>((Xx d*64:Nat):Int):=Oa
 unfold Xc at bA;clear e e2 v1 v2 bx hfull hs hf o1 o2 o3 o4 iL q0 q1 hq;generalize (svT d (XQ s.g s.rules) (U8 (EP:Nat)) (EP:Nat) s.ts).map XO=T at*;generalize sv6 d (XQ s.g s.rules) (U8 (EP:Nat)) (EP:Nat) s.ts=X at*;generalize (XQ s.g s.rules).map X6=B at*;generalize Xx d=SN at*;generalize Xo d=LN at*;rw[<-aU] at aD;obtain⟨kH,iq⟩:=lX;obtain⟨xs,xp,xo⟩:=X;simp only[XO] at kH;obtain⟨secs,af,on⟩:=d;obtain⟨⟨ns,es,nn,ne⟩,rs,ts,ep,tail⟩:=s;simp only[Xz] at*;refine Qab ?_;refine ZBM SN 64 ?_;refine Ya ?_;refine ZBa (ep) (1) ((EP:Nat):Int) ?_ (e:=hE);refine XK ?_;refine ZBs ((J T:Nat):Int) ((1:Nat):Int) (((J T-1):Nat):Int) ?_;refine W7_ ?_;exact QIe
def XsK (d:ak) (s:Sta) (hs:StaHold s) (hf:J d.aa<=2000/\J d.pending<=500):Con prog 28 [] [XY d,Xz s] [] (.d (.sl 3 ((X5K d s).map XO))):=by
 refine ZC1 func28 ntmps28 fun E=> ?_;have h1:=Xla d s hs hf;unfold X5K;by_cases q:(Up d s).2.2=0
 case neg=>
  rw[PI q];simp only[map_nil];clear hs hf;generalize Up d s=A at*;obtain⟨⟨xs,xp,xo⟩,⟨⟨yn,ye,ck,cm⟩,yr,yt,yp,yl⟩,a3⟩:=A;obtain⟨secs,af,on⟩:=d;obtain⟨⟨ns,es,nn,ne⟩,rs,ts,ep,tail⟩:=s;simp only[Xz] at*;refine Uf ?_;exact Qdf
 rw[NI Ip];have hq:bW d s=0:=by
  by_cases h:bW d s=0
  ·exact h
  ·unfold Up at q;rw[PI h] at q;exact absurd q h
 obtain⟨o1,o2,o3,o4⟩:=Xd1 hq;obtain⟨v1,v2,t0,t1,t2,t3,_⟩:=Vz.1 o3;obtain⟨EP,hE⟩:∃EP:Nat,s.ep+1=(EP:Int):=⟨(s.ep+1).toNat,Oa⟩
 have hfit:J (XQ s.g s.rules)<=Xx d*64:=by
  unfold Up Vi at q;rw[NI (by simp[hq])] at q;by_cases c:(Xx d*64:Nat)<J (XQ s.g s.rules)
  ·rw[PI c] at q;simp at q
  ·omega
 have hst:=Xic d s EP hE v1 v2 ⟨t0,t1⟩ Oa o1 hf o2 hfit;rw[hE];rw[q] at h1;clear v1 v2 hs hf o1 o2 o3 o4 q hq hfit;generalize (svT d (XQ s.g s.rules) (U8 (EP:Nat)) (EP:Nat) s.ts).map XO=T at*;generalize (Up d s).1=X at*;generalize (Up d s).2.1=Y at*;obtain⟨xs,xp,xo⟩:=X;obtain⟨⟨yn,ye,ck,cm⟩,yr,yt,yp,yl⟩:=Y;obtain⟨secs,af,on⟩:=d;obtain⟨⟨ns,es,nn,ne⟩,rs,ts,ep,tail⟩:=s;simp only[Xz] at*;refine X04 ?_
 (exact Zz2)
def XxF (hs:StaHold s):StaHold (Vi d s ep).2.1:=by
 unfold Vi;split
 ·exact⟨X3A,Oc⟩
 ·exact⟨hs.g,hs.rl⟩
def Xt7 (hs:StaHold s):StaHold (Up d s).2.1:=by
 unfold Up;split
 ·exact⟨X3A,Oc⟩
 ·exact XxF hs
def Xw4 (hf:J d.aa<=2000):J (X5K d s)<=100000:=by
 unfold X5K;by_cases q:(Up d s).2.2=0
 case neg=>rw[PI q];simp
 rw[NI Ip];refine Xkf hf ?_;unfold Up Vi at q;by_cases h:bW d s=0
 case neg=>rw[PI h] at q;exact absurd q h
 rw[NI (by simp[h])] at q;by_cases c:(Xx d*64:Nat)<J (XQ s.g s.rules)
 ·rw[PI c] at q;simp at q
 ·omega
def XwM (d:ak) (s:Sta) (hs:StaHold s):Con prog 6 [] [XY d,Xz s] [] (ab true):=by
 refine ZC1 func6 ntmps6 fun E=> ?_;have ha:=XbC;have hsh:=Xgz d;have aU:=Xop s;by_cases q0:X4P d=true
 case neg=>
  rw[show X4P d=false by simpa using q0] at hsh;clear hs aU;obtain⟨secs,af,on⟩:=d;obtain⟨⟨ns,es,nn,ne⟩,rs,ts,ep,tail⟩:=s;simp only[Xz] at*;refine YA ?_
  (exact Zz2)
 rw[q0] at hsh;by_cases q1:X8Y s=true
 case neg=>
  rw[show X8Y s=false by simpa using q1] at aU;clear hs;obtain⟨secs,af,on⟩:=d;obtain⟨⟨ns,es,nn,ne⟩,rs,ts,ep,tail⟩:=s;simp only[Xz] at*;refine YA ?_
  (exact Zz2)
 rw[q1] at aU;obtain⟨n1,n2⟩:=Xhc q0;have h1:=Xpc d s hs ⟨Oa,Oa⟩;have h2:=Xla d s hs ⟨Oa,Oa⟩;have h3:=XtZ d s hs ⟨Oa,Oa⟩;have h4:=XsK d s hs ⟨Oa,Oa⟩;have h5:=Xfy (Up d s).1;have h6:=X8E (Up d s).2.1 (Xt7 hs);have h7:=Xjy (X5K d s) (by have:=Xw4 (d:=d) (s:=s) Oa;omega);clear hs q0 q1 n1 n2;generalize X5K d s=W at*;generalize Up d s=A at*;obtain⟨⟨xs,xp,xo⟩,y,e⟩:=A;obtain⟨secs,af,on⟩:=d;obtain⟨⟨ns,es,nn,ne⟩,rs,ts,ep,tail⟩:=s;obtain⟨⟨yn,ye,ck,cm⟩,yr,yt,yp,yl⟩:=y;simp only[Xz] at*;refine X4 ?_;refine X0r ?_
 (exact Zz2)
end Go.Fw
