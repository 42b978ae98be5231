/- Checkpoints, in plain Lean: what the functions compute. -/
import Derived.Test.YtpbgjcbkhgfmkaaGreatDoorM47
set_option maxHeartbeats 256000000
namespace Go.Fw
open Go List
set_option linter.unusedVariables false
set_option linter.unusedSimpArgs false
def cx (d:ak) (s:Sta):List ak:=if (U7 d s).2.2≠0 then [] else svT d (Xv s.g s.rules) (XJ (s.ep+1)) (s.ep+1) s.ts
open Go Go.Proofs Tryz
set_option maxRecDepth 100000
abbrev oD (T:List (List D)):List (Nat×AObj):=[(0,.box [.own 1 T.length]),(1,.row 3 T)]
theorem X69 (T:List (List D)) (d:ak) (hT:T.length<=100000):Con prog 87 (oD T) [XU d,.ptr 0 0] (oD (T++[XO d])) (.tup []):=by
 refine X0I (xs:=[]) func87 rfl ntmps87 rfl rfl rfl (fun E=> ?_);obtain⟨secs,ag,on⟩:=d;simp only[XO];refine XK ?_;exact Qic
def X5g (d:ak) (s:Sta) (ep:Int):List ak:=if (Xt d*64:Nat)<(Xv s.g s.rules).length then [] else svT d (Xv s.g s.rules) (XJ ep) ep s.ts
theorem Xuf (d:ak) (s:Sta) (EP:Nat) (v:GV s.g) (hr:SchV s.rules) (hts:0<=s.ts/\s.ts<=1000000000000000) (cJ:EP<=1000000000000000) (hd:DOk d) (hf:d.aa.length<=2000/\d.pending.length<=500) (aL:16<=d.aa.length):
  Con prog 62 (oD []) [XU d,Xy s,ai (EP:Nat),.fn 87 [.ptr 0 0]] (oD ((X5g d s (EP:Nat)).map XO)) (.tup [XU (UR d s (EP:Nat)).1,Xy (UR d s (EP:Nat)).2.1,ai (UR d s (EP:Nat)).2.2]):=by
 refine ZCt func62 ntmps62 fun E=> ?_;have aC:=X3P (d.aa.length:Nat);rw[X37 aL (by omega)] at aC;have bD:=Xfv s v hr (X5u v);have bu:=X9n v hr;have pL:Xt d<=500:=by unfold Xt;omega
 have hrl:=hr.len;have aM:(d.aa.map XV).length=d.aa.length:=LM ..;by_cases hfull:Xt d*64<(Xv s.g s.rules).length
 case pos=>
  have e:UR d s (EP:Nat)=(YU,Yd,20):=PI hfull;rw[e];rw[show X5g d s (EP:Nat)=[] from PI hfull];have ck:((((Xv s.g s.rules).map X5).length:Nat):Int)>((Xt d*64:Nat):Int):=by rw[LM];omega
  have aS:Xy Yd= .agg [.d (.sl 3 []),.d (.sl 5 []),ai 0,ai 0,.d (.sl 6 []),ai 0,ai 0,ai 0]:=rfl;unfold Xg at bD;simp only[aS];clear e v hr bu hfull;generalize (Xv s.g s.rules).map X5=B at*;generalize Xt d=SN at*;generalize X9 d=LN at*;rw[<-aM] at aC;obtain⟨secs,ag,on⟩:=d;obtain⟨⟨ns,es,nn,ne⟩,rs,ts,gM,tail⟩:=s;simp only[Xy,map_nil] at*;refine Qud ?_;refine XK ?_;exact X2 ⟨_,St.le_trans (Xq 102 (cs:=[aq,aq,ab false]) (cs':=[.d (XL []),.d (XS []),ab false]) rfl ⟨AVal.le_nil 1,AVal.le_nil 2,AVal.le_refl _,TV⟩ rfl) (Xq 103 (cs:=[aq,aq,ai 0,ai 0,aq,ai 0,ai 0,ai 0]) (cs':=[.d (.sl 3 []),.d (.sl 5 []),ai 0,ai 0,.d (.sl 6 []),ai 0,ai 0,ai 0]) rfl ⟨AVal.le_nil 3,AVal.le_nil 5,AVal.le_refl _,AVal.le_refl _,AVal.le_nil 6,AVal.le_refl _,AVal.le_refl _,AVal.le_refl _,TV⟩ rfl),⟨⟨102,0,_,rfl,rfl,.inr ⟨3,_,rfl,rfl,rfl,rfl⟩⟩,⟨103,0,_,rfl,rfl,.inr ⟨8,_,rfl,rfl,rfl,rfl⟩⟩,rfl,TV⟩,Xj ⟨rfl,rfl,TV⟩⟩
 have e:UR d s (EP:Nat)=(sv6 d (Xv s.g s.rules) (XJ (EP:Nat)) (EP:Nat) s.ts,⟨s.g,s.rules,s.ts,(EP:Nat),0⟩,0):=NI hfull;rw[e];rw[show X5g d s (EP:Nat)=svT d (Xv s.g s.rules) (XJ (EP:Nat)) (EP:Nat) s.ts from NI hfull];have aK:XJ (EP:Nat)=EP%2:=by unfold XJ;omega
 rw[aK];have aV:=X42 (Xv s.g s.rules);have gN:∀x∈[(EP:Int),s.ts,(((Xv s.g s.rules).length:Nat):Int),((XT (Xv s.g s.rules):Nat):Int)],0<=x/\x<=9223372036854775807:=fun x hx=>by
  simp only[mem_cons,mem_nil_iff,or_false] at hx;rcases hx with rfl|rfl|rfl|rfl
  ·omega
  ·omega
  ·omega
  ·exact aV
 have lY:=X6h gN;have gq:=Xdq (EP:Nat) s.ts ((Xv s.g s.rules).length:Nat) (XT (Xv s.g s.rules):Nat) gN;obtain⟨n,m,DD,Z,a2,a3,a4,a5,a6,G,g1,g2,g3⟩:=Xe8 (K:=EP%2) (ep:=(EP:Nat)) (ts:=s.ts) hd hf aL (by omega) (by omega) lY;obtain⟨l1,l2,l3⟩:=Vm aL;rw[<-G.fin];have eZ:=(XbR 100 (s.rules.map Xh) (by rw[LM];omega)).data rfl;have hsum:=X8h (Xv s.g s.rules);have aR:∀k,k<n->64*k<(Xv s.g s.rules).length:=fun k hk=>by
  have:=(X2c (Xv s.g s.rules)).2.2;omega
 have bx:¬64*n<(Xv s.g s.rules).length:=by
  have:=(X2c (Xv s.g s.rules)).2.1;omega
 have bJ:∀k,k<n->Con prog 107 [] [.d (Xg (((Xv s.g s.rules).drop (64*k)).take 64))] [] (.d (Xg (((YC (Xv s.g s.rules)).drop (64*k)).take 64))):=fun k hk=>by
  rw[<-XcU (aR k hk)];exact Xll _ (by rw[LT];omega)
 clear e hfull aV gN aK v hr;generalize Xv s.g s.rules=b at*;obtain⟨⟨ns,es,nn,ne⟩,rs,ts,gM,tail⟩:=s;simp only[Xy] at*;have dh:=G.n0;have dG:(b.map X5).length=b.length:=LM ..;rw[<-dG] at gq;obtain⟨R,r1,r2,r3,S,t1,t2,t3,t4⟩:=G.trc;obtain⟨X,hX⟩:∃X:Nat->List (List D),∀k,(R k).map XO=X k:=⟨_,fun _=>rfl⟩
 have bz:[]++[XO d]=X 0:=by rw[<-hX,r1];rfl
 have bk:∀k,k<n->X k++[XO (DD (k+1))]=X (k+1):=fun k hk=>by rw[<-hX,<-hX,r2 k hk,map_append];rfl
 have aU:∀k,(X k).length=k+1:=fun k=>by rw[<-hX,LM,r3]
 obtain⟨Y2,ic⟩:∃Y,X n++[XO a2]=Y:=⟨_,rfl⟩
 obtain⟨Y3,iQ⟩:∃Y,Y2++[XO a3]=Y:=⟨_,rfl⟩
 obtain⟨Y4,pV⟩:∃Y,Y3++[XO a4]=Y:=⟨_,rfl⟩
 have dJ:Y2.length=n+2/\Y3.length=n+3/\Y4.length=n+4:=by
  refine⟨by rw[<-ic,LA,aU];rfl,by rw[<-iQ,<-ic,LA,LA,aU];rfl,by rw[<-pV,<-iQ,<-ic,LA,LA,LA,aU];rfl⟩
 obtain⟨V,hV⟩:∃V:Nat->List (List D),∀k,Y4++(S k).map XO=V k:=⟨_,fun _=>rfl⟩
 have kE:Y4++[XO a5]=V 0:=by rw[<-hV,t1];rfl
 have kF:∀k,k<m->V k++[XO (Z (k+1))]=V (k+1):=fun k hk=>by rw[<-hV,<-hV,t2 k hk,map_append,AS];rfl
 have lz:∀k,(V k).length=n+5+k:=fun k=>by rw[<-hV,LA,LM,t3];omega
 have jX:(svT d b (EP%2) (EP:Nat) ts).map XO=V m++[XO a6]:=by
  rw[t4,<-hV,<-pV,<-iQ,<-ic,<-hX];simp only[map_append,map_cons,map_nil,AS,cons_append,nil_append]
 rw[jX];clear r1 r2 r3 t1 t2 t3 t4 hX hV jX;have dw:=X69 [] d (by simp);rw[bz] at dw;have gj:d.aa.length<=2000:=hf.1;have hK:((EP%2:Nat):Int)<2:=by omega
 generalize lZ:Xt d=SN at*;generalize m5:X9 d=LN at*;have jz:=fun k (hk:k<n)=>X4P (DD k) ((2+EP%2*SN+k:Nat):Int) (((YC b).drop (64*k)).take 64) (G.okD k (by omega)).2 (by rw[LT];omega);have dY:∀k,k<n->Con prog 79 [] [XU (DD k),ai ((2+EP%2*SN+k:Nat):Int),.d (Xg (((YC b).drop (64*k)).take 64))] [] (X0O (XU (DD (k+1))) 0):=fun k hk=>by
  have h:=jz k hk;have g:=G.wrD k hk;rw[lZ] at g;rw[g] at h;exact h
 have bK:=X4P (DD n) ((EP%2:Nat):Int) Yy (G.okD n (Nat.le_refl _)).2 (by decide);rw[G.w2] at bK;have dZ:=X5s a2 G.dO.2;rw[G.s3] at dZ;have fF:=X4P a3 ((EP%2:Nat):Int) (UI (EP:Nat) ts (b.length:Nat) (XT b:Nat)) G.gV.2 (by omega);rw[G.w4,<-dG] at fF;have eE:=X5s a4 G.cR.2;rw[G.s5] at eE;have fG:∀k,k<m->Con prog 79 [] [XU (Z k),ai ((LN+k:Nat):Int),.d (Xg Yy)] [] (X0O (XU (Z (k+1))) 0):=fun k hk=>by
  have h:=X4P (Z k) ((LN+k:Nat):Int) Yy (G.okZ k (by omega)).2.1 (by decide);have g:=G.wrZ k hk;rw[m5] at g;rw[g] at h;exact h
 have fH:=X5s (Z m) (G.okZ m (Nat.le_refl _)).2.1;rw[G.s6] at fH;have fc:=fun k hk=>(G.okZ k hk).2.2;have bZ:=G.z0;clear G jz hd hf;have jg:¬(((b.map X5).length:Nat):Int)>((SN*64:Nat):Int):=by omega
 have m6:n<=500:=by omega
 have kP:m<=2000:=by omega
 have dA:Con prog 30 [] [ai ((a5.aa.map XV).length:Nat)] [] (.tup [ai (SN:Nat),ai (LN:Nat),ab true]):=by
  have h:=fc 0 (Nat.zero_le _);rw[bZ] at h;rw[LM,h];exact aC
 generalize UI (EP:Nat) ts ((b.map X5).length:Nat) (XT b:Nat)=HB at*;generalize m7:YC b=PB at*;clear m7;rw[<-aM] at aC;subst dh;refine Qud ?_;refine U8 ?_;refine Qwd ?_;refine W6_ ?_;refine Z5 (af:=dw) ?_;refine W7_ ?_;clear aC bD hsum dw
 refine Xn (fun k:Nat=>k<=n) (fun k=>⟨165,[(2,ai (EP:Nat)),(3,.fn 87 [.ptr 0 0]),(4,.ptr 100 0),(5,.ptr 101 0),(8,.ptr 102 0),(9,.ptr 103 0),(11,ai (SN:Nat)),(14,.d (.sl 1 (b.map X5))),(15,.ptr 104 0),(16,ai (EP%2:Nat)),(17,ai (64*k:Nat))],[(0,.box [.own 1 (X k).length]),(1,.row 3 (X k)),(100,.box [.d (XL (DD k).aa),.d (XS (DD k).pending),ab (DD k).on]),(101,.box [.d (.sl 3 (ns.map Xm)),.d (.sl 5 (es.map Xr)),ai nn,ai ne,.d (.sl 6 (rs.map Xh)),ai ts,ai gM,ai tail]),(102,.box [aq,aq,ab false]),(103,.box [aq,aq,ai 0,ai 0,aq,ai 0,ai 0,ai 0]),(104,.box [ai (EP:Nat),ai ts,ai (b.map X5).length,ai (XT b:Nat)])]⟩) (fun k=>n-k) 0 (Nat.zero_le _)
  (ZL0) ?_
 intro k hk;by_cases aE:k<n
 case pos=>
  have hkb:=aR k aE;have hn:((64*k:Nat):Int)<((b.map X5).length:Nat):=by omega
  have hp:=bJ k aE;have hw:=dY k aE;have hs:=X69 (X k) (DD (k+1)) (by rw[aU];omega);rw[bk k aE] at hs;obtain⟨hb',hmin⟩:∃h:Nat,min (((64*k+64:Nat):Int)) ((b.map X5).length:Nat)=(h:Int)/\(h=min (64*k+64) (b.map X5).length):=⟨min (64*k+64) (b.map X5).length,by omega,rfl⟩
  have ir:((b.map X5).take hb').drop (64*k)=((b.drop (64*k)).take 64).map X5:=by
   rw[hmin.2,map_take,map_drop,drop_take];rw[take_eq_take_iff,LD];omega
  have r8:64*k<=hb':=by omega
  have r9:hb'<=(b.map X5).length:=by omega
  have jS:=hmin.1;unfold Xg at hp hw;clear bJ dY fG bK dZ fF eE fH aR fc hmin dA gq eZ;generalize ((b.drop (64*k)).take 64).map X5=C at*;generalize ((PB.drop (64*k)).take 64).map X5=C2 at*;refine Yv ?_;refine ZBA (64*k) 64 ?_;refine W2_ ?_;refine Qxd ?_;refine Z3 (af:=hp) ?_;refine W7_ ?_;refine Qyd ?_
  (refine Z1 (op:= .quo) (r':=ni k) (u:=ni (64*k)) (v:=ni 64) ?_ (hr':=by exact CG ni (show 64*k/64=k by omega)) (hr:=by exact X2m (by omega) (by rw[YO];omega)))
  refine Qzd ?_;refine QAd ?_;refine W3_ ?_;refine ZBA (64*k) 64 ?_;refine W2_ ?_;exact⟨k+1,aE,by omega,ZL0⟩
 obtain rfl:k=n:=by omega
 have hn:¬((64*k:Nat):Int)<((b.map X5).length:Nat):=by omega
 clear bJ dY aR hk aE;have v2:=X69 (X k) a2 (by rw[aU];omega);have v3:=X69 Y2 a3 (by omega);have v4:=X69 Y3 a4 (by omega);have v5:=X69 Y4 a5 (by omega);rw[ic] at v2;rw[iQ] at v3;rw[pV] at v4;rw[kE] at v5;generalize DD k=dn at*;rw[<-bZ] at eE v5 dA;generalize m8:Z 0=a5' at*;obtain⟨sn,pn,tE⟩:=dn;obtain⟨x2,y2,z2⟩:=a2;obtain⟨x3,y3,z3⟩:=a3;obtain⟨x4,y4,z4⟩:=a4;obtain⟨x5,y5,z5⟩:=a5';refine Yx ?_;refine Z3 (af:=bK) ?_;refine W9_ ?_;refine Z5 (af:=v2) ?_;refine W4_ ?_;refine Z3 (af:=dZ) ?_;refine W9_ ?_;refine Z5 (af:=v3) ?_;refine W7_ ?_;refine Z3 (af:=fF) ?_;refine W9_ ?_;refine Z5 (af:=v4) ?_;refine W4_ ?_;refine Z3 (af:=eE) ?_;refine W9_ ?_;refine Z5 (af:=v5) ?_;refine W6_ ?_;refine Z3 (af:=dA) ?_;refine Yx ?_;clear bK dZ gq fF eE v2 v3 v4 v5 dA
 refine Xn (fun k:Nat=>k<=m) (fun k=>⟨165,[(2,ai (EP:Nat)),(3,.fn 87 [.ptr 0 0]),(4,.ptr 100 0),(5,.ptr 101 0),(8,.ptr 102 0),(9,.ptr 103 0),(22,ai (LN+k:Nat))],[(0,.box [.own 1 (V k).length]),(1,.row 3 (V k)),(100,.box [.d (XL (Z k).aa),.d (XS (Z k).pending),ab (Z k).on]),(101,.box [.d (.sl 3 (ns.map Xm)),.d (.sl 5 (es.map Xr)),ai nn,ai ne,.d (.sl 6 (rs.map Xh)),ai ts,ai gM,ai tail]),(102,.box [aq,aq,ab false]),(103,.box [aq,aq,ai 0,ai 0,aq,ai 0,ai 0,ai 0])]⟩) (fun k=>m-k) 0 (Nat.zero_le _)
  (by simp only[m8];exact ZL0) ?_
 clear hn bZ m8;intro i hi;have hzl:=fc i hi;have pM:((Z i).aa.map XV).length=LN+m:=by rw[LM];omega
 by_cases hil:i<m
 case pos=>
  have hn:((LN+i:Nat):Int)<(((Z i).aa.map XV).length:Nat):=by omega
  have hn':LN+i<(Z i).aa.length:=by omega
  have hw:=fG i hil;have hs:=X69 (V i) (Z (i+1)) (by rw[lz];omega);rw[kF i hil] at hs;clear fG fc hzl fH eZ;refine Yf ?_;refine QAd ?_;refine W6_ ?_;exact Qac
 obtain rfl:i=m:=by omega
 have hn:¬((LN+i:Nat):Int)<(((Z i).aa.map XV).length:Nat):=by omega
 have hn':¬LN+i<(Z i).aa.length:=by omega
 have v6:=X69 (V i) a6 (by rw[lz];omega);clear fG fc hzl;generalize Z i=d1 at*;obtain⟨s1,p1,o1⟩:=d1;obtain⟨x6,y6,z6⟩:=a6;simp only at pM hn hn';generalize V i++[XO ⟨x6,y6,z6⟩]=VV at*;refine XG ?_;refine Z3 (af:=fH) ?_;refine W9_ ?_;refine Z5 (af:=v6) ?_;refine Yv ?_;exact X2 ⟨_,St.le_refl _,⟨⟨102,0,_,rfl,rfl,.inr ⟨3,_,rfl,rfl,rfl,rfl⟩⟩,⟨103,0,_,rfl,rfl,.inr ⟨8,_,rfl,rfl,rfl,rfl⟩⟩,rfl,TV⟩,Xj ⟨rfl,rfl,TV⟩⟩
theorem Xva {d:ak}{s:Sta}:cx d s=if VG d s≠0 then [] else X5g d s (s.ep+1):=by
 unfold cx U7 X5g UR;by_cases q:VG d s≠0
 ·rw[PI q,PI q];simp[q]
 ·rw[NI q,NI q];by_cases c:(Xt d*64:Nat)<(Xv s.g s.rules).length
  ·rw[PI c,PI c];simp
  ·rw[NI c,NI c];simp
theorem Xnj (d:ak) (s:Sta) (hs:StaHold s) (hf:d.aa.length<=2000/\d.pending.length<=500):Con prog 41 [] [XU d,Xy s] [] (.d (.sl 3 ((cx d s).map XO))):=by
 refine ZC1 func41 ntmps41 fun E=> ?_;have hv:=Xim d s hs;rw[Xva];by_cases q:VG d s=0
 case neg=>
  rw[PI q];simp only[map_nil];clear hs hf;generalize VG d s=x at*;obtain⟨secs,ag,on⟩:=d;obtain⟨⟨ns,es,nn,ne⟩,rs,ts,ep,tail⟩:=s;simp only[Xy] at*;refine YR ?_;exact Qoe
 rw[NI (by simp[q])];obtain⟨o1,o2,o3,o4⟩:=XbG q;obtain⟨v1,v2,t0,t1,t2,t3,_⟩:=Vk.1 o3;rw[q] at hv;obtain⟨EP,hE⟩:∃EP:Nat,s.ep+1=(EP:Int):=⟨(s.ep+1).toNat,by omega⟩
 have jh:=Xuf d s EP v1 v2 ⟨t0,t1⟩ (by omega) o1 hf o2;have rF:(UR d s (EP:Nat)).2.2≠0->X5g d s (EP:Nat)=[]:=fun h=>by
  unfold UR at h;by_cases c:(Xt d*64:Nat)<(Xv s.g s.rules).length
  ·exact PI c
  ·rw[NI c] at h;simp at h
 rw[hE];have gO:Con prog 62 [(102,.box [.own 130 ([]:List (List D)).length]),(130,.row 3 [])] [XU d,Xy s,ai (EP:Nat),.fn 87 [.ptr 102 0]] [(102,.box [.own 130 ((X5g d s (EP:Nat)).map XO).length]),(130,.row 3 ((X5g d s (EP:Nat)).map XO))] (.tup [XU (UR d s (EP:Nat)).1,Xy (UR d s (EP:Nat)).2.1,ai (UR d s (EP:Nat)).2.2]):=by
  have h:=YK 0 102 (YK 1 130 jh);rw[show X0h (swp 0 102) (X0h (swp 1 130) [XU d,Xy s,ai (EP:Nat),.fn 87 [.ptr 0 0]])=[XU d,Xy s,ai (EP:Nat),.fn 87 [.ptr 102 0]] from rfl] at h;exact h
 clear jh;generalize UR d s (EP:Nat)=X at*;generalize X5g d s (EP:Nat)=TT at*;clear o1 o2 o3 o4 v1 v2 hf hs q;obtain⟨⟨xs,xp,xo⟩,⟨⟨yn,ye,cB,cC⟩,yr,yt,yp,yl⟩,xe⟩:=X;obtain⟨secs,ag,on⟩:=d;obtain⟨⟨ns,es,nn,ne⟩,rs,ts,ep,tail⟩:=s;simp only[Xy] at*;refine Yw ?_;refine X8 (X2y 102 0 130 3 (cs:=[aq]) rfl rfl rfl rfl rfl) ?_;by_cases q:xe=0
 case neg=>
  rw[rF q] at gO |-;simp only[map_nil] at gO |-;refine W5_ ?_;refine ZBa (ep) (1) ((EP:Nat)) ?_ (e:=hE);refine Yw ?_;exact Qoe
 subst q;generalize TT.map XO=W at*;refine W5_ ?_;refine ZBa (ep) (1) ((EP:Nat)) ?_ (e:=hE);refine Yq ?_;refine Quc ?_
 (show AWP prog E _ _ _;refine X2 ?_;exact(show Xa _ _ _ _ _ from⟨_,St.le_refl _,⟨rfl,TV⟩,X4 _⟩))
end Go.Fw
