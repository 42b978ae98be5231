/- A sector, Clean of the reference. -/
import Derived.Test.YtpbgjcbkhgfmkaaGreatDoorM51
import Derived.Test.YtpbgjcbkhgfmkaaGreatDoorM53
import Derived.Test.YtpbgjcbkhgfmkaaGreatDoorM59
set_option maxHeartbeats 128000000
namespace Go.Fw
open Go Go.Proofs Tryz List
set_option maxRecDepth 100000
set_option linter.unusedVariables false
set_option linter.unusedSimpArgs false
theorem XvN (d:ak) (s:Sta) (hs:StaHold s) (hf:d.aa.length<=2000/\d.pending.length<=500):Con prog 38 [] [XU d,Xy s] [] (.tup [XU (UQ d s).1,ai (UQ d s).2]):=by
 refine ZCt func38 ntmps38 fun E=> ?_;have hu:=XdQ d;have hv:=Xck s hs;by_cases q1:Uo d=0
 case neg=>
  have e:UQ d s=(YU,Uo d):=PI q1;rw[e];clear e hs hf hv;generalize Uo d=x at*;obtain⟨secs,ag,on⟩:=d;obtain⟨⟨ns,es,nn,ne⟩,rs,ts,ep,tail⟩:=s;simp only[Xy] at*;refine U1 ?_;exact Qme
 by_cases q2:YN s=true
 case neg=>
  have q2:YN s=false:=by simpa using q2
  have e:UQ d s=(YU,19):=by unfold UQ;rw[NI (by simp[q1]),PI q2]
  rw[e];rw[q1] at hu;rw[q2] at hv;clear e hs hf q1 q2;obtain⟨secs,ag,on⟩:=d;obtain⟨⟨ns,es,nn,ne⟩,rs,ts,ep,tail⟩:=s;simp only[Xy] at*;refine UX ?_;exact Qme
 obtain⟨o1,o2,o3⟩:=X6W q1;obtain⟨l1,l2,l3⟩:=Vm o2;obtain⟨_,_,_,_,_,_,t0,t1⟩:=Vk.1 q2;have aC:=X56 (d.aa.length:Nat);rw[X37 o2 o3] at aC;have aM:(d.aa.map XV).length=d.aa.length:=LM ..;rw[q1] at hu;rw[q2] at hv;obtain⟨T,hT⟩:∃T:Nat,s.tail=T:=⟨s.tail.toNat,by omega⟩
 by_cases q3:(d.aa.length-X9 d)*64<T
 ·have e:UQ d s=(YU,1):=by unfold UQ;rw[NI (by simp[q1]),NI (by simp[q2]),PI (by rw[hT];omega)]
  rw[e];have mz:(T:Int)>(((d.aa.length-X9 d)*64:Nat):Int):=by omega
  have hsub:((((d.aa.map XV).length:Nat):Int)-(X9 d:Nat))=((d.aa.length-X9 d:Nat):Int):=by omega
  have hQ:d.aa.length-X9 d<=2000:=by omega
  rw[<-aM] at aC;clear e hs hf q1 q2 o1 l1 l3 q3;generalize d.aa.length-X9 d=Q at*;generalize Xt d=SN at*;generalize X9 d=LN at*;obtain⟨secs,ag,on⟩:=d;obtain⟨⟨ns,es,nn,ne⟩,rs,ts,ep,tail⟩:=s;simp only at hT hsub;subst hT;simp only[Xy] at*;refine X7 ?_;refine XQ ?_;refine ZBs (((secs.map XV).length:Nat):Int) ((LN:Nat):Int) ((Q:Nat):Int) ?_ (e:=hsub);refine ZBM Q 64 ?_;refine W9_ ?_;exact Qme
 have e:UQ d s=((Uw (Yc d (X9 d+T/64) (cK d T))).1,0):=by unfold UQ;rw[NI (by simp[q1]),NI (by simp[q2]),NI (by rw[hT];omega),hT,Int.toNat_natCast]
 rw[e];obtain⟨DD,⟨dh,kC,bB,lu,bg,dX⟩⟩:=XiR (T:=T) o1 hf (by omega);obtain⟨n,bE⟩:∃n,n=d.aa.length-(X9 d+T/64):=⟨_,rfl⟩
 rw[<-bE] at kC bB lu bg dX;have iX:Con prog 81 [] [XU (DD 0),ai ((X9 d+T/64:Nat):Int)] [] (X0O (.d (Xg (Yo d ((X9 d+T/64:Nat):Int)).1)) (Yo d ((X9 d+T/64:Nat):Int)).2):=by
  have h:=Xlg d ((X9 d+T/64:Nat):Int) (X2d o1.v (by omega));rw[show XU d=XU (DD 0) by rw[dh]] at h;exact h
 have ig:∀k,k<n->Con prog 82 [] [XU (DD k),ai ((X9 d+T/64+k:Nat):Int),.d (Xg (X3p d T k))] [] (X0O (XU (DD (k+1))) 0):=fun k hk=>by
  have h:=X7j (DD k) ((X9 d+T/64+k:Nat):Int) (X3p d T k) (bB k (by omega)).2.1 (dX k hk).2;rw[(dX k hk).1] at h;exact h
 have cZ:=X6U d (X2d o1.v (by omega));have mA:=X8M (DD n) (bB n (Nat.le_refl _)).2.1;rw[X70 (bB n (Nat.le_refl _)).1] at mA;have mB:(Uw (DD n)).1=⟨V5 (DD n) (fun _=>64),[],true⟩:=by rw[X70 (bB n (Nat.le_refl _)).1]
 rw[<-kC,mB];have gQ:=fun k hk=>(bB k hk).2.2;have rE:T%64<64:=Nat.mod_lt _ (by decide);have pU:X9 d+T/64<=5000:=by omega
 have tI:T<=262144:=by omega
 have mE:0<n->X3p d T 0=X2U ((Yo d ((X9 d+T/64:Nat):Int)).1.take (T%64)):=fun h=>by
  have:=bg 0 h;rw[Nat.add_zero] at this;unfold X3p X2U;rw[LT,this,Nat.add_zero,PI rfl,Nat.min_eq_left (by omega)]
 have nM:∀k,k≠0->X3p d T k=X2U []:=fun k h=>by unfold X3p;rw[NI h,take_zero];rfl
 have gm:0<n->(Yo d ((X9 d+T/64:Nat):Int)).1.length=64:=fun h=>bg 0 h;clear bg;clear e hs hf q1 q2 o1 l3 kC bB lu dX mB t0 t1;rw[<-aM] at aC;obtain⟨A,hA⟩:∃A,X9 d+T/64=A:=⟨_,rfl⟩
 simp only[hA] at bE iX gm ig mE pU;generalize Xt d=SN at*;generalize X9 d=LN at*;have eo:d=DD 0:=dh.symm;have gj:=aM;rw[eo] at hu aC gj cZ |-;obtain⟨⟨ns,es,nn,ne⟩,rs,ts,ep,tail⟩:=s;simp only at hT;subst hT;generalize hZ:(⟨V5 (DD n) (fun _=>64),[],true⟩:ak)=Z at*;clear hZ dh eo;have fq:=gQ 0 (Nat.zero_le _);simp only[Xy,X0O] at*;have hml:((DD 0).aa.map XV).length=d.aa.length:=gj.trans fq;have mz:¬(T:Int)>((((DD 0).aa.map XV).length-LN)*64:Int):=by omega
 clear gj;have aI:((DD 0).aa.map XV).length=(DD 0).aa.length:=LM ..;have aW:((DD 0).pending.map cWr).length=(DD 0).pending.length:=LM ..;refine X7 ?_;refine YY ?_;refine Qwb ?_;refine X8 (XP 131 rfl) ?_;refine X8 (X03 103 0 130 (cs:=[.own 130 (DD 0).aa.length,.own 131 (DD 0).pending.length,ab (DD 0).on]) (sz:=1) (xs:=(DD 0).aa.map XV) rfl rfl rfl aI.symm) ?_;refine X8 (X03 103 1 131 (cs:=[.d (XL (DD 0).aa),.own 131 (DD 0).pending.length,ab (DD 0).on]) (sz:=2) (xs:=(DD 0).pending.map cWr) rfl rfl rfl aW.symm) ?_;clear aI aW cZ;refine W4_ ?_;refine ZBq T 64 ?_;(refine Z1 (op:= .add) (r':=ni A) (u:=ni LN) (v:=ni (T/64)) ?_ (hr':=by exact CG ni hA) (hr:=by exact X1s (by rw[YO];omega)));refine W3_ ?_;clear hu hv aC q3 mz fq hml
 refine Xn (fun i:Nat=>i<=n) (fun i=>⟨94,[(2,.ptr 100 0),(3,.ptr 101 0),(4,.ptr 102 0),(5,ai 0),(8,ai LN),(10,.ptr 103 0),(11,ai ((A+i:Nat):Int))],[(100,.box [.d (XL (DD 0).aa),.d (XS (DD 0).pending),ab (DD 0).on]),(101,.box [.d (.sl 3 (ns.map Xm)),.d (.sl 5 (es.map Xr)),ai nn,ai ne,.d (.sl 6 (rs.map Xh)),ai ts,ai ep,ai (T:Nat)]),(102,.box [aq,aq,ab false]),(103,.box [.d (XL (DD i).aa),.d (XS (DD i).pending),ab (DD i).on])]⟩) (fun i=>n-i) 0 (Nat.zero_le _)
  (ZL0) ?_
 intro i hi;have rW:=gQ 0 (Nat.zero_le _);have hml:((DD 0).aa.map XV).length=d.aa.length:=by rw[LM,rW]
 by_cases hin:i<n
 case neg=>
  obtain rfl:i=n:=by omega
  have hn:¬((A+i:Nat):Int)<(((DD 0).aa.map XV).length:Nat):=by omega
  clear iX ig gQ mE nM gm;obtain⟨Zqs,Zqp,Zqo⟩:=Z;refine YY ?_;exact Qne
 have hn:((A+i:Nat):Int)<(((DD 0).aa.map XV).length:Nat):=by omega
 have h2:=ig i hin;clear ig gQ mA;by_cases h0:i=0
 ·subst h0;have hR:=gm (by omega);rw[mE (by omega)] at h2;have hs:=XaA ((Yo d ((A:Nat):Int)).1.take (T%64)) (by rw[LT];omega);have kD:T%64<=((Yo d ((A:Nat):Int)).1.map X5).length:=by rw[LM];omega
  have aK:(((Yo d ((A:Nat):Int)).1.map X5).take (T%64)).drop 0=((Yo d ((A:Nat):Int)).1.take (T%64)).map X5:=by rw[drop_zero,map_take]
  have bP:((A+0:Nat):Int)=((A:Nat):Int):=rfl;clear mE nM gm;generalize (Yo d ((A:Nat):Int)).1=R at*;generalize (Yo d ((A:Nat):Int)).2=e at*;unfold Xg at*;refine Yq ?_;refine ZBq T 64 ?_;(refine Z1 (op:= .add) (r':=ni A) (u:=ni LN) (v:=ni (T/64)) ?_ (hr':=by exact CG ni hA) (hr:=by exact X1s (by rw[YO];omega)));refine W7_ ?_;refine Z3 (af:=iX) ?_;refine XA ?_;refine Zn (op:= .rem) (r':=ni (T%64)) (u:=ni T) (v:=ni 64) ?_;refine Z6 (lb:=0) (hb:=T%64) (ys:=(R.take (T%64)).map X5) ?_ (hys:=by exact aK);refine W8_ ?_;refine Z3 (af:=h2) ?_;refine Yg ?_;exact⟨0+1,hin,by omega,ZL0⟩
 ·rw[nM i h0] at h2;have hs:=XaA [] (by simp);have hne:¬((A+i:Nat):Int)=(A:Nat):=by omega
  clear mE nM gm iX;refine Yq ?_;refine ZBq T 64 ?_;(refine Z1 (op:= .add) (r':=ni A) (u:=ni LN) (v:=ni (T/64)) ?_ (hr':=by exact CG ni hA) (hr:=by exact X1s (by rw[YO];omega)));refine XA ?_;refine Z3 (af:=h2) ?_;refine Yg ?_;exact⟨i+1,hin,by omega,ZL0⟩
theorem XoX (d:ak) (s:Sta) (hs:StaHold s):Con prog 9 [] [XU d,Xy s] [] (ab true):=by
 refine ZC1 func9 ntmps9 fun E=> ?_;have ha:=X64;have hsh:=Xbr d;have aM:=Xbb s;by_cases q0:X3n d=true
 case neg=>
  rw[show X3n d=false by simpa using q0] at hsh;clear hs aM;obtain⟨secs,ag,on⟩:=d;obtain⟨⟨ns,es,nn,ne⟩,rs,ts,ep,tail⟩:=s;simp only[Xy] at*;refine Yq ?_
  (show AWP prog E _ _ _;refine X2 ?_;exact(show Xa _ _ _ _ _ from⟨_,St.le_refl _,⟨rfl,TV⟩,X4 _⟩))
 rw[q0] at hsh;by_cases q1:X4p s=true
 case neg=>
  rw[show X4p s=false by simpa using q1] at aM;clear hs;obtain⟨secs,ag,on⟩:=d;obtain⟨⟨ns,es,nn,ne⟩,rs,ts,ep,tail⟩:=s;simp only[Xy] at*;refine Yq ?_
  (show AWP prog E _ _ _;refine X2 ?_;exact(show Xa _ _ _ _ _ from⟨_,St.le_refl _,⟨rfl,TV⟩,X4 _⟩))
 rw[q1] at aM;obtain⟨n1,n2⟩:=XaU q0;have h1:=XiV d s hs ⟨by omega,by omega⟩;have h2:=XvN d s hs ⟨by omega,by omega⟩;have h3:=X9j (UQ d s).1;clear hs q0 q1 n1 n2;generalize UQ d s=A at*;obtain⟨⟨xs,xp,xo⟩,e⟩:=A;obtain⟨secs,ag,on⟩:=d;obtain⟨⟨ns,es,nn,ne⟩,rs,ts,ep,tail⟩:=s;simp only[Xy] at*;refine X7 ?_;refine YR ?_
 (show AWP prog E _ _ _;refine X2 ?_;exact(show Xa _ _ _ _ _ from⟨_,St.le_refl _,⟨rfl,TV⟩,X4 _⟩))
end Go.Fw
