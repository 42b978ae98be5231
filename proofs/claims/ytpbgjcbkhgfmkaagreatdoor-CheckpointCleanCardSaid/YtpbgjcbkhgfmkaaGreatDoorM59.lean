/- Checkpoints, in plain Lean: what the functions compute. -/
import Derived.Test.YtpbgjcbkhgfmkaaGreatDoorM58
set_option maxHeartbeats 128000000
namespace Go.Fw
open Go List
set_option linter.unusedVariables false
set_option linter.unusedSimpArgs false
def cK (d:ak) (tail:Nat):List (List UInt8):=
 match d.aa.length-(X9 d+tail/64) with
 |0=>[]
 |n+1=>((Yo d ((X9 d+tail/64:Nat):Int)).1.take (tail%64)++replicate (64-tail%64) 0)::replicate n Yy
def UQ (d:ak) (s:Sta):ak×Int:=
 if Uo d≠0 then (YU,Uo d) else if YN s=false then (YU,19) else if ((d.aa.length-X9 d:Nat):Int)*64<s.tail then (YU,1) else
 ((Uw (Yc d (X9 d+s.tail.toNat/64) (cK d s.tail.toNat))).1,0)
open Go Go.Proofs Tryz
set_option maxRecDepth 100000
variable{T i:Nat}{d:ak}
theorem XjC (h:X9 d+T/64+i<d.aa.length):(cK d T)[i]? =some ((Yo d ((X9 d+T/64+i:Nat):Int)).1.take (if i=0 then T%64 else 0)++replicate (64-(if i=0 then T%64 else 0)) 0):=by
 unfold cK;obtain⟨m,hm⟩:∃m,d.aa.length-(X9 d+T/64)=m+1:=⟨d.aa.length-(X9 d+T/64)-1,by omega⟩
 rw[hm];cases i with
 |zero=>simp
 |succ i=>
  simp only[getElem?_cons_succ,NI (Nat.succ_ne_zero i),take_zero,nil_append];rw[getElem?_replicate,PI (by omega)];rfl
theorem XqO (d:ak) (T:Nat):(cK d T).length=d.aa.length-(X9 d+T/64):=by
 unfold cK;split
 ·rename_i h;rw[h];rfl
 ·rename_i n h;rw[h,LC,length_replicate]
theorem Xqk {a k:Nat}{bs:List (List UInt8)} (h:k=a+i) (hi:bs.length<=i):XI (Yc d a bs) k=XI d k:=(X2l bs d a k).1 (.inr (by omega))
abbrev bC (b:UInt8):Option D:=some (.v (.int .u8 (b.toNat:Int)))
theorem Xd5:∀R:List UInt8,(R.map X5).flatten.map some=R.map bC
 |[]=>rfl
 |b::R=>CG (bC b:: ·) (Xd5 R)
theorem Xps {R:List UInt8}{TT:List (Option D)}{kp:Nat} (hR:R.length=64) (hk:kp<64):(R.map bC++TT).take kp++replicate (64-kp) (some (.v (.int .u8 0)))++(R.map bC++TT).drop (kp+(64-kp))=(R.take kp++replicate (64-kp) 0).map bC++TT:=by
 rw[take_append_of_le_length (by rw[LM];omega),<-map_take,drop_append,drop_of_length_le (by rw[LM];omega),nil_append,LM,show kp+(64-kp)-R.length=0 by omega,drop_zero,map_append,map_replicate];rfl
def X3p (d:ak) (T k:Nat):List UInt8:=(Yo d ((X9 d+T/64+k:Nat):Int)).1.take (if k=0 then T%64 else 0)++replicate (64-(if k=0 then T%64 else 0)) 0
structure ClrRun (d:ak) (T n:Nat) (DD:Nat->ak):Prop where
 z:DD 0=d
 last:DD n=Yc d (X9 d+T/64) (cK d T)
 ok:∀k,k<=n->DOk (DD k)/\Vp (DD k)/\(DD k).aa.length=d.aa.length
 rd:∀k,k<n->(Yo (DD k) ((X9 d+T/64+k:Nat):Int)).1=(Yo d ((X9 d+T/64+k:Nat):Int)).1
 rl:∀k,k<n->(Yo d ((X9 d+T/64+k:Nat):Int)).1.length=64
 wr:∀k,k<n->Vs (DD k) ((X9 d+T/64+k:Nat):Int) (X3p d T k)=(DD (k+1),0)/\(X3p d T k).length<=4096
theorem XiR (o1:DOk d) (hf:d.aa.length<=2000/\d.pending.length<=500) (h1:X9 d+T/64<=d.aa.length):∃DD,ClrRun d T (d.aa.length-(X9 d+T/64)) DD:=by
 have bE:=XqO d T;obtain⟨DD,hD⟩:∃DD:Nat->ak,∀k,Yc d (X9 d+T/64) ((cK d T).take k)=DD k:=⟨_,fun _=>rfl⟩
 have hR:∀k,k<(cK d T).length->(Yo d ((X9 d+T/64+k:Nat):Int)).1.length=64:=fun k hk=>X6g o1 (by omega);have hce:∀c∈cK d T,c.length=64:=fun c hc=>by
  obtain⟨i,hi⟩:=mem_iff_getElem?.1 hc;have hil:=(GS.1 hi).1;rw[XjC (by omega)] at hi;cases hi;rw[LA,LT,length_replicate,hR i hil];split<;>omega
 have bB:∀k,k<=(cK d T).length->DOk (DD k)/\Vp (DD k)/\(DD k).aa.length=d.aa.length:=fun k hk=>by
  obtain⟨k1,k2,k3⟩:=X0m ((cK d T).take k) d (X9 d+T/64);have k4:=X1h ((cK d T).take k) d (X9 d+T/64) o1 (by rw[LT];omega) (fun c hc=>hce c (mem_of_mem_take hc));rw[<-hD];exact⟨k4,X2d k4.v (by rw[k3,LT];omega),by rw[k1]⟩
 rw[<-bE];refine⟨DD,(hD 0).symm,by rw[<-hD,take_length],bB,fun k hk=> ?_,hR,fun k hk=> ?_⟩
 ·rw[X3A (bB k (by omega)).1 (by have:=(bB k (by omega)).2.2;omega),X3A o1 (by omega),<-hD];exact Xqk rfl (by rw[LT];omega)
 ·have hc:(cK d T)[k]? =some (X3p d T k):=XjC (by omega);have hm:=hce _ (mem_of_getElem? hc);refine⟨?_,by rw[hm];decide⟩;rw[X8L (bB k (by omega)).1 (by have:=(bB k (by omega)).2.2;omega) hm,<-hD,<-hD,X19 hc,Xfu,LT,Nat.min_eq_left (by omega)]
theorem XiV (d:ak) (s:Sta) (hs:StaHold s) (hf:d.aa.length<=2000/\d.pending.length<=500):Con prog 37 [] [XU d,Xy s] [] (.tup [XU (UQ d s).1,ai (UQ d s).2]):=by
 refine ZCt func37 ntmps37 fun E=> ?_;have hu:=Xcg d;have hv:=Xa1 s hs;by_cases q1:Uo d=0
 case neg=>
  have e:UQ d s=(YU,Uo d):=PI q1;rw[e];clear e hs hf hv;generalize Uo d=x at*;obtain⟨secs,ag,on⟩:=d;obtain⟨⟨ns,es,nn,ne⟩,rs,ts,ep,tail⟩:=s;simp only[Xy] at*;refine U1 ?_;exact Qme
 by_cases q2:YN s=true
 case neg=>
  have q2:YN s=false:=by simpa using q2
  have e:UQ d s=(YU,19):=by unfold UQ;rw[NI (by simp[q1]),PI q2]
  rw[e];rw[q1] at hu;rw[q2] at hv;clear e hs hf q1 q2;obtain⟨secs,ag,on⟩:=d;obtain⟨⟨ns,es,nn,ne⟩,rs,ts,ep,tail⟩:=s;simp only[Xy] at*;refine UX ?_;exact Qme
 obtain⟨o1,o2,o3⟩:=X6W q1;obtain⟨l1,l2,l3⟩:=Vm o2;obtain⟨_,_,_,_,_,_,t0,t1⟩:=Vk.1 q2;have aC:=X3P (d.aa.length:Nat);rw[X37 o2 o3] at aC;have aM:(d.aa.map XV).length=d.aa.length:=LM ..;rw[q1] at hu;rw[q2] at hv;obtain⟨T,hT⟩:∃T:Nat,s.tail=T:=⟨s.tail.toNat,by omega⟩
 by_cases q3:(d.aa.length-X9 d)*64<T
 ·have e:UQ d s=(YU,1):=by unfold UQ;rw[NI (by simp[q1]),NI (by simp[q2]),PI (by rw[hT];omega)]
  rw[e];have mz:(T:Int)>(((d.aa.length-X9 d)*64:Nat):Int):=by omega
  have hsub:((((d.aa.map XV).length:Nat):Int)-(X9 d:Nat))=((d.aa.length-X9 d:Nat):Int):=by omega
  have hQ:d.aa.length-X9 d<=2000:=by omega
  rw[<-aM] at aC;clear e hs hf q1 q2 o1 l1 l3 q3;generalize d.aa.length-X9 d=Q at*;generalize Xt d=SN at*;generalize X9 d=LN at*;obtain⟨secs,ag,on⟩:=d;obtain⟨⟨ns,es,nn,ne⟩,rs,ts,ep,tail⟩:=s;simp only at hT hsub;subst hT;simp only[Xy] at*;refine X7 ?_;refine XQ ?_;refine ZBs (((secs.map XV).length:Nat):Int) ((LN:Nat):Int) ((Q:Nat):Int) ?_ (e:=hsub);refine ZBM Q 64 ?_;refine W9_ ?_;exact Qme
 have e:UQ d s=((Uw (Yc d (X9 d+T/64) (cK d T))).1,0):=by unfold UQ;rw[NI (by simp[q1]),NI (by simp[q2]),NI (by rw[hT];omega),hT,Int.toNat_natCast]
 rw[e];obtain⟨DD,⟨dh,kC,bB,lu,bg,dX⟩⟩:=XiR (T:=T) o1 hf (by omega);obtain⟨n,bE⟩:∃n,n=d.aa.length-(X9 d+T/64):=⟨_,rfl⟩
 rw[<-bE] at kC bB lu bg dX;have iX:∀k,k<n->Con prog 78 [] [XU (DD k),ai ((X9 d+T/64+k:Nat):Int)] [(110,.row 1 ((Yo d ((X9 d+T/64+k:Nat):Int)).1.map X5))] (X0O (.own 110 64) (Yo (DD k) ((X9 d+T/64+k:Nat):Int)).2):=fun k hk=>by
  have h:=Xmk (DD k) (X9 d+T/64+k) (bB k (by omega)).2.1 (bB k (by omega)).1.use (by have:=(bB k (by omega)).2.2;omega);rw[lu k hk] at h;exact h
 have ig:∀k,k<n->Con prog 79 [] [XU (DD k),ai ((X9 d+T/64+k:Nat):Int),.d (Xg (X3p d T k))] [] (X0O (XU (DD (k+1))) 0):=fun k hk=>by
  have h:=X4P (DD k) ((X9 d+T/64+k:Nat):Int) (X3p d T k) (bB k (by omega)).2.1 (dX k hk).2;rw[(dX k hk).1] at h;exact h
 have mA:=X5s (DD n) (bB n (Nat.le_refl _)).2.1;rw[X70 (bB n (Nat.le_refl _)).1] at mA;have mB:(Uw (DD n)).1=⟨V5 (DD n) (fun _=>64),[],true⟩:=by rw[X70 (bB n (Nat.le_refl _)).1]
 rw[<-kC,mB];have gQ:=fun k hk=>(bB k hk).2.2;have rE:T%64<64:=Nat.mod_lt _ (by decide);have pU:X9 d+T/64<=5000:=by omega
 have tI:T<=262144:=by omega
 unfold X3p at ig;clear e hs hf q1 q2 o1 l3 kC bB lu dX mB t0 t1;rw[<-aM] at aC;obtain⟨A,hA⟩:∃A,X9 d+T/64=A:=⟨_,rfl⟩
 simp only[hA] at bE iX bg ig pU;generalize Xt d=SN at*;generalize X9 d=LN at*;have eo:d=DD 0:=dh.symm;have gj:=aM;rw[eo] at hu aC gj |-;obtain⟨⟨ns,es,nn,ne⟩,rs,ts,ep,tail⟩:=s;simp only at hT;subst hT;generalize hZ:(⟨V5 (DD n) (fun _=>64),[],true⟩:ak)=Z at*;clear hZ dh eo;have fq:=gQ 0 (Nat.zero_le _);simp only[Xy,X0O] at*;have hml:((DD 0).aa.map XV).length=d.aa.length:=gj.trans fq;have mz:¬(T:Int)>((((DD 0).aa.map XV).length-LN)*64:Int):=by omega
 clear gj;refine X7 ?_;refine UU ?_;refine Zn (op:= .rem) (r':=ni (T%64)) (u:=ni T) (v:=ni 64) ?_;refine W8_ ?_;refine ZBq T 64 ?_;(refine Z1 (op:= .add) (r':=ni A) (u:=ni LN) (v:=ni (T/64)) ?_ (hr':=by exact CG ni hA) (hr:=by exact X1s (by rw[YO];omega)));refine W3_ ?_;clear hu hv aC q3 mz fq hml
 refine Xn (fun i:Nat=>i<=n) (fun i=>⟨77,[(2,.ptr 100 0),(3,.ptr 101 0),(4,.ptr 102 0),(5,ai 0),(10,ai ((if i=0 then T%64 else 0:Nat):Int)),(11,ai ((A+i:Nat):Int))],[(100,.box [.d (XL (DD i).aa),.d (XS (DD i).pending),ab (DD i).on]),(101,.box [.d (.sl 3 (ns.map Xm)),.d (.sl 5 (es.map Xr)),ai nn,ai ne,.d (.sl 6 (rs.map Xh)),ai ts,ai ep,ai (T:Nat)]),(102,.box [aq,aq,ab false])]⟩) (fun i=>n-i) 0 (Nat.zero_le _)
  (ZL0) ?_
 intro i hi;have tJ:=gQ i hi;have hml:((DD i).aa.map XV).length=d.aa.length:=by rw[LM,tJ]
 by_cases hin:i<n
 case neg=>
  obtain rfl:i=n:=by omega
  have hn:¬((A+i:Nat):Int)<(((DD i).aa.map XV).length:Nat):=by omega
  clear iX bg ig gQ;obtain⟨Zqs,Zqp,Zqo⟩:=Z;refine U8 ?_;exact Qne
 have hn:((A+i:Nat):Int)<(((DD i).aa.map XV).length:Nat):=by omega
 have h1:=iX i hin;have h2:=ig i hin;have hR:=bg i hin;obtain⟨kp,hkp⟩:∃kp,(if i=0 then T%64 else 0)=kp:=⟨_,rfl⟩
 have lV:kp<64:=by rw[<-hkp];split<;>omega
 rw[hkp] at h2;simp only[hkp];clear iX bg ig gQ mA rE hkp;generalize (Yo d ((A+i:Nat):Int)).1=R at*;generalize (Yo (DD i) ((A+i:Nat):Int)).2=e at*;refine Yv ?_;refine Z3 (af:=h1) ?_;refine W7_ ?_;refine X2Z 12 110 131 rfl (by rw[LM];omega) rfl (by rw[LM,hR]) rfl rfl (fun c k aI aW bL _=> ?_);rw[LM,hR] at aI bL;rw[Xd5];have kD:(replicate k (none:Option D)).length=k:=length_replicate;generalize replicate k (none:Option D)=TT at*;have hlc:(R.map bC++TT).length=64+k:=by rw[LA,LM,hR,kD]
 have s1:(if c=kp then 0 else 0+kp*1)=kp:=by rw[NI (by omega)];omega
 have s2:=Xps (TT:=TT) hR lV;have lq:(R.take kp++replicate (64-kp) 0).length=64:=by rw[LA,LT,length_replicate];omega
 have s3:((R.take kp++replicate (64-kp) 0).map bC++TT).take (64*1)=(((R.take kp++replicate (64-kp) 0).map X5).flatten).map some:=by
  rw[Xd5,take_append_of_le_length (by rw[LM,lq];omega),take_of_length_le (by rw[LM,lq];omega)]
 generalize R.take kp++replicate (64-kp) 0=NR at*;have hz:∀y∈NR.map X5,y.length=1:=fun y hy=>by obtain⟨b,_,rfl⟩:=mem_map.1 hy;rfl
 refine W3_ ?_;refine Zc (lb:=kp) (hb:=64) (m:=64-kp) (c':=c-kp) (o':=kp) ?_ (ho':=by exact s1)
 (refine Xwp (cs':=NR.map bC++TT) (v0:= .int .u8 0) (hg:=JSa) (hx:=JSb) (hL:=JSb) (hn:=JSh) (hb:=JSh) (hB:=JSc) (hT:=JSb) (bZ:=JSb) (h1:=JSb) ?_ (hcs:= ?hcs85);(case hcs85=>exact s2))
 refine W2_ ?_;refine X8 (X14 12 131 132 (NR.map X5) (by conv=>lhs;whnf) (by conv=>lhs;whnf) s3 (by rw[LM,lq]) hz aI aW (by rw[LA,LM,lq,kD];omega) rfl rfl) ?_;refine X8 (XP 132 rfl) ?_;refine X8 (Y7 12 132 rfl rfl (by rw[LM,lq])) ?_;refine W4_ ?_;refine Z3 (af:=h2) ?_;refine XQ ?_;refine⟨i+1,hin,by omega,?_⟩;exact ZL0
end Go.Fw
