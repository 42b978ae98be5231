/- Reading values: value, all. -/
import Derived.Test.YtpbgjcbkhgfmkaaGreatDoorM14
set_option maxHeartbeats 16000000
namespace Go.Fw
open Go Go.Proofs Tryz List
set_option maxRecDepth 100000
set_option linter.unusedVariables false
set_option linter.unusedSimpArgs false
theorem Xd6 (b:List UInt8) (m a:Nat) (want:Int) (gl gp:Nat->Int->Val×Int×Int) (hm:m<=8) (ha:a<=b.length) (hb:b.length<=281474976710656)
  (fR:∀i q:Nat,q<=b.length->X1m b (gl i q).2) (eN:∀i q:Nat,q<=b.length->X1m b (gp i q).2)
  (hl:want=0->m≠0->∀i q:Nat,q<=b.length->X3C b q (8-m+1) 0 (gl i q)) (hp:want=0->∀i q:Nat,q<=b.length->X3C b q (8-m) (5+(i%2:Nat)) (gp i q)) (hw:want≠0->want=5\/want=6):
  X3C b a (8-m) want (X0P gl gp m b a want):=by
 have hk:=XoR b a m want hm ha hb;by_cases fo:(X27 b a m want).2.2=0
 case neg=>
  rw[XsD fo];refine ZC1 func337 ntmps337 fun E=> ?_;generalize X27 b a m want=u at*;refine YT ?_;exact Qbb
 obtain⟨k,hkk,hlt,gY,hkm,qM,hG⟩:=XwZ ha fo;rw[hkk] at hk;clear fo hkk;replace hG:=hG gl gp;generalize hR:X0P gl gp m b a want=R at*;simp only at hk;by_cases h8:k=8
 ·subst h8;have hw0:want=0:=Classical.byContradiction fun h=>by
   have h1:=qM h;rcases hw h with h2|h2<;>omega
  exact Xth b m a want gl gp R hm hlt hb fR (hl hw0 (hkm rfl)) hk hG
 by_cases h7:k=7
 ·subst h7;have hw0:want=0:=Classical.byContradiction fun h=>by
   have h1:=qM h;rcases hw h with h2|h2<;>omega
  exact Xvn b m a want gl gp R hm hlt hb eN (hp hw0) hk hG
 refine ZC1 func337 ntmps337 fun E=> ?_;by_cases h0:k=0
 ·subst h0;rw[show ((0:Nat):Int)=0 from rfl] at hk hG;rw[show Vz gl gp b (a+1) 0=(.mk 0 0 0 [] [],(a:Int)+1,0) by simp[Vz]] at hG;have hval:=X2w (.mk 0 0 0 [] []);simp only[XC] at hval;have hv:Xk 8 (.mk 0 0 0 [] [])=true:=by rw[Xk];simp
  rw[hv] at hval;obtain rfl:R=(.mk 0 0 0 [] [],(a:Int)+1,0):=by rw[hG];simp[VI,hv]
  refine QCa ?_;refine Yw ?_;exact Qbb
 by_cases h1:k=1
 ·subst h1;rw[show ((1:Nat):Int)=1 from rfl] at hk hG;have hn:=X7H b (a+1) 0 hb;rw[PI rfl,PI rfl] at hn;rw[show Vz gl gp b (a+1) 1=(.mk 1 (YX b (a+1)).1 0 [] [],(YX b (a+1)).2.1,(YX b (a+1)).2.2) by simp[Vz]] at hG;generalize YX b (a+1)=u at*;obtain⟨n,a2,e2⟩:=u;simp only at hn hG;by_cases he:e2=0
  ·subst he;have hval:=X2w (.mk 1 n 0 [] []);simp only[XC] at hval;cases hv:Xk 8 (.mk 1 n 0 [] []) with
   |false=>
    rw[hv] at hval;obtain rfl:R=((.mk 1 n 0 [] []),a2,2):=by rw[hG];simp[VI,hv]
    refine QMa ?_;refine QBa ?_;refine YT ?_;exact Qcb
   |true=>
    rw[hv] at hval;obtain rfl:R=((.mk 1 n 0 [] []),a2,0):=by rw[hG];simp[VI,hv]
    refine QMa ?_;refine Qdb ?_;exact Qcb
  ·obtain rfl:R=((.mk 1 n 0 [] []),a2,e2):=by rw[hG];simp[VI,he]
   refine QMa ?_;refine Qdb ?_;exact Qcb
 by_cases h2:k=2
 ·subst h2;rw[show ((2:Nat):Int)=2 from rfl] at hk hG;have hn:=X7H b (a+1) 0 hb;rw[PI rfl,PI rfl] at hn;rw[show Vz gl gp b (a+1) 2=(.mk 2 (YX b (a+1)).1 0 [] [],(YX b (a+1)).2.1,(YX b (a+1)).2.2) by simp[Vz]] at hG;generalize YX b (a+1)=u at*;obtain⟨n,a2,e2⟩:=u;simp only at hn hG;by_cases he:e2=0
  ·subst he;have hval:=X2w (.mk 2 n 0 [] []);simp only[XC] at hval;cases hv:Xk 8 (.mk 2 n 0 [] []) with
   |false=>
    rw[hv] at hval;obtain rfl:R=((.mk 2 n 0 [] []),a2,2):=by rw[hG];simp[VI,hv]
    refine QY ?_;refine QBa ?_;refine YT ?_;exact Qeb
   |true=>
    rw[hv] at hval;obtain rfl:R=((.mk 2 n 0 [] []),a2,0):=by rw[hG];simp[VI,hv]
    refine QY ?_;refine Qdb ?_;exact Qeb
  ·obtain rfl:R=((.mk 2 n 0 [] []),a2,e2):=by rw[hG];simp[VI,he]
   refine QY ?_;refine Qdb ?_;exact Qeb
 by_cases h5:k=5
 ·subst h5;rw[show ((5:Nat):Int)=5 from rfl] at hk hG;have hn:=X7H b (a+1) 0 hb;rw[PI rfl,PI rfl] at hn;rw[show Vz gl gp b (a+1) 5=(.mk 5 (YX b (a+1)).1 0 [] [],(YX b (a+1)).2.1,(YX b (a+1)).2.2) by simp[Vz]] at hG;generalize YX b (a+1)=u at*;obtain⟨n,a2,e2⟩:=u;simp only at hn hG;by_cases he:e2=0
  ·subst he;have hval:=X2w (.mk 5 n 0 [] []);simp only[XC] at hval;cases hv:Xk 8 (.mk 5 n 0 [] []) with
   |false=>
    rw[hv] at hval;obtain rfl:R=((.mk 5 n 0 [] []),a2,2):=by rw[hG];simp[VI,hv]
    refine X7 ?_;refine Yx ?_;refine QBa ?_;refine YT ?_;exact Qfb
   |true=>
    rw[hv] at hval;obtain rfl:R=((.mk 5 n 0 [] []),a2,0):=by rw[hG];simp[VI,hv]
    refine X7 ?_;refine Yx ?_;refine Qdb ?_;exact Qfb
  ·obtain rfl:R=((.mk 5 n 0 [] []),a2,e2):=by rw[hG];simp[VI,he]
   refine X7 ?_;refine Yx ?_;refine Qdb ?_;exact Qfb
 by_cases h6:k=6
 ·subst h6;rw[show ((6:Nat):Int)=6 from rfl] at hk hG;have hn:=X7H b (a+1) 0 hb;rw[PI rfl,PI rfl] at hn;rw[show Vz gl gp b (a+1) 6=(.mk 6 (YX b (a+1)).1 0 [] [],(YX b (a+1)).2.1,(YX b (a+1)).2.2) by simp[Vz]] at hG;generalize YX b (a+1)=u at*;obtain⟨n,a2,e2⟩:=u;simp only at hn hG;by_cases he:e2=0
  ·subst he;have hval:=X2w (.mk 6 n 0 [] []);simp only[XC] at hval;cases hv:Xk 8 (.mk 6 n 0 [] []) with
   |false=>
    rw[hv] at hval;obtain rfl:R=((.mk 6 n 0 [] []),a2,2):=by rw[hG];simp[VI,hv]
    refine X7 ?_;refine Yf ?_;refine QBa ?_;refine YT ?_;exact Qgb
   |true=>
    rw[hv] at hval;obtain rfl:R=((.mk 6 n 0 [] []),a2,0):=by rw[hG];simp[VI,hv]
    refine X7 ?_;refine Yf ?_;refine Qdb ?_;exact Qgb
  ·obtain rfl:R=((.mk 6 n 0 [] []),a2,e2):=by rw[hG];simp[VI,he]
   refine X7 ?_;refine Yf ?_;refine Qdb ?_;exact Qgb
 by_cases h3:k=3
 ·subst h3;rw[show ((3:Nat):Int)=3 from rfl] at hk hG;have hn:=X7H b (a+1) 0 hb;rw[PI rfl,PI rfl] at hn;have hz:= @Xo0 b (a+1);have hc:Vz gl gp b (a+1) 3=if (YX b (a+1)).2.2≠0 then (.mk 3 0 0 [] [],(YX b (a+1)).2.1,(YX b (a+1)).2.2) else (.mk 3 (YX b (a+1)).1 (YX b (YX b (a+1)).2.1).1 [] [],(YX b (YX b (a+1)).2.1).2.1,(YX b (YX b (a+1)).2.1).2.2):=by simp[Vz]
  generalize YX b (a+1)=u at*;obtain⟨n,a2,e2⟩:=u;simp only at hn hz hc;have hn2:=X7H b a2 e2 hb;by_cases hJ:e2=0
  ·subst hJ;rw[PI rfl,PI rfl] at hn2;rw[NI (by simp)] at hc;rw[hc] at hG;generalize YX b a2=u at*;obtain⟨d,a3,e3⟩:=u;simp only at hn2 hG;by_cases he:e3=0
   ·subst he;have hval:=X2w (.mk 3 n d [] []);simp only[XC] at hval;cases hv:Xk 8 (.mk 3 n d [] []) with
    |false=>
     rw[hv] at hval;obtain rfl:R=((.mk 3 n d [] []),a3,2):=by rw[hG];simp[VI,hv]
     refine X7 ?_;refine Vl ?_;refine QBa ?_;refine W5_ ?_;refine Z3 (af:=hn2) ?_;refine YT ?_;exact Qhb
    |true=>
     rw[hv] at hval;obtain rfl:R=((.mk 3 n d [] []),a3,0):=by rw[hG];simp[VI,hv]
     refine Qib ?_;exact Qhb
   ·obtain rfl:R=((.mk 3 n d [] []),a3,e3):=by rw[hG];simp[VI,he]
    refine Qib ?_;exact Qhb
  ·rw[NI hJ,NI hJ] at hn2;rw[PI hJ] at hc;rw[hc] at hG;obtain rfl:=hz hJ;obtain rfl:R=(.mk 3 0 0 [] [],a2,e2):=by rw[hG];simp[VI,hJ]
   refine Qib ?_;exact X2 ⟨_,Xq 100 (cs:=[ai 3,ai 0,ai 0,.d (.v (.string (X6 []))),aq]) (cs':=[ai 3,ai 0,ai 0,.d (.v (.string (X6 []))),.d (.sl 5 [])]) rfl ⟨AVal.le_refl _,AVal.le_refl _,AVal.le_refl _,AVal.le_refl _,AVal.le_nil 5,TV⟩ rfl,⟨⟨100,0,_,rfl,rfl,.inr ⟨5,_,rfl,rfl,rfl,rfl⟩⟩,TV⟩,Xj ⟨rfl,TV⟩⟩
 by_cases h4:k=4
 ·subst h4;rw[show ((4:Nat):Int)=4 from rfl] at hk hG;have hn:=Xjt b (a+1) 100 hb;rw[show Vz gl gp b (a+1) 4=(.mk 4 0 0 (X0M b (a+1) 100).1 [],(X0M b (a+1) 100).2.1,(X0M b (a+1) 100).2.2) by simp[Vz]] at hG;generalize X0M b (a+1) 100=u at*;obtain⟨s,a2,e2⟩:=u;simp only at hn hG;by_cases he:e2=0
  ·subst he;have hval:=X2w (.mk 4 0 0 s []);simp only[XC] at hval;cases hv:Xk 8 (.mk 4 0 0 s []) with
   |false=>
    rw[hv] at hval;obtain rfl:R=((.mk 4 0 0 s []),a2,2):=by rw[hG];simp[VI,hv]
    refine X7 ?_;refine X1V ?_;refine QBa ?_;refine QY ?_;exact Qjb
   |true=>
    rw[hv] at hval;obtain rfl:R=((.mk 4 0 0 s []),a2,0):=by rw[hG];simp[VI,hv]
    refine X7 ?_;refine X1V ?_;refine QBa ?_;refine Qr ?_;exact Qjb
  ·obtain rfl:R=((.mk 4 0 0 s []),a2,e2):=by rw[hG];simp[VI,he]
   refine X7 ?_;refine X1V ?_;refine QBa ?_;refine Qr ?_;exact Qjb
 omega
def rkI (b:List UInt8) (a e limit:Int):Int×Int×Int:=if e≠0 then (0,a,e) else rkS b a.toNat 0 limit
def rnS (b:List UInt8) (a e:Int):Int×Int×Int:=if e≠0 then (0,a,e) else XB b a
def riS (b:List UInt8) (a e:Int):Int×Int×Int:=if e≠0 then (0,a,e) else YX b a
def rsS (b:List UInt8) (a e:Int):List UInt8×Int×Int:=if e≠0 then ([],a,e) else X0M b a 20
def rvS (b:List UInt8) (a e:Int):Val×Int×Int:=if e≠0 then (zV,a,e) else X18 b a
theorem Xet (b:List UInt8) (a e limit:Int) (hb:b.length<=281474976710656) (ha:e=0->0<=a/\a<=b.length):Con prog 232 [(0,oRd b a e)] [.ptr 0 0,ai limit] [(0,oRd b (rkI b a e limit).2.1 (rkI b a e limit).2.2)] (ai (rkI b a e limit).1):=by
 by_cases h:e=0
 ·subst h;obtain⟨m,rfl⟩:∃m:Nat,a=m:=⟨a.toNat,by have:=ha rfl;omega⟩
  have:=ha rfl;have hk:=Xtt b m 0 limit hb (by omega);rw[show rkI b m 0 limit=rkS b m 0 limit by unfold rkI;simp];exact hk
 ·unfold rkI;rw[PI h];refine ZC1 func232 ntmps232 fun E=> ?_;exact QRa
theorem X9M (b:List UInt8) (a e:Int) (hb:b.length<=281474976710656):Con prog 233 [(0,oRd b a e)] [.ptr 0 0] [(0,oRd b (rnS b a e).2.1 (rnS b a e).2.2)] (ai (rnS b a e).1):=by
 have h:=Xqw b a e hb;unfold rnS;by_cases he:e=0
 ·rw[PI he,PI he] at h;rw[NI (by simpa using he)];exact h
 ·rw[NI he,NI he] at h;rw[PI he];exact h
theorem X78 (b:List UInt8) (a e:Int) (hb:b.length<=281474976710656):Con prog 286 [(0,oRd b a e)] [.ptr 0 0] [(0,oRd b (rsS b a e).2.1 (rsS b a e).2.2)] (Xi (rsS b a e).1):=by
 refine ZC1 func286 ntmps286 fun E=> ?_;have hu:=Xjt b a 20 hb;unfold rsS;generalize X0M b a 20=u at*;obtain⟨u1,u2,u3⟩:=u;obtain⟨r,hr⟩:∃r,r=(if e≠0 then (([]:List UInt8),a,e) else (u1,u2,u3)):=⟨_,rfl⟩
 rw[<-hr];refine Yv ?_;refine Vt rfl (fun hq=> ?_) (fun hq=> ?_);refine X00 ?_;(simp[*] at hr;subst hr;exact X2 ⟨_,St.le_refl _,⟨rfl,TV⟩,Xj ⟨rfl,TV⟩⟩);refine W6_ ?_
 (simp[*] at hr;subst hr;exact X2 ⟨_,St.le_refl _,⟨rfl,TV⟩,Xj ⟨rfl,TV⟩⟩)
theorem Xpn (b:List UInt8) (a m:Nat) (want:Int) (hw:want=5\/want=6) (gl gp:Nat->Int->Val×Int×Int):X0P gl gp m b a want=X7N b a want:=by
 unfold X7N X0P;split
 ·rfl
 simp only;have hc:∀gl gp gl' gp' (k:Int),(k=5\/k=6)->Vz gl gp b (a+1) k=Vz gl' gp' b (a+1) k:=by
  intro _ _ _ _ k hk;unfold Vz;rw[PI (by omega),PI (by omega)]
 by_cases h:((((b[(a:Int).toNat]?).getD 0).toNat:Nat):Int)=want
 ·rw[if_neg (c:=8<_\/_) (by omega),if_neg (c:=8<_\/_) (by omega),hc gl gp noG noG _ (by omega)]
 ·rw[PI (by omega),PI (by omega)]
theorem Xhx (b:List UInt8) (a m:Nat) (want:Int) (hm:m<=8) (ha:a<=b.length) (hb:b.length<=281474976710656) (hw:want=5\/want=6):X3C b a (8-m) want (X7N b a want):=by
 rw[<-Xpn b a m want hw noG noG];exact Xd6 b m a want noG noG hm ha hb (fun i q _=>X7B i q) (fun i q _=>X7B i q) (by omega) (by omega) (by omega)
theorem Xhf (b:List UInt8) (hb:b.length<=281474976710656):∀(m a:Nat),m<=8->a<=b.length->X3C b a (8-m) 0 (X2X b m a)
 |0,a,hm,ha=>by
  rw[X6q];exact Xd6 b 0 a 0 (X9q b 0) (X3L b) hm ha hb (fun i q _=>X7B i q) (fun i q h=>Xaz i q h) (fun _ h=>absurd rfl h) (fun _ i q h=>Xhx b q 0 _ hm h hb (by omega)) (fun h=>absurd rfl h)
 |m+1,a,hm,ha=>by
  rw[X6q];refine Xd6 b (m+1) a 0 (X9q b (m+1)) (X3L b) hm ha hb (fun i q h=>Xji m q h) (fun i q h=>Xaz i q h) (fun _ _ i q h=> ?_) (fun _ i q h=>Xhx b q (m+1) _ hm h hb (by omega)) (fun h=>absurd rfl h);have:=Xhf b hb m q (by omega) h;rw[show (8:Int)-((m+1:Nat):Int)+1=8-(m:Int) by omega];exact this
theorem Xow (b:List UInt8) (hb:b.length<=281474976710656) (a:Nat) (ha:a<=b.length) (r:Val×Int×Int) (hr:X2X b 8 a=r):
  Con prog 337 [(101,oRd b a 0)] [.ptr 101 0,ai 0,ai 0] [(101,oRd b r.2.1 r.2.2)] (XC r.1):=by
 have h:=YK 0 101 (Xhf b hb 8 a (by omega) ha);rw[hr] at h;obtain⟨⟨k,n,d,s,l⟩,x,y⟩:=r;exact h
theorem XwJ (b:List UInt8) (hb:b.length<=281474976710656) (a:Int):Con prog 289 [] [.d (Xg b),ai a] [] (.tup [XC (X18 b a).1,ai (X18 b a).2.1,ai (X18 b a).2.2]):=by
 refine ZCt func289 ntmps289 fun E=> ?_;by_cases h1:a<0
 ·rw[show X18 b a=(zV,0,1) by unfold X18;rw[PI (.inl h1)]];refine XY ?_;exact Qkb
 by_cases h2:(b.length:Int)<a
 ·rw[show X18 b a=(zV,0,1) by unfold X18;rw[PI (.inr h2)]];refine XY ?_;exact Qkb
 obtain⟨q,rfl⟩:∃q:Nat,a=q:=⟨a.toNat,by omega⟩
 have hq:q<=b.length:=by omega
 have hv:X18 b q=if (X2X b 8 q).2.2≠0 then (zV,0,(X2X b 8 q).2.2) else X2X b 8 q:=by unfold X18;rw[NI (by omega)]
 have af:=Xow b hb q hq _ rfl;rw[hv];clear hv;generalize X2X b 8 q=r at*;obtain⟨⟨k,n,d,s,l⟩,x,y⟩:=r;simp only[XC] at af;by_cases h3:y=0
 ·subst h3;rw[NI (by simp)];refine UP ?_;refine Z3 (af:=af) ?_;refine Vl ?_;exact X2 ⟨_,St.le_refl _,⟨⟨100,0,_,rfl,rfl,.inr ⟨5,_,rfl,rfl,rfl,rfl⟩⟩,rfl,rfl,TV⟩,X4 _⟩
 ·rw[PI h3];refine UP ?_;refine Z3 (af:=af) ?_;refine Yq ?_;exact Qkb
def Vu (b:List UInt8) (a e:Int):Chg×Int×Int:=
 let k:=rkI b a e 8
 let i:=rnS b k.2.1 k.2.2
 let f:=if k.1=6 then rnS b i.2.1 i.2.2 else (0,i.2.1,i.2.2)
 let t:=if k.1=6 then rnS b f.2.1 f.2.2 else (0,f.2.1,f.2.2)
 let s:=if YS k.1=true then rsS b t.2.1 t.2.2 else ([],t.2.1,t.2.2)
 let v:=if YL k.1=true then rvS b s.2.1 s.2.2 else (zV,s.2.1,s.2.2)
 (⟨k.1,i.1,f.1,t.1,s.1,v.1⟩,v.2.1,v.2.2)
theorem Xxv (b:List UInt8) (a e limit:Int):((rkI b a e limit).1=0/\(rkI b a e limit).2.2≠0)\/(1<=(rkI b a e limit).1/\(rkI b a e limit).1<=limit/\(rkI b a e limit).2.2=0):=by
 unfold rkI;by_cases h:e=0
 ·subst h;rw[NI (by simp)];unfold rkS;rw[NI (by simp)];split
  ·exact .inl ⟨rfl,by simp⟩
  ·split
   ·exact .inl ⟨rfl,by simp⟩
   ·exact .inr ⟨by simp only;omega,by simp only;omega,rfl⟩
 ·rw[PI h];exact .inl ⟨rfl,h⟩
variable{a e:Int}{b:List UInt8}
theorem Xf9 (h:e≠0):rnS b a e=(0,a,e):=PI h
theorem Xmr (h:e≠0):rsS b a e=([],a,e):=PI h
theorem Xgm (h:e≠0):riS b a e=(0,a,e):=PI h
theorem XkN (h:e≠0):rvS b a e=(zV,a,e):=PI h
theorem Xdr:rvS b a 0=X18 b a:=NI (by simp)
theorem XoL (b:List UInt8) (a e:Int) (hb:b.length<=281474976710656) (ha:e=0->0<=a/\a<=b.length):Con prog 230 [(0,oRd b a e)] [.ptr 0 0] [(0,oRd b (Vu b a e).2.1 (Vu b a e).2.2)] (Xz (Vu b a e).1):=by
 refine ZC1 func230 ntmps230 fun E=> ?_;have hk:=Xet b a e 8 hb ha;have hop:=Xxv b a e 8;unfold Vu;generalize rkI b a e 8=k at*;obtain⟨op,a1,e1⟩:=k;simp only at hk hop |-;have hf:=Xjd op;by_cases h0:op=0
 ·subst h0;have he:e1≠0:=by omega
  have hi:=X9M b a1 e1 hb;have hs:=X78 b a1 e1 hb;rw[Xf9 he] at hi |-;rw[Xmr he] at hs;simp only[NI (show ¬(0:Int)=6 by omega),NI (show ¬YS 0=true by decide),NI (show ¬YL 0=true by decide)];simp only[Xz] at*;refine Qlb ?_;refine Yw ?_;exact X2 ⟨_,Xq 100 (cs':=[ai 0,ai 0,ai 0,ai 0,Xi [],ai 0,ai 0,ai 0,Xi [],.d (.sl 5 [])]) rfl JM rfl,⟨⟨100,0,_,rfl,rfl,.inr ⟨10,_,rfl,rfl,rfl,rfl⟩⟩,TV⟩,Xj ⟨rfl,TV⟩⟩
 have hop:1<=op/\op<=8/\e1=0:=by omega
 obtain⟨o1,o2,rfl⟩:=hop;have hi:=X9M b a1 0 hb;generalize rnS b a1 0=i at*;obtain⟨id,a2,e2⟩:=i;simp only at hi |-;by_cases h6:op=6
 ·subst h6;simp only[if_true,PI (show YS 6=true by decide),NI (show ¬YL 6=true by decide)];have hs:=X9M b a2 e2 hb;generalize rnS b a2 e2=f at*;obtain⟨src,a3,e3⟩:=f;simp only at hs |-;have hd:=X9M b a3 e3 hb;generalize rnS b a3 e3=t at*;obtain⟨dst,a4,e4⟩:=t;simp only at hd |-;have hn:=X78 b a4 e4 hb;generalize rsS b a4 e4=s at*;obtain⟨name,a5,e5⟩:=s;simp only[Xz] at*;refine YY ?_;refine Z3 (af:=hi) ?_;refine XR ?_;refine Z3 (af:=hs) ?_;refine W5_ ?_;refine Z3 (af:=hd) ?_;refine XK ?_;refine QBa ?_;refine Yw ?_;exact X2 ⟨_,Xq 100 (cs':=[ai 6,ai id,ai src,ai dst,Xi name,ai 0,ai 0,ai 0,Xi [],.d (.sl 5 [])]) rfl JM rfl,⟨⟨100,0,_,rfl,rfl,.inr ⟨10,_,rfl,rfl,rfl,rfl⟩⟩,TV⟩,Xj ⟨rfl,TV⟩⟩
 simp only[NI h6];by_cases hn:YS op=true
 case neg=>
  have hv:¬YL op=true:=by revert hn;unfold YS YL;simp;omega
  simp only[NI hn,NI hv];have hu:op=1\/op=2\/op=7:=by revert hn;unfold YS;simp;omega
  rcases hu with rfl|rfl|rfl
  ·simp only[Xz] at*;exact Qmb
  ·simp only[Xz] at*;exact Qmb
  ·simp only[Xz] at*;exact Qmb
 simp only[PI hn];have hs:=X78 b a2 e2 hb;generalize rsS b a2 e2=s at*;obtain⟨name,a3,e3⟩:=s;simp only at hs |-;by_cases hv:YL op=true
 case neg=>
  simp only[NI hv];have hu:op=3\/op=4:=by revert hn hv;unfold YS YL;simp;omega
  rcases hu with rfl|rfl
  ·simp only[Xz] at*;exact Qnb
  ·simp only[Xz] at*;exact Qnb
 simp only[PI hv];have hu:op=5\/op=8:=by revert hv;unfold YL;simp
 by_cases he:e3=0
 ·subst he;rw[Xdr];have hr:=XwJ b hb a3;generalize X18 b a3=v at*;obtain⟨⟨vk,vn,vd,vs,vl⟩,a4,e4⟩:=v;rcases hu with rfl|rfl
  ·simp only[Xz,XC] at*;refine Qlb ?_;refine QX ?_;exact Qob
  ·simp only[Xz,XC] at*;refine Qlb ?_;refine QX ?_;exact Qob
 ·rw[XkN he];rcases hu with rfl|rfl
  ·simp only[Xz] at*;exact Qnb
  ·simp only[Xz] at*;exact Qnb
def X0x (b:List UInt8) (a e:Int):Rul×Int×Int:=
 let k:=rkI b a e 7
 let n:=rsS b k.2.1 k.2.2
 let y:=rsS b n.2.1 n.2.2
 let s:=rsS b y.2.1 y.2.2
 let d:=rsS b s.2.1 s.2.2
 let i:=riS b d.2.1 d.2.2
 (⟨k.1,i.1,n.1,y.1,s.1,d.1⟩,i.2.1,i.2.2)
theorem Xe2:riS b a 0=YX b a:=NI (by simp)
theorem Xvz (b:List UInt8) (a e:Int) (hb:b.length<=281474976710656) (ha:e=0->0<=a/\a<=b.length):Con prog 229 [(0,oRd b a e)] [.ptr 0 0] [(0,oRd b (X0x b a e).2.1 (X0x b a e).2.2)] (Yu (X0x b a e).1):=by
 refine ZC1 func229 ntmps229 fun E=> ?_;have hk:=Xet b a e 7 hb ha;unfold X0x;generalize rkI b a e 7=k at*;obtain⟨kd,a1,e1⟩:=k;simp only at hk |-;have h1:=X78 b a1 e1 hb;generalize rsS b a1 e1=u1 at*;obtain⟨s1,a2,e2⟩:=u1;simp only at h1 |-;have h2:=X78 b a2 e2 hb;generalize rsS b a2 e2=u2 at*;obtain⟨s2,a3,e3⟩:=u2;simp only at h2 |-;have h3:=X78 b a3 e3 hb;generalize rsS b a3 e3=u3 at*;obtain⟨s3,a4,e4⟩:=u3;simp only at h3 |-;have h4:=X78 b a4 e4 hb;generalize rsS b a4 e4=u4 at*;obtain⟨s4,a5,e5⟩:=u4;simp only[Yu] at h4 |-;refine U8 ?_;refine Xwd (hg:=JSa) (hx:=JSb) (hT:=JSb) (hd:=JSb) ?_;refine W3_ ?_;refine Xn (ι:=Nat) (fun i=>i<=4) (fun i=>⟨52,[(0,.ptr 0 0),(2,.ptr 100 0),(3,.ptr 101 0),(14,.bsl 102 4),(15,ai 4),(16,ai i)],match i with
   |0=>[(0,oRd b a1 e1),(100,.box [ai 0,ai 0,Xi [],Xi [],Xi [],Xi []]),(101,.box [ai kd,ai 0,Xi [],Xi [],Xi [],Xi []]),(102,.box [.ptr 101 2,.ptr 101 3,.ptr 101 4,.ptr 101 5])]
   |1=>[(0,oRd b a2 e2),(100,.box [ai 0,ai 0,Xi [],Xi [],Xi [],Xi []]),(101,.box [ai kd,ai 0,Xi s1,Xi [],Xi [],Xi []]),(102,.box [.ptr 101 2,.ptr 101 3,.ptr 101 4,.ptr 101 5])]
   |2=>[(0,oRd b a3 e3),(100,.box [ai 0,ai 0,Xi [],Xi [],Xi [],Xi []]),(101,.box [ai kd,ai 0,Xi s1,Xi s2,Xi [],Xi []]),(102,.box [.ptr 101 2,.ptr 101 3,.ptr 101 4,.ptr 101 5])]
   |3=>[(0,oRd b a4 e4),(100,.box [ai 0,ai 0,Xi [],Xi [],Xi [],Xi []]),(101,.box [ai kd,ai 0,Xi s1,Xi s2,Xi s3,Xi []]),(102,.box [.ptr 101 2,.ptr 101 3,.ptr 101 4,.ptr 101 5])]
   |_=>[(0,oRd b a5 e5),(100,.box [ai 0,ai 0,Xi [],Xi [],Xi [],Xi []]),(101,.box [ai kd,ai 0,Xi s1,Xi s2,Xi s3,Xi s4]),(102,.box [.ptr 101 2,.ptr 101 3,.ptr 101 4,.ptr 101 5])]⟩) (fun i=>4-i) 0 (by omega)
  (Xb rfl ⟨JL,JL,JL,JL,JL,JL,TV⟩ ⟨rfl,rfl,rfl,rfl,TV⟩) ?_
 intro i hi
 match i,hi with
 |0,_=>
  refine Qpb ?_;refine Z3 (af:=h1) ?_;refine W7_ ?_;exact⟨1,by omega,by omega,Xb rfl ⟨JL,JL,JL,JL,JL,JL,TV⟩ ⟨rfl,rfl,rfl,rfl,TV⟩⟩
 |1,_=>
  refine Qpb ?_;refine Z3 (af:=h2) ?_;refine W7_ ?_;exact⟨2,by omega,by omega,Xb rfl ⟨JL,JL,JL,JL,JL,JL,TV⟩ ⟨rfl,rfl,rfl,rfl,TV⟩⟩
 |2,_=>
  refine Qpb ?_;refine Z3 (af:=h3) ?_;refine W7_ ?_;exact⟨3,by omega,by omega,Xb rfl ⟨JL,JL,JL,JL,JL,JL,TV⟩ ⟨rfl,rfl,rfl,rfl,TV⟩⟩
 |3,_=>
  refine Qpb ?_;refine Z3 (af:=h4) ?_;refine W7_ ?_;exact⟨4,by omega,by omega,Xb rfl ⟨JL,JL,JL,JL,JL,JL,TV⟩ ⟨rfl,rfl,rfl,rfl,TV⟩⟩
 |4,_=>
  by_cases he:e5=0
  ·subst he;have hi:=XlC b a5 hb;rw[Xe2];generalize YX b a5=u5 at*;obtain⟨n,a6,e6⟩:=u5;refine Qla ?_;exact Qqb
  ·rw[Xgm he];refine UU ?_;exact Qqb
def roS (b:List UInt8) (a e:Int):Bool×Int×Int:=
 if e≠0 then (false,a,e) else if (b.length:Int)<=a then (false,a,3) else
  if 1<((b[a.toNat]?).getD 0).toNat then (false,a,2) else (decide ((((b[a.toNat]?).getD 0).toNat:Int)=1),a+1,0)
theorem Xtg (b:List UInt8) (a e:Int) (hb:b.length<=281474976710656) (ha:e=0->0<=a/\a<=b.length):Con prog 234 [(0,oRd b a e)] [.ptr 0 0] [(0,oRd b (roS b a e).2.1 (roS b a e).2.2)] (ab (roS b a e).1):=by
 refine ZC1 func234 ntmps234 fun E=> ?_;have hlm:(b.map X5).length=b.length:=by simp
 unfold roS;by_cases he:e=0
 case neg=>
  rw[PI he];exact QRa
 subst he;obtain⟨m,rfl⟩:∃m:Nat,a=m:=⟨a.toNat,by have:=ha rfl;omega⟩
 rw[NI (by simp),Int.toNat_natCast];by_cases h1:(b.length:Int)<=m
 ·rw[PI h1];have dD:((b.map X5).length:Int)<=m:=by omega
  exact QSa
 rw[NI h1];have dD:¬((b.map X5).length:Int)<=m:=by omega
 obtain⟨c,hc⟩:=Xu (l:=b) (k:=m) (by omega);have bw:(b.map X5)[m]? =some (X5 c):=XM hc;rw[hc,Option.getD_some];by_cases h2:1<c.toNat
 ·rw[PI h2];refine Qya ?_;exact Qb
 rw[NI h2];refine X7 ?_;refine YY ?_
 (refine Z1 (op:= .sub) (r':=nj m) (u:= .int .i64 ((m:Int)+1)) (v:= .int .i64 1) ?_ (hr':=by exact CG (Value.int .i64) (show((m:Int)+1-1)=(m:Int) by omega)) (hr:=by exact X71 (by unfold X2i;omega)))
 refine W5_ ?_;exact Qb
end Go.Fw
