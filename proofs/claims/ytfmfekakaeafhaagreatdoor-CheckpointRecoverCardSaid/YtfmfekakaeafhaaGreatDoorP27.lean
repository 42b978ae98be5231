/- The order of rules, valid schemas; the program's and the reference's. -/
import Derived.Test.YtfmfekakaeafhaaGreatDoorP22
import Derived.Test.YtfmfekakaeafhaaGreatDoorP24
set_option linter.all false
set_option maxHeartbeats 16000000
namespace Go.Fw
open Go Go.Proofs Tryz List
open List renaming length->J
set_option maxRecDepth 100000
def Xat (s t:List UInt8):Con prog 176 [] [.d (.v (.string (X7 s))),.d (.v (.string (X7 t)))] [] (ai (Ul s t)):=by
 refine ZC1 func176 ntmps176 fun E=> ?_;have n1:=Xb2 s;have n2:=Xb2 t;unfold Ul;cases h1:Op.bytesLess s t with
 |true=>
  rw[PI rfl];refine UR ?_;exact QHc
 |false=>
  rw[NI Oc];by_cases h2:s=t
  ·rw[PI h2];have h3:(!(Op.bytesLess s t||decide (s=t)))=false:=by simp[h2]
   refine UR ?_;refine QIc ?_;exact QNa
  ·rw[NI h2];have h3:(!(Op.bytesLess s t||decide (s=t)))=true:=by simp[h1,h2]
   refine UR ?_;refine QIc ?_;exact Qdb
def XcW (s t:List UInt8):Con prog 190 [] [.d (.v (.string (X7 s))),.d (.v (.string (X7 t)))] [] (ai (Ul s t)):=by
 refine ZC1 func190 ntmps190 fun E=> ?_;unfold Ul;cases h1:Op.bytesLess s t with
 |true=>
  rw[PI rfl];refine W9_ ?_;exact QHc
 |false=>
  exact Yt31
theorem Xq7 (a b:Rul):V3 a b=orI [YD a.kind b.kind,Ul a.name b.name,Ul a.key b.key,YD a.n b.n,Ul a.src b.src,Ul a.dst b.dst]:=by
 unfold V3 YD;simp only[orI]
 repeat' split
 all_goals first|rfl|omega|simp_all
def Xeg (a b:Rul):Con prog 107 [] [Yu a,Yu b] [] (ai (V3 a b)):=by
 refine ZC1 func107 ntmps107 fun E=> ?_;have c1:=X6K a.kind b.kind;have c2:=Xat a.name b.name;have c3:=Xat a.key b.key;have c4:=X6K a.n b.n;have c5:=Xat a.src b.src;have c6:=Xat a.dst b.dst;have co:=Xm3 [YD a.kind b.kind,Ul a.name b.name,Ul a.key b.key,YD a.n b.n,Ul a.src b.src,Ul a.dst b.dst] Oc;rw[<-Xq7] at co;simp only[map_cons,map_nil] at co;generalize V3 a b=o at*;generalize YD a.kind b.kind=r1 at*;generalize Ul a.name b.name=r2 at*;generalize Ul a.key b.key=r3 at*;generalize YD a.n b.n=r4 at*;generalize Ul a.src b.src=r5 at*;generalize Ul a.dst b.dst=r6 at*;obtain⟨k,n,name,key,src,dst⟩:=a;obtain⟨k',n',name',key',src',dst'⟩:=b;simp only[Yu] at*;refine QW ?_;exact Zr0
def Xbn (a b:Rul):Con prog 117 [] [Yu a,Yu b] [] (ai (V3 a b)):=by
 refine ZC1 func117 ntmps117 fun E=> ?_;have c2:=XcW a.name b.name;have c3:=XcW a.key b.key;have c5:=XcW a.src b.src;have c6:=XcW a.dst b.dst;unfold V3;generalize Ul a.name b.name=r2 at*;generalize Ul a.key b.key=r3 at*;generalize Ul a.src b.src=r5 at*;generalize Ul a.dst b.dst=r6 at*;obtain⟨k,n,name,key,src,dst⟩:=a;obtain⟨k',n',name',key',src',dst'⟩:=b;simp only[Yu] at*;by_cases h1:k<k'
 ·rw[PI h1];have bY:k≠k':=by omega
  exact Qg
 rw[NI h1];by_cases h2:k'<k
 ·rw[PI h2];have dr:k≠k':=by omega
  exact QIa
 rw[NI h2];obtain rfl:k=k':=Oa
 by_cases h3:r2≠0
 ·rw[PI h3];refine X1B ?_;exact Zr0
 rw[NI h3];obtain rfl:r2=0:=Oa
 by_cases h4:r3≠0
 ·rw[PI h4];exact QGa
 rw[NI h4];obtain rfl:r3=0:=Oa
 by_cases h5:n<n'
 ·rw[PI h5];have vw:n≠n':=by omega
  refine X4 ?_;refine UR ?_;exact Zr0
 rw[NI h5];by_cases h6:n'<n
 ·rw[PI h6];have vz:n≠n':=by omega
  refine X4 ?_;refine X04 ?_;exact Zr0
 rw[NI h6];obtain rfl:n=n':=Oa
 by_cases h7:r5≠0
 ·rw[PI h7];refine QYa ?_;exact QEa
 rw[NI h7];obtain rfl:r5=0:=Oa
 refine QYa ?_;exact QE
def Xh (r:Rul):List D:=[.v (.int .i64 r.kind),.v (.int .i64 r.n),.v (.string (X7 r.name)),.v (.string (X7 r.key)),.v (.string (X7 r.src)),.v (.string (X7 r.dst))]
variable{i:Nat}{s t:List UInt8}
def Xmg {l:List Rul}{r:Rul} (h:l[i]? =some r):X2V (Ve l i) (l.drop i)=(decide (Uu r=0/\∀q,Ve l i=some q->V3 q r<0)&&X2V (Ve l (i+1)) (l.drop (i+1))):=by
 obtain⟨hi,h⟩:=GS.1 h;rw[drop_eq_getElem_cons hi,h,X2V,X5T,getElem?_eq_getElem hi,h]
def Xh8 (l:List Rul) (hl:J l<=9223372036854775807):Con prog 62 [] [.d (.sl 6 (l.map Xh))] [] (ab (X1F l)):=by
 refine ZC1 func62 ntmps62 fun E=> ?_;have hlm:J (l.map Xh)=J l:=Oc
 unfold X1F;generalize hG:X2V none l=G;refine XG ?_
 refine Xl (fun i:Nat=>i<=J l/\X2V (Ve l i) (l.drop i)=G) (fun i=>⟨33,[(0,.d (.sl 6 (l.map Xh))),(5,.d (.sl 6 (l.map Xh))),(6,ai (J (l.map Xh))),(7,ai i)],[]⟩) (fun i=>J l-i) 0 ⟨Nat.zero_le _,by simpa [Ve] using hG⟩
  (ZL0) ?_
 rintro i ⟨hi,hg⟩;by_cases hil:i<J l
 case neg=>
  obtain rfl:i=J l:=Oa
  have hn:¬((J l:Nat):Int)<J (l.map Xh):=Oa
  rw[drop_length,X2V] at hg;subst hg;rw[Bool.true_and,<-hlm,show decide (J (l.map Xh)<=40)=decide ((J (l.map Xh):Int)<=40) from decide_eq_decide.2 Oa];exact Qh
 have hn:(i:Int)<J (l.map Xh):=Oa
 obtain⟨x,hx⟩:=Xn (l:=l) hil;have au:(l.map Xh)[i]? =some (Xh x):=XC hx;have hc:=X8i x;rw[Xmg hx] at hg;by_cases he:Uu x=0
 case neg=>
  rw[DF (fun h=>he h.1),Bool.false_and] at hg;subst hg;rw[Bool.false_and];generalize Uu x=e at*;obtain⟨k,n,name,key,src,dst⟩:=x;simp only[Yu,Xh] at hc au;refine YT ?_;refine Qva ?_;exact QE
 by_cases h0:i=0
 ·subst h0;rw[DT ⟨he,fun q h=>by simp[Ve] at h⟩,Bool.true_and] at hg;rw[he] at hc;obtain⟨k,n,name,key,src,dst⟩:=x;simp only[Yu,Xh] at hc au;refine Qka ?_;exact Qkc
 obtain⟨j,rfl⟩:∃j,i=j+1:=⟨i-1,Oa⟩
 obtain⟨p,hp⟩:=Xn (l:=l) (k:=j) Oa;have cW:(l.map Xh)[j]? =some (Xh p):=XC hp;have ho:=Xeg p x;rw[he] at hc;by_cases hlt:V3 p x<0
 ·rw[DT ⟨he,fun q h=>IB⟩,Bool.true_and] at hg;generalize V3 p x=o at*;obtain⟨k,n,name,key,src,dst⟩:=x;obtain⟨k',n',name',key',src',dst'⟩:=p;simp only[Yu,Xh] at hc au ho cW;refine Qlc ?_;refine XD ?_;exact Qmc
 ·rw[DF (fun h=>hlt (h.2 p (by rw[X5T,hp]))),Bool.false_and] at hg;subst hg;rw[Bool.false_and];have hge:V3 p x≥0:=by omega
  generalize V3 p x=o at*;obtain⟨k,n,name,key,src,dst⟩:=x;obtain⟨k',n',name',key',src',dst'⟩:=p;simp only[Yu,Xh] at hc au ho cW;refine Qlc ?_;exact Qe
def Xes (l:List Rul) (hl:J l<=9223372036854775807):Con prog 66 [] [.d (.sl 6 (l.map Xh))] [] (ab (X1F l)):=by
 refine ZC1 func66 ntmps66 fun E=> ?_;have hlm:J (l.map Xh)=J l:=Oc
 unfold X1F;by_cases vA:40<J l
 ·rw[DF (by omega:¬J l<=40),Bool.and_false];have rB:(40:Int)<J (l.map Xh):=by omega
  refine Yr ?_;exact Zr0
 have rB:¬(40:Int)<J (l.map Xh):=Oa
 rw[DT (by omega:J l<=40),Bool.and_true];generalize hG:X2V none l=G;refine YS ?_
 refine Xl (fun i:Nat=>i<=J l/\X2V (Ve l i) (l.drop i)=G) (fun i=>⟨36,[(0,.d (.sl 6 (l.map Xh))),(3,ai i)],[]⟩) (fun i=>J l-i) 0 ⟨Nat.zero_le _,by simpa [Ve] using hG⟩
  (ZL0) ?_
 rintro i ⟨hi,hg⟩;by_cases hil:i<J l
 case neg=>
  obtain rfl:i=J l:=Oa
  have hn:¬((J l:Nat):Int)<J (l.map Xh):=Oa
  rw[drop_length,X2V] at hg;subst hg;exact Qh
 have hn:(i:Int)<J (l.map Xh):=Oa
 obtain⟨x,hx⟩:=Xn (l:=l) hil;have au:(l.map Xh)[i]? =some (Xh x):=XC hx;have hc:=X8p x;rw[Xmg hx] at hg;by_cases he:Uu x=0
 case neg=>
  rw[DF (fun h=>he h.1),Bool.false_and] at hg;subst hg;generalize Uu x=e at*;obtain⟨k,n,name,key,src,dst⟩:=x;simp only[Yu,Xh] at hc au;refine YA ?_;refine Qva ?_;refine QF ?_;exact QE
 by_cases h0:i=0
 ·subst h0;rw[DT ⟨he,fun q h=>by simp[Ve] at h⟩,Bool.true_and] at hg;rw[he] at hc;obtain⟨k,n,name,key,src,dst⟩:=x;simp only[Yu,Xh] at hc au;refine Qia ?_;exact Qkc
 obtain⟨j,rfl⟩:∃j,i=j+1:=⟨i-1,Oa⟩
 obtain⟨p,hp⟩:=Xn (l:=l) (k:=j) Oa;have cW:(l.map Xh)[j]? =some (Xh p):=XC hp;have ho:=Xbn p x;rw[he] at hc;by_cases hlt:V3 p x<0
 ·rw[DT ⟨he,fun q h=>IB⟩,Bool.true_and] at hg;generalize V3 p x=o at*;obtain⟨k,n,name,key,src,dst⟩:=x;obtain⟨k',n',name',key',src',dst'⟩:=p;simp only[Yu,Xh] at hc au ho cW;refine QFc ?_;refine Yh ?_;exact Qmc
 ·rw[DF (fun h=>hlt (h.2 p (by rw[X5T,hp]))),Bool.false_and] at hg;subst hg;have hge:V3 p x≥0:=by omega
  generalize V3 p x=o at*;obtain⟨k,n,name,key,src,dst⟩:=x;obtain⟨k',n',name',key',src',dst'⟩:=p;simp only[Yu,Xh] at hc au ho cW;refine QFc ?_;refine Yr ?_;exact Zr0
abbrev RN:=Int×D×D
def cRN (x:RN):List D:=[.v (.int .i64 x.1),x.2.1,x.2.2]
abbrev kRN (x:RN):Int:=x.1
abbrev RE:=Int×Int×Int×List UInt8×D
def cRE (x:RE):List D:=[.v (.int .i64 x.1),.v (.int .i64 x.2.1),.v (.int .i64 x.2.2.1),.v (.string (X7 x.2.2.2.1)),x.2.2.2.2]
abbrev kRE (x:RE):Int:=x.1
def Xa6 {α κ:Type}{lt:κ->κ->Bool}{key:α->κ}{l:List α}{n:κ} (h:i<=J l) (h1:∀k x,k<i->l[k]? =some x->lt (key x) n=true) (h2:∀x,l[i]? =some x->lt (key x) n=false):Xr lt key l n=i:=
 Xbg h (fun k x hk hx=>h1 k x hk hx) (fun x hx=>h2 x hx)
def Xx2 (h:Op.bytesLess s t=true):Ul s t= -1:=PI h
def Xvf (h:¬Op.bytesLess s t=true):¬Ul s t<0:=by
 unfold Ul;rw[NI h];split<;>decide
theorem Xq2:decide (Ul s t=0)=decide (s=t):=by
 unfold Ul;by_cases h:Op.bytesLess s t=true
 ·rw[PI h,DF Oi,DF (fun e=>by rw[e,XaR] at h;cases h)]
 ·rw[NI h];by_cases h':s=t
  ·rw[PI h',DT rfl,DT h']
  ·rw[NI h',DF Oi,DF h']
def Xmm {α κ:Type}{lt:κ->κ->Bool}{key:α->κ}{l:List α} (hr:YP lt key l) {i j:Nat}{x y:α} (hx:l[i]? =some x) (hy:l[j]? =some y) (h:i<j):lt (key x) (key y)=true:=by
 have hi:=(GS.1 hx)
 have hj:=(GS.1 hy)
 obtain⟨hi,rfl⟩:=hi;obtain⟨hj,rfl⟩:=hj;exact(pairwise_iff_getElem.1 hr) i j hi hj h
section
variable {α κ:Type}{lt:κ->κ->Bool}{key:α->κ}{l:List α}{n:κ}
def Sr (lt:κ->κ->Bool) (key:α->κ) (l:List α) (n:κ) (q:Nat×Nat):Prop:=
 q.1<=q.2/\q.2<=J l/\(∀(k:Nat) x,k<q.1->l[k]? =some x->lt (key x) n=true)/\(∀(k:Nat) x,q.2<=k->l[k]? =some x->lt (key x) n=false)
def X9n:Sr lt key l n (0,J l):=
 ⟨Nat.zero_le _,Nat.le_refl _,fun k x h=>absurd h (Nat.not_lt_zero _),fun k x h hx=>absurd (GS.1 hx).1 (Nat.not_lt.2 h)⟩
def X96 [DecidableEq κ] {i:Nat} (h:¬i<J l):decide (∃y,l[i]? =some y/\key y=n)=false:=by
 refine DF ?_;rintro⟨y,hy,_⟩;exact h (GS.1 hy).1
def X9C (tr:∀a b c,lt a b=true->lt b c=true->lt a c=true) (hr:YP lt key l) {i j:Nat} (h:Sr lt key l n (i,j)) (hij:i<j) {x:α} (hx:l[(i+j)/2]? =some x) (hlt:lt (key x) n=true):Sr lt key l n ((i+j)/2+1,j):=by
 refine⟨Od,h.2.1,fun k y hk hy=> ?_,h.2.2.2⟩;by_cases e:k=(i+j)/2
 ·subst e;rw[hx] at hy;injection hy with hy;subst hy;exact hlt
 ·exact tr _ _ _ (Xmm hr hy hx (by simp only at hk;omega)) hlt
def XaP (tr:∀a b c,lt a b=true->lt b c=true->lt a c=true) (hr:YP lt key l) {i j:Nat} (h:Sr lt key l n (i,j)) (hij:i<j) {x:α} (hx:l[(i+j)/2]? =some x) (hlt:¬lt (key x) n=true):Sr lt key l n (i,(i+j)/2):=by
 have h2:j<=J l:=h.2.1;refine⟨Od,Od,h.2.2.1,fun k y hk hy=> ?_⟩;by_cases e:k=(i+j)/2
 ·subst e;rw[hx] at hy;injection hy with hy;subst hy;simpa using hlt
 ·have h5:=Xmm hr hx hy (by simp only at hk;omega);by_cases q:lt (key y) n=true
  ·exact absurd (tr _ _ _ h5 q) hlt
  ·simpa using q
end
def XkN (x:RN) (n:Int):Con prog 326 [] [.agg [ai x.1,.d x.2.1,.d x.2.2],ai n] [] (ai (YD x.1 n)):=by
 refine ZC1 func326 ntmps326 fun E=> ?_;have hc:=X6K x.1 n;generalize YD x.1 n=q at*;obtain⟨id,p,q'⟩:=x;exact Qe
def Xuq (l:List RN) (n:Int) (hl:J l<=4294967296) (hr:YP ltI kRN l):Con prog 169 [] [.d (.sl 3 (l.map cRN)),ai n,.fn 326 []] [] (.tup [ai (Xr ltI kRN l n),ab (XF kRN l n)]):=by
 refine ZCt func169 ntmps169 fun E=> ?_;have hlm:J (l.map cRN)=J l:=Oc
 refine YS ?_
 refine Xl (ι:=Nat×Nat) (Sr ltI kRN l n) (fun q=>⟨49,[(0,.d (.sl 3 (l.map cRN))),(1,ai n),(2,.fn 326 []),(8,ai (J (l.map cRN))),(9,ai q.1),(10,ai q.2)],[]⟩) (fun q=>q.2-q.1) (0,J l)
  X9n
  (X9 rfl ⟨JL,JL,JL,JL,JL,ZzQ Ib,TV⟩ trivial) ?_
 rintro⟨i,j⟩ hS;have h1:i<=j:=hS.1;have h2:j<=J l:=hS.2.1;by_cases hij:i<j
 case neg=>
  obtain rfl:i=j:=Oa
  have aS:=Xa6 h2 hS.2.2.1 (fun x hx=>hS.2.2.2 i x (Nat.le_refl _) hx);have bG:=X1f (k:=n) Vp hr;rw[aS] at bG;rw[aS,bG];have eO:¬(i:Int)<(i:Nat):=Oa
  by_cases hil:i<J l
  ·have eU:(i:Int)<J (l.map cRN):=by omega
   obtain⟨x,hx⟩:=Xn (l:=l) hil;have au:(l.map cRN)[i]? =some (cRN x):=XC hx;have hc:=XkN x n;have hd:decide (∃y,l[i]? =some y/\kRN y=n)=decide (YD (kRN x) n=0):=by rw[Xgi,hx];simp
   rw[hd];generalize YD (kRN x) n=c at*;clear bG aS hd hx hS hr;obtain⟨id,p,q'⟩:=x;simp only[cRN,kRN] at hc au;refine Qhc ?_
   first|exact X3 ⟨_,ZzS,⟨rfl,rfl,TV⟩,X5 _⟩|exact X3 ⟨_,ZzS,⟨⟨rfl,rfl,TV⟩,TV⟩,X5 _⟩
  ·have eU:¬(i:Int)<J (l.map cRN):=by omega
   exact Yt15
 have eO:(i:Int)<(j:Nat):=Oa
 obtain⟨x,hx⟩:=Xn (l:=l) (k:=(i+j)/2) Oa;have au:(l.map cRN)[(i+j)/2]? =some (cRN x):=XC hx;have hc:=XkN x n;have e2:n64 ((i+j)/2^1)=n64 ((i+j)/2):=rfl;by_cases hlt:ltI (kRN x) n=true
 ·have hinv:=X9C Vp.tr hr hS hij hx hlt;rw[Xht I7] at hc;clear hlt hr hS hx;obtain⟨id,p,q'⟩:=x;simp only[cRN,kRN] at hc au;refine Qic ?_;(refine Z1 (u:=ni (i+j)) (r:=n64 (i+j)) ?_ (hr:=Om));refine Qjc ?_;(refine Z1 (u:=n64 ((i+j)/2)) (r:=ni ((i+j)/2)) ?_ (hr:=Ok));exact QJc
 ·have hinv:=XaP Vp.tr hr hS hij hx hlt;have hge:=XdU (x:=kRN x) (y:=n) I7;clear hlt hr hS hx;generalize YD (kRN x) n=c at*;obtain⟨id,p,q'⟩:=x;simp only[cRN,kRN] at hc au;refine Qic ?_;(refine Z1 (u:=ni (i+j)) (r:=n64 (i+j)) ?_ (hr:=Om));refine Qjc ?_;(refine Z1 (u:=n64 ((i+j)/2)) (r:=ni ((i+j)/2)) ?_ (hr:=Ok));exact QKc
def Xkz (x:RE) (n:Int):Con prog 338 [] [.agg [ai x.1,ai x.2.1,ai x.2.2.1,.d (.v (.string (X7 x.2.2.2.1))),.d x.2.2.2.2],ai n] [] (ai (YD x.1 n)):=by
 refine ZC1 func338 ntmps338 fun E=> ?_;have hc:=X6K x.1 n;generalize YD x.1 n=q at*;obtain⟨id,s,t,ty,p⟩:=x;exact Qe
def XpD (l:List RE) (n:Int) (hl:J l<=4294967296) (hr:YP ltI kRE l):Con prog 337 [] [.d (.sl 5 (l.map cRE)),ai n,.fn 338 []] [] (.tup [ai (Xr ltI kRE l n),ab (XF kRE l n)]):=by
 refine ZCt func337 ntmps337 fun E=> ?_;have hlm:J (l.map cRE)=J l:=Oc
 refine YS ?_
 refine Xl (ι:=Nat×Nat) (Sr ltI kRE l n) (fun q=>⟨49,[(0,.d (.sl 5 (l.map cRE))),(1,ai n),(2,.fn 338 []),(8,ai (J (l.map cRE))),(9,ai q.1),(10,ai q.2)],[]⟩) (fun q=>q.2-q.1) (0,J l)
  X9n
  (X9 rfl ⟨JL,JL,JL,JL,JL,ZzQ Ib,TV⟩ trivial) ?_
 rintro⟨i,j⟩ hS;have h1:i<=j:=hS.1;have h2:j<=J l:=hS.2.1;by_cases hij:i<j
 case neg=>
  obtain rfl:i=j:=Oa
  have aS:=Xa6 h2 hS.2.2.1 (fun x hx=>hS.2.2.2 i x (Nat.le_refl _) hx);have bG:=X1f (k:=n) Vp hr;rw[aS] at bG;rw[aS,bG];have eO:¬(i:Int)<(i:Nat):=Oa
  by_cases hil:i<J l
  ·have eU:(i:Int)<J (l.map cRE):=by omega
   obtain⟨x,hx⟩:=Xn (l:=l) hil;have au:(l.map cRE)[i]? =some (cRE x):=XC hx;have hc:=Xkz x n;have hd:decide (∃y,l[i]? =some y/\kRE y=n)=decide (YD (kRE x) n=0):=by rw[Xgi,hx];simp
   rw[hd];generalize YD (kRE x) n=c at*;clear bG aS hd hx hS hr;obtain⟨id,s,t,ty,p⟩:=x;simp only[cRE,kRE] at hc au;refine Qhc ?_
   first|exact X3 ⟨_,ZzS,⟨rfl,rfl,TV⟩,X5 _⟩|exact X3 ⟨_,ZzS,⟨⟨rfl,rfl,TV⟩,TV⟩,X5 _⟩
  ·have eU:¬(i:Int)<J (l.map cRE):=by omega
   exact Yt15
 have eO:(i:Int)<(j:Nat):=Oa
 obtain⟨x,hx⟩:=Xn (l:=l) (k:=(i+j)/2) Oa;have au:(l.map cRE)[(i+j)/2]? =some (cRE x):=XC hx;have hc:=Xkz x n;have e2:n64 ((i+j)/2^1)=n64 ((i+j)/2):=rfl;by_cases hlt:ltI (kRE x) n=true
 ·have hinv:=X9C Vp.tr hr hS hij hx hlt;rw[Xht I7] at hc;clear hlt hr hS hx;obtain⟨id,s,t,ty,p⟩:=x;simp only[cRE,kRE] at hc au;refine Qic ?_;(refine Z1 (u:=ni (i+j)) (r:=n64 (i+j)) ?_ (hr:=Om));refine Qjc ?_;(refine Z1 (u:=n64 ((i+j)/2)) (r:=ni ((i+j)/2)) ?_ (hr:=Ok));exact QJc
 ·have hinv:=XaP Vp.tr hr hS hij hx hlt;have hge:=XdU (x:=kRE x) (y:=n) I7;clear hlt hr hS hx;generalize YD (kRE x) n=c at*;obtain⟨id,s,t,ty,p⟩:=x;simp only[cRE,kRE] at hc au;refine Qic ?_;(refine Z1 (u:=ni (i+j)) (r:=n64 (i+j)) ?_ (hr:=Om));refine Qjc ?_;(refine Z1 (u:=n64 ((i+j)/2)) (r:=ni ((i+j)/2)) ?_ (hr:=Ok));exact QKc
def Xpf (x:Prp) (n:List UInt8):Con prog 334 [] [.agg ((Xb x).map .d),.d (.v (.string (X7 n)))] [] (ai (Ul x.key n)):=by
 refine ZC1 func334 ntmps334 fun E=> ?_;have hc:=Xat x.key n;generalize Ul x.key n=q at*;obtain⟨key,⟨k0,k1,k2,k3,k4⟩⟩:=x;simp only[Xb,UB,map_cons,map_nil] at*;exact Qe
def Xld (l:List Prp) (n:List UInt8) (hl:J l<=4294967296) (hr:YP aC Prp.key l):Con prog 333 [] [.d (.sl 6 (l.map Xb)),.d (.v (.string (X7 n))),.fn 334 []] [] (.tup [ai (Xr aC Prp.key l n),ab (XF Prp.key l n)]):=by
 refine ZCt func333 ntmps333 fun E=> ?_;have hlm:J (l.map Xb)=J l:=Oc
 refine YS ?_
 refine Xl (ι:=Nat×Nat) (Sr aC Prp.key l n) (fun q=>⟨49,[(0,.d (.sl 6 (l.map Xb))),(1,.d (.v (.string (X7 n)))),(2,.fn 334 []),(8,ai (J (l.map Xb))),(9,ai q.1),(10,ai q.2)],[]⟩) (fun q=>q.2-q.1) (0,J l)
  X9n
  (X9 rfl ⟨JL,JL,JL,JL,JL,ZzQ Ib,TV⟩ trivial) ?_
 rintro⟨i,j⟩ hS;have h1:i<=j:=hS.1;have h2:j<=J l:=hS.2.1;by_cases hij:i<j
 case neg=>
  obtain rfl:i=j:=Oa
  have aS:=Xa6 h2 hS.2.2.1 (fun x hx=>hS.2.2.2 i x (Nat.le_refl _) hx);have bG:=X1f (k:=n) X2a hr;rw[aS] at bG;rw[aS,bG];have eO:¬(i:Int)<(i:Nat):=Oa
  by_cases hil:i<J l
  ·have eU:(i:Int)<J (l.map Xb):=by omega
   obtain⟨x,hx⟩:=Xn (l:=l) hil;have au:(l.map Xb)[i]? =some (Xb x):=XC hx;have hc:=Xpf x n;have hd:decide (∃y,l[i]? =some y/\Prp.key y=n)=decide (Ul (Prp.key x) n=0):=by rw[Xq2,hx];simp
   rw[hd];generalize Ul (Prp.key x) n=c at*;clear bG aS hd hx hS hr;obtain⟨key,⟨k0,k1,k2,k3,k4⟩⟩:=x;simp only[Xb,UB,map_cons,map_nil] at hc au;refine Qhc ?_
   first|exact X3 ⟨_,ZzS,⟨rfl,rfl,TV⟩,X5 _⟩|exact X3 ⟨_,ZzS,⟨⟨rfl,rfl,TV⟩,TV⟩,X5 _⟩
  ·have eU:¬(i:Int)<J (l.map Xb):=by omega
   exact Yt15
 have eO:(i:Int)<(j:Nat):=Oa
 obtain⟨x,hx⟩:=Xn (l:=l) (k:=(i+j)/2) Oa;have au:(l.map Xb)[(i+j)/2]? =some (Xb x):=XC hx;have hc:=Xpf x n;have e2:n64 ((i+j)/2^1)=n64 ((i+j)/2):=rfl;by_cases hlt:aC (Prp.key x) n=true
 ·have hinv:=X9C X2a.tr hr hS hij hx hlt;rw[Xx2 hlt] at hc;clear hlt hr hS hx;obtain⟨key,⟨k0,k1,k2,k3,k4⟩⟩:=x;simp only[Xb,UB,map_cons,map_nil] at hc au;refine Qic ?_;(refine Z1 (u:=ni (i+j)) (r:=n64 (i+j)) ?_ (hr:=Om));refine Qjc ?_;(refine Z1 (u:=n64 ((i+j)/2)) (r:=ni ((i+j)/2)) ?_ (hr:=Ok));exact QJc
 ·have hinv:=XaP X2a.tr hr hS hij hx hlt;have hge:=Xvf hlt;clear hlt hr hS hx;generalize Ul (Prp.key x) n=c at*;obtain⟨key,⟨k0,k1,k2,k3,k4⟩⟩:=x;simp only[Xb,UB,map_cons,map_nil] at hc au;refine Qic ?_;(refine Z1 (u:=ni (i+j)) (r:=n64 (i+j)) ?_ (hr:=Om));refine Qjc ?_;(refine Z1 (u:=n64 ((i+j)/2)) (r:=ni ((i+j)/2)) ?_ (hr:=Ok));exact QKc
def Xrc (s t:List UInt8):Con prog 329 [] [.d (.v (.string (X7 s))),.d (.v (.string (X7 t)))] [] (ab (Op.bytesLess s t)):=by
 refine ZC1 func329 ntmps329 fun E=> ?_;have h1:=Xb2 s;have h2:=Xb2 t;refine W7_ ?_;refine Z5 (ag:=h1) ?_;refine W8_ ?_;refine QGc ?_;exact QEa
def XpN (s:List UInt8):Con prog 330 [] [.d (.v (.string (X7 s)))] [] (ab false):=by
 refine ZC1 func330 ntmps330 fun E=> ?_;refine XB ?_
 (exact Zz1 rfl ⟨_,Xe 2 (ZzQ (by show ab _=ab _;simp)),⟨rfl,TV⟩,X5 _⟩)
def X9H (l:List (List UInt8)) (n:List UInt8) (hl:J l<=4294967296) (hr:YP aC Yp l):Con prog 285 [] [.d (.sl 1 (l.map Xf)),.d (.v (.string (X7 n)))] [] (.tup [ai (Xr aC Yp l n),ab (XF Yp l n)]):=by
 refine ZCt func285 ntmps285 fun E=> ?_;have hlm:J (l.map Xf)=J l:=Oc
 refine YS ?_
 refine Xl (ι:=Nat×Nat) (Sr aC Yp l n) (fun q=>⟨54,[(0,.d (.sl 1 (l.map Xf))),(1,.d (.v (.string (X7 n)))),(6,ai (J (l.map Xf))),(7,ai q.1),(8,ai q.2)],[]⟩) (fun q=>q.2-q.1) (0,J l)
  X9n
  (X9 rfl ⟨JL,JL,JL,JL,ZzQ Ib,TV⟩ trivial) ?_
 rintro⟨i,j⟩ hS;have h1:i<=j:=hS.1;have h2:j<=J l:=hS.2.1;by_cases hij:i<j
 case neg=>
  obtain rfl:i=j:=Oa
  have aS:=Xa6 (key:=Yp) h2 hS.2.2.1 (fun x hx=>hS.2.2.2 i x (Nat.le_refl _) hx);have bG:=X1f (k:=n) X2a hr;rw[aS] at bG;rw[aS,bG];have eO:¬(i:Int)<(i:Nat):=Oa
  by_cases hil:i<J l
  ·have eU:(i:Int)<J (l.map Xf):=by omega
   obtain⟨x,hx⟩:=Xn (l:=l) hil;have au:(l.map Xf)[i]? =some [.v (.string (X7 x))]:=XC hx;have fq:=XpN x;by_cases nI:x=n
   ·have hd:decide (∃y,l[i]? =some y/\Yp y=n)=true:=DT ⟨x,hx,nI⟩;rw[hd];clear bG aS hd hx hS hr;subst nI;refine YG ?_;refine Qt ?_;refine W6_ ?_
    first|exact X3 ⟨_,ZzS,⟨rfl,rfl,TV⟩,X5 _⟩|exact X3 ⟨_,ZzS,⟨⟨rfl,rfl,TV⟩,TV⟩,X5 _⟩
   ·have hd:decide (∃y,l[i]? =some y/\Yp y=n)=false:=DF (by rintro⟨y,hy,e⟩;rw[hx] at hy;cases hy;exact nI e);rw[hd];clear bG aS hd hx hS hr;refine X17 ?_
    first|exact X3 ⟨_,ZzS,⟨rfl,rfl,TV⟩,X5 _⟩|exact X3 ⟨_,ZzS,⟨⟨rfl,rfl,TV⟩,TV⟩,X5 _⟩
  ·have eU:¬(i:Int)<J (l.map Xf):=by omega
   rw[X96 hil];clear bG aS hS hr;refine Us ?_;refine Qva ?_;refine Qs ?_;refine W5_ ?_
   first|exact X3 ⟨_,ZzS,⟨rfl,rfl,TV⟩,X5 _⟩|exact X3 ⟨_,ZzS,⟨⟨rfl,rfl,TV⟩,TV⟩,X5 _⟩
 have eO:(i:Int)<(j:Nat):=Oa
 obtain⟨x,hx⟩:=Xn (l:=l) (k:=(i+j)/2) Oa;have au:(l.map Xf)[(i+j)/2]? =some [.v (.string (X7 x))]:=XC hx;have hc:=Xrc x n;have e2:n64 ((i+j)/2^1)=n64 ((i+j)/2):=rfl;by_cases hlt:aC x n=true
 ·have hinv:=X9C X2a.tr hr hS hij hx hlt;rw[show Op.bytesLess x n=true from hlt] at hc;clear hlt hr hS hx;refine Qic ?_;(refine Z1 (u:=ni (i+j)) (r:=n64 (i+j)) ?_ (hr:=Om));refine Qjc ?_;(refine Z1 (u:=n64 ((i+j)/2)) (r:=ni ((i+j)/2)) ?_ (hr:=Ok));refine Yb ?_;exact⟨((i+j)/2+1,j),hinv,Od,ZL0⟩
 ·have hinv:=XaP X2a.tr hr hS hij hx hlt;rw[show Op.bytesLess x n=false by simpa using hlt] at hc;clear hlt hr hS hx;refine Qic ?_;(refine Z1 (u:=ni (i+j)) (r:=n64 (i+j)) ?_ (hr:=Om));refine Qjc ?_;(refine Z1 (u:=n64 ((i+j)/2)) (r:=ni ((i+j)/2)) ?_ (hr:=Ok));refine Yr ?_;exact⟨(i,(i+j)/2),hinv,Od,ZL0⟩
end Go.Fw
