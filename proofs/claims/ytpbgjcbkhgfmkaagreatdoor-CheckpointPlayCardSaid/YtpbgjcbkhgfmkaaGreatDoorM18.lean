/- Strings that rise, names of a list; the program's and the reference's. -/
import Derived.Test.YtpbgjcbkhgfmkaaGreatDoorM17
set_option maxHeartbeats 16000000
namespace Go.Fw
open Go Go.Proofs Tryz List
set_option maxRecDepth 100000
set_option linter.unusedVariables false
set_option linter.unusedSimpArgs false
variable{i:Nat}{l ls:List (List UInt8)}{ps:List Prp}{s x:List UInt8}
theorem XiQ {a b:List UInt8} (ha:l[i]? =some a) (hb:l[i+1]? =some b):X08 (l.drop i)=(!(Op.bytesLess b a||decide (b=a))&&X08 (l.drop (i+1))):=by
 obtain⟨hi,rfl⟩:=GS.1 ha;obtain⟨hi',rfl⟩:=GS.1 hb;rw[drop_eq_getElem_cons hi,drop_eq_getElem_cons hi',X08]
theorem Xkp (h:l.length<=i+1):X08 (l.drop i)=true:=by
 match hd:l.drop i with
 |[]=>rfl
 |[a]=>rfl
 |a::b::r=>
  have:=CG length hd;simp only[LD,LC] at this;omega
theorem XhV (l:List (List UInt8)) (hl:l.length<=9223372036854775807):Con prog 221 [] [.d (.sl 1 (l.map Xf))] [] (ab (X08 l)):=by
 refine ZC1 func221 ntmps221 fun E=> ?_;have hlm:(l.map Xf).length=l.length:=by simp
 generalize hG:X08 l=G;refine XA ?_
 refine Xn (fun i:Nat=>1<=i/\i<=l.length+1/\X08 (l.drop (i-1))=G) (fun i=>⟨20,[(0,.d (.sl 1 (l.map Xf))),(3,ai i)],[]⟩) (fun i=>l.length-i) 1 ⟨by omega,by omega,by simpa using hG⟩
  (Xb rfl ⟨JL,JL,TV⟩ trivial) ?_
 rintro i ⟨hi,hi2,hg⟩;by_cases hil:i<l.length
 case neg=>
  have hn:¬(i:Int)<(l.map Xf).length:=by omega
  have hT:G=true:=by rw[<-hg,Xkp (by omega)]
  subst hT;exact Qy
 have hn:(i:Int)<(l.map Xf).length:=by omega
 obtain⟨j,rfl⟩:∃j,i=j+1:=⟨i-1,by omega⟩
 rw[Nat.add_sub_cancel] at hg;obtain⟨x,hx⟩:=Xu (l:=l) hil;obtain⟨y,hy⟩:=Xu (l:=l) (k:=j) (by omega);have au:(l.map Xf)[j+1]? =some (Xf x):=XM hx;have kX:(l.map Xf)[j]? =some (Xf y):=XM hy;rw[XiQ hy hx] at hg;cases hq:(Op.bytesLess x y||decide (x=y)) with
 |false=>
  rw[hq] at hg;simp only[Bool.not_false,Bool.true_and] at hg;refine QIb ?_;refine W8_ ?_;exact QJb
 |true=>
  rw[hq] at hg;simp only[Bool.not_true,Bool.false_and] at hg;subst hg;refine QIb ?_;exact QDa
theorem XoU (s:List UInt8):Con prog 220 [] [.d (.v (.string (X6 s)))] [] (ab (!Y8 s)):=by
 refine ZC1 func220 ntmps220 fun E=> ?_;have hn:=X6I s;exact Ql
def X3w:List (List UInt8)->Nat->Int
 |[],_=> -1
 |s::r,i=>if Y8 s=false then (i:Int) else X3w r (i+1)
theorem Xqp (h:l[i]? =some x):X3w (l.drop i) i=if Y8 x=false then (i:Int) else X3w (l.drop (i+1)) (i+1):=by
 obtain⟨hi,rfl⟩:=GS.1 h;rw[drop_eq_getElem_cons hi,X3w]
theorem XjA:∀(l:List (List UInt8)) (i:Nat),decide (X3w l i≥0)= !l.all Y8
 |[],i=>by simp[X3w]
 |s::r,i=>by
  rw[X3w,all_cons];cases h:Y8 s with
  |false=>simp
  |true=>simp[XjA r (i+1)]
theorem Xtb (l:List (List UInt8)) (hl:l.length<=9223372036854775807):Con prog 274 [] [.d (.sl 1 (l.map Xf)),.fn 220 []] [] (ai (X3w l 0)):=by
 refine ZC1 func274 ntmps274 fun E=> ?_;have hlm:(l.map Xf).length=l.length:=by simp
 generalize hG:X3w l 0=G;refine XR ?_
 refine Xn (fun i:Nat=>i<=l.length/\X3w (l.drop i) i=G) (fun i=>⟨19,[(0,.d (.sl 1 (l.map Xf))),(1,.fn 220 []),(7,ai (l.map Xf).length),(8,ai i)],[]⟩) (fun i=>l.length-i) 0 ⟨by omega,by simpa using hG⟩
  (Xb rfl ⟨JL,JL,JL,JL,TV⟩ trivial) ?_
 rintro i ⟨hi,hg⟩;by_cases hil:i<l.length
 case neg=>
  have hn:¬(i:Int)<(l.map Xf).length:=by omega
  rw[drop_of_length_le (by omega),X3w] at hg;subst hg;exact Ql
 have hn:(i:Int)<(l.map Xf).length:=by omega
 obtain⟨x,hx⟩:=Xu (l:=l) hil;have au:(l.map Xf)[i]? =some (Xf x):=XM hx;have hu:=XoU x;rw[Xqp hx] at hg;cases hq:Y8 x with
 |true=>
  rw[hq] at hg hu;simp only[Bool.true_eq_false,if_false] at hg;refine Ye ?_;refine Z5 (af:=hu) ?_;refine W7_ ?_;exact⟨i+1,⟨by omega,hg⟩,by omega,Xb rfl ⟨JL,JL,JL,JL,TV⟩ TV⟩
 |false=>
  rw[hq] at hg hu;simp only[if_true] at hg;subst hg;refine Ye ?_;refine Z5 (af:=hu) ?_;exact QI
theorem Xiu (l:List (List UInt8)) (hl:l.length<=9223372036854775807):Con prog 219 [] [.d (.sl 1 (l.map Xf)),.fn 220 []] [] (ab (!l.all Y8)):=by
 refine ZC1 func219 ntmps219 fun E=> ?_;have hi:=Xtb l hl;rw[<-XjA l 0];generalize X3w l 0=q at*;exact Qz
def X9X (p:Prp):Prop:=p.key.length<=9223372036854775807/\UJ p.v
theorem X19 {α:Type}{l:List α}{x:α} (h:l[i]? =some x):l.take (i+1)=l.take i++[x]:=by
 obtain⟨hi,rfl⟩:=GS.1 h;rw[take_add_one,getElem?_eq_getElem hi];rfl
theorem XgQ {l:List Prp}{x:Prp} (h:l[i]? =some x):((l.take (i+1)).map Prp.key).map Xf=((l.take i).map Prp.key).map Xf++[Xf x.key]:=by
 rw[X19 h];simp
theorem XlQ {l:List Prp}{x:Prp} (h:l[i]? =some x):((l.drop i).map Prp.v).all Ui=(Ui x.v&&((l.drop (i+1)).map Prp.v).all Ui):=by
 obtain⟨hi,rfl⟩:=GS.1 h;rw[drop_eq_getElem_cons hi,map_cons,all_cons]
theorem XaG (h:8<ls.length\/16<ps.length):X1c ls ps=4:=PI h
theorem Xmt (h1:¬8<ls.length) (h2:¬16<ps.length):X1c ls ps=if ls.all Y8=false\/(ps.map Prp.key).all Y8=false then 6
 else if X08 ls=false\/X08 (ps.map Prp.key)=false then 26 else if (ps.map Prp.v).all Ui=false then 8 else 0:=NI (by omega)
theorem Xic (ls:List (List UInt8)) (ps:List Prp) (hls:ls.length<=9223372036854775807) (hok:∀p∈ps,X9X p):Con prog 141 [] [.d (.sl 1 (ls.map Xf)),.d (.sl 6 (ps.map Xd))] [] (ai (X1c ls ps)):=by
 refine ZC1 func141 ntmps141 fun E=> ?_;have hlm:(ps.map Xd).length=ps.length:=by simp
 have kM:(ls.map Xf).length=ls.length:=by simp
 by_cases h1:8<ls.length
 ·rw[XaG (.inl h1)];have dD:(8:Int)<(ls.map Xf).length:=by omega
  exact QC
 have dD:¬(8:Int)<(ls.map Xf).length:=by omega
 by_cases h2:16<ps.length
 ·rw[XaG (.inr h2)];have ek:(16:Int)<(ps.map Xd).length:=by omega
  exact QC
 have ek:¬(16:Int)<(ps.map Xd).length:=by omega
 rw[Xmt h1 h2];have aI:=Xiu ls hls;have aW:=Xiu (ps.map Prp.key) (by simp only[LM];omega);have fL:=XhV ls hls;have dj:=XhV (ps.map Prp.key) (by simp only[LM];omega);generalize ls.all Y8=n1 at*;generalize X08 ls=r1 at*;generalize (ps.map Prp.key).all Y8=n2 at*;generalize X08 (ps.map Prp.key)=r2 at*;generalize hG:(ps.map Prp.v).all Ui=G;refine Vb ?_;refine X8 (Uu 5 130 1 rfl rfl rfl) ?_
 refine Xn (fun i:Nat=>i<=ps.length) (fun i=>⟨55,[(0,.d (.sl 1 (ls.map Xf))),(1,.d (.sl 6 (ps.map Xd))),(18,.d (.sl 6 (ps.map Xd))),(19,ai (ps.map Xd).length),(5,.own 130 (((ps.take i).map Prp.key).map Xf).length),(20,ai i)],[(130,.row 1 (((ps.take i).map Prp.key).map Xf))]⟩) (fun i=>ps.length-i) 0 (Nat.zero_le _)
  (ZL0) ?_
 intro i hi;by_cases hil:i<ps.length
 case pos=>
  have hn:(i:Int)<(ps.map Xd).length:=by omega
  obtain⟨x,hx⟩:=Xu (l:=ps) hil;have au:(ps.map Xd)[i]? =some (Xd x):=XM hx;have hroom:(((ps.take i).map Prp.key).map Xf).length<=4294967296:=by simp only[LM,LT];omega
  have bD:=XgQ hx;obtain⟨key,⟨vk,vn,vd,vs,vl⟩⟩:=x;simp only[Xd,UT] at au bD;refine YY ?_;refine⟨i+1,hil,by omega,?_⟩;rw[bD];exact Xb rfl ⟨JL,JL,JL,JL,AVal.le_of_eq (by refine Eq.trans (b:=AVal.own 130 (_+_)) rfl ?_;simp only[LA,LM,LC,length_nil]),JL,TV⟩ ⟨rfl,TV⟩
 obtain rfl:i=ps.length:=by omega
 have hn:¬((ps.length:Nat):Int)<(ps.map Xd).length:=by omega
 rw[take_length];refine W9_ ?_;refine Qwb ?_;refine X8 (Y7 5 130 rfl rfl rfl) ?_;by_cases b1:n1=false\/n2=false
 ·rw[PI b1];cases n1<;>cases n2<;>first|(simp at b1;done)|skip
  ·refine W2_ ?_;refine Z3 (af:=aI) ?_;refine XA ?_;exact Zr0
  ·refine W2_ ?_;refine Z3 (af:=aI) ?_;refine XA ?_;exact Zr0
  ·refine W2_ ?_;refine Z3 (af:=aI) ?_;refine W2_ ?_;refine Z3 (af:=aW) ?_;exact QI
 rw[NI b1];obtain⟨rfl,rfl⟩:n1=true/\n2=true:=by cases n1<;>cases n2<;>simp_all
 by_cases b2:r1=false\/r2=false
 ·rw[PI b2];cases r1<;>cases r2<;>first|(simp at b2;done)|skip
  ·refine QKb ?_;exact Qz
  ·refine QKb ?_;exact Qz
  ·refine QKb ?_;refine W3_ ?_;refine Z3 (af:=dj) ?_;exact QD
 rw[NI b2];obtain⟨rfl,rfl⟩:r1=true/\r2=true:=by cases r1<;>cases r2<;>simp_all
 refine QKb ?_;refine W3_ ?_;refine Z3 (af:=dj) ?_;refine XQ ?_;clear hi hil hn b1 b2 h1 h2
 refine Xn (fun i:Nat=>i<=ps.length/\((ps.drop i).map Prp.v).all Ui=G) (fun i=>⟨55,[(1,.d (.sl 6 (ps.map Xd))),(44,.d (.sl 6 (ps.map Xd))),(45,ai (ps.map Xd).length),(46,ai i)],[]⟩) (fun i=>ps.length-i) 0 ⟨by omega,by simpa using hG⟩
  (ZL0) ?_
 rintro i ⟨hi,hg⟩;by_cases hil:i<ps.length
 case neg=>
  have hn':¬(i:Int)<(ps.map Xd).length:=by omega
  rw[drop_of_length_le (by omega),map_nil,all_nil] at hg;subst hg;rw[NI (by simp)];exact Ql
 have hn':(i:Int)<(ps.map Xd).length:=by omega
 obtain⟨x,hx⟩:=Xu (l:=ps) hil;have au:(ps.map Xd)[i]? =some (Xd x):=XM hx;have jF:=hok x (mem_of_getElem? hx);have hu:=Xhm x.v;rw[XlQ hx] at hg;generalize Ui x.v=pv at*;obtain⟨key,⟨vk,vn,vd,vs,vl⟩⟩:=x;simp only[XC,Xd,UT] at hu au;cases pv with
 |true=>
  rw[Bool.true_and] at hg;exact QLb
 |false=>
  rw[Bool.false_and] at hg;subst hg;rw[PI rfl];refine YY ?_;exact Zr0
open Go
def X2r (ls:List (List UInt8)) (s:List UInt8):Bool:=ls.any fun x=>decide (s=x)
theorem XrC {k n d:Int}{l:List Val} (h:Ui (.mk k n d s l)=true):Xk 8 (.mk k n d s l)=true/\(k=1\/k=2\/k=4)/\d=0/\l=[]/\(k≠4->s=[])/\(k=4->n=0)/\s.length<=100/\(k=2-> -1000000000000000<=n/\n<=1000000000000000):=by
 obtain⟨h1,h2⟩:=XeH h;have h2:k=1\/k=2\/k=4:=h2;refine⟨h1,h2,?_⟩;rw[Xk] at h1;rcases h2 with rfl|rfl|rfl
 ·simp at h1;exact⟨h1.1.1.1,h1.1.2,fun _=>h1.1.1.2,by simp,by rw[h1.1.1.2];simp,by simp⟩
 ·simp at h1;exact⟨h1.1.1.1,h1.1.2,fun _=>h1.1.1.2,by simp,by rw[h1.1.1.2];simp,fun _=>h1.2⟩
 ·simp at h1;exact⟨h1.1.1,h1.1.2,by simp,fun _=>h1.2.1.1,h1.2.1.2,by simp⟩
theorem X9b (s t:List UInt8):Con prog 184 [] [.d (.v (.string (X6 s))),.d (.v (.string (X6 t)))] [] (ai (Ur s t)):=by
 refine ZC1 func184 ntmps184 fun E=> ?_;have n1:=X8P s;have n2:=X8P t;unfold Ur;cases h1:Op.bytesLess s t with
 |true=>
  rw[PI rfl];refine Qba ?_;refine Ye ?_;refine QMb ?_;exact QDa
 |false=>
  rw[NI (by simp)];by_cases h2:s=t
  ·rw[PI h2];have h3:(!(Op.bytesLess s t||decide (s=t)))=false:=by simp[h2]
   refine Qba ?_;refine Ye ?_;refine QNb ?_;exact QI
  ·rw[NI h2];have h3:(!(Op.bytesLess s t||decide (s=t)))=true:=by simp[h1,h2]
   refine Qba ?_;refine Ye ?_;refine QNb ?_;exact QDa
theorem XpA (a b:Rul):UM a b=orI [YP a.kind b.kind,Ur a.name b.name,Ur a.key b.key,YP a.n b.n,Ur a.src b.src,Ur a.dst b.dst]:=by
 unfold UM YP;simp only[orI]
 repeat' split
 all_goals first|rfl|omega|simp_all
theorem XdV (a b:Rul):Con prog 117 [] [Yu a,Yu b] [] (ai (UM a b)):=by
 refine ZC1 func117 ntmps117 fun E=> ?_;have c1:=X5A a.kind b.kind;have c2:=X9b a.name b.name;have c3:=X9b a.key b.key;have c4:=X5A a.n b.n;have c5:=X9b a.src b.src;have c6:=X9b a.dst b.dst;have co:=Xlx [YP a.kind b.kind,Ur a.name b.name,Ur a.key b.key,YP a.n b.n,Ur a.src b.src,Ur a.dst b.dst] (by simp);rw[<-XpA] at co;simp only[map_cons,map_nil] at co;generalize UM a b=o at*;generalize YP a.kind b.kind=r1 at*;generalize Ur a.name b.name=r2 at*;generalize Ur a.key b.key=r3 at*;generalize YP a.n b.n=r4 at*;generalize Ur a.src b.src=r5 at*;generalize Ur a.dst b.dst=r6 at*;obtain⟨k,n,name,key,src,dst⟩:=a;obtain⟨k',n',name',key',src',dst'⟩:=b;simp only[Yu] at*;refine XR ?_;refine Z3 (af:=c1) ?_;refine W4_ ?_;refine Z3 (af:=c2) ?_;refine W4_ ?_;refine Z3 (af:=c3) ?_;refine W4_ ?_;refine Z3 (af:=c4) ?_;refine W4_ ?_;refine Z3 (af:=c5) ?_;refine W4_ ?_;refine Z3 (af:=c6) ?_;exact QN
def Xh (r:Rul):List D:=[.v (.int .i64 r.kind),.v (.int .i64 r.n),.v (.string (X6 r.name)),.v (.string (X6 r.key)),.v (.string (X6 r.src)),.v (.string (X6 r.dst))]
theorem Xh7 {l:List Rul}{r:Rul} (h:l[i]? =some r):X2M (V3 l i) (l.drop i)=(decide (Uk r=0/\∀q,V3 l i=some q->UM q r<0)&&X2M (V3 l (i+1)) (l.drop (i+1))):=by
 obtain⟨hi,h⟩:=GS.1 h;rw[drop_eq_getElem_cons hi,h,X2M,X50,getElem?_eq_getElem hi,h]
theorem Xe5 (l:List Rul) (hl:l.length<=9223372036854775807):Con prog 90 [] [.d (.sl 6 (l.map Xh))] [] (ab (X0W l)):=by
 refine ZC1 func90 ntmps90 fun E=> ?_;have hlm:(l.map Xh).length=l.length:=by simp
 unfold X0W;generalize hG:X2M none l=G;refine XR ?_
 refine Xn (fun i:Nat=>i<=l.length/\X2M (V3 l i) (l.drop i)=G) (fun i=>⟨33,[(0,.d (.sl 6 (l.map Xh))),(5,.d (.sl 6 (l.map Xh))),(6,ai (l.map Xh).length),(7,ai i)],[]⟩) (fun i=>l.length-i) 0 ⟨Nat.zero_le _,by simpa [V3] using hG⟩
  (ZL0) ?_
 rintro i ⟨hi,hg⟩;by_cases hil:i<l.length
 case neg=>
  obtain rfl:i=l.length:=by omega
  have hn:¬((l.length:Nat):Int)<(l.map Xh).length:=by omega
  rw[drop_length,X2M] at hg;subst hg;rw[Bool.true_and,<-hlm,show decide ((l.map Xh).length<=40)=decide (((l.map Xh).length:Int)<=40) from decide_eq_decide.2 (by omega)];exact Qy
 have hn:(i:Int)<(l.map Xh).length:=by omega
 obtain⟨x,hx⟩:=Xu (l:=l) hil;have au:(l.map Xh)[i]? =some (Xh x):=XM hx;have hc:=X7u x;rw[Xh7 hx] at hg;by_cases he:Uk x=0
 case neg=>
  rw[DF (fun h=>he h.1),Bool.false_and] at hg;subst hg;rw[Bool.false_and];generalize Uk x=e at*;obtain⟨k,n,name,key,src,dst⟩:=x;simp only[Yu,Xh] at hc au;refine U1 ?_;refine QIa ?_;exact QD
 by_cases h0:i=0
 ·subst h0;rw[DT ⟨he,fun q h=>by simp[V3] at h⟩,Bool.true_and] at hg;rw[he] at hc;obtain⟨k,n,name,key,src,dst⟩:=x;simp only[Yu,Xh] at hc au;refine Qr ?_;exact QOb
 obtain⟨j,rfl⟩:∃j,i=j+1:=⟨i-1,by omega⟩
 obtain⟨p,hp⟩:=Xu (l:=l) (k:=j) (by omega);have cO:(l.map Xh)[j]? =some (Xh p):=XM hp;have ho:=XdV p x;rw[he] at hc;by_cases hlt:UM p x<0
 ·rw[DT ⟨he,fun q h=>by rw[X50,hp] at h;injection h with h;rw[<-h];exact hlt⟩,Bool.true_and] at hg;generalize UM p x=o at*;obtain⟨k,n,name,key,src,dst⟩:=x;obtain⟨k',n',name',key',src',dst'⟩:=p;simp only[Yu,Xh] at hc au ho cO;refine QPb ?_;refine XG ?_;exact QQb
 ·rw[DF (fun h=>hlt (h.2 p (by rw[X50,hp]))),Bool.false_and] at hg;subst hg;rw[Bool.false_and];have hge:UM p x≥0:=by omega
  generalize UM p x=o at*;obtain⟨k,n,name,key,src,dst⟩:=x;obtain⟨k',n',name',key',src',dst'⟩:=p;simp only[Yu,Xh] at hc au ho cO;refine QPb ?_;exact Qw
def X3i:List (List UInt8)->List UInt8->Nat->Int
 |[],_,_=> -1
 |x::r,s,i=>if s=x then (i:Int) else X3i r s (i+1)
theorem XrM (h:l[i]? =some x):X3i (l.drop i) s i=if s=x then (i:Int) else X3i (l.drop (i+1)) s (i+1):=by
 obtain⟨hi,rfl⟩:=GS.1 h;rw[drop_eq_getElem_cons hi,X3i]
theorem Xmn:∀(l:List (List UInt8)) (s:List UInt8) (i:Nat),decide (0<=X3i l s i)=X2r l s
 |[],s,i=>by simp[X3i,X2r]
 |x::r,s,i=>by
  rw[X3i,X2r,any_cons];by_cases h:s=x
  ·simp[h]
  ·have:=Xmn r s (i+1);unfold X2r at this;simp[h,this]
theorem Xpk (l:List (List UInt8)) (s:List UInt8) (hl:l.length<=9223372036854775807):Con prog 373 [] [.d (.sl 1 (l.map Xf)),Xi s] [] (ai (X3i l s 0)):=by
 refine ZC1 func373 ntmps373 fun E=> ?_;generalize hG:X3i l s 0=G;refine XR ?_
 refine Xn (fun i:Nat=>i<=l.length/\X3i (l.drop i) s i=G) (fun i=>⟨19,[(0,.d (.sl 1 (l.map Xf))),(1,Xi s),(7,ai (l.map Xf).length),(8,ai i)],[]⟩) (fun i=>l.length-i) 0 ⟨Nat.zero_le _,by simpa using hG⟩
  (ZL0) ?_
 rintro i ⟨hi,hg⟩;by_cases hil:i<l.length
 case neg=>
  have hn:¬(i:Int)<(l.map Xf).length:=by rw[LM];omega
  rw[drop_of_length_le (by omega),X3i] at hg;subst hg;exact Ql
 have hn:(i:Int)<(l.map Xf).length:=by rw[LM];omega
 obtain⟨x,hx⟩:=Xu (l:=l) hil;have au:(l.map Xf)[i]? =some (Xf x):=XM hx;rw[XrM hx] at hg;by_cases hq:s=x
 ·rw[PI hq] at hg;subst hg;refine YT ?_;exact Zr0
 rw[NI hq] at hg;exact QLb
theorem Xxd (l:List (List UInt8)) (s:List UInt8) (hl:l.length<=9223372036854775807):Con prog 339 [] [.d (.sl 1 (l.map Xf)),Xi s] [] (ab (X2r l s)):=by
 refine ZC1 func339 ntmps339 fun E=> ?_;have hi:=Xpk l s hl;rw[<-Xmn l s 0];generalize X3i l s 0=q at*;exact Qz
end Go.Fw
