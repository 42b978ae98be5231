/- The check of a record: the program's and the reference's. -/
import Derived.Test.YtpbgjcbkhgfmkaaGreatDoorM51
import Derived.Test.YtpbgjcbkhgfmkaaGreatDoorM52
import Derived.Test.YtpbgjcbkhgfmkaaGreatDoorM62
set_option maxHeartbeats 16000000
namespace Go.Fw
open Go Go.Proofs Tryz List
set_option maxRecDepth 100000
set_option linter.unusedVariables false
set_option linter.unusedSimpArgs false
theorem XdI (r:Rcd) (hok:X0z r):Con prog 72 [] [Uv r] [] (ai (UH r)):=by
 obtain⟨kd,ts,l,⟨k,n,name,key,src,dst⟩,off⟩:=r;obtain⟨hlen,gh⟩:=hok;simp only at hlen gh;have hlm:(l.map Xs).length=l.length:=by simp
 refine ZC1 func72 ntmps72 fun E=> ?_;have hz:=eqZ k n name key src dst;have hr:=X8y ⟨k,n,name,key,src,dst⟩;unfold UH;simp only[Uv,Yu] at hr |-;generalize X4i ⟨k,n,name,key,src,dst⟩=z at*;generalize Uk ⟨k,n,name,key,src,dst⟩=re at*;by_cases h1:¬(1<=kd/\kd<=3/\0<=ts/\ts<=1000000000000000)
 ·rw[PI h1];refine XR ?_;refine Yb rfl rfl (fun hq=> ?_) (fun hq=> ?_);exact QM;refine W5_ ?_;refine Yb rfl rfl (fun hq=> ?_) (fun hq=> ?_);exact QW;refine W5_ ?_;refine Yb rfl rfl (fun hq=> ?_) (fun hq=> ?_);refine XA ?_;exact Zr0;refine XA ?_;exact Zr0
 rw[NI h1];by_cases h2:(kd≠1/\0<l.length)\/(kd≠2/\(off=true\/z=false))
 ·rw[PI h2];refine X07 ?_;refine Yb rfl rfl (fun hq=> ?_) (fun hq=> ?_);refine W6_ ?_;refine Yb rfl rfl (fun hq=> ?_) (fun hq=> ?_);refine W4_ ?_;refine QIa ?_;exact QD;refine W7_ ?_;refine Qrb ?_;refine W1_ ?_;refine Ut rfl rfl (fun hq=> ?_) (fun hq=> ?_);refine W6_ ?_;refine X20 rfl (fun hq=> ?_) (fun hq=> ?_);exact QN;refine Yg ?_;(exfalso;clear hr hz;simp_all<;>omega);exact Ql;refine XQ ?_;refine Qrb ?_;refine W1_ ?_;refine Ut rfl rfl (fun hq=> ?_) (fun hq=> ?_);refine W6_ ?_;refine X20 rfl (fun hq=> ?_) (fun hq=> ?_);exact QN;refine Yg ?_;(exfalso;clear hr hz;simp_all<;>omega);exact Ql
 rw[NI h2];by_cases h3:kd=2
 ·subst h3;rw[PI rfl];have h4:¬0<l.length:=by omega
  refine QX ?_;refine Qg ?_;exact QC
 rw[NI h3];have oN:off=false/\z=true:=by cases off<;>cases z<;>simp_all
 obtain⟨ho,bR⟩:=oN;have hk:kd=1\/(kd=3/\¬0<l.length):=by omega
 rcases hk with ey|⟨ey,hn0⟩
 case inr=>
  obtain rfl:l=[]:=eq_nil_of_length_eq_zero (by omega);clear h2 hlm gh hlen;refine QY ?_;refine Qsb ?_
  refine Xn (ι:=Nat) (fun i=>i=0) (fun i=>⟨73,[(1,.ptr 100 0),(3,ai i)],[(100,.box [ai kd,ai ts,.d (.sl 10 []),ai k,ai n,Xi name,Xi key,Xi src,Xi dst,ab off])]⟩) (fun i=>0) 0 rfl
   (ZL0) ?_
  rintro i rfl;refine Vl ?_;exact Zr0
 generalize hG:X1P l=G;refine QY ?_;refine Qsb ?_
 refine Xn (ι:=Nat) (fun i=>i<=l.length/\X1P (l.drop i)=G) (fun i=>⟨73,[(1,.ptr 100 0),(3,ai i)],[(100,.box [ai kd,ai ts,.d (.sl 10 (l.map Xs)),ai k,ai n,Xi name,Xi key,Xi src,Xi dst,ab off])]⟩) (fun i=>l.length-i) 0 ⟨by omega,hG⟩
  (ZL0) ?_
 rintro i ⟨hi,hg⟩;by_cases hil:i<l.length
 case neg=>
  obtain rfl:i=l.length:=by omega
  rw[drop_length,X1P] at hg;subst hg;rw[NI (by simp)];have hn:¬((l.length:Nat):Int)<(l.map Xs).length:=by omega
  by_cases hb:1000<l.length
  ·rw[PI hb];exact QT
  ·rw[NI hb];refine Vl ?_;exact Zr0
 have hn:(i:Int)<(l.map Xs).length:=by omega
 obtain⟨x,hx⟩:=Xu (l:=l) hil;have au:(l.map Xs)[i]? =some (Xs x):=XM hx;have jF:=gh x (mem_of_getElem? hx);have aP:=Xdp x jF.2;rw[Xm2 hx] at hg;generalize YD x=e at*;obtain⟨op,id,iu,iw,fS,⟨xk,xn,xd,xs,xl⟩⟩:=x;simp only[Xz,Xs] at aP au;by_cases he:e=0
 ·subst he;rw[NI (by simp)] at hg;refine UX ?_;exact Qtb
 ·rw[PI he] at hg;subst hg;rw[PI he];refine X00 ?_;exact Zr0
open Go
def X5V (l:List Nod) (id:Int):Option Nod:=l.find? fun n=>decide (n.id=id)
abbrev X5r:Nod:=⟨0,[],[]⟩
def XhL (n:Nod):Prop:=n.labels.length<=1000/\n.props.length<=1000/\∀p∈n.props,Ui p.v=true
variable{i:Nat}
theorem Xob {l:List Nod}{n:Nod}{id:Int} (h:l[i]? =some n):X5V (l.drop i) id=if n.id=id then some n else X5V (l.drop (i+1)) id:=by
 obtain⟨hi,h⟩:=GS.1 h;unfold X5V;rw[drop_eq_getElem_cons hi,h,find?_cons];by_cases q:n.id=id<;>simp[q]
theorem Xqc {l:List (List UInt8)}{s:List UInt8}{x:List UInt8} (h:l[i]? =some x):X2r (l.drop i) s=(decide (s=x)||X2r (l.drop (i+1)) s):=by
 obtain⟨hi,rfl⟩:=GS.1 h;unfold X2r;rw[drop_eq_getElem_cons hi,any_cons]
theorem Xxw (l:List (List UInt8)) (s:List UInt8) (hl:l.length<=9223372036854775807):Con prog 320 [] [.d (.sl 1 (l.map Xf)),Xi s] [] (ab (X2r l s)):=by
 refine ZC1 func320 ntmps320 fun E=> ?_;generalize hG:X2r l s=G;refine XA ?_
 refine Xn (fun i:Nat=>i<=l.length/\X2r (l.drop i) s=G) (fun i=>⟨18,[(0,.d (.sl 1 (l.map Xf))),(1,Xi s),(5,ai i)],[]⟩) (fun i=>l.length-i) 0 ⟨Nat.zero_le _,by simpa using hG⟩
  (ZL0) ?_
 rintro i ⟨hi,hg⟩;by_cases hil:i<l.length
 case neg=>
  have hn:¬(i:Int)<(l.map Xf).length:=by rw[LM];omega
  rw[drop_of_length_le (by omega)] at hg;have hg:false=G:=hg;subst hg;exact Qy
 have hn:(i:Int)<(l.map Xf).length:=by rw[LM];omega
 obtain⟨x,hx⟩:=Xu (l:=l) hil;have au:(l.map Xf)[i]? =some (Xf x):=XM hx;rw[Xqc hx] at hg;by_cases hq:s=x
 ·rw[DT hq,Bool.true_or] at hg;subst hg;have mP:x=s:=hq.symm;exact Qk
 rw[DF hq,Bool.false_or] at hg;have mP:¬x=s:=fun e=>hq e.symm;refine YY ?_;exact Qtb
theorem Xws (n:Nod) (s:List UInt8) (hl:n.labels.length<=9223372036854775807):Con prog 260 [] [.agg [ai n.id,.d (.sl 1 (n.labels.map Xf)),.d (.sl 6 (n.props.map Xd))],Xi s] [] (ab (X2r n.labels s)):=by
 refine ZC1 func260 ntmps260 fun E=> ?_;have hc:=Xxw n.labels s hl;generalize X2r n.labels s=q at*;exact Qw
section
variable {α κ:Type}{lt:κ->κ->Bool}{key:α->κ} [DecidableEq κ]
def X2P (lt:κ->κ->Bool) (key:α->κ) (l:List α) (k:κ) (ns:List α):Bool->List α
 |true=>l.filter fun x=> !decide (key x=k)
 |false=>UC lt key l k ns
theorem XdC {l:List α}{k:κ}{ns:List α}{x:α}{b:Bool} (h:l[i]? =some x) (hi:lt (key x) k=true->key x≠k):
  X2P lt key (l.drop i) k ns b=(if b=false/\lt (key x) k=false then ns else [])++(if key x=k then [] else [x])++X2P lt key (l.drop (i+1)) k ns (b|| !lt (key x) k):=by
 obtain⟨hlt,h⟩:=GS.1 h;rw[drop_eq_getElem_cons hlt,h];cases b with
 |true=>
  simp only[X2P,Bool.true_or,filter_cons];by_cases q:key x=k<;>simp[q]
 |false=>
  by_cases p:lt (key x) k=true
  ·simp only[X2P,Bool.false_or,p,Bool.not_true];rw[NI (by simp),NI (hi p)];simp[UC,p]
  ·have p:lt (key x) k=false:=by simpa using p
   simp only[X2P,Bool.false_or,p,Bool.not_false];rw[PI (by simp)];unfold UC;rw[takeWhile_cons_of_neg (by simp[p]),dropWhile_cons_of_neg (by simp[p]),filter_cons];by_cases q:key x=k<;>simp[q]
theorem XfH {k:κ}{ns:List α} (b:Bool):X2P lt key [] k ns b=if b=true then [] else ns:=by
 cases b<;>simp[X2P,UC]
theorem XeM {l:List α}{k:κ}{x:α} (h:l[i]? =some x):UL key (l.drop i) k=(if key x=k then [] else [x])++UL key (l.drop (i+1)) k:=by
 obtain⟨hlt,h⟩:=GS.1 h;rw[drop_eq_getElem_cons hlt,h];unfold UL;rw[filter_cons];by_cases q:key x=k<;>simp[q]
theorem Xep (l:List α) (k:κ):(UL key l k).length<=l.length:=length_filter_le _ _
end
theorem XnU (g:Gra) (id:Int) (hl:g.nodes.length<=9223372036854775807) (hh:∀n∈g.nodes,XhL n):Con prog 196 [] [Y6 g,ai id] [] (.tup [X0g ((X5V g.nodes id).getD X5r),ab (X5V g.nodes id).isSome]):=by
 refine ZCt func196 ntmps196 fun E=> ?_;obtain⟨ns,es,nn,ne⟩:=g;unfold Y6;simp only at hl hh |-;generalize hG:X5V ns id=G;refine XR ?_
 refine Xn (fun i:Nat=>i<=ns.length/\X5V (ns.drop i) id=G) (fun i=>⟨28,[(1,ai id),(2,.ptr 100 0),(4,.ptr 101 0),(6,ai i)],[(100,.box [.d (.sl 3 (ns.map Xm)),.d (.sl 5 (es.map Xr)),ai nn,ai ne]),(101,.box [ai 0,aq,aq])]⟩) (fun i=>ns.length-i) 0 ⟨Nat.zero_le _,by simpa using hG⟩
  (ZL0) ?_
 rintro i ⟨hi,hg⟩;by_cases hil:i<ns.length
 case neg=>
  have hn:¬(i:Int)<(ns.map Xm).length:=by rw[LM];omega
  rw[drop_of_length_le (by omega)] at hg;have hg:none=G:=hg;subst hg;simp only[Option.getD_none,Option.isSome_none,X5r,X0g,map_nil];refine Yv ?_
  (show AWP prog E _ _ _;refine X2 ?_;exact(show Xa _ _ _ _ _ from⟨_,Xq 101 (cs':=[ai 0,.d (.sl 1 []),.d (.sl 6 [])]) rfl JM rfl,⟨⟨101,0,_,rfl,rfl,.inr ⟨3,_,rfl,rfl,rfl,rfl⟩⟩,rfl,TV⟩,X4 _⟩))
 have hn:(i:Int)<(ns.map Xm).length:=by rw[LM];omega
 obtain⟨x,hx⟩:=Xu (l:=ns) hil;have au:(ns.map Xm)[i]? =some (Xm x):=XM hx;rw[Xob hx] at hg;obtain⟨f1,f2,f3⟩:=hh x (mem_of_getElem? hx);obtain⟨aJ,labels,props⟩:=x;simp only[Xm] at au hg f1 f2 f3;clear hx;by_cases hq:aJ=id
 ·rw[PI hq] at hg;subst hg;subst hq;simp only[Option.getD_some,Option.isSome_some,X0g];clear hh f1 f2 f3;refine UX ?_
  (show AWP prog E _ _ _;refine X2 ?_;exact(show Xa _ _ _ _ _ from⟨_,St.le_refl _,⟨⟨101,0,_,rfl,rfl,.inr ⟨3,_,rfl,rfl,rfl,rfl⟩⟩,rfl,TV⟩,X4 _⟩))
 rw[NI hq] at hg;exact Qce
theorem XpT (l:List (List UInt8)) (s:List UInt8):X2r l s=XD Yl l s:=by
 unfold X2r XD;congr 1;funext x;exact decide_eq_decide.2 ⟨fun h=>h.symm,fun h=>h.symm⟩
theorem X7Y {α:Type}{a b c:List α} (h:a++b=c):a.length<=c.length:=by rw[<-h,LA];omega
theorem Xv6 (l:List (List UInt8)) (s:List UInt8) (hl:l.length<=100000):Con prog 263 [] [.d (.sl 1 (l.map Xf)),Xi s] [] (.d (.sl 1 ((UL Yl l s).map Xf))):=by
 refine ZC1 func263 ntmps263 fun E=> ?_;have hlm:(l.map Xf).length=l.length:=by simp
 have bg:=Xep (key:=Yl) l s;generalize hR:UL Yl l s=R at*;refine XG ?_;refine X8 (Uu 5 130 1 rfl rfl rfl) ?_
 refine Xn (ι:=Nat×List (List UInt8)) (fun q=>q.1<=l.length/\q.2++UL Yl (l.drop q.1) s=R) (fun q=>⟨27,[(0,.d (.sl 1 (l.map Xf))),(1,Xi s),(5,.own 130 (q.2.map Xf).length),(6,ai q.1)],[(130,.row 1 (q.2.map Xf))]⟩) (fun q=>l.length-q.1) (0,[]) ⟨Nat.zero_le _,by simpa using hR⟩
  (ZL0) ?_
 rintro⟨i,out⟩ ⟨hi,hg⟩;simp only at hi hg;by_cases hil:i<l.length
 case neg=>
  have hn:¬(i:Int)<(l.map Xf).length:=by omega
  rw[drop_of_length_le (by omega),show UL Yl ([]:List (List UInt8)) s=[] from rfl,append_nil] at hg;subst hg;refine Yx ?_;refine Qwb ?_;refine X8 (Y7 4 130 rfl rfl (by simp)) ?_
  (show AWP prog E _ _ _;refine X2 ?_;exact(show Xa _ _ _ _ _ from⟨_,St.le_refl _,⟨rfl,TV⟩,X4 _⟩))
 have hn:(i:Int)<(l.map Xf).length:=by omega
 obtain⟨x,hx⟩:=Xu (l:=l) hil;have au:(l.map Xf)[i]? =some (Xf x):=XM hx;rw[XeM hx] at hg;have eW:=X7Y hg;have hroom:(out.map Xf).length<=100000:=by rw[LM];omega
 simp only[Xf] at au;by_cases hq:x=s
 ·subst hq;rw[PI rfl,nil_append] at hg;refine YY ?_;exact Qpe
 ·rw[NI (show ¬Yl x=s from hq),<-AS] at hg;refine X0Z ?_;refine⟨(i+1,out++[x]),⟨by simp only;omega,hg⟩,by simp only;omega,?_⟩;dsimp only;rw[map_append];exact Xb rfl ⟨JL,JL,AVal.le_of_eq (by refine Eq.trans (b:=AVal.own 130 (_+_)) rfl ?_;simp only[LA,LM,LC,length_nil]),JL,TV⟩ ⟨rfl,TV⟩
theorem Xwv (l:List (List UInt8)) (s:List UInt8) (hl:l.length<=100000) (hs:YW aA Yl l) (hh:XD Yl l s=false):Con prog 262 [] [.d (.sl 1 (l.map Xf)),Xi s] [] (.d (.sl 1 ((UC aA Yl l s [s]).map Xf))):=by
 refine ZC1 func262 ntmps262 fun E=> ?_;have hlm:(l.map Xf).length=l.length:=by simp
 rw[X4U hh];have hle:=X5p (lt:=aA) (key:=Yl) l s;have h1:=Xad (lt:=aA) (key:=Yl) (l:=l) (k:=s);have h2:∀x,l[Xo aA Yl l s]? =some x->aA x s=false/\x≠s:=fun x hx=>⟨X9g hx,fun e=>by
  subst e;have:XD Yl l x=true:=by unfold XD;rw[any_eq_true];exact⟨x,mem_of_getElem? hx,by simp⟩
  rw[hh] at this;cases this⟩
 generalize Xo aA Yl l s=k at*;clear hs hh;refine XG ?_
 refine Xn (fun i:Nat=>i<=k) (fun i=>⟨47,[(0,.d (.sl 1 (l.map Xf))),(1,Xi s),(5,aq),(6,ai i)],[]⟩) (fun i=>l.length-i) 0 (Nat.zero_le _)
  (ZL0) ?_
 intro i hi;by_cases hik:i<k
 case pos=>
  have hil:i<l.length:=by omega
  have hn:(i:Int)<(l.map Xf).length:=by omega
  obtain⟨x,hx⟩:=Xu (l:=l) hil;have au:(l.map Xf)[i]? =some (Xf x):=XM hx;have hlt:=h1 x (by rw[mem_take_iff_getElem];obtain⟨hl,rfl⟩:=GS.1 hx;exact⟨i,by omega,rfl⟩);have hlt:Op.bytesLess x s=true:=hlt;simp only[Xf] at au;clear h1 h2;refine XQ ?_;refine QMb ?_;refine XA ?_;exact⟨i+1,by omega,by omega,ZL0⟩
 obtain rfl:i=k:=by omega
 have rG:(l.take i++[s]++l.drop i).map Xf=[]++((l.map Xf).take i).drop 0++[Xf s]++((l.map Xf).take (l.map Xf).length).drop i:=by rw[take_length];simp
 rw[rG];have fL:((l.map Xf).take i).length=i:=by rw[LT];omega
 have dj:((l.map Xf).drop i).length=l.length-i:=by rw[LD];omega
 by_cases hil:i<l.length
 case pos=>
  have hn:(i:Int)<(l.map Xf).length:=by omega
  have hn2:¬(i:Int)=(l.map Xf).length:=by omega
  obtain⟨x,hx⟩:=Xu (l:=l) hil;have au:(l.map Xf)[i]? =some (Xf x):=XM hx;obtain⟨hlt,hne⟩:=h2 x hx;have hlt:Op.bytesLess x s=false:=hlt;simp only[Xf] at au;clear h1 h2 hx hik hi;refine XQ ?_;refine QMb ?_;refine W5_ ?_;refine X8 (Uu 5 130 1 rfl rfl rfl) ?_;refine QV ?_;refine Qwb ?_;refine X8 (Y7 4 130 rfl rfl (by simp only[LA])) ?_
  (show AWP prog E _ _ _;refine X2 ?_;exact(show Xa _ _ _ _ _ from⟨_,St.le_refl _,⟨rfl,TV⟩,X4 _⟩))
 case neg=>
  have hn:¬(i:Int)<(l.map Xf).length:=by omega
  have hn2:(i:Int)=(l.map Xf).length:=by omega
  clear h1 h2 hik hi;refine YR ?_;refine X8 (Uu 5 130 1 rfl rfl rfl) ?_;refine QV ?_;refine Qwb ?_;refine X8 (Y7 4 130 rfl rfl (by simp only[LA])) ?_
  (show AWP prog E _ _ _;refine X2 ?_;exact(show Xa _ _ _ _ _ from⟨_,St.le_refl _,⟨rfl,TV⟩,X4 _⟩))
theorem XlM (l:List Prp) (key:List UInt8) (v:Val) (hl:l.length<=100000) (hv:UJ v):Con prog 259 [] [.d (.sl 6 (l.map Xd)),Xi key,XC v] [] (.tup [.d (.sl 6 ((Ud l key v).map Xd)),ab (decide ((Ud l key v).length<=16))]):=by
 refine ZCt func259 ntmps259 fun E=> ?_;have hlm:(l.map Xd).length=l.length:=by simp
 have nA:=Xiv v hv;have bg:(Ud l key v).length<=l.length+1:=by
  refine Nat.le_trans X5K ?_;split<;>simp
 generalize hR:Ud l key v=R at*;unfold Ud at hR;clear hv;obtain⟨vk,vn,vd,vs,vl⟩:=v;simp only[XC] at*;refine U8 ?_;refine X8 (Uu 8 130 6 rfl rfl rfl) ?_
 refine Xn (ι:=Nat×Bool×List Prp) (fun q=>q.1<=l.length/\q.2.2++X2P aA Prp.key (l.drop q.1) key (if V4 (.mk vk vn vd vs vl)=true then [] else [⟨key,.mk vk vn vd vs vl⟩]) q.2.1=R) (fun q=>⟨68,[(0,.d (.sl 6 (l.map Xd))),(1,Xi key),(5,.ptr 100 0),(8,.own 130 (q.2.2.map Xd).length),(9,ab q.2.1),(10,ai q.1)],[(100,.box [ai vk,ai vn,ai vd,.d (.v (.string (X6 vs))),.d (.sl 5 (XX vl))]),(130,.row 6 (q.2.2.map Xd))]⟩) (fun q=>l.length-q.1) (0,false,[]) ⟨Nat.zero_le _,by simpa [X2P] using hR⟩
  (ZL0) ?_
 rintro⟨i,b,out⟩ ⟨hi,hg⟩;simp only at hi hg;have eW:=X7Y hg;have hroom:(out.map Xd).length<=100001:=by rw[LM];omega
 by_cases hil:i<l.length
 case neg=>
  have hn:¬(i:Int)<(l.map Xd).length:=by omega
  rw[drop_of_length_le (by omega),XfH] at hg;cases b with
  |true=>
   rw[PI rfl,append_nil] at hg;subst hg;have hm:(out.map Xd).length=out.length:=by simp
   refine UV ?_;refine Qwb ?_;refine X8 (Y7 6 130 rfl rfl rfl) ?_
   (show AWP prog E _ _ _;refine X2 ?_;refine(show Xa _ _ _ _ _ from⟨_,St.le_refl _,⟨rfl,?_,TV⟩,X4 _⟩);refine Eq.trans (b:=ab (decide ((_:Int)<=16))) rfl ?_;exact CG ab (decide_eq_decide.2 (by(try simp only[LA,LM,length_singleton]);omega)))
  |false=>
   rw[NI (by simp)] at hg;cases hz:V4 (.mk vk vn vd vs vl) with
   |true=>
    rw[hz] at hg nA;rw[PI rfl,append_nil] at hg;subst hg;have hm:(out.map Xd).length=out.length:=by simp
    refine UV ?_;refine Qwb ?_;refine X8 (Y7 6 130 rfl rfl rfl) ?_
    (show AWP prog E _ _ _;refine X2 ?_;refine(show Xa _ _ _ _ _ from⟨_,St.le_refl _,⟨rfl,?_,TV⟩,X4 _⟩);refine Eq.trans (b:=ab (decide ((_:Int)<=16))) rfl ?_;exact CG ab (decide_eq_decide.2 (by(try simp only[LA,LM,length_singleton]);omega)))
   |false=>
    rw[hz] at hg nA;rw[NI (by simp)] at hg;subst hg;have hm:(out.map Xd).length=out.length:=by simp
    have hap:(out++[(⟨key,.mk vk vn vd vs vl⟩:Prp)]).map Xd=out.map Xd++[[.v (.string (X6 key)),.v (.int .i64 vk),.v (.int .i64 vn),.v (.int .i64 vd),.v (.string (X6 vs)),.sl 5 (XX vl)]]:=by simp[Xd,UT]
    rw[hap,LA,length_singleton];refine X7 ?_;refine Qwb ?_;refine X8 (Y7 6 130 rfl rfl (by simp only[LA])) ?_
    (show AWP prog E _ _ _;refine X2 ?_;refine(show Xa _ _ _ _ _ from⟨_,St.le_refl _,⟨rfl,?_,TV⟩,X4 _⟩);refine Eq.trans (b:=ab (decide ((_:Int)<=16))) rfl ?_;exact CG ab (decide_eq_decide.2 (by(try simp only[LA,LM,length_singleton]);omega)))
 have hn:(i:Int)<(l.map Xd).length:=by omega
 obtain⟨x,hx⟩:=Xu (l:=l) hil;have au:(l.map Xd)[i]? =some (Xd x):=XM hx;have e7:aA x.key key=true->x.key≠key:=fun h e=>by rw[e,X1t.irr] at h;cases h
 rw[XdC hx e7] at hg;obtain⟨xk,⟨wk,wn,wd,ws,wl⟩⟩:=x;simp only[Xd,UT] at au hg e7;clear hx;cases b with
 |true=>
  rw[NI (by simp),nil_append,Bool.true_or] at hg;by_cases hq:xk=key
  ·subst hq;rw[PI rfl,nil_append] at hg;refine Qo ?_;refine⟨(i+1,true,out),⟨by simp only;omega,hg⟩,by simp only;omega,?_⟩;dsimp only
   skip
   exact Xb rfl ⟨JL,JL,JL,JL,JL,JL,TV⟩ ⟨rfl,rfl,TV⟩
  ·rw[NI hq,<-AS] at hg;have hap:(out++[(⟨xk,.mk wk wn wd ws wl⟩:Prp)]).map Xd=out.map Xd++[[.v (.string (X6 xk)),.v (.int .i64 wk),.v (.int .i64 wn),.v (.int .i64 wd),.v (.string (X6 ws)),.sl 5 (XX wl)]]:=by simp[Xd,UT]
   refine X7 ?_;refine Yx ?_;refine⟨(i+1,true,out++[(⟨xk,.mk wk wn wd ws wl⟩:Prp)]),⟨by simp only;omega,hg⟩,by simp only;omega,?_⟩;dsimp only;rw[hap];exact Qqe
 |false=>
  by_cases hp:aA xk key=true
  ·have hq:=e7 hp;rw[hp,NI (by simp),NI hq,nil_append,<-AS] at hg;have hp':Op.bytesLess xk key=true:=hp;have hap:(out++[(⟨xk,.mk wk wn wd ws wl⟩:Prp)]).map Xd=out.map Xd++[[.v (.string (X6 xk)),.v (.int .i64 wk),.v (.int .i64 wn),.v (.int .i64 wd),.v (.string (X6 ws)),.sl 5 (XX wl)]]:=by simp[Xd,UT]
   refine Qre ?_;refine Vb ?_;refine⟨(i+1,false,out++[(⟨xk,.mk wk wn wd ws wl⟩:Prp)]),⟨by simp only;omega,hg⟩,by simp only;omega,?_⟩;dsimp only;rw[hap];exact Qqe
  ·have hp:aA xk key=false:=by simpa using hp
   have hp':Op.bytesLess xk key=false:=hp;rw[hp,PI ⟨rfl,rfl⟩] at hg;cases hz:V4 (.mk vk vn vd vs vl) with
   |true=>
    rw[hz] at hg nA;rw[PI rfl,nil_append] at hg;by_cases hq:xk=key
    ·subst hq;rw[PI rfl,nil_append] at hg;refine Qre ?_;refine UV ?_;refine⟨(i+1,true,out),⟨by simp only;omega,hg⟩,by simp only;omega,?_⟩;dsimp only
     skip
     exact Xb rfl ⟨JL,JL,JL,JL,JL,JL,TV⟩ ⟨rfl,rfl,TV⟩
    ·rw[NI hq,<-AS] at hg;have hap:(out++[(⟨xk,.mk wk wn wd ws wl⟩:Prp)]).map Xd=out.map Xd++[[.v (.string (X6 xk)),.v (.int .i64 wk),.v (.int .i64 wn),.v (.int .i64 wd),.v (.string (X6 ws)),.sl 5 (XX wl)]]:=by simp[Xd,UT]
     refine Qre ?_;refine QV ?_;refine⟨(i+1,true,out++[(⟨xk,.mk wk wn wd ws wl⟩:Prp)]),⟨by simp only;omega,hg⟩,by simp only;omega,?_⟩;dsimp only;rw[hap];exact Qqe
   |false=>
    rw[hz] at hg nA;rw[NI (by simp)] at hg;by_cases hq:xk=key
    ·subst hq;rw[PI rfl,append_nil,<-AS] at hg;have hap:(out++[(⟨xk,.mk vk vn vd vs vl⟩:Prp)]).map Xd=out.map Xd++[[.v (.string (X6 xk)),.v (.int .i64 vk),.v (.int .i64 vn),.v (.int .i64 vd),.v (.string (X6 vs)),.sl 5 (XX vl)]]:=by simp[Xd,UT]
     refine Qre ?_;refine X7 ?_;refine⟨(i+1,true,out++[(⟨xk,.mk vk vn vd vs vl⟩:Prp)]),⟨by simp only;omega,hg⟩,by simp only;omega,?_⟩;dsimp only;rw[hap];exact Qqe
    ·rw[NI hq,AS,<-AS,<-AS] at hg;have hap:(out++[(⟨key,.mk vk vn vd vs vl⟩:Prp)]++[(⟨xk,.mk wk wn wd ws wl⟩:Prp)]).map Xd=(out.map Xd++[[.v (.string (X6 key)),.v (.int .i64 vk),.v (.int .i64 vn),.v (.int .i64 vd),.v (.string (X6 vs)),.sl 5 (XX vl)]])++[[.v (.string (X6 xk)),.v (.int .i64 wk),.v (.int .i64 wn),.v (.int .i64 wd),.v (.string (X6 ws)),.sl 5 (XX wl)]]:=by simp[Xd,UT]
     refine Qre ?_;refine QY ?_;refine⟨(i+1,true,out++[(⟨key,.mk vk vn vd vs vl⟩:Prp)]++[(⟨xk,.mk wk wn wd ws wl⟩:Prp)]),⟨by simp only;omega,hg⟩,by simp only;omega,?_⟩;dsimp only;rw[hap];exact Qqe
end Go.Fw
