/- The check of a record: the program's and the reference's. -/
import Derived.Test.YtpbgjcbkhgfmkaaGreatDoorM15
set_option maxHeartbeats 16000000
namespace Go.Fw
open Go Go.Proofs Tryz List
set_option maxRecDepth 100000
set_option linter.unusedVariables false
set_option linter.unusedSimpArgs false
theorem X54:X7e prog 66=some [.i .i64,.i .i64,.s,.s,.s,.s]:=by kernel_rfl
def Uv:Rcd->AVal
 |⟨kd,ts,l,⟨k,n,name,key,src,dst⟩,off⟩=> .agg [ai kd,ai ts,.d (.sl 10 (l.map Xs)),ai k,ai n,Xi name,Xi key,Xi src,Xi dst,ab off]
def X0z (r:Rcd):Prop:=r.changes.length<=9223372036854775807/\∀c∈r.changes,Xbf c
theorem Xst (s:List UInt8):(X6 s).data.toList=s:=by simp[X6]
theorem eqZ (k n:Int) (name key src dst:List UInt8):X2W [.int .i64 k,.int .i64 n,.string (X6 name),.string (X6 key),.string (X6 src),.string (X6 dst)] [.int .i64 0,.int .i64 0,.string (X6 []),.string (X6 []),.string (X6 []),.string (X6 [])]=X4i ⟨k,n,name,key,src,dst⟩:=by
 unfold X4i;simp only[X2W,X5x,Xst,Bool.and_true];by_cases h1:k=0<;>by_cases h2:n=0<;>by_cases h3:name=[]<;>by_cases h4:key=[]<;>by_cases h5:src=[]<;>by_cases h6:dst=[]<;>simp[*]
variable{i:Nat}{c x:Chg}{a at_ d e k limit m n:Int}{b s:List UInt8}{g gl gp:Nat->Int->Val×Int×Int}{l:List Val}{r:Rul}{v:Val}
theorem Xm2 {l:List Chg} (h:l[i]? =some x):X1P (l.drop i)=if YD x≠0 then YD x else X1P (l.drop (i+1)):=by
 rw[drop_eq_getElem_cons (GS.1 h).1,(GS.1 h).2,X1P]
theorem Xbz (r:Rcd) (hok:X0z r):Con prog 68 [] [Uv r] [] (ai (UH r)):=by
 obtain⟨kd,ts,l,⟨k,n,name,key,src,dst⟩,off⟩:=r;obtain⟨hlen,gh⟩:=hok;simp only at hlen gh;have hlm:(l.map Xs).length=l.length:=by simp
 refine ZC1 func68 ntmps68 fun E=> ?_;have hz:=eqZ k n name key src dst;have hr:=X7u ⟨k,n,name,key,src,dst⟩;unfold UH;simp only[Uv,Yu] at hr |-;generalize X4i ⟨k,n,name,key,src,dst⟩=z at*;generalize Uk ⟨k,n,name,key,src,dst⟩=re at*;by_cases h1:¬(1<=kd/\kd<=3/\0<=ts/\ts<=1000000000000000)
 ·rw[PI h1];refine XR ?_;refine Yb rfl rfl (fun hq=> ?_) (fun hq=> ?_);exact QM;refine W5_ ?_;refine Yb rfl rfl (fun hq=> ?_) (fun hq=> ?_);exact QW;refine W5_ ?_;refine Yb rfl rfl (fun hq=> ?_) (fun hq=> ?_);refine XA ?_;exact Zr0;refine XA ?_;exact Zr0
 rw[NI h1];by_cases h2:(kd≠1/\0<l.length)\/(kd≠2/\(off=true\/z=false))
 ·rw[PI h2];refine X07 ?_;refine Yb rfl rfl (fun hq=> ?_) (fun hq=> ?_);refine W6_ ?_;refine Yb rfl rfl (fun hq=> ?_) (fun hq=> ?_);refine W4_ ?_;refine QIa ?_;exact QD;refine W7_ ?_;refine X59 rfl rfl (fun hq=> ?_) (fun hq=> ?_);exact Qw;refine W3_ ?_;refine Qrb ?_;refine W4_ ?_;refine YJ rfl (fun hq=> ?_) (fun hq=> ?_);exact QN;refine YR ?_;(exfalso;clear hr hz;simp_all<;>omega);refine XQ ?_;refine X59 rfl rfl (fun hq=> ?_) (fun hq=> ?_);exact Qw;refine W3_ ?_;refine Qrb ?_;refine W4_ ?_;refine YJ rfl (fun hq=> ?_) (fun hq=> ?_);exact QN;refine YR ?_;(exfalso;clear hr hz;simp_all<;>omega)
 rw[NI h2];by_cases h3:kd=2
 ·subst h3;rw[PI rfl];have h4:¬0<l.length:=by omega
  refine QY ?_;refine Qm ?_;exact QC
 rw[NI h3];have oN:off=false/\z=true:=by cases off<;>cases z<;>simp_all
 obtain⟨ho,bR⟩:=oN;have hk:kd=1\/(kd=3/\¬0<l.length):=by omega
 rcases hk with ey|⟨ey,hn0⟩
 case inr=>
  obtain rfl:l=[]:=eq_nil_of_length_eq_zero (by omega);clear h2 hlm gh hlen;refine Qla ?_;refine Qsb ?_
  refine Xn (ι:=Nat) (fun i=>i=0) (fun i=>⟨71,[(1,.ptr 100 0),(55,.d (.sl 10 [])),(56,ai 0),(57,ai i)],[(100,.box [ai kd,ai ts,.d (.sl 10 []),ai k,ai n,Xi name,Xi key,Xi src,Xi dst,ab off])]⟩) (fun i=>0) 0 rfl
   (ZL0) ?_
  rintro i rfl;exact QC
 generalize hG:X1P l=G;refine Qla ?_;refine Qsb ?_
 refine Xn (ι:=Nat) (fun i=>i<=l.length/\X1P (l.drop i)=G) (fun i=>⟨71,[(1,.ptr 100 0),(55,.d (.sl 10 (l.map Xs))),(56,ai (l.map Xs).length),(57,ai i)],[(100,.box [ai kd,ai ts,.d (.sl 10 (l.map Xs)),ai k,ai n,Xi name,Xi key,Xi src,Xi dst,ab off])]⟩) (fun i=>l.length-i) 0 ⟨by omega,hG⟩
  (ZL0) ?_
 rintro i ⟨hi,hg⟩;by_cases hil:i<l.length
 case neg=>
  obtain rfl:i=l.length:=by omega
  rw[drop_length,X1P] at hg;subst hg;rw[NI (by simp)];have hn:¬((l.length:Nat):Int)<(l.map Xs).length:=by omega
  by_cases hb:1000<l.length
  ·rw[PI hb];exact QM
  ·rw[NI hb];exact QC
 have hn:(i:Int)<(l.map Xs).length:=by omega
 obtain⟨x,hx⟩:=Xu (l:=l) hil;have au:(l.map Xs)[i]? =some (Xs x):=XM hx;have jF:=gh x (mem_of_getElem? hx);have aP:=X6k x;rw[Xm2 hx] at hg;generalize YD x=e at*;obtain⟨op,id,iu,iw,fS,⟨xk,xn,xd,xs,xl⟩⟩:=x;simp only[Xz,Xs] at aP au;by_cases he:e=0
 ·subst he;rw[NI (by simp)] at hg;refine UD ?_;exact Qtb
 ·rw[PI he] at hg;subst hg;rw[PI he];refine UD ?_;exact Zr0
theorem XmX:∀{l:List Chg},X1P l=0->∀c∈l,YD c=0
 |[],_,c,hc=>by simp at hc
 |x::r,h,c,hc=>by
  rw[X1P] at h;by_cases hx:YD x=0
  ·rw[NI (by simpa using hx)] at h;rcases mem_cons.1 hc with rfl|hc
   ·exact hx
   ·exact XmX h c hc
  ·rw[PI hx] at h;exact absurd h hx
theorem XcX {r:Rcd} (h:UH r=0):(r.kind=1\/r.kind=2\/r.kind=3)/\(0<=r.ts/\r.ts<=1000000000000000)/\(r.kind≠2->(∀c∈r.changes,YD c=0)/\r.changes.length<=1000)/\(r.kind=2->Uk r.rule=0)/\(r.kind≠1->r.changes=[])/\(r.kind≠2->r.off=false/\X4i r.rule=true):=by
 unfold UH at h;split at h
 ·omega
 rename_i h1;split at h
 ·omega
 rename_i h2;refine⟨by omega,by omega,fun hk=> ?_,fun hk=> ?_,fun hk=> ?_,fun hk=> ?_⟩
 ·rw[NI hk] at h;split at h
  ·omega
  ·rename_i h3;split at h
   ·omega
   ·exact⟨XmX (by simpa using h3),by omega⟩
 ·rwa [PI hk] at h
 ·exact eq_nil_of_length_eq_zero (by omega)
 ·cases ho:r.off<;>cases hz:X4i r.rule<;>simp[ho,hz,hk] at h2 |-
theorem XjD:X0j []=[]:=rfl
theorem Xja {l:List Chg} (h:l[i]? =some x):X0j (l.take (i+1))=X0j (l.take i)++U2 x:=by
 unfold X0j;rw[take_add_one,h];simp
theorem X09 (h:0<=n/\n<=9223372036854775807):(Xl n).length<=10:=by
 rw[X2k h.1];exact X1Y (by omega)
theorem X67 (h:YD c=0):(U2 c).length<=200:=by
 obtain⟨h1,h2,h3,h4,h5⟩:=Xbo h;unfold U2;have p1:=X09 (n:=c.id) (by omega);have p2:(if c.op=6 then Xl c.src++Xl c.dst else []).length<=20:=by
  split
  ·rename_i h6;have q1:=X09 (n:=c.src) (by have:=h3 h6;omega);have q2:=X09 (n:=c.dst) (by have:=h3 h6;omega);rw[LA];omega
  ·simp
 have p3:(if YS c.op=true then Ym c.name else []).length<=30:=by
  split
  ·rename_i h6;exact X23 (h4 h6)
  ·simp
 have p4:(if YL c.op=true then UB c.v else []).length<=111:=by
  split
  ·rename_i h6;unfold UB;rw[PI (h5 h6).1];exact(h5 h6).2
  ·simp
 simp only[LC,LA];omega
theorem Xb0:∀{l:List Chg},(∀c∈l,YD c=0)->(X0j l).length<=200*l.length
 |[],_=>by simp[X0j]
 |x::r,h=>by
  have h1:=X67 (h x (by simp));have h2:=Xb0 (l:=r) fun y hy=>h y (by simp[hy]);unfold X0j at*;simp only[map_cons,flatten_cons,LA,LC];omega
theorem X65 (h:Uk r=0):(VE r).length<=200:=by
 obtain⟨h1,⟨l1,l2,l3,l4⟩,h3⟩:=X7v h;have:=X23 l1;have:=X23 l2;have:=X23 l3;have:=X23 l4;have:=X7o h1;unfold VE;simp only[LC,LA];omega
theorem Xoy (r:Rcd) (hok:X0z r):Con prog 275 [] [Uv r] [] (.d (Xg (X0k r))):=by
 have hc:=Xbz r hok;obtain⟨hlen,gh⟩:=hok;unfold X0k;by_cases h:UH r=0
 case neg=>
  rw[NI h];generalize UH r=e at*;obtain⟨kd,ts,l,⟨k,n,name,key,src,dst⟩,off⟩:=r;simp only[Uv] at*;refine ZC1 func275 ntmps275 fun E=> ?_;exact Qxa
 rw[PI h];rw[h] at hc;obtain⟨fu,hts,h1,h2,h3,h4⟩:=XcX h;clear h;obtain⟨kd,ts,l,⟨k,n,name,key,src,dst⟩,off⟩:=r;simp only at hlen gh fu hts h1 h2 h3 h4;have jR:=X30 ts (by omega);have sX:=X09 (n:=ts) (by omega);have hlm:(l.map Xs).length=l.length:=by simp
 by_cases k3:kd=3
 ·subst k3;obtain rfl:=h3 (by decide);have hput:X11 ⟨3,ts,[],⟨k,n,name,key,src,dst⟩,off⟩=UInt8.ofNat 3::Xl ts:=by unfold X11;simp
  rw[hput];generalize Xl ts=w0 at*;simp only[Uv] at*;refine ZC1 func275 ntmps275 fun E=> ?_;refine Qub ?_;refine Qvb ?_;refine YY ?_;refine Qxb ?_;exact Qyb
 by_cases k2:kd=2
 ·subst k2;obtain rfl:=h3 (by decide);have h2:=h2 rfl;have oO:=Xgy ⟨k,n,name,key,src,dst⟩ h2;have hlr:=X65 h2;have hput:X11 ⟨2,ts,[],⟨k,n,name,key,src,dst⟩,off⟩=UInt8.ofNat 2::(Xl ts++(VE ⟨k,n,name,key,src,dst⟩++[if off then 1 else 0])):=by unfold X11;simp
  rw[hput];generalize Xl ts=w0 at*;generalize VE ⟨k,n,name,key,src,dst⟩=w1 at*;simp only[Uv,Yu] at*;cases off with
  |true=>
   refine ZC1 func275 ntmps275 fun E=> ?_;refine Qzb ?_;refine Qvb ?_;refine Qp ?_;refine Qxb ?_;exact QAb
  |false=>
   refine ZC1 func275 ntmps275 fun E=> ?_;refine Qzb ?_;refine Qvb ?_;refine Qo ?_;refine Qxb ?_;exact QBb
 have k1:kd=1:=by omega
 subst k1;obtain⟨h1,hl⟩:=h1 (by decide);have bf:=X30 (l.length:Nat) (by omega);have bF:=X09 (n:=(l.length:Nat)) (by omega);have hput:X11 ⟨1,ts,l,⟨k,n,name,key,src,dst⟩,off⟩=UInt8.ofNat 1::(Xl ts++Xl (l.length:Nat))++X0j l:=by unfold X11;simp
 rw[hput];clear hput h2 h3 h4 fu k2 k3;rw[<-hlm] at bf;rw[<-hlm] at bF |-;generalize Xl ts=w0 at*;generalize Xl ((l.map Xs).length:Nat)=w1 at*;simp only[Uv] at*;refine ZC1 func275 ntmps275 fun E=> ?_;refine QCb ?_;refine Qvb ?_;refine Yw ?_;refine Z3 (af:=bf) ?_;refine XK ?_;generalize hA:UInt8.ofNat 1::(w0++w1)=A at*;have eD:A.length<=21:=by rw[<-hA];simp only[LC,LA];omega
 refine Xn (ι:=Nat) (fun i=>i<=l.length) (fun i=>⟨55,[(1,.ptr 100 0),(3,.own 130 ((A++X0j (l.take i)).map X5).length),(28,.d (.sl 10 (l.map Xs))),(29,ai (l.map Xs).length),(30,ai i)],[(100,.box [ai 1,ai ts,.d (.sl 10 (l.map Xs)),ai k,ai n,Xi name,Xi key,Xi src,Xi dst,ab off]),(130,.row 1 ((A++X0j (l.take i)).map X5))]⟩) (fun i=>l.length-i) 0 (by omega)
  (by
   rw[take_zero,XjD];subst hA;exact Xb rfl ⟨JL,(by refine AVal.le_of_eq ?_;refine Eq.trans (b:=AVal.own 130 (_+_)) rfl ?_;congr 1;simp only[LA,LM,LC,length_nil,AS,cons_append,nil_append,append_nil]<;>omega),JL,JL,JL,TV⟩ ⟨rfl,(by refine Eq.trans (b:=AObj.row 1 (_++_)) rfl ?_;simp only[map_append,map_cons,map_nil,AS,cons_append,nil_append,append_nil]<;>rfl),TV⟩) ?_
 intro i hi;have hrow:((A++X0j (l.take i)).map X5).length<=300000:=by
  have h6:=Xb0 (l:=l.take i) fun c hc=>h1 c (mem_of_mem_take hc);have h7:(l.take i).length<=1000:=by simp;omega
  simp only[LM,LA];omega
 by_cases hil:i<l.length
 case neg=>
  obtain rfl:i=l.length:=by omega
  rw[take_length] at hrow |-;have hn:¬((l.length:Nat):Int)<(l.map Xs).length:=by omega
  generalize A++X0j l=B at*;refine QDb ?_;exact QEb
 have hn:(i:Int)<(l.map Xs).length:=by omega
 obtain⟨x,hx⟩:=Xu (l:=l) hil;have au:(l.map Xs)[i]? =some (Xs x):=XM hx;have iN:=h1 x (mem_of_getElem? hx);have aP:=XnI x iN;have hxl:=X67 iN;have bO:=Xja hx;generalize U2 x=w at*;obtain⟨op,id,iu,iw,fS,⟨xk,xn,xd,xs,xl⟩⟩:=x;simp only[Xz,Xs] at aP au;generalize hB:A++X0j (l.take i)=B at*;refine U1 ?_;refine⟨i+1,by omega,by omega,?_⟩;dsimp only;rw[bO,<-AS,hB];exact Xb rfl ⟨JL,(by refine AVal.le_of_eq ?_;refine Eq.trans (b:=AVal.own 130 (_+_)) rfl ?_;congr 1;simp only[LA,LM,LC,length_nil,AS,cons_append,nil_append,append_nil]<;>omega),JL,JL,JL,TV⟩ ⟨rfl,(by refine Eq.trans (b:=AObj.row 1 (_++_)) rfl ?_;simp only[map_append,map_cons,map_nil,AS,cons_append,nil_append,append_nil]<;>rfl),TV⟩
open Go
def X5z (b:List UInt8) (g:Int->Val×Int×Int) (x:Val):Prop:=
 ∀front back:List UInt8,front++Yh x++back=b->g front.length=(x,(front.length:Int)+(Yh x).length,0)
theorem Xaj:∀(l r:List Val),U4 (l++r)=U4 l++U4 r
 |[],r=>rfl
 |v::l,r=>by simp only[cons_append,U4,Xaj l r,AS]
theorem XkM {front back:List UInt8} (hb:front++U4 l++back=b) (hg:∀(j:Nat) (x:Val),l[j]? =some x->X5z b (g j) x):
  ∀j,j<=l.length->Ua g front.length j=(l.take j,(front.length:Int)+(U4 (l.take j)).length,0)
 |0,_=>by simp[Ua,U4]
 |j+1,hj=>by
  have ih:=XkM hb hg j (by omega);obtain⟨x,hx⟩:=Xu (l:=l) (k:=j) (by omega);have hsp:l=l.take j++x::l.drop (j+1):=by
   rw[<-(GS.1 hx).2,<-drop_eq_getElem_cons,take_append_drop]
  have hbk:=hg j x hx (front++U4 (l.take j)) (U4 (l.drop (j+1))++back) (by
   rw[<-hb];conv=>rhs;rw[hsp,Xaj,U4]
   simp only[AS])
  rw[X6E (by rw[ih]),ih];simp only;rw[LA,Int.natCast_add] at hbk;rw[hbk];have ht:l.take (j+1)=l.take j++[x]:=by rw[take_add_one,hx];rfl
  rw[ht,Xaj];simp only[U4,append_nil,LA,Int.natCast_add];rw[Int.add_assoc]
theorem XvF (h:0<=k/\k<=8):(((UInt8.ofNat k.toNat).toNat:Nat):Int)=k:=by
 rw[X1k (by omega)];omega
theorem Xjx {m:Nat} (h:Xk m (.mk k n d s l)=true):0<=k/\k<=8:=by
 rw[Xk] at h;by_cases h0:k=0
 ·omega
 by_cases h1:k=1
 ·omega
 by_cases h2:k=2
 ·omega
 by_cases h3:k=3
 ·omega
 by_cases h4:k=4
 ·omega
 by_cases h5:k=5\/k=6
 ·omega
 by_cases h7:k=7
 ·omega
 by_cases h8:k=8
 ·omega
 simp[h0,h1,h2,h3,h4,h5,h7,h8] at h
theorem Xsk {m:Nat} (hv:Xk m (.mk k n d s l)=true) {b front back:List UInt8}{gl gp:Nat->Int->Val×Int×Int}
  (hb:front++Yh (.mk k n d s l)++back=b) (fR:k=8->∀(j:Nat) (x:Val),l[j]? =some x->X5z b (gl j) x) (eN:k=7->∀(j:Nat) (x:Val),l[j]? =some x->X5z b (gp j) x):
  Vz gl gp b ((front.length:Int)+1) k=(.mk k n d s l,(front.length:Int)+(Yh (.mk k n d s l)).length,0):=by
 have hk:=Xjx hv;rw[Yh] at hb |-;have hfl:((front.length:Int)+1)=((front++[UInt8.ofNat k.toNat]).length:Nat):=by simp
 rw[hfl];have hb':∀w,front++UInt8.ofNat k.toNat::w++back=(front++[UInt8.ofNat k.toNat])++w++back:=fun w=>by simp
 rw[hb'] at hb;have hlen:∀w:List UInt8,((front.length:Int)+((UInt8.ofNat k.toNat::w).length:Nat))=(((front++[UInt8.ofNat k.toNat]).length:Nat):Int)+w.length:=fun w=>by simp;omega
 rw[hlen];generalize front++[UInt8.ofNat k.toNat]=F at*;clear hfl hb' hlen;rw[Xk] at hv;unfold Vz;by_cases h1:k=1\/k=2\/k=5\/k=6
 ·rw[PI h1] at hb |-;have hz:d=0/\s=[]/\l=[]/\ -9223372036854775808<=n/\n<=9223372036854775807:=by
   rcases h1 with rfl|rfl|rfl|rfl<;>simp at hv<;>refine⟨hv.1.1.1,hv.1.1.2,hv.1.2,?_⟩<;>omega
  obtain⟨rfl,rfl,rfl,hn⟩:=hz;have:=XaQ hn F back;rw[hb] at this;rw[PI h1,this]
 rw[NI h1] at hb |-;rw[NI h1];by_cases h3:k=3
 ·subst h3;rw[PI rfl] at hb |-;rw[PI rfl];have hz:(s=[]/\l=[])/\(-9223372036854775808<=n/\n<=9223372036854775807)/\ -9223372036854775808<=d/\d<=9223372036854775807:=by simp[X2p] at hv;exact⟨⟨hv.1.1,hv.1.2⟩,by omega,by omega⟩
  obtain⟨⟨rfl,rfl⟩,hn,hd⟩:=hz;have e1:=XaQ hn F (U5 d++back);have e2:=XaQ hd (F++U5 n) back;rw[show F++U5 n++(U5 d++back)=b by rw[<-hb];simp] at e1;rw[show F++U5 n++U5 d++back=b by rw[<-hb];simp,LA,Int.natCast_add] at e2;rw[e1];simp only;rw[NI (by simp),e2];simp only[LA,Int.natCast_add,Int.add_assoc]
 rw[NI h3] at hb |-;rw[NI h3];by_cases h4:k=4
 ·subst h4;rw[PI rfl] at hb |-;rw[PI rfl];have hz:n=0/\d=0/\l=[]/\s.length<=100:=by simp at hv;exact⟨hv.2.1.1,hv.1.1,hv.1.2,hv.2.1.2⟩
  obtain⟨rfl,rfl,rfl,hs⟩:=hz;have:=Xi0 (s:=s) (most:=100) (by omega) (by omega) F back;rw[hb] at this;rw[this]
 rw[NI h4] at hb |-;rw[NI h4];by_cases h7:k=7\/k=8
 ·rw[PI h7] at hb |-;rw[PI h7];have hz:n=0/\d=0/\s=[]/\X2A k l.length=false/\l.length<=64:=by
   rcases h7 with rfl|rfl
   ·simp at hv;exact⟨hv.2.1.1,hv.1.1,hv.1.2,by simp[X2A];omega,by omega⟩
   ·simp at hv;exact⟨hv.2.1.1,hv.1.1,hv.1.2,by simp[X2A];omega,by omega⟩
  obtain⟨rfl,rfl,rfl,hcb,hl⟩:=hz;have e1:=X7b (n:=l.length) ⟨by omega,by omega⟩ F (U4 l++back);rw[show F++Xl l.length++(U4 l++back)=b by rw[<-hb];simp] at e1;rw[e1];simp only;rw[NI (by simp),hcb,NI (by simp),Int.toNat_natCast];have hall:∀(j:Nat) (x:Val),l[j]? =some x->X5z b ((if k=8 then gl else gp) j) x:=by
   intro j x hx;by_cases h8:k=8
   ·rw[PI h8];exact fR h8 j x hx
   ·rw[NI h8];exact eN (by omega) j x hx
  have e2:=XkM (g:=if k=8 then gl else gp) (b:=b) (front:=F++Xl l.length) (back:=back) (l:=l) (by rw[<-hb];simp) hall l.length (Nat.le_refl _);rw[take_length,LA,Int.natCast_add] at e2;rw[e2];simp only[LA,Int.natCast_add,Int.add_assoc]
 rw[NI h7] at hb |-;rw[NI h7];have h0:k=0:=by omega
 subst h0;simp at hv;obtain⟨⟨⟨rfl,rfl⟩,rfl⟩,rfl⟩:=hv;simp
theorem XjU {m:Nat} (hv:Xk m (.mk k n d s l)=true) (hm:m<=8) {want:Int} (hw:want=0\/want=k) {b front back:List UInt8}{gl gp:Nat->Int->Val×Int×Int}
  (hb:front++Yh (.mk k n d s l)++back=b) (fR:k=8->∀(j:Nat) (x:Val),l[j]? =some x->X5z b (gl j) x) (eN:k=7->∀(j:Nat) (x:Val),l[j]? =some x->X5z b (gp j) x):
  X0P gl gp m b front.length want=(.mk k n d s l,(front.length:Int)+(Yh (.mk k n d s l)).length,0):=by
 have hk:=Xjx hv;have hc:=Xsk hv hb fR eN;have sY:=XcY _ m 8 hm hv;have fm:b[front.length]? =some (UInt8.ofNat k.toNat):=by rw[<-hb,Yh];simp
 have hlt:front.length<b.length:=(GS.1 fm).1;have uP:k=8->m≠0:=by
  rintro rfl rfl;have:=(Xli hv).2.1;omega
 unfold X0P;rw[NI (by omega),Int.toNat_natCast,fm,Option.getD_some];simp only;rw[XvF hk,NI (by omega),hc];simp only;rw[NI (fun h=>by rw[sY] at h;exact absurd h.2 (by decide))]
theorem Xq5 {x:Val} (hv:Xk 0 x=true) (hk:x.kind=5+(i%2:Nat)):X5z b (X3L b i) x:=by
 obtain⟨k,n,d,s,l⟩:=x;simp only[Val.kind] at hk;intro front back hb;unfold X3L X7N;exact XjU hv (by omega) (.inr hk.symm) hb (fun h=>by omega) (fun h=>by omega)
theorem Xii:∀{l:List Val}{i j:Nat}{x:Val},X0u i l=true->l[j]? =some x->x.kind=5+((i+j)%2:Nat)/\Xk 0 x=true
 |[],_,_,_,_,h=>by simp at h
 |v::r,i,0,x,hp,h=>by
  rw[X0u,Bool.and_eq_true,Bool.and_eq_true] at hp;simp at h;subst h;exact⟨of_decide_eq_true hp.1.1,hp.1.2⟩
 |v::r,i,j+1,x,hp,h=>by
  rw[X0u,Bool.and_eq_true,Bool.and_eq_true] at hp;have:=Xii hp.2 (j:=j) (x:=x) (by simpa using h)
  rwa [show i+1+j=i+(j+1) by omega] at this
theorem XwI {m:Nat} (h:Xk m (.mk 7 n d s l)=true):X0u 0 l=true:=by
 rw[Xk] at h;simp at h;exact h.2.2
theorem XnF:∀(v:Val) (m:Nat),Xk m v=true->m<=8->X5z b (X2X b m) v
 | .mk k n d s l,m,hv,hm=>by
  intro front back hb;rw[X6q];refine XjU hv hm (.inl rfl) hb (fun h8 j x hx=> ?_) (fun h7 j x hx=> ?_)
  ·subst h8;obtain⟨_,ej,hl⟩:=Xli hv;cases m with
   |zero=>omega
   |succ m'=>exact XnF x m' (XeW hl (mem_of_getElem? hx)) (by omega)
  ·subst h7;have hp:=Xii (XwI hv) hx;rw[Nat.zero_add] at hp;exact Xq5 hp.2 hp.1
termination_by v=>SizeOf.sizeOf v
decreasing_by
 have h1:=sizeOf_lt_of_mem (mem_of_getElem? hx);simp only[Val.mk.sizeOf_spec];omega
theorem Xvo (hv:Xk 8 v=true) (front back:List UInt8):X18 (front++UB v++back) front.length=(v,(front.length:Int)+(UB v).length,0):=by
 rw[show UB v=Yh v by unfold UB;rw[hv];rfl];have h:=XnF (b:=front++Yh v++back) v 8 hv (by omega) front back rfl;unfold X18;rw[NI (by simp;omega),h];rfl
theorem X98 (h:0<=a) (h2:a<=b.length):only b a a []:=⟨h,by omega,h2,by simp⟩
theorem X2L {w1 w2:List UInt8} (h1:only b a m w1) (h2:only b m e w2):only b a e (w1++w2):=by
 obtain⟨k1,k2,k3,k4⟩:=h1;obtain⟨j1,j2,j3,j4⟩:=h2;refine⟨k1,by omega,j3,?_⟩;rw[show (e-a).toNat=(m-a).toNat+(e-m).toNat by omega,take_add,k4,drop_drop,show a.toNat+(m-a).toNat=m.toNat by omega,j4]
theorem Xit {c:UInt8} (h0:0<=a) (h:b[a.toNat]? =some c):only b a (a+1) [c]:=by
 obtain⟨hl,he⟩:=GS.1 h;refine⟨h0,by omega,by omega,?_⟩;rw[show (a+1-a).toNat=1 by omega,drop_eq_getElem_cons hl,he];rfl
def X5J (b:List UInt8) (g:Nat->Int->Val×Int×Int):Prop:=∀(i:Nat) (q:Int) (x:Val) (e:Int),0<=q->q<=b.length->g i q=(x,e,0)->only b q e (Yh x)
theorem XhM (hg:X5J b g) (h0:0<=a) (h1:a<=b.length):∀(j:Nat) (l:List Val) (e:Int),Ua g a j=(l,e,0)->only b a e (U4 l)/\l.length=j
 |0,l,e,h=>by
  simp only[Ua,Prod.mk.injEq] at h;obtain⟨rfl,rfl,_⟩:=h;exact⟨X98 h0 h1,rfl⟩
 |j+1,l,e,h=>by
  by_cases hz:(Ua g a j).2.2=0
  ·rw[X6E hz] at h;have ih:=XhM hg h0 h1 j (Ua g a j).1 (Ua g a j).2.1 (by rw[<-hz]);generalize (Ua g a j).1=l0 at*;generalize (Ua g a j).2.1=q at*;obtain⟨⟨i1,i2⟩,i3⟩:=ih;simp only[Prod.mk.injEq] at h;obtain⟨rfl,rfl,h3⟩:=h;have hx:=hg j q (g j q).1 (g j q).2.1 (by omega) (by omega) (by rw[<-h3]);refine⟨?_,by simp[i3]⟩;rw[Xaj];have:=X2L ⟨i1,i2⟩ hx;simpa [U4] using this
  ·rw[X7X hz (j+1) (by omega)] at h;exact absurd (CG (fun r=>r.2.2) h) hz
theorem Xm8 (c:UInt8):UInt8.ofNat (((c.toNat:Nat):Int)).toNat=c:=by simp
theorem Xvv (fR:X5J b gl) (eN:X5J b gp) (h0:0<=a) (h1:a<=b.length) (h:Vz gl gp b a k=(v,e,0)):
  ∃w,only b a e w/\Yh v=UInt8.ofNat k.toNat::w:=by
 unfold Vz at h;split at h
 ·rename_i hk;simp only[Prod.mk.injEq] at h;obtain⟨rfl,rfl,h3⟩:=h;have:=Xav (b:=b) (a:=a) (n:=(YX b a).1) (e:=(YX b a).2.1) (by rw[<-h3]);exact⟨_,this.1,by rw[Yh,PI hk]⟩
 rename_i ey;split at h
 ·rename_i hk;subst hk;simp only at h;split at h
  ·rename_i h3;simp only[Prod.mk.injEq] at h;exact absurd h.2.2 h3
  rename_i h3;have h3:(YX b a).2.2=0:=by simpa using h3
  simp only[Prod.mk.injEq] at h;obtain⟨rfl,rfl,h4⟩:=h;have e1:=Xav (b:=b) (a:=a) (n:=(YX b a).1) (e:=(YX b a).2.1) (by rw[<-h3]);have e2:=Xav (b:=b) (a:=(YX b a).2.1) (n:=(YX b (YX b a).2.1).1) (e:=(YX b (YX b a).2.1).2.1) (by rw[<-h4]);exact⟨_,X2L e1.1 e2.1,by rw[Yh];simp⟩
 rename_i jo;split at h
 ·rename_i hk;subst hk;simp only[Prod.mk.injEq] at h;obtain⟨rfl,rfl,h3⟩:=h;have:=X7Q (b:=b) (a:=a) (s:=(X0M b a 100).1) (e:=(X0M b a 100).2.1) (most:=100) (by rw[<-h3]);exact⟨_,this.1,by rw[Yh];simp⟩
 rename_i jq;split at h
 ·rename_i hk;simp only at h;split at h
  ·rename_i h3;simp only[Prod.mk.injEq] at h;exact absurd h.2.2 h3
  rename_i h3;split at h
  ·simp at h
  have h3:(XB b a).2.2=0:=by simpa using h3
  have e1:=X4M (b:=b) (a:=a) (n:=(XB b a).1) (e:=(XB b a).2.1) (by rw[<-h3]);simp only[Prod.mk.injEq] at h;obtain⟨rfl,rfl,h4⟩:=h;have hall:X5J b (if k=8 then gl else gp):=by
   split
   ·exact fR
   ·exact eN
  obtain⟨⟨k1,k2,k3,k4⟩,k5,k6,k7⟩:=e1;have e2:=XhM (g:=if k=8 then gl else gp) (b:=b) (a:=(XB b a).2.1) hall (by omega) (by omega) (XB b a).1.toNat _ _ (by rw[<-h4]);refine⟨_,X2L ⟨k1,k2,k3,k4⟩ e2.1,?_⟩;rw[Yh,NI ey,NI jo,NI jq,PI hk,e2.2];rw[show (((XB b a).1.toNat:Nat):Int)=(XB b a).1 by omega]
 rename_i jW;simp only[Prod.mk.injEq] at h;obtain⟨rfl,rfl,_⟩:=h;exact⟨[],X98 h0 h1,by rw[Yh,NI ey,NI jo,NI jq,NI jW]⟩
theorem XdG {m:Nat}{want:Int} (fR:X5J b gl) (eN:X5J b gp) (h0:0<=a) (h1:a<=b.length) (h:X0P gl gp m b a want=(v,e,0)):only b a e (Yh v):=by
 unfold X0P at h;split at h
 ·simp at h
 rename_i h2;obtain⟨c,hc⟩:=Xu (l:=b) (k:=a.toNat) (by omega);rw[hc,Option.getD_some] at h;simp only at h;split at h
 ·simp at h
 split at h
 ·simp at h
 obtain⟨w,hw,hp⟩:=Xvv fR eN (by omega) (by omega) h;rw[hp,Xm8];exact X2L (Xit h0 hc) hw
theorem Xfn:X5J b noG:=fun i q x e _ _ h=>by simp[noG] at h
theorem Xmu:X5J b (X3L b):=fun i q x e h0 h1 h=>by
 unfold X3L X7N at h;exact XdG Xfn Xfn h0 h1 h
theorem Xhh:∀(m:Nat) (a:Int) (v:Val) (e:Int),0<=a->a<=b.length->X2X b m a=(v,e,0)->only b a e (Yh v)
 |0,a,v,e,h0,h1,h=>by
  rw[X6q] at h;exact XdG Xfn Xmu h0 h1 h
 |m+1,a,v,e,h0,h1,h=>by
  rw[X6q] at h;exact XdG (gl:=X9q b (m+1)) (fun i q x e h0 h1 h=>Xhh m q x e h0 h1 h) Xmu h0 h1 h
theorem Xgj (h:X18 b a=(v,e,0)):only b a e (UB v)/\Xk 8 v=true/\(Yh v).length<=b.length:=by
 unfold X18 at h;split at h
 ·simp at h
 simp only at h;split at h
 ·rename_i h2;simp only[Prod.mk.injEq] at h;exact absurd h.2.2 h2
 rename_i h1 h2;have ho:=Xhh 8 a v e (by omega) (by omega) h;have hv:Xk 8 v=true:=by
  have:=Xsi (gl:=X9q b 8) (gp:=X3L b) (m:=8) (b:=b) (a:=a) (want:=0) (by rw[<-X6q,h]);rw[<-X6q,h] at this;exact this
 have hl:(Yh v).length<=b.length:=by
  rw[<-ho.2.2.2];simp;omega
 refine⟨?_,hv,hl⟩;unfold UB;rw[PI hv];exact ho
theorem Xgd {a1:Int} (h0:0<=a) (h:rkI b a 0 limit=(k,a1,0)):only b a a1 [UInt8.ofNat k.toNat]/\a1=a+1/\1<=k/\k<=limit:=by
 unfold rkI rkS at h;rw[NI (by simp),NI (by simp)] at h;split at h
 ·simp at h
 ·rename_i h1;split at h
  ·simp at h
  ·rename_i h2;obtain⟨c,hc⟩:∃c,b[a.toNat]? =some c:=⟨_,getElem?_eq_getElem (by omega)⟩
   rw[hc] at h h2;simp only[Option.getD_some,Prod.mk.injEq] at h h2;obtain⟨rfl,rfl,_⟩:=h;refine⟨?_,by omega,by omega,by omega⟩;rw[Xm8,show((a.toNat:Nat):Int)+1=a+1 by omega];exact Xit h0 hc
theorem X8j:rnS b a 0=XB b a:=NI (by simp)
theorem Xdi:rsS b a 0=X0M b a 20:=NI (by simp)
theorem Xby (h:rnS b a e=(n,m,0)):e=0:=by
 by_cases he:e=0
 ·exact he
 ·rw[Xf9 he] at h;simp at h;exact absurd h.2.2 he
theorem X5y (h:rsS b a e=(s,m,0)):e=0:=by
 by_cases he:e=0
 ·exact he
 ·rw[Xmr he] at h;simp at h;exact absurd h.2.2 he
theorem XmO (h:riS b a e=(n,m,0)):e=0:=by
 by_cases he:e=0
 ·exact he
 ·rw[Xgm he] at h;simp at h;exact absurd h.2.2 he
theorem XtT (h:rvS b a e=(v,m,0)):e=0:=by
 by_cases he:e=0
 ·exact he
 ·rw[XkN he] at h;simp at h;exact absurd h.2.2 he
theorem XuO (h:rkI b a e limit=(k,m,0)):e=0:=by
 by_cases he:e=0
 ·exact he
 ·unfold rkI at h;rw[PI he] at h;simp at h;exact absurd h.2.2 he
theorem XlO (c:UInt8) (w:List UInt8):c::w=[c]++w:=rfl
theorem X7G:UJ zV:=by rw[UJ];exact⟨by simp,by simp,by rw[X3G];trivial⟩
theorem Xle (h0:0<=a) (h:Vu b a 0=(c,at_,0)):only b a at_ (U2 c)/\a<at_/\1<=c.op/\c.op<=8:=by
 unfold Vu at h;simp only at h;generalize hk:rkI b a 0 8=k at h;obtain⟨op,a1,e1⟩:=k;simp only at h;generalize hi:rnS b a1 e1=i at h;obtain⟨id,a2,e2⟩:=i;simp only at h;generalize hf:(if op=6 then rnS b a2 e2 else (0,a2,e2))=f at h;obtain⟨src,a3,e3⟩:=f;simp only at h;generalize ht:(if op=6 then rnS b a3 e3 else (0,a3,e3))=t at h;obtain⟨dst,a4,e4⟩:=t;simp only at h;generalize hs:(if YS op=true then rsS b a4 e4 else ([],a4,e4))=s at h;obtain⟨name,a5,e5⟩:=s;simp only at h;generalize hv:(if YL op=true then rvS b a5 e5 else (zV,a5,e5))=v at h;obtain⟨v,a6,e6⟩:=v;simp only[Prod.mk.injEq] at h;obtain⟨rfl,rfl,rfl⟩:=h;have z5:e5=0:=by
  split at hv
  ·exact XtT hv
  ·simp at hv;exact hv.2.2
 subst z5;have z4:e4=0:=by
  split at hs
  ·exact X5y hs
  ·simp at hs;exact hs.2.2
 subst z4;have z3:e3=0:=by
  split at ht
  ·exact Xby ht
  ·simp at ht;exact ht.2.2
 subst z3;have z2:e2=0:=by
  split at hf
  ·exact Xby hf
  ·simp at hf;exact hf.2.2
 subst z2;have z1:=Xby hi;subst z1;obtain⟨p1,p2,p3,p4⟩:=Xgd h0 hk;rw[X8j] at hi;obtain⟨q1,q2,q3,q4⟩:=X4M hi;have r1:only b a2 a4 (if op=6 then Xl src++Xl dst else [])/\a2<=a4:=by
  by_cases h6:op=6
  ·rw[PI h6] at hf ht |-;rw[X8j] at hf ht;have x1:=X4M hf;have x2:=X4M ht;exact⟨X2L x1.1 x2.1,by omega⟩
  ·rw[NI h6] at hf ht |-;simp at hf ht;obtain⟨_,rfl⟩:=hf;obtain⟨_,rfl⟩:=ht;have:=q1.2.1;exact⟨X98 (by have:=p1.1;omega) q1.2.2.1,by omega⟩
 have r2:only b a4 a5 (if YS op=true then Ym name else [])/\a4<=a5:=by
  by_cases h6:YS op=true
  ·rw[PI h6] at hs |-;rw[Xdi] at hs;have x1:=X7Q hs;exact⟨x1.1,by omega⟩
  ·rw[NI h6] at hs |-;simp at hs;obtain⟨_,rfl⟩:=hs;exact⟨X98 (by have:=r1.1.1;have:=r1.1.2.1;omega) r1.1.2.2.1,by omega⟩
 have r3:only b a5 a6 (if YL op=true then UB v else [])/\a5<=a6:=by
  by_cases h6:YL op=true
  ·rw[PI h6] at hv |-;rw[Xdr] at hv;have x1:=Xgj hv;exact⟨x1.1,x1.1.2.1⟩
  ·rw[NI h6] at hv |-;simp at hv;obtain⟨_,rfl⟩:=hv;exact⟨X98 (by have:=r2.1.1;have:=r2.1.2.1;omega) r2.1.2.2.1,by omega⟩
 refine⟨?_,by omega,p3,p4⟩;unfold U2;simp only;rw[XlO];exact X2L p1 (X2L (X2L (X2L q1 r1.1) r2.1) r3.1)
theorem XvV (b:List UInt8) (a e:Int):(rsS b a e).1.length<=20:=by
 unfold rsS;split
 ·simp
 ·have:=Xwo b a 20 (by omega);omega
theorem XpI (b:List UInt8) (a e:Int):UJ (rvS b a e).1:=by
 unfold rvS;split
 ·exact X7G
 ·by_cases hz:(X18 b a).2.2=0
  ·have:=Xgj (b:=b) (a:=a) (v:=(X18 b a).1) (e:=(X18 b a).2.1) (by rw[<-hz]);exact Xf2 _ _ this.2.1
  ·unfold X18 at hz |-;split
   ·exact X7G
   ·rename_i h1;rw[NI h1] at hz;simp only at hz |-;split
    ·exact X7G
    ·rename_i h2;rw[NI h2] at hz;exact absurd (by simpa using h2) hz
theorem Xue (b:List UInt8) (a e:Int):Xbf (Vu b a e).1:=by
 unfold Vu;constructor
 ·simp only;by_cases h:YS (rkI b a e 8).1=true
  ·simp only[PI h];exact Nat.le_trans (XvV _ _ _) (by omega)
  ·simp only[NI h];simp
 ·simp only;by_cases h:YL (rkI b a e 8).1=true
  ·simp only[PI h];exact XpI _ _ _
  ·simp only[NI h];exact X7G
theorem XkD (h0:0<=a) (h:X0x b a 0=(r,at_,0)):only b a at_ (VE r)/\a<at_:=by
 unfold X0x at h;simp only at h;generalize hk:rkI b a 0 7=k at h;obtain⟨kd,a1,e1⟩:=k;simp only at h;generalize h1:rsS b a1 e1=s at h;obtain⟨s1,a2,e2⟩:=s;simp only at h;generalize h2:rsS b a2 e2=s at h;obtain⟨s2,a3,e3⟩:=s;simp only at h;generalize h3:rsS b a3 e3=s at h;obtain⟨s3,a4,e4⟩:=s;simp only at h;generalize h4:rsS b a4 e4=s at h;obtain⟨s4,a5,e5⟩:=s;simp only at h;generalize h5:riS b a5 e5=s at h;obtain⟨n,a6,e6⟩:=s;simp only[Prod.mk.injEq] at h;obtain⟨rfl,rfl,rfl⟩:=h;obtain rfl:=XmO h5;obtain rfl:=X5y h4;obtain rfl:=X5y h3;obtain rfl:=X5y h2;obtain rfl:=X5y h1;rw[Xdi] at h1 h2 h3 h4;rw[Xe2] at h5;obtain⟨p1,p2,p3,p4⟩:=Xgd h0 hk;have x1:=X7Q h1;have x2:=X7Q h2;have x3:=X7Q h3;have x4:=X7Q h4;have x5:=Xav h5;refine⟨?_,by omega⟩;unfold VE;simp only;rw[XlO];exact X2L p1 (X2L (X2L (X2L (X2L x1.1 x2.1) x3.1) x4.1) x5.1)
end Go.Fw
