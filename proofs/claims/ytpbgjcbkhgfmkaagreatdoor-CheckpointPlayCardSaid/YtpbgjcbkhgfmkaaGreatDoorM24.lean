/- The program's delta.Of from an empty graph; snapshots. -/
import Derived.KernelRfl
import Derived.Test.YtpbgjcbkhgfmkaaGreatDoorM23
set_option maxHeartbeats 64000000
namespace Go.Fw
open Go Go.Proofs Tryz List
set_option maxRecDepth 100000
set_option linter.unusedVariables false
set_option linter.unusedSimpArgs false
abbrev oS2 (xs:List (List D)):List (Nat×AObj):=[(102,.box [.own 130 xs.length]),(130,.row 10 xs)]
variable{g:Gra}{a ep:Int}{b r:List UInt8}{d:ak}{l:List Rcd}{i:Nat}{x y:UInt8}
theorem gvN (v:GV g):∀n∈g.nodes,n.labels.length<=8/\n.props.length<=16/\∀p∈n.props,Ui p.v=true:=fun n hn=>by obtain⟨_,_,h⟩:=v.nodes n hn;exact⟨h.ll,h.pl,h.pv⟩
theorem gvE (v:GV g):∀e∈g.aj,e.props.length<=16/\∀p∈e.props,Ui p.v=true:=fun e he=>by obtain⟨_,_,_,_,_,h⟩:=v.aj e he;exact⟨h.pl,h.pv⟩
theorem Xtz (g:Gra) (v:GV g) (hg:GraHold g):Con prog 164 [] [Y6 UA,Y6 g] [] (.tup [.d (.sl 10 ((X0i g).map Xs)),ai 0]):=by
 refine ZCt func164 ntmps164 fun E=> ?_;have h1:=Xct UA Xc7;have h2:=Xct g hg;rw[Xa9] at h1;rw[(X5Q.2 v:X0n g=0)] at h2;have l1:=v.nl;have l2:=v.el;have hn:=XlF g.nodes (gvN v);have c1:Con prog 237 (oS2 []) [.ptr 102 0,.agg [.d (.sl 3 []),.d (.sl 5 []),ai 1,ai 1],.agg [.d (.sl 3 (g.nodes.map Xm)),.d (.sl 5 (g.aj.map Xr)),ai g.nn,ai g.ne]] (oS2 []) (.tup []):=YK 0 102 (YK 1 130 (Xqg [] (g.nodes.map Xm) (g.aj.map Xr) g.nn g.ne));have c2:Con prog 238 (oS2 []) [.ptr 102 0,.agg [.d (.sl 3 []),.d (.sl 5 []),ai 1,ai 1],.agg [.d (.sl 3 (g.nodes.map Xm)),.d (.sl 5 (g.aj.map Xr)),ai g.nn,ai g.ne]] (oS2 ([]++(X0H g.nodes).map Xs)) (.tup []):=YK 0 102 (YK 1 130 (XnW [] g.nodes (g.aj.map Xr) g.nn g.ne (gvN v) (by omega) (by simp)));have c3:Con prog 239 (oS2 ([]++(X0H g.nodes).map Xs)) [.ptr 102 0,.agg [.d (.sl 3 []),.d (.sl 5 []),ai 1,ai 1],.agg [.d (.sl 3 (g.nodes.map Xm)),.d (.sl 5 (g.aj.map Xr)),ai g.nn,ai g.ne]] (oS2 ([]++(X0H g.nodes).map Xs++(X1r g.aj).map Xs)) (.tup []):=YK 0 102 (YK 1 130 (Xr5 ([]++(X0H g.nodes).map Xs) g.aj (g.nodes.map Xm) g.nn g.ne (gvE v) (by omega) (by rw[nil_append,LM];omega)));have e:(X0i g).map Xs=[]++(X0H g.nodes).map Xs++(X1r g.aj).map Xs:=by unfold X0i;simp
 rw[e];clear e hn l1 l2 v hg;generalize ([]++(X0H g.nodes).map Xs++(X1r g.aj).map Xs)=W2 at*;generalize ([]++(X0H g.nodes).map Xs)=W1 at*;obtain⟨ns,es,nn,ne⟩:=g;simp only[Y6,map_nil] at*;refine XK ?_;refine Z3 (af:=h1) ?_;refine XQ ?_;refine Z3 (af:=h2) ?_;refine XG ?_;refine X8 (X2y 102 0 130 10 (cs:=[aq]) rfl rfl rfl rfl rfl) ?_;refine Yq ?_;refine Quc ?_
 (show AWP prog E _ _ _;refine X2 ?_;exact(show Xa _ _ _ _ _ from⟨_,St.le_refl _,⟨rfl,rfl,TV⟩,X4 _⟩))
theorem X9n {rs:List Rul} (v:GV g) (hr:SchV rs):(Xv g rs).length<=40000000:=by
 have dF:=v.nn;have hne:=v.ne;have hrl:=hr.len;have aK:=Xbj v;have t1:=X09 (n:=(rs.length:Nat)) (by omega);have t2:=X09 (n:=((X0i g).length:Nat)) (by omega);have t3:=X09 (n:=g.nn) (by omega);have t4:=X09 (n:=g.ne) (by omega);have h1:=X2v (w:=VS) (k:=200) (l:=rs) fun x hx=>by
  have h:=hr.ok x hx;rw[show VS x=VE x from PI h];exact X65 h
 have h2:=X2v (w:=VT) (k:=200) (l:=X0i g) fun x hx=>by
  have h:=XcE v x hx;rw[show VT x=U2 x from PI h];exact X67 h
 unfold Xv X5n;simp only[LA];omega
theorem Xfv (s:Sta) (v:GV s.g) (hr:SchV s.rules) (hg:GraHold s.g):Con prog 106 [] [Xy s] [] (.d (Xg (Xv s.g s.rules))):=by
 refine ZC1 func106 ntmps106 fun E=> ?_;have lO:=Xtz s.g v hg;have aK:=Xbj v;have iG:=XcE v;have hnew:=XeX;have dF:=v.nn;have hne:=v.ne;have hrl:=hr.len;have hO:=hr.ok;unfold Xv X5n;generalize hcs:X0i s.g=cs at*;obtain⟨⟨ns,es,nn,ne⟩,rs,ts,ep,tail⟩:=s;simp only[Xy,Y6,map_nil] at*;clear v hr hg hcs;have eW:(rs.map Xh).length=rs.length:=by simp
 have eg:(cs.map Xs).length=cs.length:=by simp
 have gT:=Xez ((rs.map Xh).length:Nat) (by omega);have g9:=X30 ((cs.map Xs).length:Nat) (by omega);have kf:=X30 nn (by omega);have kg:=X30 ne (by omega);have t1:=X09 (n:=((rs.map Xh).length:Nat)) (by omega);have t2:=X09 (n:=((cs.map Xs).length:Nat)) (by omega);have t3:=X09 (n:=nn) (by omega);have t4:=X09 (n:=ne) (by omega);have hrb:∀k,((rs.take k).map VS).flatten.length<=8000:=fun k=>by
  have:=X2v (w:=VS) (k:=200) (l:=rs.take k) fun x hx=>by
   have h:=hO x (mem_of_mem_take hx);rw[show VS x=VE x from PI h];exact X65 h
  have:(rs.take k).length<=rs.length:=by rw[LT];omega
  omega
 have hcb:∀k,((cs.take k).map VT).flatten.length<=30000000:=fun k=>by
  have:=X2v (w:=VT) (k:=200) (l:=cs.take k) fun x hx=>by
   have h:=iG x (mem_of_mem_take hx);rw[show VT x=U2 x from PI h];exact X67 h
  have:(cs.take k).length<=cs.length:=by rw[LT];omega
  omega
 rw[<-eW,<-eg];generalize oW:Xl ((rs.map Xh).length:Nat)=P1 at*;generalize oX:Xl ((cs.map Xs).length:Nat)=P2 at*;generalize Xl nn=P3 at*;generalize Xl ne=P4 at*;obtain⟨A,hA⟩:∃A:Nat->List (List D),∀k,(P1++((rs.take k).map VS).flatten).map X5=A k:=⟨_,fun _=>rfl⟩
 have bP:P1.map X5=A 0:=by rw[<-hA];simp
 have eD:∀k,(A k).length<=8010:=fun k=>by rw[<-hA,LM,LA];have:=hrb k;omega
 have ki:∀k x,rs[k]? =some x->A (k+1)=A k++(VS x).map X5:=fun k x hx=>by rw[<-hA,<-hA];exact XcA hx
 obtain⟨B,hB⟩:∃B:Nat->List (List D),∀k,A rs.length++(P2++((cs.take k).map VT).flatten).map X5=B k:=⟨_,fun _=>rfl⟩
 have gF:A rs.length++P2.map X5=B 0:=by rw[<-hB];simp
 have fB:∀k,(B k).length<=31000000:=fun k=>by rw[<-hB,LA,LM,LA];have:=hcb k;have:=eD rs.length;omega
 have fW:∀k x,cs[k]? =some x->B (k+1)=B k++(VT x).map X5:=fun k x hx=>by rw[<-hB,<-hB,XcA hx,AS]
 have bG:(P1++(rs.map VS).flatten++(P2++(cs.map VT).flatten++(P3++P4))).map X5=B cs.length++P3.map X5++P4.map X5:=by
  rw[<-hB,<-hA,take_length,take_length];simp only[map_append,AS]
 unfold Xg at*;rw[bG];have jt:(P1.map X5).length=P1.length:=LM ..;have qO:(P2.map X5).length<=10:=by rw[LM];exact t2
 have qP:(P3.map X5).length<=10:=by rw[LM];exact t3
 have qQ:(P4.map X5).length<=10:=by rw[LM];exact t4
 have hw1:∀x∈rs,((VS x).map X5).length<=200:=fun x hx=>by
  have h:=hO x hx;rw[LM,show VS x=VE x from PI h];exact X65 h
 have bK:∀x∈cs,((VT x).map X5).length<=200:=fun x hx=>by
  have h:=iG x hx;rw[LM,show VT x=U2 x from PI h];exact X67 h
 rw[<-jt] at gT;rw[bP] at gT;clear hrb hcb bG oW oX hA hB bP t1 t2 t3 t4 hO iG jt;generalize P2.map X5=Q2 at*;generalize P3.map X5=Q3 at*;generalize P4.map X5=Q4 at*;refine XA ?_;refine Z3 (af:=gT) ?_;refine XK ?_
 refine Xn (fun k:Nat=>k<=rs.length) (fun k=>⟨61,[(1,.ptr 100 0),(3,.own 130 (A k).length),(15,.d (.sl 6 (rs.map Xh))),(16,ai (rs.map Xh).length),(17,ai k)],[(100,.box [.d (.sl 3 (ns.map Xm)),.d (.sl 5 (es.map Xr)),ai nn,ai ne,.d (.sl 6 (rs.map Xh)),ai ts,ai ep,ai tail]),(130,.row 1 (A k))]⟩) (fun k=>rs.length-k) 0 (Nat.zero_le _)
  (ZL0) ?_
 intro k hk;have oY:=eD k;by_cases aE:k<rs.length
 case pos=>
  have hn:(k:Int)<(rs.map Xh).length:=by omega
  obtain⟨x,hx⟩:=Xu (l:=rs) aE;have au:(rs.map Xh)[k]? =some (Xh x):=XM hx;have hp:=Xs0 x;have hst:=ki k x hx;have oZ:=hw1 x (mem_of_getElem? hx);unfold Xg at hp;generalize (VS x).map X5=W at*;clear ki eD fW fB gF lO hx hw1 bK hnew g9 kf kg;obtain⟨rk,rn,eY,gG,gH,gI⟩:=x;simp only[Yu,Xh] at au hp;refine YR ?_;refine Z3 (af:=hp) ?_;refine W7_ ?_;refine⟨k+1,aE,by omega,?_⟩;rw[hst];exact Qvc
 obtain rfl:k=rs.length:=by omega
 have hn:¬((rs.length:Nat):Int)<(rs.map Xh).length:=by omega
 clear ki eD hk aE hw1;refine Yq ?_;refine Z3 (af:=g9) ?_;refine W5_ ?_;have hb0:∀S:St,True:=fun _=>trivial;refine W6_ ?_
 refine Xn (fun k:Nat=>k<=cs.length) (fun k=>⟨61,[(1,.ptr 100 0),(3,.own 130 (B k).length),(38,.d (.sl 10 (cs.map Xs))),(39,ai (cs.map Xs).length),(40,ai k)],[(100,.box [.d (.sl 3 (ns.map Xm)),.d (.sl 5 (es.map Xr)),ai nn,ai ne,.d (.sl 6 (rs.map Xh)),ai ts,ai ep,ai tail]),(130,.row 1 (B k))]⟩) (fun k=>cs.length-k) 0 (Nat.zero_le _)
  (by rw[<-gF];exact Xb rfl ⟨JL,AVal.le_of_eq (by refine Eq.trans (b:=AVal.own 130 (_+_)) rfl ?_;simp only[LA,LM,LC,length_nil]),JL,JL,JL,TV⟩ ⟨rfl,rfl,TV⟩) ?_
 clear hn oY gF lO hnew hb0;intro k hk;have hbk:=fB k;by_cases aE:k<cs.length
 case pos=>
  have hn:(k:Int)<(cs.map Xs).length:=by omega
  obtain⟨x,hx⟩:=Xu (l:=cs) aE;have au:(cs.map Xs)[k]? =some (Xs x):=XM hx;have hp:=XwU x;have hst:=fW k x hx;have oZ:=bK x (mem_of_getElem? hx);unfold Xg at hp;generalize (VT x).map X5=W at*;clear fW fB hx bK g9 kf kg;obtain⟨op,id,src,dst,name,⟨vk,vn,vd,vs,vl⟩⟩:=x;simp only[Xz,Xs] at au hp;refine YR ?_;refine Z3 (af:=hp) ?_;refine W7_ ?_;refine⟨k+1,aE,by omega,?_⟩;rw[hst];exact Qvc
 obtain rfl:k=cs.length:=by omega
 have hn:¬((cs.length:Nat):Int)<(cs.map Xs).length:=by omega
 clear fW fB hk aE bK g9;generalize B cs.length=Z at*;refine XQ ?_;refine Z3 (af:=kf) ?_;refine W9_ ?_;refine Z3 (af:=kg) ?_;refine W3_ ?_;refine Qwb ?_;refine X8 (Y7 2 130 rfl rfl (by simp only[LA])) ?_
 (show AWP prog E _ _ _;refine X2 ?_;exact(show Xa _ _ _ _ _ from⟨_,St.le_refl _,⟨rfl,TV⟩,X4 _⟩))
open Go
theorem X8q {α:Type}{l:List α}{x:α} (h:l[i]? =some x):l.take (i+1)=l.take i++[x]:=by
 rw[take_add_one,h];rfl
theorem XkK:∀u v:List UInt8,Yt (u++v)=Yt u++Yt v
 |[],v=>rfl
 |x::u,v=>by rw[cons_append,Yt,Yt,XkK u v,AS]
theorem Xxp (x:UInt8):(X3X x).length<=2:=by unfold X3X;split<;>simp
theorem Xcb:∀l:List UInt8,(Yt l).length<=2*l.length
 |[]=>by simp[Yt]
 |x::l=>by
  have h1:=Xcb l;have h2:=Xxp x;rw[Yt,LA,LC];omega
theorem XnB {l:List UInt8} (h:l[i]? =some x):Yt (l.take (i+1))=Yt (l.take i)++X3X x:=by
 rw[X8q h,XkK,Yt,Yt,append_nil]
theorem Xaq (ep:Int):∀u v:List Rcd,XZ ep (u++v)=XZ ep u++XZ ep v
 |[],v=>rfl
 |x::u,v=>by rw[cons_append,XZ,XZ,Xaq ep u v,AS]
theorem Xik {x:Rcd} (h:l[i]? =some x):XZ ep (l.take (i+1))=XZ ep (l.take i)++VP ep x:=by
 rw[X8q h,Xaq,XZ,XZ,append_nil]
theorem XmE {x:Rcd} (h:l[i]? =some x):V7 (l.drop i)=if UH x≠0 then UH x else V7 (l.drop (i+1)):=by
 obtain⟨hi,rfl⟩:=GS.1 h;rw[drop_eq_getElem_cons hi,V7]
theorem Xa6 (d:ak):∀(n f:Nat),U6 d f (n+1)=U6 d f n++(Yo d ((f+n:Nat):Int)).1
 |0,f=>by simp[U6]
 |n+1,f=>by
  rw[U6,Xa6 d n (f+1),U6,AS];congr 3;rw[show f+1+n=f+(n+1) by omega]
theorem Xfu (bs:List (List UInt8)) (b:List UInt8):∀(d:ak) (a:Nat),Yc d a (bs++[b])=VM (Yc d a bs) (a+bs.length) b:=by
 induction bs with
 |nil=>intro d a;rfl
 |cons x bs ih=>
  intro d a;rw[cons_append,Yc,Yc,ih,LC];congr 1;omega
theorem Xnk (bs:List (List UInt8)) (b:List UInt8):∀(d:ak) (a:Nat),VX d a (bs++[b])=VX d a bs++[VM (Yc d a bs) (a+bs.length) b]:=by
 induction bs with
 |nil=>intro d a;rfl
 |cons x bs ih=>
  intro d a;rw[cons_append,VX,VX,ih,LC,Yc];simp only[cons_append];congr 4;omega
theorem X8g (bs:List (List UInt8)):∀(d:ak) (a:Nat),(VX d a bs).length=bs.length+1:=by
 induction bs with
 |nil=>intro d a;rfl
 |cons x bs ih=>intro d a;rw[VX,LC,ih,LC]
theorem X0m (bs:List (List UInt8)):∀(d:ak) (a:Nat),(Yc d a bs).aa=d.aa/\(Yc d a bs).on=d.on/\(Yc d a bs).pending.length=d.pending.length+bs.length:=by
 induction bs with
 |nil=>intro d a;exact⟨rfl,rfl,rfl⟩
 |cons x bs ih=>
  intro d a;obtain⟨h1,h2,h3⟩:=ih (VM d a x) (a+1);rw[Yc];refine⟨h1,h2,h3.trans ?_⟩;simp only[VM,LA,LC,length_nil];omega
theorem Xn5 (b:List UInt8) (d:ak) (a n:Nat):Yc d a (replicate (n+1) b)=VM (Yc d a (replicate n b)) (a+n) b:=by
 have:replicate (n+1) b=replicate n b++[b]:=by rw[replicate_succ']
 rw[this,Xfu,length_replicate]
theorem X3f:∀(n:Nat) (l:List UInt8),(UN n l).length=n
 |0,_=>rfl
 |n+1,l=>by rw[UN,LC,X3f n]
theorem XaN:∀(n:Nat) (l:List UInt8),64*n<=l.length->∀c∈UN n l,c.length=64
 |0,_,_,c,h=>by simp[UN] at h
 |n+1,l,hl,c,h=>by
  rw[UN,mem_cons] at h;rcases h with rfl|h
  ·rw[LT];omega
  ·exact XaN n (l.drop 64) (by rw[LD];omega) c h
theorem XeS:∀(n:Nat) (l:List UInt8),UN (n+1) l=UN n l++[(l.drop (64*n)).take 64]
 |0,l=>by simp[UN]
 |n+1,l=>by
  rw[UN,XeS n (l.drop 64),UN,cons_append,drop_drop,show 64+64*n=64*(n+1) by omega]
theorem X2c (l:List UInt8):(YC l).length%64=0/\l.length<=(YC l).length/\(YC l).length<l.length+64:=by
 unfold YC;rw[LA,length_replicate];omega
structure DOk (d:ak):Prop where
 v:Ux d=true
 on:d.on=true
theorem DOk.use (h:DOk d):V8 d=0:=by
 unfold V8;rw[PI h.v,PI h.on]
theorem X1U (h:Ux d=true):1<=d.aa.length/\d.aa.length<=4096/\(∀s∈d.aa,s.length=64)/\∀w∈d.pending,0<=w.at_/\w.at_<d.aa.length/\w.b.length=64:=by
 unfold Ux at h;simp only[decide_eq_true_eq] at h;exact⟨h.1,h.2.1,h.2.2.2.1,h.2.2.2.2⟩
theorem X5F {a:Nat} (h:DOk d) (ha:a<d.aa.length) (hb:b.length=64):DOk (VM d a b):=by
 obtain⟨h1,h2,h3,h4⟩:=X1U h.v;refine⟨?_,h.on⟩;unfold Ux VM;simp only[decide_eq_true_eq];refine⟨h1,h2,.inl h.on,h3,fun w hw=> ?_⟩;rw[mem_append,mem_singleton] at hw;rcases hw with hw|rfl
 ·exact h4 w hw
 ·exact⟨by simp,by simpa using ha,hb⟩
theorem X8L {a:Nat} (h:DOk d) (ha:a<d.aa.length) (hb:b.length=64):Vs d (a:Nat) b=(VM d a b,0):=by
 unfold Vs VM;rw[NI (by rw[h.use];simp),PI ⟨by omega,by omega,hb⟩]
theorem X1h (bs:List (List UInt8)):∀(d:ak) (a:Nat),DOk d->a+bs.length<=d.aa.length->(∀c∈bs,c.length=64)->DOk (Yc d a bs):=by
 induction bs with
 |nil=>intro d a h _ _;exact h
 |cons x bs ih=>
  intro d a h hl hc;rw[LC] at hl;rw[Yc];exact ih (VM d a x) (a+1) (X5F h (by omega) (hc x (by simp))) (by show a+1+bs.length<=d.aa.length;omega) fun c q=>hc c (by simp[q])
theorem X2d (h:Ux d=true) (hp:d.pending.length<=4096):Vp d:=by
 obtain⟨h1,h2,h3,h4⟩:=X1U h;exact⟨h2,hp,fun s hs=>by rw[h3 s hs];omega,fun w hw=>by rw[(h4 w hw).2.2];omega⟩
theorem X70 (h:DOk d):Uw d=(⟨V5 d (fun _=>64),[],true⟩,0):=by
 unfold Uw;rw[NI (by rw[h.use];simp),h.on]
theorem X82 {f t tail:Int} (h:Uh d f t ep tail=0):DOk d/\0<=f/\f<t/\t<=d.aa.length/\0<=ep/\ep<=1000000000000000/\0<=tail/\tail<=(t-f)*64:=by
 unfold Uh at h;by_cases c1:Ux d=false
 ·rw[PI c1] at h;simp at h
 rw[NI c1] at h;by_cases c2:d.on=false
 ·rw[PI c2] at h;simp at h
 rw[NI c2] at h;by_cases c3:f<0\/t<=f\/(d.aa.length:Int)<t
 ·rw[PI c3] at h;simp at h
 rw[NI c3] at h;by_cases c4:ep<0\/1000000000000000<ep\/tail<0\/(t-f)*64<tail
 ·rw[PI c4] at h;simp at h
 exact⟨⟨by simpa using c1,by simpa using c2⟩,by omega,by omega,by omega,by omega,by omega,by omega,by omega⟩
theorem XdZ {ag:List Wr}{s:List UInt8} (hs:s.length=64) (hp:∀w∈ag,w.b.length=64):∀n,(Vx ag a s n).length=64
 |0=>hs
 |n+1=>by
  rw[Vx];cases h:ag[n]? with
  |none=>exact XdZ hs hp n
  |some w=>
   simp only;split
   ·exact hp w (mem_of_getElem? h)
   ·exact XdZ hs hp n
theorem X6g (h:DOk d) {a:Nat} (ha:a<d.aa.length):(Yo d (a:Nat)).1.length=64:=by
 obtain⟨h1,h2,h3,h4⟩:=X1U h.v;unfold Yo;rw[NI (by rw[h.use];simp),PI ⟨by omega,by omega⟩];refine XdZ ?_ (fun w hw=>(h4 w hw).2.2) _;rw[Int.toNat_natCast,getElem?_eq_getElem ha];exact h3 _ (getElem_mem ha)
theorem X0Y (h:DOk d):∀(n f:Nat),f+n<=d.aa.length->(U6 d f n).length=64*n
 |0,f,_=>rfl
 |n+1,f,hl=>by
  rw[U6,LA,X6g h (by omega),X0Y h n (f+1) (by omega)];omega
theorem Xb9 (h:x≠1):Vj (x::r)=(Vj r).map (fun l=>x::l):=by
 cases r with
 |nil=>simp[Vj,h]
 |cons y r=>rw[Vj,NI h]
theorem Xi9:Vj [1]=none:=by simp[Vj]
theorem Xcz (h:y=1\/y=2):Vj (1::y::r)=(Vj r).map (fun l=>(y-1)::l):=by
 rw[Vj,PI rfl,PI h]
theorem Xi6 (h:¬(y=1\/y=2)):Vj (1::y::r)=none:=by
 rw[Vj,PI rfl,NI h]
theorem Xcr (h:b[i]? =some x):b.drop i=x::b.drop (i+1):=by
 obtain⟨hi,rfl⟩:=GS.1 h;rw[drop_eq_getElem_cons hi]
theorem Xc2:∀(n:Nat) (b raw:List UInt8),b.length<=n->Vj b=some raw->raw.length<=b.length
 |_,[],raw,_,h=>by simp[Vj] at h;simp[<-h]
 |0,_::_,_,hn,_=>by simp at hn
 |n+1,x::r,raw,hn,h=>by
  rw[LC] at hn |-;by_cases hx:x=1
  ·subst hx;cases r with
   |nil=>rw[Xi9] at h;simp at h
   |cons y r=>
    by_cases hy:y=1\/y=2
    ·rw[Xcz hy] at h;rw[LC] at hn;cases hu:Vj r with
     |none=>rw[hu] at h;simp at h
     |some l=>
      rw[hu] at h;simp only[Option.map_some,Option.some.injEq] at h;subst h;have:=Xc2 n r l (by omega) hu;simp only[LC];omega
    ·rw[Xi6 hy] at h;simp at h
  ·rw[Xb9 hx] at h;cases hu:Vj r with
   |none=>rw[hu] at h;simp at h
   |some l=>
    rw[hu] at h;simp only[Option.map_some,Option.some.injEq] at h;subst h;have:=Xc2 n r l (by omega) hu;simp only[LC];omega
theorem Xpe (h:y=1\/y=2):Value.int .u8 (IntKind.u8.wrap ((y.toNat:Int)-1))=Value.int .u8 ((y-1).toNat:Int):=by
 rcases h with rfl|rfl<;>rfl
theorem Xec:∀b:List UInt8,Vj (Yt b)=some b
 |[]=>by simp[Yt,Vj]
 |x::r=>by
  have ih:=Xec r;rw[Yt];unfold X3X;by_cases h:x.toNat<=1
  ·rw[PI h];have hx:x=0\/x=1:=by
    have:x.toNat=0\/x.toNat=1:=by omega
    rcases this with e|e
    ·left;exact UInt8.toNat_inj.1 e
    ·right;exact UInt8.toNat_inj.1 e
   rw[cons_append,cons_append,nil_append,Xcz (by rcases hx with rfl|rfl<;>decide),ih];rcases hx with rfl|rfl<;>rfl
  ·rw[NI h,cons_append,nil_append,Xb9 (by rintro rfl;exact h (by decide)),ih];rfl
theorem Xl9:∀b:List UInt8,∀x∈Yt b,x≠0
 |[],x,h=>by simp[Yt] at h
 |y::r,x,h=>by
  rw[Yt,mem_append] at h;rcases h with h|h
  ·unfold X3X at h;by_cases q:y.toNat<=1
   ·rw[PI q] at h;simp only[mem_cons,not_mem_nil,or_false] at h;rcases h with rfl|rfl
    ·decide
    ·have:y=0\/y=1:=by
      have:y.toNat=0\/y.toNat=1:=by omega
      rcases this with e|e
      ·left;exact UInt8.toNat_inj.1 e
      ·right;exact UInt8.toNat_inj.1 e
     rcases this with rfl|rfl<;>decide
   ·rw[NI q] at h;simp only[mem_cons,not_mem_nil,or_false] at h;subst h;rintro rfl;exact q (by decide)
  ·exact Xl9 r x h
theorem Xi1 (ep:Int):X0t [] ep=(X53,false):=by
 have h:(cj [] 0).2.2≠0:=by decide
 unfold X0t;simp only[Vj];unfold X5Y;rw[PI (.inl h)]
theorem XnK (h:Vj b=none):X0t b ep=(X53,false):=by unfold X0t;rw[h]
theorem XaY {raw:List UInt8} (h:Vj b=some raw):X0t b ep=X5Y raw ep (cj raw 0):=by unfold X0t;rw[h]
theorem Xbn (b:List UInt8) (a:Int):(cj b a).1.length<=b.length:=by
 unfold cj;simp only;split
 ·simp
 ·split
  ·simp
  ·split
   ·simp
   ·rw[LT,LD];omega
theorem Xx8:(X1o b=false/\Lib.indexByte b 0= -1)\/(X1o b=true/\Lib.indexByte b 0=((Y5 b).length:Nat)):=by
 induction b with
 |nil=>left;exact⟨rfl,rfl⟩
 |cons x r ih=>
  unfold X1o Y5 Lib.indexByte;rw[any_cons,takeWhile_cons];by_cases hx:x=0
  ·subst hx;right;simp
  ·have h1:(x==0)=false:=by simpa using hx
   have h2:(x !=0)=true:=by simpa using hx
   rw[h1,h2,Bool.false_or];rcases ih with ⟨k1,k2⟩|⟨k1,k2⟩
   ·left;rw[k2];exact⟨k1,rfl⟩
   ·right;rw[k2];refine⟨k1,?_⟩;unfold Y5;have:((((takeWhile (fun x=>x !=0) r).length:Nat):Int)== -1)=false:=by
     simp only[beq_eq_false_iff_ne,ne_eq];omega
    rw[this];simp
theorem Xd7 (b:List UInt8):Y5 b=b.take (Y5 b).length:=by
 unfold Y5;induction b with
 |nil=>rfl
 |cons x r ih=>
  rw[takeWhile_cons];by_cases hx:(x !=0)=true
  ·rw[PI hx,LC,take_succ_cons,<-ih]
  ·rw[NI hx];rfl
theorem X88 (h:X1o b=true):(Y5 b).length<b.length:=by
 unfold X1o Y5 at*;induction b with
 |nil=>simp at h
 |cons x r ih=>
  rw[takeWhile_cons];by_cases hx:(x !=0)=true
  ·rw[PI hx,LC,LC];have h1:(x==0)=false:=by simpa using hx
   rw[any_cons,h1,Bool.false_or] at h;have:=ih h;omega
  ·rw[NI hx];simp
def oC (s:Rd):AObj:= .box [.d (Xg s.c),ai (if s.e=0 then s.a else 0),ab (decide (s.e≠0))]
theorem Xuc (h:(XB b a).2.2≠0):(XB b a).2.1=0:=by
 unfold XB at*;simp only at*;split
 ·rfl
 ·split
  ·rfl
  ·split
   ·rfl
   ·rename_i h1 h2 h3;rw[NI h1,NI h2,NI h3] at h;simp at h
theorem Xxl (h:(X1W b a).2.2≠0):(X1W b a).2.1=0:=by
 unfold X1W at*;simp only at*
 (repeat' split at h)<;>(repeat' split)<;>simp_all
theorem Xpi (h:(X1T b a).2.2≠0):(X1T b a).2.1=0:=by
 unfold X1T at*;simp only at*
 (repeat' split at h)<;>(repeat' split)<;>simp_all
theorem X7k (k:Nat) (c:List UInt8) (a e:Int):oC ⟨k,c,a,e⟩= .box [.d (Xg c),ai (if e=0 then a else 0),ab (decide (e≠0))]:=rfl
theorem Xxt (k:Nat) (c:List UInt8) (a:Int):X1X ⟨k,c,a,0⟩=((X1W c a).1,⟨k,c,if (X1W c a).2.2=0 then (X1W c a).2.1 else a,(X1W c a).2.2⟩):=by unfold X1X X1J;rw[NI (by simp)];rfl
theorem XoJ (k:Nat) (c:List UInt8) (a:Int):X2C ⟨k,c,a,0⟩=((X1T c a).1,⟨k,c,if (X1T c a).2.2=0 then (X1T c a).2.1 else a,(X1T c a).2.2⟩):=by unfold X2C X1J;rw[NI (by simp)];rfl
theorem Xhv {k:Nat}{c:List UInt8}{x e:Int} (h:e≠0->x=0):oC ⟨k,c,if e=0 then x else a,e⟩= .box [.d (Xg c),ai x,ab (decide (e≠0))]:=by
 unfold oC;by_cases q:e=0
 ·simp[q]
 ·simp[q,h q]
theorem XuP (c:List UInt8) (a0 a e:Int) (b0:Bool):Con prog 156 [(0,.box [.d (Xg c),ai a0,ab b0])] [.ptr 0 0,ai a,ai e] [(0,.box [.d (Xg c),ai a,ab (b0||decide (e≠0))])] (.tup []):=by
 refine X0I (xs:=[]) func156 rfl ntmps156 rfl rfl rfl (fun E=> ?_);cases b0 with
 |true=>
  refine Yw ?_;exact QQa
 |false=>
  rw[Bool.false_or];refine Yw ?_;exact QQa
theorem Xdx (c:List UInt8) (a0 a e:Int):Con prog 156 [(0,.box [.d (Xg c),ai a0,ab false])] [.ptr 0 0,ai a,ai e] [(0,.box [.d (Xg c),ai a,ab (decide (e≠0))])] (.tup []):=by
 have h:=XuP c a0 a e false;rw[Bool.false_or] at h;exact h
theorem X5C (s:Rd) (hc:s.c.length<=281474976710656):Con prog 153 [(0,oC s)] [.ptr 0 0] [(0,oC (YF s).2)] (ai (YF s).1):=by
 refine ZC1 func153 ntmps153 fun E=> ?_;have hu:=X6r s.c s.a hc;have h0:=Xuc (b:=s.c) (a:=s.a);obtain⟨k,c,a,e⟩:=s;unfold oC;by_cases he:e=0
 case neg=>
  have e1:YF ⟨k,c,a,e⟩=(0,⟨k,c,a,e⟩):=by unfold YF X1J;rw[PI he]
  rw[e1];simp only[NI he,DT he];clear hu h0;refine Yv ?_
  (show AWP prog E _ _ _;refine X2 ?_;exact(show Xa _ _ _ _ _ from⟨_,St.le_refl _,⟨rfl,TV⟩,Xj ⟨rfl,TV⟩⟩))
 subst he;have e1:YF ⟨k,c,a,0⟩=((XB c a).1,⟨k,c,if (XB c a).2.2=0 then (XB c a).2.1 else a,(XB c a).2.2⟩):=by unfold YF X1J;rw[NI (by simp)];rfl
 rw[e1];simp only[if_true,ne_eq,not_true_eq_false,decide_false] at*;generalize XB c a=u at*;obtain⟨u1,u2,u3⟩:=u;simp only at*;have e2:(if u3=0 then (if u3=0 then u2 else a) else 0)=u2:=by
  by_cases q:u3=0
  ·rw[PI q,PI q]
  ·rw[NI q,h0 q]
 rw[e2];have ht:=Xdx c a u2 u3;clear e1 e2 h0;refine Qp ?_
 (show AWP prog E _ _ _;refine X2 ?_;exact(show Xa _ _ _ _ _ from⟨_,St.le_refl _,⟨rfl,TV⟩,Xj ⟨rfl,TV⟩⟩))
theorem XmC (x y:List UInt8) (hx:x.length<=4611686018427387904):Con prog 154 [] [.d (Xg x),.d (Xg y)] [] (ab (decide (x=y))):=by
 refine ZC1 func154 ntmps154 fun E=> ?_;have bw:(x.map X5).length=x.length:=by simp
 have mL:(y.map X5).length=y.length:=by simp
 unfold Xg;by_cases hl:x.length=y.length
 case neg=>
  rw[DF (fun h=>hl (by rw[h]))];have hl':¬((x.map X5).length:Int)=((y.map X5).length:Int):=by omega
  refine Yf ?_
  (show AWP prog E _ _ _;refine X2 ?_;exact(show Xa _ _ _ _ _ from⟨_,St.le_refl _,⟨rfl,TV⟩,X4 _⟩))
 have hl':((x.map X5).length:Int)=((y.map X5).length:Int):=by omega
 generalize hG:decide (x=y)=G;refine UU ?_
 refine Xn (fun i:Nat=>i<=x.length/\(decide (x.drop i=y.drop i)=G)) (fun i=>⟨26,[(0,.d (.sl 1 (x.map X5))),(1,.d (.sl 1 (y.map X5))),(12,ai (x.map X5).length),(13,ai i)],[]⟩) (fun i=>x.length-i) 0 ⟨Nat.zero_le _,by simpa using hG⟩
  (ZL0) ?_
 rintro i ⟨hi,hg⟩;by_cases hil:i<x.length
 case neg=>
  obtain rfl:i=x.length:=by omega
  have hn:¬((x.length:Nat):Int)<(x.map X5).length:=by omega
  rw[drop_length,hl,drop_length,DT rfl] at hg;subst hg;refine XK ?_
  (show AWP prog E _ _ _;refine X2 ?_;exact(show Xa _ _ _ _ _ from⟨_,St.le_refl _,⟨rfl,TV⟩,X4 _⟩))
 have hn:(i:Int)<(x.map X5).length:=by omega
 obtain⟨u,hu⟩:=Xu (l:=x) hil;obtain⟨v,hv⟩:=Xu (l:=y) (k:=i) (by omega);have tg:(x.map X5)[i]? =some (X5 u):=XM hu;have th:(y.map X5)[i]? =some (X5 v):=XM hv;rw[Xcr hu,Xcr hv] at hg;simp only[X5] at tg th;by_cases q:u=v
 ·subst q;rw[show decide (u::x.drop (i+1)=u::y.drop (i+1))=decide (x.drop (i+1)=y.drop (i+1)) from decide_eq_decide.2 (by simp)] at hg;have hq:((u.toNat:Int)=(u.toNat:Int)):=rfl;refine UV ?_;exact Qwc
 ·rw[DF (fun h=>q (cons.inj h).1)] at hg;subst hg;have hq:¬((u.toNat:Int)=(v.toNat:Int)):=fun h=>q (UInt8.toNat_inj.1 (by omega));refine UP ?_
  (show AWP prog E _ _ _;refine X2 ?_;exact(show Xa _ _ _ _ _ from⟨_,St.le_refl _,⟨rfl,TV⟩,X4 _⟩))
theorem Xla (f t:Int) (h1:0<=f) (h2:f<t) (h3:t<=4096):Con prog 145 [] [.agg [ai f,ai t]] [] (ai ((t-f)*64)):=by
 refine ZC1 func145 ntmps145 fun E=> ?_;refine Yx ?_
 (show AWP prog E _ _ _;refine X2 ?_;exact(show Xa _ _ _ _ _ from⟨_,St.le_refl _,⟨rfl,TV⟩,X4 _⟩))
theorem Xid (d:ak) (f t ep tail:Int):Con prog 101 [] [.agg [ai f,ai t],XU d,ai ep,ai tail] [] (ai (Uh d f t ep tail)):=by
 refine ZC1 func101 ntmps101 fun E=> ?_;have hv:=Xa5 d;by_cases q1:Ux d=false
 ·have e:Uh d f t ep tail=1:=by unfold Uh;rw[PI q1]
  rw[e];rw[q1] at hv;obtain⟨secs,ag,on⟩:=d;refine U8 ?_
  (show AWP prog E _ _ _;refine X2 ?_;exact(show Xa _ _ _ _ _ from⟨_,St.le_refl _,⟨rfl,TV⟩,X4 _⟩))
 have dI:Ux d=true:=by simpa using q1
 rw[dI] at hv;have aK:=(X1U dI).2.1;by_cases q2:d.on=false
 ·have e:Uh d f t ep tail=22:=by unfold Uh;rw[NI q1,PI q2]
  rw[e];obtain⟨secs,ag,on⟩:=d;simp only at q2;subst q2;refine YY ?_
  (show AWP prog E _ _ _;refine X2 ?_;exact(show Xa _ _ _ _ _ from⟨_,St.le_refl _,⟨rfl,TV⟩,X4 _⟩))
 have hm:(d.aa.map XV).length=d.aa.length:=by simp
 have e3:f<0\/t<=f\/(d.aa.length:Int)<t->Uh d f t ep tail=1:=fun h=>by unfold Uh;rw[NI q1,NI q2,PI h]
 have e4:¬(f<0\/t<=f\/(d.aa.length:Int)<t)->ep<0\/1000000000000000<ep\/tail<0\/(t-f)*64<tail->Uh d f t ep tail=1:=fun h h'=>by unfold Uh;rw[NI q1,NI q2,NI h,PI h']
 have e5:¬(f<0\/t<=f\/(d.aa.length:Int)<t)->¬(ep<0\/1000000000000000<ep\/tail<0\/(t-f)*64<tail)->Uh d f t ep tail=0:=fun h h'=>by unfold Uh;rw[NI q1,NI q2,NI h,NI h']
 generalize Uh d f t ep tail=r at*;obtain⟨secs,ag,on⟩:=d;obtain rfl:on=true:=by simpa using q2
 simp only at hm aK e3 e4 e5;clear q1 q2 dI;by_cases a1:f<0
 ·obtain rfl:=e3 (.inl a1);clear e3 e4 e5;refine QX ?_
  (show AWP prog E _ _ _;refine X2 ?_;exact(show Xa _ _ _ _ _ from⟨_,St.le_refl _,⟨rfl,TV⟩,X4 _⟩))
 by_cases a2:t<=f
 ·obtain rfl:=e3 (.inr (.inl a2));clear e3 e4 e5;refine QX ?_
  (show AWP prog E _ _ _;refine X2 ?_;exact(show Xa _ _ _ _ _ from⟨_,St.le_refl _,⟨rfl,TV⟩,X4 _⟩))
 by_cases a3:(secs.length:Int)<t
 ·obtain rfl:=e3 (.inr (.inr a3));have p9:((secs.map XV).length:Int)<t:=by omega
  clear e3 e4 e5;refine QX ?_
  (show AWP prog E _ _ _;refine X2 ?_;exact(show Xa _ _ _ _ _ from⟨_,St.le_refl _,⟨rfl,TV⟩,X4 _⟩))
 have p9:¬((secs.map XV).length:Int)<t:=by omega
 have hz:=Xla f t (by omega) (by omega) (by omega);have e4:=e4 (by omega);have e5:=e5 (by omega);clear e3;by_cases b1:ep<0
 ·obtain rfl:=e4 (.inl b1);clear e4 e5;refine QTa ?_
  (show AWP prog E _ _ _;refine X2 ?_;exact(show Xa _ _ _ _ _ from⟨_,St.le_refl _,⟨rfl,TV⟩,X4 _⟩))
 by_cases b2:1000000000000000<ep
 ·obtain rfl:=e4 (.inr (.inl b2));clear e4 e5;refine QTa ?_
  (show AWP prog E _ _ _;refine X2 ?_;exact(show Xa _ _ _ _ _ from⟨_,St.le_refl _,⟨rfl,TV⟩,X4 _⟩))
 by_cases b3:tail<0
 ·obtain rfl:=e4 (.inr (.inr (.inl b3)));clear e4 e5;refine QTa ?_
  (show AWP prog E _ _ _;refine X2 ?_;exact(show Xa _ _ _ _ _ from⟨_,St.le_refl _,⟨rfl,TV⟩,X4 _⟩))
 by_cases b4:(t-f)*64<tail
 ·obtain rfl:=e4 (.inr (.inr (.inr b4)));clear e4 e5;refine QTa ?_
  (show AWP prog E _ _ _;refine X2 ?_;exact(show Xa _ _ _ _ _ from⟨_,St.le_refl _,⟨rfl,TV⟩,X4 _⟩))
 obtain rfl:=e5 (by omega);clear e4 e5;refine X7 ?_;refine UD ?_
 (show AWP prog E _ _ _;refine X2 ?_;exact(show Xa _ _ _ _ _ from⟨_,St.le_refl _,⟨rfl,TV⟩,X4 _⟩))
abbrev VB (d:ak):Prop:=d.aa.length<=2000/\d.pending.length<=2000
theorem XaV (h:Ux d=true) (hf:VB d):Vp d:=X2d h (by have:=hf.2;omega)
theorem XiE (d:ak) (f t:Int) (hd:DOk d) (hf:VB d) (h1:0<=f) (h2:f<=t) (h3:t<=d.aa.length):Con prog 102 [] [.agg [ai f,ai t],XU d] [] (.d (Xg (Y9 d f t))):=by
 refine ZC1 func102 ntmps102 fun E=> ?_;obtain⟨F,rfl⟩:∃F:Nat,f=F:=⟨f.toNat,by omega⟩
 obtain⟨N,rfl⟩:∃N:Nat,t=((F+N:Nat):Int):=⟨(t-F).toNat,by omega⟩
 have hS:Y9 d (F:Nat) ((F+N:Nat):Int)=U6 d F N:=by
  unfold Y9;rw[Int.toNat_natCast,show(((F+N:Nat):Int)-(F:Nat)).toNat=N by omega]
 rw[hS];have hr:=fun a=>XfB d a (XaV hd.v hf);have hlen:=fun i (hi:i<=N)=>X0Y hd i F (by omega);have eU:=Xa6 d;have b7:=fun i (hi:i<N)=>X6g hd (a:=F+i) (by omega);have aK:=hf.1;clear hS hf hd;obtain⟨secs,ag,on⟩:=d;generalize hB:U6 ⟨secs,ag,on⟩ F=B at*;refine Yf ?_;refine X8 (Uu 5 130 1 rfl rfl rfl) ?_
 refine Xn (fun i:Nat=>i<=N) (fun i=>⟨27,[(2,.ptr 100 0),(3,.ptr 101 0),(5,.own 130 ((B i).map X5).length),(6,ai ((F+i:Nat):Int))],[(100,.box [ai (F:Nat),ai ((F+N:Nat):Int)]),(101,.box [.d (XL secs),.d (XS ag),ab on]),(130,.row 1 ((B i).map X5))]⟩) (fun i=>N-i) 0 (Nat.zero_le _)
  (Xb rfl ⟨JL,JL,(by rw[<-hB];exact AVal.le_refl _),JL,TV⟩ ⟨rfl,rfl,(by rw[<-hB];rfl),TV⟩) ?_
 intro i hi;have bu:=hlen i hi;have hroom:((B i).map X5).length<=1000000:=by rw[LM];omega
 by_cases hil:i<N
 case neg=>
  obtain rfl:i=N:=by omega
  have hn:¬((F+i:Nat):Int)<((F+i:Nat):Int):=by omega
  refine Yx ?_;refine Quc ?_
  (show AWP prog E _ _ _;refine X2 ?_;exact(show Xa _ _ _ _ _ from⟨_,St.le_refl _,⟨rfl,TV⟩,X4 _⟩))
 have hn:((F+i:Nat):Int)<((F+N:Nat):Int):=by omega
 have fL:=hr ((F+i:Nat):Int);have hst:B (i+1)=B i++(Yo ⟨secs,ag,on⟩ ((F+i:Nat):Int)).1:=by rw[<-hB];exact eU i F
 have hrl:=b7 i hil;generalize (Yo ⟨secs,ag,on⟩ ((F+i:Nat):Int)).1=R at*;generalize (Yo ⟨secs,ag,on⟩ ((F+i:Nat):Int)).2=R2 at*;have eW:(R.map X5).length<=64:=by rw[LM];omega
 clear hr eU hlen b7 hB;refine X00 ?_;refine⟨i+1,hil,by omega,?_⟩;dsimp only;rw[hst,map_append];exact Xb rfl ⟨JL,JL,AVal.le_of_eq (by refine Eq.trans (b:=AVal.own 130 (_+_)) rfl ?_;simp only[LA,LM]),JL,TV⟩ ⟨rfl,rfl,rfl,TV⟩
theorem X8O:prog.cellsOf 3=1:=by kernel_rfl
theorem XkJ:prog.cellsOf 4=1:=by kernel_rfl
def Yp (r:Rcd):List D:=[.v (.int .i64 r.kind),.v (.int .i64 r.ts),.sl 10 (r.changes.map Xs),.v (.int .i64 r.rule.kind),.v (.int .i64 r.rule.n),.v (.string (X6 r.rule.name)),.v (.string (X6 r.rule.key)),.v (.string (X6 r.rule.src)),.v (.string (X6 r.rule.dst)),.v (.bool r.off)]
end Go.Fw
