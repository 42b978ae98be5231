/- Layout, valid states, usable disks; the program's and the reference's. -/
import Derived.Test.YtfmfekakaeafhaaGreatDoorP36
set_option linter.all false
set_option maxHeartbeats 64000000
namespace Go.Fw
open Go Go.Proofs Tryz List
open List renaming length->J
set_option maxRecDepth 100000
def Xz (s:Sta):AVal:= .agg [.d (.sl 3 (s.g.nodes.map Xi)),.d (.sl 5 (s.g.aj.map Xk)),ai s.g.nn,ai s.g.ne,.d (.sl 6 (s.rules.map Xh)),ai s.ts,ai s.ep,ai s.tail]
def XaS {n:Int} (h:n<16\/4096<n):X0x n=(0,0,false):=PI h
def Xfg {m:Nat} (h1:14<=m) (h2:m<=4094):X0x ((m+2:Nat):Int)=(((m/4:Nat):Int),((2+2*(m/4):Nat):Int),true):=by
 unfold X0x;rw[NI Oa];refine Prod.ext ?_ (Prod.ext ?_ rfl)
 ·show(((m+2:Nat):Int)-2)/4=((m/4:Nat):Int)
  omega
 ·show 2+2*((((m+2:Nat):Int)-2)/4)=((2+2*(m/4):Nat):Int)
  omega
def X39 {d:ak} (h1:16<=J d.aa) (h2:J d.aa<=4096):X0x (J d.aa:Nat)=(((Xx d:Nat):Int),((Xo d:Nat):Int),true):=by
 obtain⟨m,hm⟩:∃m,J d.aa=m+2:=⟨J d.aa-2,Oa⟩
 have e1:Xx d=m/4:=by unfold Xx;rw[hm];rfl
 have e2:Xo d=2+2*(m/4):=by unfold Xo;rw[e1]
 rw[e1,e2,hm];exact Xfg Oa Oa
def X5r (n:Int):Con prog 29 [] [ai n] [] (.tup [ai (X0x n).1,ai (X0x n).2.1,ab (X0x n).2.2]):=by
 refine ZCt func29 ntmps29 fun E=> ?_;by_cases h1:n<16
 ·rw[XaS (.inl h1)];refine Us ?_
  (exact Zz1 rfl ⟨_,ZzS,⟨rfl,rfl,rfl,TV⟩,X5 _⟩)
 exact Yt16
def X6n (n:Int):Con prog 39 [] [ai n] [] (.tup [ai (X0x n).1,ai (X0x n).2.1,ab (X0x n).2.2]):=by
 refine ZCt func39 ntmps39 fun E=> ?_;by_cases h1:n<16
 ·rw[XaS (.inl h1)];refine Us ?_
  (exact Zz1 rfl ⟨_,ZzS,⟨rfl,rfl,rfl,TV⟩,X5 _⟩)
 exact Yt16
structure StaHold (s:Sta):Prop where
 g:GraHold s.g
 rl:J s.rules<=9223372036854775807
def Xbx (s:Sta) (h:StaHold s):Con prog 33 [] [Xz s] [] (ab (YH s)):=by
 refine ZC1 func33 ntmps33 fun E=> ?_;have h1:=XdF s.g h.g;have h2:=Xh8 s.rules h.rl;obtain⟨r,hr⟩:∃r,r=YH s:=⟨_,rfl⟩
 exact Yt3
def Xc0 (s:Sta) (h:StaHold s):Con prog 37 [] [Xz s] [] (ab (YH s)):=by
 refine ZC1 func37 ntmps37 fun E=> ?_;have h1:=Xbh s.g h.g;have h2:=Xes s.rules h.rl;obtain⟨r,hr⟩:∃r,r=YH s:=⟨_,rfl⟩
 exact Yt3
def XgJ (d:ak):Con prog 32 [] [XY d] [] (ai (UH d)):=by
 refine ZC1 func32 ntmps32 fun E=> ?_;have h1:=XaN d;have h2:=X5r (J d.aa:Nat);obtain⟨r,hr⟩:∃r,r=UH d:=⟨_,rfl⟩
 rw[<-hr];unfold UH at hr;generalize X0x (J d.aa:Nat)=L at*;obtain⟨L1,L2,L3⟩:=L;simp only at h2 hr;generalize UF d=v at*;have hm:J (d.aa.map Yd)=J d.aa:=Oc
 obtain⟨secs,af,on⟩:=d;simp only at*;rw[<-hm] at h2;refine XD ?_;refine YQ rfl ?_ ?_<;>intro hq;refine W4_ ?_;(clear h1 h2;(try simp only at*);simp[*] at hr;subst hr;(exact Zz2));refine W7_ ?_;refine YQ rfl ?_ ?_<;>intro hq;refine W4_ ?_;(clear h1 h2;(try simp only at*);simp[*] at hr;subst hr;(exact Zz2));refine Y5 ?_;refine YQ rfl ?_ ?_<;>intro hq;refine W4_ ?_;(clear h1 h2;(try simp only at*);simp[*] at hr;subst hr;(exact Zz2));refine W5_ ?_
 (clear h1 h2;(try simp only at*);simp[*] at hr;subst hr;(exact Zz2))
def Xie (ns:List Nod) (h:∀n∈ns,J n.labels<=8/\J n.props<=16/\∀p∈n.props,U9 p.v=true):J (X0Z ns)<=25*J ns:=by
 unfold X0Z;rw[LA,LM];have:=X2N (w:=dU) (k:=24) (l:=ns) fun x hx=>by
  have:=h x hx;unfold dU X5D Vg;rw[LA,LM,LM];omega
 omega
def Xqh (xs:List (List D)) (ns:List Nod) (C2:List (List D)) (nn ne:Int) (hok:∀n∈ns,J n.labels<=8/\J n.props<=16/\∀p∈n.props,U9 p.v=true) (hl:J ns<=4000) (hx:J xs<=50000):Con prog 210 (oS xs) [.ptr 0 0,.agg [.d (.sl 3 []),.d (.sl 5 []),ai 1,ai 1],.agg [.d (.sl 3 (ns.map Xi)),.d (.sl 5 C2),ai nn,ai ne]] (oS (xs++(X0Z ns).map Xp)) (.tup []):=by
 refine VQ (xs:=[]) func210 rfl ntmps210 rfl rfl rfl (fun E=> ?_);have hlm:J (ns.map Xi)=J ns:=Oc
 obtain⟨X,hX⟩:∃X:Nat->List (List D),∀i,xs++((ns.take i).map gA).map Xp=X i:=⟨_,fun _=>rfl⟩
 have bF:xs=X 0:=IL
 have b7:∀i,J (X i)<=54000:=fun i=>by rw[<-hX,LA,LM,LM,LT];omega
 have bw:∀i x,ns[i]? =some x->X i++[Xp (gA x)]=X (i+1):=fun i x hs=>IJ
 obtain⟨Y,hY⟩:∃Y:Nat->List (List D),∀i,X (J ns)++(((ns.take i).map dU).flatten).map Xp=Y i:=⟨_,fun _=>rfl⟩
 have eZ:X (J ns)=Y 0:=by rw[<-hY];simp
 have mF:xs++(X0Z ns).map Xp=Y (J ns):=by rw[<-hY,<-hX,take_length];unfold X0Z;rw[map_append,AS]
 have ey:∀i,J (Y i)<=54000+24*4000:=fun i=>by
  have h1:=b7 (J ns);have h2:=X2N (w:=dU) (k:=24) (l:=ns.take i) fun x hx=>by
   have:=hok x (mem_of_mem_take hx);unfold dU X5D Vg;rw[LA,LM,LM];omega
  rw[<-hY,LA,LM];have h3:J (ns.take i)<=J ns:=Oz
  omega
 have eu:∀i x,ns[i]? =some x->Y i++(dU x).map Xp=Y (i+1):=fun i x hs=>Ih
 rw[mF];clear hX hY mF hx;rw[bF];clear bF;generalize hC:ns.map Xi=C at*;refine XD ?_
 refine Xl (fun i:Nat=>i<=J ns) (fun i=>⟨85,[(0,.ptr 0 0),(4,.ptr 100 0),(5,.ptr 101 0),(15,.d (.sl 3 C)),(16,ai (J C)),(17,ai i)],[(0,.box [.own 1 (J (X i))]),(1,.row 10 (X i)),(100,.box [.d (.sl 3 []),.d (.sl 5 []),ai 1,ai 1]),(101,.box [.d (.sl 3 C),.d (.sl 5 C2),ai nn,ai ne])]⟩) (fun i=>J ns-i) 0 (Nat.zero_le _)
  (ZL0) ?_
 intro i hi;by_cases hil:i<J ns
 case pos=>
  have hn:(i:Int)<J C:=Oa
  obtain⟨x,hx⟩:=Xn (l:=ns) hil;have au:C[i]? =some (Xi x):=Jf
  have hc:=Xi4 [] 1 1 x.id;simp only[XZ,map_nil] at hc;have ha:=XcV (X i) (gA x) (by have:=b7 i;omega);rw[bw i x hx] at ha;clear bw b7 eu ey eZ hC hok hx;obtain⟨id,labels,props⟩:=x;simp only[Xi,gA,Xu,zV] at au ha hc;refine QS ?_;exact QDd
 obtain rfl:i=J ns:=Oa
 have hn:¬((J ns:Nat):Int)<J C:=Oa
 rw[eZ];clear bw b7 hi hil;refine Ya ?_
 refine Xl (fun i:Nat=>i<=J ns) (fun i=>⟨85,[(0,.ptr 0 0),(4,.ptr 100 0),(5,.ptr 101 0),(37,.d (.sl 3 C)),(38,ai (J C)),(39,ai i)],[(0,.box [.own 1 (J (Y i))]),(1,.row 10 (Y i)),(100,.box [.d (.sl 3 []),.d (.sl 5 []),ai 1,ai 1]),(101,.box [.d (.sl 3 C),.d (.sl 5 C2),ai nn,ai ne])]⟩) (fun i=>J ns-i) 0 (Nat.zero_le _)
  (ZL0) ?_
 clear hn;intro i hi;by_cases hil:i<J ns
 case neg=>
  obtain rfl:i=J ns:=Oa
  have hn:¬((J ns:Nat):Int)<J C:=Oa
  exact QNd
 have hn:(i:Int)<J C:=Oa
 obtain⟨x,hx⟩:=Xn (l:=ns) hil;have au:C[i]? =some (Xi x):=Jf
 have hc:=Xi4 [] 1 1 x.id;simp only[XZ,map_nil] at hc;have qh:=ey i;have mG:=hok x (mem_of_getElem? hx);have bT:=Xdl [] Oc;have cq:=Xdl x.props Oa;have hm0:=Xgb (Y i) 4 x.id (x.labels.map Xf);have fm:=Xgb (Y i) 5 x.id ((x.props.map Prp.key).map Xf);have hm2:=XyU (Y i) 3 x.id x.labels Oa;have qi:=Xj5 (Y i++x.labels.map fun s=>Xp ⟨3,x.id,0,0,s,zV⟩) 5 x.id x.props mG.2.2 (by rw[LA,LM];omega);have hst:=eu i x hx;rw[show (dU x).map Xp=(x.labels.map fun s=>Xp ⟨3,x.id,0,0,s,zV⟩)++(Vg 5 x.id x.props).map Xp by unfold dU X5D;rw[map_append,map_map];rfl,<-AS] at hst;rw[hst] at qi;generalize (Y i++x.labels.map fun s=>Xp ⟨3,x.id,0,0,s,zV⟩)=W at*;simp only[map_nil] at bT;clear eu ey eZ hC hok hx hst qh mG;obtain⟨id,labels,props⟩:=x;simp only[Xi] at*;refine X1B ?_;refine Z5 (ag:=hm0) ?_;refine W8_ ?_;refine Z5 (ag:=bT) ?_;refine W2_ ?_;refine Z5 (ag:=cq) ?_;refine Z5 (ag:=fm) ?_;refine XA ?_;refine Z5 (ag:=hm2) ?_;refine Ya ?_;exact QDd
def Xxf (xs:List (List D)) (es:List Edg) (C2:List (List D)) (nn ne:Int) (hok:∀e∈es,J e.props<=16/\∀p∈e.props,U9 p.v=true) (hl:J es<=4000) (hx:J xs<=50000):Con prog 211 (oS xs) [.ptr 0 0,.agg [.d (.sl 3 []),.d (.sl 5 []),ai 1,ai 1],.agg [.d (.sl 3 C2),.d (.sl 5 (es.map Xk)),ai nn,ai ne]] (oS (xs++(X1J es).map Xp)) (.tup []):=by
 refine VQ (xs:=[]) func211 rfl ntmps211 rfl rfl rfl (fun E=> ?_);have hlm:J (es.map Xk)=J es:=Oc
 obtain⟨X,hX⟩:∃X:Nat->List (List D),∀i,xs++((es.take i).map gB).map Xp=X i:=⟨_,fun _=>rfl⟩
 have bF:xs=X 0:=IL
 have b7:∀i,J (X i)<=54000:=fun i=>by rw[<-hX,LA,LM,LM,LT];omega
 have bw:∀i x,es[i]? =some x->X i++[Xp (gB x)]=X (i+1):=fun i x hs=>IJ
 obtain⟨Y,hY⟩:∃Y:Nat->List (List D),∀i,X (J es)++(((es.take i).map eV).flatten).map Xp=Y i:=⟨_,fun _=>rfl⟩
 have eZ:X (J es)=Y 0:=by rw[<-hY];simp
 have mF:xs++(X1J es).map Xp=Y (J es):=by rw[<-hY,<-hX,take_length];unfold X1J;rw[map_append,AS]
 have ey:∀i,J (Y i)<=54000+16*4000:=fun i=>by
  have h1:=b7 (J es);have h2:=X2N (w:=eV) (k:=16) (l:=es.take i) fun x hx=>by
   have:=hok x (mem_of_mem_take hx);unfold eV Vg;rw[LM];omega
  rw[<-hY,LA,LM];have h3:J (es.take i)<=J es:=Oz
  omega
 have eu:∀i x,es[i]? =some x->Y i++(eV x).map Xp=Y (i+1):=fun i x hs=>Ih
 rw[mF];clear hX hY mF hx;rw[bF];clear bF;generalize hC:es.map Xk=C at*;refine XD ?_
 refine Xl (fun i:Nat=>i<=J es) (fun i=>⟨88,[(0,.ptr 0 0),(4,.ptr 100 0),(5,.ptr 101 0),(15,.d (.sl 5 C)),(16,ai (J C)),(17,ai i)],[(0,.box [.own 1 (J (X i))]),(1,.row 10 (X i)),(100,.box [.d (.sl 3 []),.d (.sl 5 []),ai 1,ai 1]),(101,.box [.d (.sl 3 C2),.d (.sl 5 C),ai nn,ai ne])]⟩) (fun i=>J es-i) 0 (Nat.zero_le _)
  (ZL0) ?_
 intro i hi;by_cases hil:i<J es
 case pos=>
  have hn:(i:Int)<J C:=Oa
  obtain⟨x,hx⟩:=Xn (l:=es) hil;have au:C[i]? =some (Xk x):=Jf
  have hc:=XoR [] 1 1 x.id;simp only[XZ,map_nil] at hc;have ha:=XcV (X i) (gB x) (by have:=b7 i;omega);rw[bw i x hx] at ha;clear bw b7 eu ey eZ hC hok hx;obtain⟨id,src,dst,typ,props⟩:=x;simp only[Xk,gB,Xu,zV] at au ha hc;refine Qab ?_;exact QDd
 obtain rfl:i=J es:=Oa
 have hn:¬((J es:Nat):Int)<J C:=Oa
 rw[eZ];clear bw b7 hi hil;refine Ya ?_
 refine Xl (fun i:Nat=>i<=J es) (fun i=>⟨88,[(0,.ptr 0 0),(4,.ptr 100 0),(5,.ptr 101 0),(48,.d (.sl 5 C)),(49,ai (J C)),(50,ai i)],[(0,.box [.own 1 (J (Y i))]),(1,.row 10 (Y i)),(100,.box [.d (.sl 3 []),.d (.sl 5 []),ai 1,ai 1]),(101,.box [.d (.sl 3 C2),.d (.sl 5 C),ai nn,ai ne])]⟩) (fun i=>J es-i) 0 (Nat.zero_le _)
  (ZL0) ?_
 clear hn;intro i hi;by_cases hil:i<J es
 case neg=>
  obtain rfl:i=J es:=Oa
  have hn:¬((J es:Nat):Int)<J C:=Oa
  exact QNd
 have hn:(i:Int)<J C:=Oa
 obtain⟨x,hx⟩:=Xn (l:=es) hil;have au:C[i]? =some (Xk x):=Jf
 have hc:=XoR [] 1 1 x.id;simp only[XZ,map_nil] at hc;have qh:=ey i;have mG:=hok x (mem_of_getElem? hx);have bT:=Xdl [] Oc;have cq:=Xdl x.props Oa;have fm:=Xgb (Y i) 8 x.id ((x.props.map Prp.key).map Xf);have qi:=Xj5 (Y i) 8 x.id x.props mG.2 Oa;have hst:=eu i x hx;unfold eV at hst;rw[hst] at qi;simp only[map_nil] at bT;clear eu ey eZ hC hok hx hst qh mG;obtain⟨id,src,dst,typ,props⟩:=x;simp only[Xk] at*;refine QU ?_;refine Z5 (ag:=bT) ?_;refine W2_ ?_;refine Z5 (ag:=cq) ?_;refine Yr ?_;exact QDd
def Xs7 (xs:List (List D)) (B1 B2:List (List D)) (nn ne:Int):Con prog 209 (oS xs) [.ptr 0 0,.agg [.d (.sl 3 []),.d (.sl 5 []),ai 1,ai 1],.agg [.d (.sl 3 B1),.d (.sl 5 B2),ai nn,ai ne]] (oS xs) (.tup []):=by
 refine VQ (xs:=[]) func209 rfl ntmps209 rfl rfl rfl (fun E=> ?_);refine XD ?_
 refine Xl (fun _:Unit=>True) (fun _=>⟨63,[(0,.ptr 0 0),(4,.ptr 100 0),(16,ai 0),(17,ai 0)],[(0,.box [.own 1 (J xs)]),(1,.row 10 xs),(100,.box [.d (.sl 3 []),.d (.sl 5 []),ai 1,ai 1])]⟩) (fun _=>0) () trivial
  (ZL0) ?_
 intro _ _;refine Ya ?_
 refine Xl (fun _:Unit=>True) (fun _=>⟨63,[(0,.ptr 0 0),(43,ai 0),(44,ai 0)],oS xs⟩) (fun _=>0) () trivial
  (ZL0) ?_
 intro _ _;exact QNd
abbrev oS2 (xs:List (List D)):List (Nat×AObj):=[(102,.box [.own 130 (J xs)]),(130,.row 10 xs)]
variable{g:Gra}{a:Int}{b:List UInt8}
def gvN (v:GV g):∀n∈g.nodes,J n.labels<=8/\J n.props<=16/\∀p∈n.props,U9 p.v=true:=fun n hn=>by obtain⟨_,_,h⟩:=v.nodes n hn;exact⟨h.ll,h.pl,h.pv⟩
def gvE (v:GV g):∀e∈g.aj,J e.props<=16/\∀p∈e.props,U9 p.v=true:=fun e he=>by obtain⟨_,_,_,_,_,h⟩:=v.aj e he;exact⟨h.pl,h.pv⟩
def XuW (g:Gra) (v:GV g) (hg:GraHold g):Con prog 149 [] [XZ UJ,XZ g] [] (.tup [.d (.sl 10 ((X0v g).map Xp)),ai 0]):=by
 refine ZCt func149 ntmps149 fun E=> ?_;have h1:=XdF UJ Xdk;have h2:=XdF g hg;rw[XbB] at h1;rw[(X6Q.2 v:X0w g=0)] at h2;have l1:=v.nl;have l2:=v.el;have hn:=Xie g.nodes (gvN v);have c1:Con prog 209 (oS2 []) [.ptr 102 0,.agg [.d (.sl 3 []),.d (.sl 5 []),ai 1,ai 1],.agg [.d (.sl 3 (g.nodes.map Xi)),.d (.sl 5 (g.aj.map Xk)),ai g.nn,ai g.ne]] (oS2 []) (.tup []):=YU 0 102 (YU 1 130 (Xs7 [] (g.nodes.map Xi) (g.aj.map Xk) g.nn g.ne));have c2:Con prog 210 (oS2 []) [.ptr 102 0,.agg [.d (.sl 3 []),.d (.sl 5 []),ai 1,ai 1],.agg [.d (.sl 3 (g.nodes.map Xi)),.d (.sl 5 (g.aj.map Xk)),ai g.nn,ai g.ne]] (oS2 ([]++(X0Z g.nodes).map Xp)) (.tup []):=YU 0 102 (YU 1 130 (Xqh [] g.nodes (g.aj.map Xk) g.nn g.ne (gvN v) Oa Oc));have c3:Con prog 211 (oS2 ([]++(X0Z g.nodes).map Xp)) [.ptr 102 0,.agg [.d (.sl 3 []),.d (.sl 5 []),ai 1,ai 1],.agg [.d (.sl 3 (g.nodes.map Xi)),.d (.sl 5 (g.aj.map Xk)),ai g.nn,ai g.ne]] (oS2 ([]++(X0Z g.nodes).map Xp++(X1J g.aj).map Xp)) (.tup []):=YU 0 102 (YU 1 130 (Xxf ([]++(X0Z g.nodes).map Xp) g.aj (g.nodes.map Xi) g.nn g.ne (gvE v) Oa (by rw[nil_append,LM];omega)));have e:(X0v g).map Xp=[]++(X0Z g.nodes).map Xp++(X1J g.aj).map Xp:=by unfold X0v;simp
 rw[e];clear e hn l1 l2 v hg;generalize ([]++(X0Z g.nodes).map Xp++(X1J g.aj).map Xp)=W2 at*;generalize ([]++(X0Z g.nodes).map Xp)=W1 at*;obtain⟨ns,es,nn,ne⟩:=g;simp only[XZ,map_nil] at*;refine XB ?_;refine Z5 (ag:=h1) ?_;refine XK ?_;refine Z5 (ag:=h2) ?_;refine XD ?_;refine X8 (X1Y 102 0 130 10 (cs:=[aq]) rfl rfl rfl rfl rfl) ?_;refine YA ?_;refine QId ?_
 (exact Zz1 rfl ⟨_,ZzS,⟨rfl,rfl,TV⟩,X5 _⟩)
def Xam {rs:List Rul} (v:GV g) (hr:SchV rs):J (XQ g rs)<=40000000:=by
 have dB:=v.nn;have hne:=v.ne;have hrl:=hr.len;have aL:=XbU v;have t1:=X0g (n:=(J rs:Nat)) Oa;have t2:=X0g (n:=(J (X0v g):Nat)) Oa;have t3:=X0g (n:=g.nn) Oa;have t4:=X0g (n:=g.ne) Oa;have h1:=X2N (w:=cu) (k:=200) (l:=rs) fun x hx=>by
  have h:=hr.ok x hx;rw[show cu x=VN x from PI h];exact X5Z h
 have h2:=X2N (w:=cw) (k:=200) (l:=X0v g) fun x hx=>by
  have h:=Xc6 v x hx;rw[show cw x=U3 x from PI h];exact X5X h
 unfold XQ X5e;simp only[LA];omega
def Xh9 (s:Sta) (v:GV s.g) (hr:SchV s.rules) (hg:GraHold s.g):Con prog 88 [] [Xz s] [] (.d (Xc (XQ s.g s.rules))):=by
 refine ZC1 func88 ntmps88 fun E=> ?_;have mH:=XuW s.g v hg;have aL:=XbU v;have jx:=Xc6 v;have hnew:=Xhi;have dB:=v.nn;have hne:=v.ne;have hrl:=hr.len;have jA:=hr.ok;unfold XQ X5e;generalize hcs:X0v s.g=cs at*;obtain⟨⟨ns,es,nn,ne⟩,rs,ts,ep,tail⟩:=s;simp only[Xz,XZ,map_nil] at*;clear v hr hg hcs;have dW:J (rs.map Xh)=J rs:=Oc
 have fk:J (cs.map Xp)=J cs:=Oc
 have iE:=Xgu (J (rs.map Xh):Nat) Oa;have fG:=X3f (J (cs.map Xp):Nat) Oa;have ic:=X3f nn Oa;have kM:=X3f ne Oa;have t1:=X0g (n:=(J (rs.map Xh):Nat)) Oa;have t2:=X0g (n:=(J (cs.map Xp):Nat)) Oa;have t3:=X0g (n:=nn) Oa;have t4:=X0g (n:=ne) Oa;have hrb:∀k,J ((rs.take k).map cu).flatten<=8000:=fun k=>by
  exact Yt39
 have hcb:∀k,J ((cs.take k).map cw).flatten<=30000000:=fun k=>by
  exact Yt40
 rw[<-dW,<-fk];generalize qj:Xq (J (rs.map Xh):Nat)=P1 at*;generalize ql:Xq (J (cs.map Xp):Nat)=P2 at*;generalize Xq nn=P3 at*;generalize Xq ne=P4 at*;obtain⟨A,hA⟩:∃A:Nat->List (List D),∀k,(P1++((rs.take k).map cu).flatten).map X6=A k:=⟨_,fun _=>rfl⟩
 have dh:P1.map X6=A 0:=by rw[<-hA];simp
 have fu:∀k,J (A k)<=8010:=fun k=>by rw[<-hA,LM,LA];have:=hrb k;omega
 have kN:∀k x,rs[k]? =some x->A (k+1)=A k++(cu x).map X6:=fun k x hx=>by rw[<-hA,<-hA];exact Xct hx
 obtain⟨B,hB⟩:∃B:Nat->List (List D),∀k,A (J rs)++(P2++((cs.take k).map cw).flatten).map X6=B k:=⟨_,fun _=>rfl⟩
 have fy:A (J rs)++P2.map X6=B 0:=by rw[<-hB];simp
 have dJ:∀k,J (B k)<=31000000:=fun k=>IA
 have eD:∀k x,cs[k]? =some x->B (k+1)=B k++(cw x).map X6:=fun k x hx=>by rw[<-hB,<-hB,Xct hx,AS]
 have bI:(P1++(rs.map cu).flatten++(P2++(cs.map cw).flatten++(P3++P4))).map X6=B (J cs)++P3.map X6++P4.map X6:=by
  rw[<-hB,<-hA,take_length,take_length];simp only[map_append,AS]
 unfold Xc at*;rw[bI];have jN:J (P1.map X6)=J P1:=LM ..;have rN:J (P2.map X6)<=10:=by rw[LM];exact t2
 have rO:J (P3.map X6)<=10:=Jy
 have rP:J (P4.map X6)<=10:=by rw[LM];exact t4
 have hw1:∀x∈rs,J ((cu x).map X6)<=200:=fun x hx=>by
  have h:=jA x hx;rw[LM,show cu x=VN x from PI h];exact X5Z h
 have cC:∀x∈cs,J ((cw x).map X6)<=200:=fun x hx=>by
  have h:=jx x hx;rw[LM,show cw x=U3 x from PI h];exact X5X h
 rw[<-jN] at iE;rw[dh] at iE;clear hrb hcb bI qj ql hA hB dh t1 t2 t3 t4 jA jx jN;generalize P2.map X6=Q2 at*;generalize P3.map X6=Q3 at*;generalize P4.map X6=Q4 at*;refine XA ?_;refine Z5 (ag:=iE) ?_;refine XB ?_
 refine Xl (fun k:Nat=>k<=J rs) (fun k=>⟨61,[(1,.ptr 100 0),(3,.own 130 (J (A k))),(15,.d (.sl 6 (rs.map Xh))),(16,ai (J (rs.map Xh))),(17,ai k)],[(100,.box [.d (.sl 3 (ns.map Xi)),.d (.sl 5 (es.map Xk)),ai nn,ai ne,.d (.sl 6 (rs.map Xh)),ai ts,ai ep,ai tail]),(130,.row 1 (A k))]⟩) (fun k=>J rs-k) 0 (Nat.zero_le _)
  (ZL0) ?_
 intro k hk;have qm:=fu k;by_cases aG:k<J rs
 case pos=>
  have hn:(k:Int)<J (rs.map Xh):=Oa
  obtain⟨x,hx⟩:=Xn (l:=rs) aG;have au:(rs.map Xh)[k]? =some (Xh x):=XC hx;have hp:=Xx3 x;have hst:=kN k x hx;have qn:=hw1 x (mem_of_getElem? hx);unfold Xc at hp;generalize (cu x).map X6=W at*;clear kN fu eD dJ fy mH hx hw1 cC hnew fG ic kM;obtain⟨rk,rn,dX,g8,g9,ga⟩:=x;simp only[Yu,Xh] at au hp;refine YS ?_;refine Z5 (ag:=hp) ?_;refine W7_ ?_;refine⟨k+1,aG,Oa,?_⟩;rw[hst];exact Qhe
 obtain rfl:k=J rs:=Oa
 have hn:¬((J rs:Nat):Int)<J (rs.map Xh):=Oa
 clear kN fu hk aG hw1;refine YA ?_;refine Z5 (ag:=fG) ?_;refine W5_ ?_;have hb0:∀S:St,True:=fun _=>trivial;refine W6_ ?_
 refine Xl (fun k:Nat=>k<=J cs) (fun k=>⟨61,[(1,.ptr 100 0),(3,.own 130 (J (B k))),(38,.d (.sl 10 (cs.map Xp))),(39,ai (J (cs.map Xp))),(40,ai k)],[(100,.box [.d (.sl 3 (ns.map Xi)),.d (.sl 5 (es.map Xk)),ai nn,ai ne,.d (.sl 6 (rs.map Xh)),ai ts,ai ep,ai tail]),(130,.row 1 (B k))]⟩) (fun k=>J cs-k) 0 (Nat.zero_le _)
  (by rw[<-fy];exact X9 rfl ⟨JL,ZzQ Ol,JL,JL,JL,TV⟩ ⟨rfl,rfl,TV⟩) ?_
 clear hn qm fy mH hnew hb0;intro k hk;have hbk:=dJ k;by_cases aG:k<J cs
 case pos=>
  have hn:(k:Int)<J (cs.map Xp):=Oa
  obtain⟨x,hx⟩:=Xn (l:=cs) aG;have au:(cs.map Xp)[k]? =some (Xp x):=XC hx;have hp:=XqT x;have hst:=eD k x hx;have qn:=cC x (mem_of_getElem? hx);unfold Xc at hp;generalize (cw x).map X6=W at*;clear eD dJ hx cC fG ic kM;obtain⟨op,id,src,dst,name,⟨vk,vn,vd,vs,vl⟩⟩:=x;simp only[Xu,Xp] at au hp;refine YS ?_;refine Z5 (ag:=hp) ?_;refine W7_ ?_;refine⟨k+1,aG,Oa,?_⟩;rw[hst];exact Qhe
 obtain rfl:k=J cs:=Oa
 have hn:¬((J cs:Nat):Int)<J (cs.map Xp):=Oa
 clear eD dJ hk aG cC fG;generalize B (J cs)=Z at*;refine XK ?_;refine Z5 (ag:=ic) ?_;refine W9_ ?_;refine Z5 (ag:=kM) ?_;refine W3_ ?_;refine Qdc ?_;refine X8 (XX 2 130 rfl rfl Jt) ?_
 (exact Zz2)
def XrE (p:Rul):J (Xh p)=6:=rfl
def Xk8 (ps:List Rul):∀x∈ps.map Xh,J x=6:=fun x hx=>by obtain⟨p,_,rfl⟩:=mem_map.1 hx;exact XrE p
def Xkr {a b:Rul} (h:ltR a b=true):V3 a b<0:=by unfold ltR at h;simpa using h
def XlI {a b:Rul} (h:¬ltR a b=true):¬V3 a b<0:=by unfold ltR at h;simpa using h
theorem Xer {a b:Rul}:decide (V3 a b=0)=decide (a=b):=decide_eq_decide.2 ⟨XbI,fun e=>by rw[e];exact XaC.refl _⟩
def Xx7 (xs:List (List D)) (i:Nat) (v:List D) (hz:∀x∈xs,J x=6) (hv:J v=6) (hi:i<=J xs) (hx:J xs<=5000):
  Con prog 182 [(1,.row 6 xs)] [.own 1 (J xs),ai (i:Nat),.d (.sl 6 [v])] [(1,.dead),(110,.row 6 (xs.take i++v::xs.drop i))] (.own 110 (J xs+1)):=by
 refine ZC1 func182 ntmps182 fun E=> ?_;have mc:=func239;by_cases hin:i=J xs
 case pos=>
  exact Yt11
 exact Yt0
def XvH (xs:List (List D)) (i:Nat) (hz:∀x∈xs,J x=6) (hi:i<J xs) (hx:J xs<=5000):
  Con prog 181 [(1,.row 6 xs)] [.own 1 (J xs),ai (i:Nat),ai ((i+1:Nat):Int)] [(1,.dead),(110,.row 6 (xs.take i++xs.drop (i+1)))] (.own 110 (J xs-1)):=by
 refine ZC1 func181 ntmps181 fun E=> ?_;refine X3J 0 1 120 rfl Oa rfl rfl rfl rfl (fun c k aO bC bZ _=> ?_);have hT:J (replicate k (none:Option D))=k:=length_replicate;generalize replicate k (none:Option D)=T at*;have hlen:=X55 hz hT;have s0:=X51 hz c;obtain⟨off,ho⟩:∃off,(if c=i+1 then 0 else 0+(i+1)*6)=off:=⟨_,rfl⟩
 have s5:=X2y hz (c:=c) (i:=J xs-1) Oa;have e3:=X9D (T:=T) hi aO ho hz;obtain⟨A,e1,lA,e4⟩:=X9B (T:=T) hz hi aO ho;have cA:=X9f (T:=T) hz hi aO ho;have dO:=XaT hi;have hok:=X9P (i:=i) hz;refine QDb ?_;refine QHb ?_;refine QEb ?_;(refine Zh (n':=J xs-1) (cs':=A) ?_ (hc:= ?aO) (hcs:= ?cM);(case aO=>exact cA);(case cM=>exact e1));refine QFb ?_;refine Zd (lb:=J xs-1) (hb:=J xs) (m:=1) (c':=c-(J xs-1)) (o':=(J xs-1)*6) ?_ (ho':=by exact s5)
 (refine XaO (cs':=A.take ((J xs-1)*6)++(replicate (1*6) none++A.drop ((J xs-1)*6+1*6))) (sz:=6) (hg:=JSa) (hx:=JSb) (hL:=JSb) (hn:=JSh) (hb:=JSh) (hB:=JSc) (hT:=JSb) ?_ (hcs:= ?aM);(case aM=>exact AS _ _ _))
 exact Yt14
def XbT (γ:Nat) (xs:List (List D)) (hl:J xs<=100000):Con prog 93 [] [.d (.sl 6 xs)] [(swp 100 γ 100,.row 6 xs)] (.own (swp 100 γ 100) (J xs)):=by
 have h:Con prog 93 [] [.d (.sl 6 xs)] [(100,.row 6 xs)] (.own 100 (J xs)):=by
  refine ZC1 func93 ntmps93 fun E=> ?_;refine XA ?_;refine X6i rfl (fun h=> ?_) (fun _=> ?_)
  ·subst h;refine W4_ ?_;refine X3 ?_;exact⟨_,Uo 2 100 6 rfl rfl rfl,⟨rfl,TV⟩,Xm ⟨rfl,TV⟩⟩
  ·refine W8_ ?_;refine X3 ?_;refine⟨_,ZzS,⟨?_,TV⟩,Xm ⟨rfl,TV⟩⟩;simp only[X5s];simp[St.get,St.set,St.own,Xs]
 exact YU 100 γ h
def Xo5 (l:List Rul) (n:Rul) (hl:J l<=4294967296) (hr:YP ltR YW l):Con prog 180 [] [.d (.sl 6 (l.map Xh)),.agg [ai n.kind,ai n.n,.d (.v (.string (X7 n.name))),.d (.v (.string (X7 n.key))),.d (.v (.string (X7 n.src))),.d (.v (.string (X7 n.dst)))],.fn 107 []] [] (.tup [ai (Xr ltR YW l n),ab (XF YW l n)]):=by
 refine ZCt func180 ntmps180 fun E=> ?_;have hlm:J (l.map Xh)=J l:=Oc
 refine YV ?_
 refine Xl (ι:=Nat×Nat) (Sr ltR YW l n) (fun q=>⟨49,[(0,.d (.sl 6 (l.map Xh))),(2,.fn 107 []),(8,ai (J (l.map Xh))),(4,.ptr 100 0),(9,ai q.1),(10,ai q.2)],[(100,.box [ai n.kind,ai n.n,.d (.v (.string (X7 n.name))),.d (.v (.string (X7 n.key))),.d (.v (.string (X7 n.src))),.d (.v (.string (X7 n.dst)))])]⟩) (fun q=>q.2-q.1) (0,J l)
  X9n
  (X9 rfl ⟨JL,JL,JL,JL,JL,ZzQ Ib,TV⟩ ⟨rfl,TV⟩) ?_
 rintro⟨i,j⟩ hS;have h1:i<=j:=hS.1;have h2:j<=J l:=hS.2.1;by_cases hij:i<j
 case neg=>
  obtain rfl:i=j:=Oa
  have aS:=Xa6 h2 hS.2.2.1 (fun x hx=>hS.2.2.2 i x (Nat.le_refl _) hx);have bG:=X1f (k:=n) X6k hr;rw[aS] at bG;rw[aS,bG];have eO:¬(i:Int)<(i:Nat):=Oa
  by_cases hil:i<J l
  ·have eU:(i:Int)<J (l.map Xh):=by omega
   obtain⟨x,hx⟩:=Xn (l:=l) hil;have au:(l.map Xh)[i]? =some (Xh x):=XC hx;have hc:=Xeg x n;have hd:decide (∃y,l[i]? =some y/\YW y=n)=decide (V3 x n=0):=by rw[Xer,hx];simp
   rw[hd];generalize V3 x n=c at*;clear bG aS hd hx hS hr;obtain⟨xk,xn,cK,gF,dZ,e7⟩:=x;simp only[Xh,Yu,X6O] at hc au;refine Qhc ?_
   first|exact X3 ⟨_,ZzS,⟨rfl,rfl,TV⟩,X5 _⟩|exact X3 ⟨_,ZzS,⟨⟨rfl,rfl,TV⟩,TV⟩,X5 _⟩
  ·have eU:¬(i:Int)<J (l.map Xh):=by omega
   exact Yt15
 have eO:(i:Int)<(j:Nat):=Oa
 obtain⟨x,hx⟩:=Xn (l:=l) (k:=(i+j)/2) Oa;have au:(l.map Xh)[(i+j)/2]? =some (Xh x):=XC hx;have hc:=Xeg x n;have e2:n64 ((i+j)/2^1)=n64 ((i+j)/2):=rfl;by_cases hlt:ltR (YW x) n=true
 ·have hinv:=X9C X6k.tr hr hS hij hx hlt;have hlo:=Xkr hlt;generalize V3 x n=c at*;clear hlt hr hS hx;obtain⟨xk,xn,cK,gF,dZ,e7⟩:=x;simp only[Xh,Yu,X6O] at hc au;refine Qic ?_;(refine Z1 (u:=ni (i+j)) (r:=n64 (i+j)) ?_ (hr:=Om));refine Qjc ?_;(refine Z1 (u:=n64 ((i+j)/2)) (r:=ni ((i+j)/2)) ?_ (hr:=Ok));exact QJc
 ·have hinv:=XaP X6k.tr hr hS hij hx hlt;have hge:=XlI hlt;clear hlt hr hS hx;generalize V3 x n=c at*;obtain⟨xk,xn,cK,gF,dZ,e7⟩:=x;simp only[Xh,Yu,X6O] at hc au;refine Qic ?_;(refine Z1 (u:=ni (i+j)) (r:=n64 (i+j)) ?_ (hr:=Om));refine Qjc ?_;(refine Z1 (u:=n64 ((i+j)/2)) (r:=ni ((i+j)/2)) ?_ (hr:=Ok));exact QKc
def XrF (l:List Rul) (r:Rul) (hl:J l<=9223372036854775807):Con prog 111 [] [.d (.sl 6 (l.map Xh)),Yu r] [] (.tup [.d (.sl 6 ((VG l r).1.map Xh)),ai (VG l r).2]):=by
 refine ZCt func111 ntmps111 fun E=> ?_;have hv:=Xh8 l hl;have hc:=X8i r;have hlm:J (l.map Xh)=J l:=Oc
 by_cases q1:X1F l=true
 case neg=>
  exact Yt61
 rw[q1] at hv;by_cases q2:Uu r=0
 case neg=>
  have e:VG l r=([],Uu r):=by unfold VG;rw[NI OS,PI q2]
  exact Yt32
 rw[q2] at hc;have hS:=X7J.1 q1;have hlen:=hS.len;have hs:=Xo5 l r Oa hS.st;have hb:=X1f (k:=r) X6k hS.st;have hle:=X6A (lt:=ltR) (key:=YW) l r;by_cases q3:XF YW l r=true
 ·have e:VG l r=([],7):=by unfold VG;rw[NI OS,NI Il,PI q3]
  rw[e];rw[q3] at hs;generalize Xr ltR YW l r=i at*;clear hb;obtain⟨k,n,name,key,src,dst⟩:=r;simp only[Yu] at*;refine Qxa ?_;exact Qie
 by_cases q4:J l=40
 ·have e:VG l r=([],20):=by unfold VG;rw[NI OS,NI Il,NI q3,PI q4]
  rw[e];rw[show XF YW l r=false by simpa using q3] at hs;have nS:(J (l.map Xh):Int)=40:=Oa
  generalize Xr ltR YW l r=i at*;clear hb;obtain⟨k,n,name,key,src,dst⟩:=r;simp only[Yu] at*;refine X4 ?_;refine YV ?_;exact Qie
 have e:VG l r=(l.take (Xr ltR YW l r)++[r]++l.drop (Xr ltR YW l r),0):=by unfold VG;rw[NI OS,NI Il,NI q3,NI q4,X5u (by simpa using q3)]
 rw[e];rw[show XF YW l r=false by simpa using q3] at hs;have nS:¬(J (l.map Xh):Int)=40:=Oa
 have hi:=YU 1 140 (Xx7 (l.map Xh) (Xr ltR YW l r) (Xh r) (Xk8 l) rfl Oa Oa);have eg:=XbT 140 (l.map Xh) Oa;simp only[map_append,map_take,map_drop,map_cons,map_nil,AS,singleton_append];clear hb e hS q1 q2 q3;generalize Xr ltR YW l r=i at*;obtain⟨k,n,name,key,src,dst⟩:=r;simp only[Yu,Xh] at*;generalize l.map Xh=xs at*;refine X4 ?_;refine Us ?_;refine Z5 (ag:=hi) ?_;refine W3_ ?_;refine X8 (XI 110 rfl) ?_;refine X8 (XX 4 110 rfl rfl (by simp only[LA,LC,LT,LD];omega)) ?_
 (exact Zz1 rfl ⟨_,ZzS,⟨rfl,rfl,TV⟩,X5 _⟩)
def Xtq (l:List Rul) (r:Rul) (hl:J l<=9223372036854775807):Con prog 110 [] [.d (.sl 6 (l.map Xh)),Yu r] [] (.tup [.d (.sl 6 ((X0a l r).1.map Xh)),ai (X0a l r).2]):=by
 refine ZCt func110 ntmps110 fun E=> ?_;have hv:=Xh8 l hl;have hc:=X8i r;have hlm:J (l.map Xh)=J l:=Oc
 by_cases q1:X1F l=true
 case neg=>
  exact Yt60
 rw[q1] at hv;by_cases q2:Uu r=0
 case neg=>
  have e:X0a l r=([],Uu r):=by unfold X0a;rw[NI OS,PI q2]
  exact Yt32
 rw[q2] at hc;have hS:=X7J.1 q1;have hlen:=hS.len;have hs:=Xo5 l r Oa hS.st;have hb:=X1f (k:=r) X6k hS.st;have hle:=X6A (lt:=ltR) (key:=YW) l r;by_cases q3:XF YW l r=true
 case neg=>
  have e:X0a l r=([],23):=by unfold X0a;rw[NI OS,NI Il,PI (by simpa using q3)]
  rw[e];rw[show XF YW l r=false by simpa using q3] at hs;generalize Xr ltR YW l r=i at*;clear hb;obtain⟨k,n,name,key,src,dst⟩:=r;simp only[Yu] at*;refine QU ?_;exact Qie
 rw[q3] at hs hb;obtain⟨x,hx,hk⟩:=decide_eq_true_iff.1 hb.symm;have hi:Xr ltR YW l r<J l:=(GS.1 hx).1;have e:X0a l r=(l.take (Xr ltR YW l r)++l.drop (Xr ltR YW l r+1),0):=by unfold X0a;rw[NI OS,NI Il,NI Im,Xdz X6k hS.st hx hk]
 rw[e];have hd:=YU 1 140 (XvH (l.map Xh) (Xr ltR YW l r) (Xk8 l) Oa Oa);have eg:=XbT 140 (l.map Xh) Oa;simp only[map_append,map_take,map_drop];clear hb e hS q1 q2 q3 hx hk;generalize Xr ltR YW l r=i at*;obtain⟨k,n,name,key,src,dst⟩:=r;simp only[Yu] at*;generalize l.map Xh=xs at*;refine QZ ?_;refine QZc ?_;refine Z5 (ag:=hd) ?_;refine W3_ ?_;refine X8 (XI 110 rfl) ?_;refine X8 (XX 4 110 rfl rfl (by simp only[LA,LT,LD];omega)) ?_
 (exact Zz1 rfl ⟨_,ZzS,⟨rfl,rfl,TV⟩,X5 _⟩)
theorem Xw1 (l:List Nod):((l.map cNN).map fun x=>x.map NC.toD)=l.map Xi:=I2
theorem XuO (l:List Edg):((l.map cNE).map fun x=>x.map NC.toD)=l.map Xk:=I2
def XpE (l:List Nod):∀x∈l.map cNN,J x=3:=fun x hx=>by obtain⟨p,_,rfl⟩:=mem_map.1 hx;rfl
def XxN (l:List Edg):∀x∈l.map cNE,J x=5:=fun x hx=>by obtain⟨p,_,rfl⟩:=mem_map.1 hx;rfl
abbrev X8S (g:Gra) (a b:Nat):AObj:= .box [.own a (J g.nodes),.own b (J g.aj),ai g.nn,ai g.ne]
abbrev X8g (g:Gra):AObj:= .nest 3 (g.nodes.map cNN)
abbrev X87 (g:Gra):AObj:= .nest 5 (g.aj.map cNE)
def Xwc (g:Gra) (c:Chg) (hg:GV g) (ho:c.op<=5) (h:(YR g c).2=0):Con prog 179 [(102,X8S g 110 111),(110,X8g g),(111,X87 g)] [.ptr 102 0,Xu c] [(102,X8S (YR g c).1 120 111),(110,.dead),(111,X87 (YR g c).1),(120,X8g (YR g c).1)] (ai 0):=by
 have k:=YU 0 102 (YU 4 111 (YU 3 110 (YU 110 120 (Xqe g c hg ho h))));obtain⟨op,id,src,dst,name,⟨vk,vn,vd,vs,vl⟩⟩:=c;exact k
def Xun (g:Gra) (c:Chg) (hg:GV g) (ho:¬c.op<=5) (h:(YR g c).2=0):Con prog 179 [(102,X8S g 110 111),(110,X8g g),(111,X87 g)] [.ptr 102 0,Xu c] [(102,X8S (YR g c).1 110 120),(110,X8g (YR g c).1),(111,.dead),(120,X87 (YR g c).1)] (ai 0):=by
 have k:=YU 0 102 (YU 4 111 (YU 3 110 (YU 110 120 (Xws g c hg ho h))));obtain⟨op,id,src,dst,name,⟨vk,vn,vd,vs,vl⟩⟩:=c;exact k
def Xwb (g:Gra) (c:Chg) (hg:GV g) (h:(YR g c).2≠0):Con prog 179 [(102,X8S g 110 111),(110,X8g g),(111,X87 g)] [.ptr 102 0,Xu c] [(102,.dead),(110,.dead),(111,.dead)] (ai (YR g c).2):=by
 have k:=YU 0 102 (YU 4 111 (YU 3 110 (XpO g c hg h)));obtain⟨op,id,src,dst,name,⟨vk,vn,vd,vs,vl⟩⟩:=c;exact k
def Xp2 (g:Gra) (l:List Chg) (hg:GraHold g) (hl:J l<=9223372036854775807):Con prog 109 [] [XZ g,.d (.sl 10 (l.map Xp))] [] (.tup [XZ (UW g l).1,ai (UW g l).2.1,ai (UW g l).2.2]):=by
 refine ZCt func109 ntmps109 fun E=> ?_;have hk:=XdF g hg;have hlm:J (l.map Xp)=J l:=Oc
 unfold UW;by_cases hc:X0w g≠0
 ·rw[PI hc];clear hg;generalize X0w g=e at*;obtain⟨ns,es,nn,ne⟩:=g;simp only[XZ,map_nil] at*;refine U7 ?_
  (exact Zz1 rfl ⟨_,Xg 101 (cs':=[.d (.sl 3 []),.d (.sl 5 []),ai 0,ai 0]) rfl JM rfl,⟨⟨101,0,_,rfl,rfl,.inr ⟨4,_,rfl,rfl,rfl,rfl⟩⟩,rfl,rfl,TV⟩,X5 _⟩)
 rw[NI hc];have hc:X0w g=0:=I5
 rw[hc] at hk;have hv:=X6Q.1 hc;have dG:=XtX g hv;clear hc hg;generalize hR:VY g 0 l=R;obtain⟨ns,es,nn,ne⟩:=g;simp only[XZ] at hk dG |-;refine X17 ?_;clear hk dG
 refine Xl (ι:=Nat×Gra) (fun q=>q.1<=J l/\GV q.2/\VY q.2 q.1 (l.drop q.1)=R) (fun q=>⟨40,[(1,.d (.sl 10 (l.map Xp))),(4,.ptr 101 0),(8,.ptr 102 0),(21,.d (.sl 10 (l.map Xp))),(22,ai (J (l.map Xp))),(23,ai q.1)],[(101,.box [aq,aq,ai 0,ai 0]),(102,X8S q.2 110 111),(110,X8g q.2),(111,X87 q.2)]⟩) (fun q=>J l-q.1) (0,⟨ns,es,nn,ne⟩) ⟨Nat.zero_le _,hv,Is⟩
  (ZL0) ?_
 rintro⟨i,g⟩ ⟨hi,hg,hr⟩;simp only at hi hg hr;clear hv hR;by_cases hil:i<J l
 case neg=>
  have hn:¬(i:Int)<J (l.map Xp):=Oa
  rw[XmD Oa] at hr;obtain rfl:i=J l:=Oa
  subst hr;obtain⟨ns,es,nn,ne⟩:=g;simp only;refine W8_ ?_;show AWP prog E _ _ _;refine X8 (XoB 110 Og (XpE _)) ?_;refine X8 (XoB 111 Og (XxN _)) ?_;rw[Xw1,XuO];refine X8 (VR 102 0 110 Og rfl Og (by rw[LM])) ?_;refine X8 (VR 102 1 111 Og rfl Og (by rw[LM])) ?_;rw[<-hlm];refine W9_ ?_
  (exact Zz1 rfl ⟨_,ZzS,⟨⟨101,0,_,rfl,rfl,.inr ⟨4,_,rfl,rfl,rfl,rfl⟩⟩,rfl,rfl,TV⟩,X5 _⟩)
 have hn:(i:Int)<J (l.map Xp):=Oa
 obtain⟨x,hx⟩:=Xn (l:=l) hil;have au:(l.map Xp)[i]? =some (Xp x):=XC hx;rw[Xjf hx] at hr;clear hx;by_cases hq:(YR g x).2≠0
 ·rw[PI hq] at hr;subst hr;have hs:=Xwb g x hg hq;clear hg;generalize (YR g x).2=e at*;obtain⟨op,id,src,dst,name,⟨vk,vn,vd,vs,vl⟩⟩:=x;simp only[XZ,Xu,Uv,Xp,map_nil] at*;refine X0r ?_
  (exact Zz1 rfl ⟨_,Xg 101 (cs':=[.d (.sl 3 []),.d (.sl 5 []),ai 0,ai 0]) rfl JM rfl,⟨⟨101,0,_,rfl,rfl,.inr ⟨4,_,rfl,rfl,rfl,rfl⟩⟩,rfl,rfl,TV⟩,X5 _⟩)
 rw[NI hq] at hr;have hq:(YR g x).2=0:=by simpa using hq
 have hg':=XdS hg hq;by_cases ho:x.op<=5
 ·have hs:=Xwc g x hg ho hq;clear hg hq;generalize (YR g x).1=g' at*;obtain⟨op,id,src,dst,name,⟨vk,vn,vd,vs,vl⟩⟩:=x;simp only[Xu,Uv,Xp] at*;refine UR ?_;refine⟨(i+1,g'),⟨Od,hg',hr⟩,Od,?_⟩;refine St.le_trans (XiW 110 120 Oi Oi) ?_;exact ZL0
 ·have hs:=Xun g x hg ho hq;clear hg hq;generalize (YR g x).1=g' at*;obtain⟨op,id,src,dst,name,⟨vk,vn,vd,vs,vl⟩⟩:=x;simp only[Xu,Uv,Xp] at*;refine UR ?_;refine⟨(i+1,g'),⟨Od,hg',hr⟩,Od,?_⟩;refine St.le_trans (XiW 111 120 Oi Oi) ?_;exact ZL0
def oC (s:Rd):AObj:= .box [.d (Xc s.c),ai (if s.e=0 then s.a else 0),ab (decide (s.e≠0))]
def Xf1 (h:(Xd b a).2.2≠0):(Xd b a).2.1=0:=by
 unfold Xd at*;simp only at*;split
 ·rfl
 ·split
  ·rfl
  ·split
   ·rfl
   ·rename_i h1 h2 h3;rw[NI h1,NI h2,NI h3] at h;simp at h
def Xm4 (h:(X1h b a).2.2≠0):(X1h b a).2.1=0:=by
 unfold X1h at*;simp only at*
 (repeat' split at h)<;>(repeat' split)<;>simp_all
def Xl4 (h:(X0L b a).2.2≠0):(X0L b a).2.1=0:=by
 unfold X0L at*;simp only at*
 (repeat' split at h)<;>(repeat' split)<;>simp_all
theorem X8r (k:Nat) (c:List UInt8) (a e:Int):oC ⟨k,c,a,e⟩= .box [.d (Xc c),ai (if e=0 then a else 0),ab (decide (e≠0))]:=rfl
theorem Xml (k:Nat) (c:List UInt8) (a:Int):Vy ⟨k,c,a,0⟩=((X1h c a).1,⟨k,c,if (X1h c a).2.2=0 then (X1h c a).2.1 else a,(X1h c a).2.2⟩):=by unfold Vy X1m;rw[NI Oc];rfl
theorem Xlt (k:Nat) (c:List UInt8) (a:Int):X0D ⟨k,c,a,0⟩=((X0L c a).1,⟨k,c,if (X0L c a).2.2=0 then (X0L c a).2.1 else a,(X0L c a).2.2⟩):=by unfold X0D X1m;rw[NI Oc];rfl
def Xn3 {k:Nat}{c:List UInt8}{x e:Int} (h:e≠0->x=0):oC ⟨k,c,if e=0 then x else a,e⟩= .box [.d (Xc c),ai x,ab (decide (e≠0))]:=by
 unfold oC;by_cases q:e=0
 ·simp[q]
 ·simp[q,h q]
def XwV (c:List UInt8) (a0 a e:Int) (b0:Bool):Con prog 132 [(0,.box [.d (Xc c),ai a0,ab b0])] [.ptr 0 0,ai a,ai e] [(0,.box [.d (Xc c),ai a,ab (b0||decide (e≠0))])] (.tup []):=by
 refine VQ (xs:=[]) func132 rfl ntmps132 rfl rfl rfl (fun E=> ?_);cases b0 with
 |true=>
  refine YJ ?_;exact QTa
 |false=>
  rw[Bool.false_or];refine YJ ?_;exact QTa
def XdY (c:List UInt8) (a0 a e:Int):Con prog 132 [(0,.box [.d (Xc c),ai a0,ab false])] [.ptr 0 0,ai a,ai e] [(0,.box [.d (Xc c),ai a,ab (decide (e≠0))])] (.tup []):=by
 have h:=XwV c a0 a e false;rw[Bool.false_or] at h;exact h
def X6E (s:Rd) (hc:J s.c<=281474976710656):Con prog 129 [(0,oC s)] [.ptr 0 0] [(0,oC (Ym s).2)] (ai (Ym s).1):=by
 refine ZC1 func129 ntmps129 fun E=> ?_;have hu:=X7h s.c s.a hc;have h0:=Xf1 (b:=s.c) (a:=s.a);obtain⟨k,c,a,e⟩:=s;unfold oC;by_cases he:e=0
 case neg=>
  have e1:Ym ⟨k,c,a,e⟩=(0,⟨k,c,a,e⟩):=by unfold Ym X1m;rw[PI he]
  rw[e1];simp only[NI he,DT he];clear hu h0;refine Yb ?_
  (exact Zz1 rfl ⟨_,ZzS,⟨rfl,TV⟩,Xm ⟨rfl,TV⟩⟩)
 subst he;have e1:Ym ⟨k,c,a,0⟩=((Xd c a).1,⟨k,c,if (Xd c a).2.2=0 then (Xd c a).2.1 else a,(Xd c a).2.2⟩):=IF
 rw[e1];simp only[if_true,ne_eq,not_true_eq_false,decide_false] at*;generalize Xd c a=u at*;obtain⟨u1,u2,u3⟩:=u;simp only at*;have e2:(if u3=0 then (if u3=0 then u2 else a) else 0)=u2:=by
  by_cases q:u3=0
  ·rw[PI q,PI q]
  ·rw[NI q,h0 q]
 rw[e2];have ht:=XdY c a u2 u3;clear e1 e2 h0;refine Qia ?_
 (exact Zz1 rfl ⟨_,ZzS,⟨rfl,TV⟩,Xm ⟨rfl,TV⟩⟩)
def XjT (x y:List UInt8) (hx:J x<=4611686018427387904):Con prog 130 [] [.d (Xc x),.d (Xc y)] [] (ab (decide (x=y))):=by
 refine ZC1 func130 ntmps130 fun E=> ?_;have bu:J (x.map X6)=J x:=Oc
 have lu:J (y.map X6)=J y:=Oc
 unfold Xc;by_cases hl:J x=J y
 case neg=>
  rw[DF (fun h=>hl (by rw[h]))];have hl':¬(J (x.map X6):Int)=(J (y.map X6):Int):=Oa
  refine Yh ?_
  (exact Zz2)
 have hl':(J (x.map X6):Int)=(J (y.map X6):Int):=Oa
 generalize hG:decide (x=y)=G;refine Us ?_
 refine Xl (fun i:Nat=>i<=J x/\(decide (x.drop i=y.drop i)=G)) (fun i=>⟨26,[(0,.d (.sl 1 (x.map X6))),(1,.d (.sl 1 (y.map X6))),(12,ai (J (x.map X6))),(13,ai i)],[]⟩) (fun i=>J x-i) 0 ⟨Nat.zero_le _,OX⟩
  (ZL0) ?_
 rintro i ⟨hi,hg⟩;by_cases hil:i<J x
 case neg=>
  obtain rfl:i=J x:=Oa
  have hn:¬((J x:Nat):Int)<J (x.map X6):=Oa
  rw[drop_length,hl,drop_length,DT rfl] at hg;subst hg;refine XB ?_
  (exact Zz2)
 have hn:(i:Int)<J (x.map X6):=Oa
 obtain⟨u,hu⟩:=Xn (l:=x) hil;obtain⟨v,hv⟩:=Xn (l:=y) (k:=i) Oa;have uk:(x.map X6)[i]? =some (X6 u):=XC hu;have um:(y.map X6)[i]? =some (X6 v):=XC hv;rw[X8d hu,X8d hv] at hg;simp only[X6] at uk um;by_cases q:u=v
 ·subst q;rw[show decide (u::x.drop (i+1)=u::y.drop (i+1))=decide (x.drop (i+1)=y.drop (i+1)) from decide_eq_decide.2 Oc] at hg;have hq:((u.toNat:Int)=(u.toNat:Int)):=rfl;refine Uf ?_;exact Qle
 ·rw[DF (fun h=>q (cons.inj h).1)] at hg;subst hg;have hq:¬((u.toNat:Int)=(v.toNat:Int)):=fun h=>q (UInt8.toNat_inj.1 Oa);refine UK ?_
  (exact Zz2)
end Go.Fw
