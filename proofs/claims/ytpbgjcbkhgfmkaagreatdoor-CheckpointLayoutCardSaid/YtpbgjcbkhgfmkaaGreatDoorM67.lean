/- A result of one's own, let go. -/
import Derived.Test.YtpbgjcbkhgfmkaaGreatDoorM55
set_option maxHeartbeats 64000000
namespace Go.Fw
open Go List
set_option linter.unusedVariables false
set_option linter.unusedSimpArgs false
theorem Con.dataC {P:Program}{f:FuncId}{args:List AVal}{γ δ s1 s2 n m:Nat}{xs ys:List (List D)}{y:D} (h:Con P f [] args [(γ,.row s1 xs),(δ,.row s2 ys)] (.agg [.own γ n,.own δ m,.d y])) (hn:n=xs.length) (hm:m=ys.length) (hne:γ≠δ):Con P f [] args [] (.agg [.d (.sl s1 xs),.d (.sl s2 ys),.d y]):=by
 intro g w vs hi hs;refine(h g w vs hi hs).mono ?_;rintro e w' ⟨v,g',h1,h2,h3,_⟩;obtain⟨M1,l1,i1⟩:=X83 (S:=⟨0,[],[(γ,.row s1 xs),(δ,.row s2 ys)]⟩) (γ:=γ) h3 (YE _ _ _ _);obtain⟨M2,l2,i2⟩:=X83 (S:=⟨0,[],[(γ,.froz s1 xs),(γ,.row s1 xs),(δ,.row s2 ys)]⟩) (γ:=δ) i1 (by simp only[St.obj];rw[Yz _ _ _ hne,Yz _ _ _ hne,YE]);have o1:=i2.obj γ;have o2:=i2.obj δ;rw[YE] at o2;rw[Yz _ _ _ (Ne.symm hne),YE] at o1;have bV:(AVal.agg [.own γ n,.own δ m,.d y]).sat {g' with M:=M2} v:=X3H (g:=g') (g':={g' with M:=M2}) (l1.trans l2) rfl rfl rfl h2;refine⟨v,{g' with M:=M2},h1,?_,(i2.free (g0:={g' with M:=M2}) fun γ _=>Gh.keeps_refl _ _).sub fun k=> .inr rfl,fun γ aQ=>by simp[Ya] at aQ⟩;simp only[AVal.sat] at bV |-;obtain⟨us,e1,e2⟩:=bV;refine⟨us,e1,?_⟩;generalize us.toList=l at*
 match l,e2 with
 |[a,b,c],e2=>
  simp only[Xx,AVal.sat,and_true] at e2 |-;have k1:=X6v (γ:=γ) (u:=a) o1 hn (by simp only[AVal.sat];exact e2.1);have k2:=X6v (γ:=δ) (u:=b) o2 hm (by simp only[AVal.sat];exact e2.2.1);simp only[AVal.sat] at k1 k2;exact⟨k1,k2,e2.2.2⟩
open Go Go.Proofs Tryz
set_option maxRecDepth 100000
theorem Xvf (es:List Edg) (h:∀e∈es,e.props.length<=16/\∀p∈e.props,Ui p.v=true):(X1r es).length<=17*es.length:=by
 unfold X1r;rw[LA,LM];have:=X2v (w:=dU) (k:=16) (l:=es) fun x hx=>by
  have:=h x hx;unfold dU Va;rw[LM];omega
 omega
def gR (c:Chg):List D:=[.v (.int .i64 c.op),.v (.int .i64 c.id),.v (.int .i64 c.src),.v (.int .i64 c.dst),.v (.string (X6 c.name)),.v (.int .i64 0),.v (.int .i64 0),.v (.int .i64 0),.v (.string (X6 [])),.v (.slice none 0 0)]
theorem Xg3 (op id f t:Int) (s:List UInt8):leC (gR ⟨op,id,f,t,s,zV⟩) (Xs ⟨op,id,f,t,s,zV⟩):=
 X1a (X1v _) (X1a (X1v _) (X1a (X1v _) (X1a (X1v _) (X1a (X1v _) (X1a (X1v _) (X1a (X1v _) (X1a (X1v _) (X1a (X1v _) (X1a (Xmh 5) Xl4)))))))))
theorem XjX {α:Type}{sz:Nat}{f g:α->List D} (h:∀x,leC (f x) (g x)/\(f x).length=(g x).length):∀l:List α,leW sz (l.map f) (l.map g)
 |[]=>XgF sz
 |x::l=>XfR (h x).1 (h x).2 (XjX h l)
theorem XlB (sz:Nat) {α:Type}{f g:α->List D} (h:∀x,leC (f x) (g x)/\(f x).length=(g x).length) (l:List α) (b:List (List D)):leW sz (l.map f++b) (l.map g++b):=by
 induction l with
 |nil=>exact⟨rfl,fun _ _ _ h=>h⟩
 |cons x l ih=>exact XfR (h x).1 (h x).2 ih
theorem Xs9 (s:List UInt8):Con prog 326 [] [.d (.sl 1 []),Xi s] [] (ab false):=by
 refine ZC1 func326 ntmps326 fun E=> ?_;refine XA ?_
 refine Xn (fun _:Unit=>True) (fun _=>⟨18,[(0,.d (.sl 1 [])),(5,ai 0)],[]⟩) (fun _=>0) () trivial
  (ZL0) ?_
 intro _ _;refine XG ?_
 (show AWP prog E _ _ _;refine X2 ?_;exact(show Xa _ _ _ _ _ from⟨_,St.le_refl _,⟨rfl,TV⟩,X4 _⟩))
theorem XtW (s:List UInt8):Con prog 327 [] [.d (.sl 6 []),Xi s] [] (ab false):=by
 refine ZC1 func327 ntmps327 fun E=> ?_;refine XA ?_
 refine Xn (fun _:Unit=>True) (fun _=>⟨19,[(0,.d (.sl 6 [])),(5,ai 0)],[]⟩) (fun _=>0) () trivial
  (ZL0) ?_
 intro _ _;refine XG ?_
 (show AWP prog E _ _ _;refine X2 ?_;exact(show Xa _ _ _ _ _ from⟨_,St.le_refl _,⟨rfl,TV⟩,X4 _⟩))
theorem XiW :Con prog 66 [] [] [] (Y6 UA):=by
 refine ZC1 func66 ntmps66 fun E=> ?_;refine W9_ ?_;exact X2 ⟨_,Xq 100 (cs:=[aq,aq,ai 1,ai 1]) (cs':=[.d (.sl 3 []),.d (.sl 5 []),ai 1,ai 1]) rfl ⟨AVal.le_nil 3,AVal.le_nil 5,AVal.le_refl _,AVal.le_refl _,TV⟩ rfl,⟨⟨100,0,_,rfl,rfl,.inr ⟨4,_,rfl,rfl,rfl,rfl⟩⟩,TV⟩,X4 _⟩
theorem Xk6 (id:Int):Con prog 196 [] [.agg [.d (.sl 3 []),.d (.sl 5 []),ai 1,ai 1],ai id] [] (.tup [.agg [ai 0,.d (.sl 1 []),.d (.sl 6 [])],ab false]):=by
 refine ZCt func196 ntmps196 fun E=> ?_;refine XR ?_
 refine Xn (fun _:Unit=>True) (fun _=>⟨28,[(2,.ptr 100 0),(4,.ptr 101 0),(6,ai 0)],[(100,.box [.d (.sl 3 []),.d (.sl 5 []),ai 1,ai 1]),(101,.box [ai 0,aq,aq])]⟩) (fun _=>0) () trivial
  (ZL0) ?_
 intro _ _;refine Yv ?_;exact Qgc
theorem XwO (id:Int):Con prog 197 [] [.agg [.d (.sl 3 []),.d (.sl 5 []),ai 1,ai 1],ai id] [] (.tup [.agg [ai 0,ai 0,ai 0,Xi [],.d (.sl 6 [])],ab false]):=by
 refine ZCt func197 ntmps197 fun E=> ?_;refine XR ?_
 refine Xn (fun _:Unit=>True) (fun _=>⟨28,[(2,.ptr 100 0),(4,.ptr 101 0),(6,ai 0)],[(100,.box [.d (.sl 3 []),.d (.sl 5 []),ai 1,ai 1]),(101,.box [ai 0,ai 0,ai 0,Xi [],aq])]⟩) (fun _=>0) () trivial
  (ZL0) ?_
 intro _ _;refine Yv ?_;exact Qhc
theorem XiK (a b c:Int) (s:List UInt8) (ps:List (List D)):Con prog 270 [] [.agg [ai a,ai b,ai c,Xi s,.d (.sl 6 ps)],.agg [.d (.sl 3 []),.d (.sl 5 []),ai 1,ai 1]] [] (ab true):=by
 refine ZC1 func270 ntmps270 fun E=> ?_;have h:=XwO a;refine UP ?_
 (show AWP prog E _ _ _;refine X2 ?_;exact(show Xa _ _ _ _ _ from⟨_,St.le_refl _,⟨rfl,TV⟩,X4 _⟩))
theorem Xsz (op id:Int) (l:List (List UInt8)) (hl:l.length<=100000):Con prog 271 [] [ai op,ai id,.d (.sl 1 (l.map Xf)),.d (.sl 1 [])] [] (.d (.sl 10 ((l.map fun s=>(⟨op,id,0,0,s,zV⟩:Chg)).map Xs))):=by
 refine ZC1 func271 ntmps271 fun E=> ?_;obtain⟨X,hX⟩:∃X:Nat->List (List D),∀i,((l.take i).map fun s=>gR ⟨op,id,0,0,s,zV⟩)=X i:=⟨_,fun _=>rfl⟩
 have bz:X 0=[]:=by rw[<-hX];simp
 have fA:(l.map fun s=>gR ⟨op,id,0,0,s,zV⟩)=X l.length:=by rw[<-hX,take_length]
 have aU:∀i,(X i).length<=l.length:=fun i=>by rw[<-hX];simp;omega
 have bk:∀i s,l[i]? =some s->X (i+1)=X i++[gR ⟨op,id,0,0,s,zV⟩]:=fun i s hs=>by rw[<-hX,<-hX,X19 hs,map_append];rfl
 have hlm:(l.map Xf).length=l.length:=by simp
 have hle:leW 10 (X l.length) ((l.map fun s=>(⟨op,id,0,0,s,zV⟩:Chg)).map Xs):=by
  rw[<-fA,map_map];exact XjX (fun s=>⟨Xg3 op id 0 0 s,rfl⟩) l
 clear hX fA;generalize hC:l.map Xf=C at*;refine XG ?_;refine X8 (Uu 9 130 10 rfl rfl rfl) ?_
 refine Xn (fun i:Nat=>i<=l.length) (fun i=>⟨35,[(0,ai op),(1,ai id),(2,.d (.sl 1 C)),(3,.d (.sl 1 [])),(8,aq),(9,.own 130 (X i).length),(10,ai i)],[(130,.row 10 (X i))]⟩) (fun i=>l.length-i) 0 (Nat.zero_le _)
  (Xb rfl ⟨JL,JL,JL,JL,JL,(by rw[bz];exact AVal.le_refl _),JL,TV⟩ ⟨(by rw[bz];rfl),TV⟩) ?_
 intro i hi;have hroom:=aU i;by_cases hil:i<l.length
 case neg=>
  obtain rfl:i=l.length:=by omega
  have hn:¬((l.length:Nat):Int)<C.length:=by omega
  clear bk hC;refine XK ?_;refine Qwb ?_;refine X8 (Y7 9 130 rfl rfl rfl) ?_;refine X8 (Xe 9 (AVal.le_d (Xcc hle))) ?_;refine W4_ ?_
  (show AWP prog E _ _ _;refine X2 ?_;exact(show Xa _ _ _ _ _ from⟨_,St.le_refl _,⟨rfl,TV⟩,X4 _⟩))
 have hn:(i:Int)<C.length:=by omega
 obtain⟨s,hs⟩:=Xu (l:=l) hil;have hsc:C[i]? =some (Xf s):=by rw[<-hC];exact XM hs
 have hst:=bk i s hs;have hc:=Xs9 s;simp only[Xf,gR] at hsc hst;clear bk hC hle hs;refine QV ?_;refine⟨i+1,hil,by omega,?_⟩;rw[hst];exact Qze
theorem Xqr (op id:Int) (C:List (List D)):Con prog 271 [] [ai op,ai id,.d (.sl 1 []),.d (.sl 1 C)] [] (.d (.sl 10 [])):=by
 refine ZC1 func271 ntmps271 fun E=> ?_;refine XG ?_
 refine Xn (fun _:Unit=>True) (fun _=>⟨35,[(2,.d (.sl 1 [])),(8,aq),(9,aq),(10,ai 0)],[]⟩) (fun _=>0) () trivial
  (ZL0) ?_
 intro _ _;refine Yx ?_;exact X2 ⟨_,Xe 8 (AVal.le_nil 10),⟨rfl,TV⟩,X4 _⟩
theorem Xnx (op id:Int) (C:List (List D)):Con prog 272 [] [ai op,ai id,.d (.sl 6 []),.d (.sl 6 C)] [] (.d (.sl 10 [])):=by
 refine ZC1 func272 ntmps272 fun E=> ?_;refine XG ?_
 refine Xn (fun _:Unit=>True) (fun _=>⟨37,[(2,.d (.sl 6 [])),(8,aq),(9,aq),(10,ai 0)],[]⟩) (fun _=>0) () trivial
  (ZL0) ?_
 intro _ _;refine Yx ?_;exact X2 ⟨_,Xe 8 (AVal.le_nil 10),⟨rfl,TV⟩,X4 _⟩
theorem XlR (op id:Int) (l:List Prp) (hl:l.length<=100000):Con prog 273 [] [ai op,ai id,.d (.sl 6 []),.d (.sl 6 (l.map Xd))] [] (.d (.sl 10 ((Va op id l).map Xs))):=by
 refine ZC1 func273 ntmps273 fun E=> ?_;obtain⟨X,hX⟩:∃X:Nat->List (List D),∀i,((Va op id (l.take i)).map Xs)=X i:=⟨_,fun _=>rfl⟩
 have bz:X 0=[]:=by rw[<-hX];simp[Va]
 have fA:((Va op id l).map Xs)=X l.length:=by rw[<-hX,take_length]
 have aU:∀i,(X i).length<=l.length:=fun i=>by rw[<-hX];simp[Va];omega
 have bk:∀i p,l[i]? =some p->X (i+1)=X i++[Xs ⟨op,id,0,0,p.key,p.v⟩]:=fun i p hp=>by rw[<-hX,<-hX,X19 hp];unfold Va;rw[map_append,map_append];rfl
 have hlm:(l.map Xd).length=l.length:=by simp
 rw[fA];clear hX fA;generalize hC:l.map Xd=C at*;refine XG ?_;refine X8 (Uu 9 130 10 rfl rfl rfl) ?_
 refine Xn (fun i:Nat=>i<=l.length) (fun i=>⟨58,[(0,ai op),(1,ai id),(2,.d (.sl 6 [])),(3,.d (.sl 6 C)),(8,aq),(9,.own 130 (X i).length),(10,ai i)],[(130,.row 10 (X i))]⟩) (fun i=>l.length-i) 0 (Nat.zero_le _)
  (Xb rfl ⟨JL,JL,JL,JL,JL,(by rw[bz];exact AVal.le_refl _),JL,TV⟩ ⟨(by rw[bz];rfl),TV⟩) ?_
 intro i hi;have hroom:=aU i;by_cases hil:i<l.length
 case neg=>
  obtain rfl:i=l.length:=by omega
  have hn:¬((l.length:Nat):Int)<C.length:=by omega
  clear bk hC;refine XK ?_;refine Qwb ?_;refine X8 (Y7 9 130 rfl rfl rfl) ?_;refine W4_ ?_
  (show AWP prog E _ _ _;refine X2 ?_;exact(show Xa _ _ _ _ _ from⟨_,St.le_refl _,⟨rfl,TV⟩,X4 _⟩))
 have hn:(i:Int)<C.length:=by omega
 obtain⟨p,hp⟩:=Xu (l:=l) hil;have aR:C[i]? =some (Xd p):=by rw[<-hC];exact XM hp
 have hst:=bk i p hp;have hc:=XtW p.key;obtain⟨key,⟨k0,k1,k2,k3,k4⟩⟩:=p;simp only[Xd,UT,XX,Xs] at*;clear bk hC hp;refine X7 ?_;refine Yq ?_;refine⟨i+1,hil,by omega,?_⟩;rw[hst];exact Qze
theorem Xo5 (B1 B2:List (List D)) (nn ne:Int):Con prog 213 [] [.agg [.d (.sl 3 []),.d (.sl 5 []),ai 1,ai 1],.agg [.d (.sl 3 B1),.d (.sl 5 B2),ai nn,ai ne]] [] aq:=by
 refine ZC1 func213 ntmps213 fun E=> ?_;refine Yg ?_
 refine Xn (fun _:Unit=>True) (fun _=>⟨65,[(2,.ptr 100 0),(4,aq),(5,aq),(6,ai 0)],[(100,.box [.d (.sl 3 []),.d (.sl 5 []),ai 1,ai 1])]⟩) (fun _=>0) () trivial
  (ZL0) ?_
 intro _ _;refine Yv ?_
 refine Xn (fun _:Unit=>True) (fun _=>⟨65,[(2,.ptr 100 0),(4,aq),(5,aq),(7,ai 0)],[(100,.box [.d (.sl 3 []),.d (.sl 5 []),ai 1,ai 1])]⟩) (fun _=>0) () trivial
  (ZL0) ?_
 intro _ _;refine Yg ?_
 (show AWP prog E _ _ _;refine X2 ?_;exact(show Xa _ _ _ _ _ from⟨_,St.le_refl _,⟨rfl,TV⟩,X4 _⟩))
theorem Xu8 (ns:List Nod) (C2:List (List D)) (nn ne:Int) (hok:∀n∈ns,n.labels.length<=8/\n.props.length<=16) (hl:ns.length<=4000):Con prog 214 [] [.agg [.d (.sl 3 []),.d (.sl 5 []),ai 1,ai 1],.agg [.d (.sl 3 (ns.map Xm)),.d (.sl 5 C2),ai nn,ai ne]] [] (.d (.sl 10 ((X0H ns).map Xs))):=by
 refine ZC1 func214 ntmps214 fun E=> ?_;have hlm:(ns.map Xm).length=ns.length:=by simp
 obtain⟨X,hX⟩:∃X:Nat->List (List D),∀i,((ns.take i).map (fun x=>gR (fU x)))=X i:=⟨_,fun _=>rfl⟩
 have bz:X 0=[]:=by rw[<-hX];simp
 have aU:∀i,(X i).length<=ns.length:=fun i=>by rw[<-hX];simp;omega
 have bk:∀i x,ns[i]? =some x->X (i+1)=X i++[gR (fU x)]:=fun i x hx=>by rw[<-hX,<-hX,X19 hx,map_append];rfl
 obtain⟨Y,hY⟩:∃Y:Nat->List (List D),∀i,X ns.length++(((ns.take i).map dy).flatten).map Xs=Y i:=⟨_,fun _=>rfl⟩
 have dV:X ns.length=Y 0:=by rw[<-hY];simp
 have dz:∀i x,ns[i]? =some x->Y (i+1)=Y i++(dy x).map Xs:=fun i x hx=>by rw[<-hY,<-hY,X19 hx,map_append,flatten_append,map_append,AS];simp
 have hcb:∀x∈ns,(dy x).length<=24:=fun x hx=>by
  have:=hok x hx;simp only[dy,X52,Va,LA,LM];omega
 have dJ:∀i,i<=ns.length->(Y i).length<=ns.length+24*i:=fun i=>by
  induction i with
  |zero=>intro _;rw[<-dV];have:=aU ns.length;omega
  |succ i ih=>
   intro hi;obtain⟨x,hx⟩:=Xu (l:=ns) (k:=i) (by omega);rw[dz i x hx,LA,LM];have:=hcb x (mem_of_getElem? hx);have:=ih (by omega);omega
 have hle:leW 10 (Y ns.length) ((X0H ns).map Xs):=by
  unfold X0H;rw[<-hY,<-hX,take_length,map_append,map_map];exact XlB 10 (fun x=>⟨Xg3 _ _ _ _ _,rfl⟩) ns _
 clear hX hY;refine Yg ?_;refine X8 (Uu 5 130 10 rfl rfl rfl) ?_
 refine Xn (fun i:Nat=>i<=ns.length) (fun i=>⟨99,[(2,.ptr 100 0),(3,.ptr 101 0),(4,aq),(5,.own 130 (X i).length),(6,ai i)],[(100,.box [.d (.sl 3 []),.d (.sl 5 []),ai 1,ai 1]),(101,.box [.d (.sl 3 (ns.map Xm)),.d (.sl 5 C2),ai nn,ai ne]),(130,.row 10 (X i))]⟩) (fun i=>ns.length-i) 0 (Nat.zero_le _)
  (Xb rfl ⟨JL,JL,JL,(by rw[bz];exact AVal.le_refl _),JL,TV⟩ ⟨rfl,rfl,(by rw[bz];rfl),TV⟩) ?_
 intro i hi;have hroom:=aU i;by_cases hil:i<ns.length
 case pos=>
  have hn:(i:Int)<(ns.map Xm).length:=by omega
  obtain⟨x,hx⟩:=Xu (l:=ns) hil;have au:(ns.map Xm)[i]? =some (Xm x):=XM hx;have hst:=bk i x hx;clear bk dz dJ hcb hle hx hok bz dV;obtain⟨xi,xl,xp⟩:=x;have hc:=Xk6 xi;simp only[Xm,fU,gR] at au hst;refine X7 ?_;refine XG ?_;refine⟨i+1,hil,by omega,?_⟩;rw[hst];exact QAe
 obtain rfl:i=ns.length:=by omega
 have hn:¬((ns.length:Nat):Int)<(ns.map Xm).length:=by omega
 rw[dV];clear bk bz dV hroom aU;refine Yv ?_
 refine Xn (fun i:Nat=>i<=ns.length) (fun i=>⟨99,[(2,.ptr 100 0),(3,.ptr 101 0),(4,aq),(5,.own 130 (Y i).length),(9,ai i)],[(100,.box [.d (.sl 3 []),.d (.sl 5 []),ai 1,ai 1]),(101,.box [.d (.sl 3 (ns.map Xm)),.d (.sl 5 C2),ai nn,ai ne]),(130,.row 10 (Y i))]⟩) (fun i=>ns.length-i) 0 (Nat.zero_le _)
  (ZL0) ?_
 clear hn;intro i hi';have hroom:=dJ i hi';by_cases hil:i<ns.length
 case pos=>
  have hn:(i:Int)<(ns.map Xm).length:=by omega
  obtain⟨x,hx⟩:=Xu (l:=ns) hil;have au:(ns.map Xm)[i]? =some (Xm x):=XM hx;have hst:=dz i x hx;have pX:=hok x (mem_of_getElem? hx);clear dz dJ hcb hle hx hok;obtain⟨xi,xl,xp⟩:=x;simp only at pX;have hc:=Xk6 xi;have h1:=Xqr 4 xi (xl.map Xf);have h2:=Xnx 5 xi (xp.map Xd);have h3:=Xsz 3 xi xl (by omega);have h4:=XlR 5 xi xp (by omega);rw[show (dy ⟨xi,xl,xp⟩).map Xs=((xl.map fun s=>(⟨3,xi,0,0,s,zV⟩:Chg)).map Xs)++(Va 5 xi xp).map Xs by unfold dy X52;rw[map_append]] at hst;have w1:((xl.map fun s=>(⟨3,xi,0,0,s,zV⟩:Chg)).map Xs).length<=8:=by simp;omega
  have w2:((Va 5 xi xp).map Xs).length<=16:=by simp[Va];omega
  simp only[Xm] at au;generalize (xl.map fun s=>(⟨3,xi,0,0,s,zV⟩:Chg)).map Xs=W1 at*;generalize (Va 5 xi xp).map Xs=W2 at*;refine Qp ?_;refine Z3 (af:=h1) ?_;refine Vl ?_;refine Z3 (af:=h3) ?_;refine U8 ?_;refine⟨i+1,hil,by omega,?_⟩;rw[hst];exact Xb rfl ⟨JL,JL,JL,AVal.le_of_eq (by refine Eq.trans (b:=AVal.own 130 (_+_)) rfl ?_;simp only[LA,append_nil,Nat.add_assoc]),JL,TV⟩ ⟨rfl,rfl,(by refine Eq.trans (b:=AObj.row 10 (Y i++[]++[]++W1++W2)) rfl ?_;simp only[append_nil,AS]),TV⟩
 obtain rfl:i=ns.length:=by omega
 have hn:¬((ns.length:Nat):Int)<(ns.map Xm).length:=by omega
 clear dz dJ hcb hok;refine QDb ?_;refine X8 (Y7 5 130 rfl rfl rfl) ?_;refine X8 (Xe 5 (AVal.le_d (Xcc hle))) ?_;refine W4_ ?_
 (show AWP prog E _ _ _;refine X2 ?_;exact(show Xa _ _ _ _ _ from⟨_,St.le_refl _,⟨rfl,TV⟩,X4 _⟩))
theorem XwE (es:List Edg) (C2:List (List D)) (nn ne:Int) (hok:∀e∈es,e.props.length<=16) (hl:es.length<=4000):Con prog 215 [] [.agg [.d (.sl 3 []),.d (.sl 5 []),ai 1,ai 1],.agg [.d (.sl 3 C2),.d (.sl 5 (es.map Xr)),ai nn,ai ne]] [] (.d (.sl 10 ((X1r es).map Xs))):=by
 refine ZC1 func215 ntmps215 fun E=> ?_;have hlm:(es.map Xr).length=es.length:=by simp
 obtain⟨X,hX⟩:∃X:Nat->List (List D),∀i,((es.take i).map (fun x=>gR (fV x)))=X i:=⟨_,fun _=>rfl⟩
 have bz:X 0=[]:=by rw[<-hX];simp
 have aU:∀i,(X i).length<=es.length:=fun i=>by rw[<-hX];simp;omega
 have bk:∀i x,es[i]? =some x->X (i+1)=X i++[gR (fV x)]:=fun i x hx=>by rw[<-hX,<-hX,X19 hx,map_append];rfl
 obtain⟨Y,hY⟩:∃Y:Nat->List (List D),∀i,X es.length++(((es.take i).map dU).flatten).map Xs=Y i:=⟨_,fun _=>rfl⟩
 have dV:X es.length=Y 0:=by rw[<-hY];simp
 have dz:∀i x,es[i]? =some x->Y (i+1)=Y i++(dU x).map Xs:=fun i x hx=>by rw[<-hY,<-hY,X19 hx,map_append,flatten_append,map_append,AS];simp
 have hcb:∀x∈es,(dU x).length<=16:=fun x hx=>by
  have:=hok x hx;simp only[dU,Va,LA,LM];omega
 have dJ:∀i,i<=es.length->(Y i).length<=es.length+16*i:=fun i=>by
  induction i with
  |zero=>intro _;rw[<-dV];have:=aU es.length;omega
  |succ i ih=>
   intro hi;obtain⟨x,hx⟩:=Xu (l:=es) (k:=i) (by omega);rw[dz i x hx,LA,LM];have:=hcb x (mem_of_getElem? hx);have:=ih (by omega);omega
 have hle:leW 10 (Y es.length) ((X1r es).map Xs):=by
  unfold X1r;rw[<-hY,<-hX,take_length,map_append,map_map];exact XlB 10 (fun x=>⟨Xg3 _ _ _ _ _,rfl⟩) es _
 clear hX hY;refine Yg ?_;refine X8 (Uu 5 130 10 rfl rfl rfl) ?_
 refine Xn (fun i:Nat=>i<=es.length) (fun i=>⟨82,[(2,.ptr 100 0),(3,.ptr 101 0),(4,aq),(5,.own 130 (X i).length),(6,ai i)],[(100,.box [.d (.sl 3 []),.d (.sl 5 []),ai 1,ai 1]),(101,.box [.d (.sl 3 C2),.d (.sl 5 (es.map Xr)),ai nn,ai ne]),(130,.row 10 (X i))]⟩) (fun i=>es.length-i) 0 (Nat.zero_le _)
  (Xb rfl ⟨JL,JL,JL,(by rw[bz];exact AVal.le_refl _),JL,TV⟩ ⟨rfl,rfl,(by rw[bz];rfl),TV⟩) ?_
 intro i hi;have hroom:=aU i;by_cases hil:i<es.length
 case pos=>
  have hn:(i:Int)<(es.map Xr).length:=by omega
  obtain⟨x,hx⟩:=Xu (l:=es) hil;have au:(es.map Xr)[i]? =some (Xr x):=XM hx;have hst:=bk i x hx;clear bk dz dJ hcb hle hx hok bz dV;obtain⟨xi,xs,xd,xt,xp⟩:=x;have hc:=XiK xi xs xd xt (xp.map Xd);simp only[Xr,fV,gR] at au hst;refine X7 ?_;refine XA ?_;refine⟨i+1,hil,by omega,?_⟩;rw[hst];exact QAe
 obtain rfl:i=es.length:=by omega
 have hn:¬((es.length:Nat):Int)<(es.map Xr).length:=by omega
 rw[dV];clear bk bz dV hroom aU;refine Yv ?_
 refine Xn (fun i:Nat=>i<=es.length) (fun i=>⟨82,[(2,.ptr 100 0),(3,.ptr 101 0),(4,aq),(5,.own 130 (Y i).length),(8,ai i)],[(100,.box [.d (.sl 3 []),.d (.sl 5 []),ai 1,ai 1]),(101,.box [.d (.sl 3 C2),.d (.sl 5 (es.map Xr)),ai nn,ai ne]),(130,.row 10 (Y i))]⟩) (fun i=>es.length-i) 0 (Nat.zero_le _)
  (ZL0) ?_
 clear hn;intro i hi';have hroom:=dJ i hi';by_cases hil:i<es.length
 case pos=>
  have hn:(i:Int)<(es.map Xr).length:=by omega
  obtain⟨x,hx⟩:=Xu (l:=es) hil;have au:(es.map Xr)[i]? =some (Xr x):=XM hx;have hst:=dz i x hx;have pX:=hok x (mem_of_getElem? hx);clear dz dJ hcb hle hx hok;obtain⟨xi,xs,xd,xt,xp⟩:=x;simp only at pX;have hc:=XiK xi xs xd xt (xp.map Xd);have h2:=Xnx 8 xi (xp.map Xd);have h4:=XlR 8 xi xp (by omega);rw[show (dU ⟨xi,xs,xd,xt,xp⟩).map Xs=(Va 8 xi xp).map Xs from rfl] at hst;have w2:((Va 8 xi xp).map Xs).length<=16:=by simp[Va];omega
  simp only[Xr] at au;generalize (Va 8 xi xp).map Xs=W2 at*;refine X7 ?_;refine Vl ?_;refine⟨i+1,hil,by omega,?_⟩;rw[hst];exact Xb rfl ⟨JL,JL,JL,AVal.le_of_eq (by refine Eq.trans (b:=AVal.own 130 (_+_)) rfl ?_;simp only[LA,append_nil]),JL,TV⟩ ⟨rfl,rfl,(by refine Eq.trans (b:=AObj.row 10 (Y i++[]++W2)) rfl ?_;simp only[append_nil]),TV⟩
 obtain rfl:i=es.length:=by omega
 have hn:¬((es.length:Nat):Int)<(es.map Xr).length:=by omega
 clear dz dJ hcb hok;refine QDb ?_;refine X8 (Y7 5 130 rfl rfl rfl) ?_;refine X8 (Xe 5 (AVal.le_d (Xcc hle))) ?_;refine W4_ ?_
 (show AWP prog E _ _ _;refine X2 ?_;exact(show Xa _ _ _ _ _ from⟨_,St.le_refl _,⟨rfl,TV⟩,X4 _⟩))
theorem Xu7 (g:Gra) (v:GV g) (hg:GraHold g):Con prog 139 [] [Y6 UA,Y6 g] [] (.tup [.d (.sl 10 ((X0i g).map Xs)),ai 0]):=by
 refine ZCt func139 ntmps139 fun E=> ?_;have h1:=XbU UA Xc7;have h2:=XbU g hg;rw[Xa9] at h1;rw[(X5Q.2 v:X0n g=0)] at h2;have l1:=v.nl;have l2:=v.el;have hn:=XlF g.nodes (gvN v);have he:=Xvf g.aj (gvE v);have c1:=Xo5 (g.nodes.map Xm) (g.aj.map Xr) g.nn g.ne;have c2:=Xu8 g.nodes (g.aj.map Xr) g.nn g.ne (fun n h=>⟨(gvN v n h).1,(gvN v n h).2.1⟩) (by omega);have c3:=XwE g.aj (g.nodes.map Xm) g.nn g.ne (fun n h=>(gvE v n h).1) (by omega);have e:(X0i g).map Xs=[]++(X0H g.nodes).map Xs++(X1r g.aj).map Xs:=by unfold X0i;simp
 have w1:((X0H g.nodes).map Xs).length<=100000:=by rw[LM];omega
 have w2:((X1r g.aj).map Xs).length<=100000:=by rw[LM];omega
 rw[e];clear e hn he l1 l2 v hg;generalize (X0H g.nodes).map Xs=W1 at*;generalize (X1r g.aj).map Xs=W2 at*;obtain⟨ns,es,nn,ne⟩:=g;simp only[Y6,map_nil] at*;refine XK ?_;refine Z3 (af:=h1) ?_;refine XQ ?_;refine Z3 (af:=h2) ?_;refine Yv ?_;refine X8 (Uu 8 130 10 rfl rfl rfl) ?_;refine Yf ?_;refine Qwb ?_;refine X8 (Y7 8 130 rfl rfl (by simp)) ?_;refine W5_ ?_
 (show AWP prog E _ _ _;refine X2 ?_;exact(show Xa _ _ _ _ _ from⟨_,St.le_refl _,⟨rfl,rfl,TV⟩,X4 _⟩))
theorem Xsp {g:Gra} (v:GV g):∀c∈X0i g,UJ c.v:=by
 intro c hc;have hz:UJ zV:=X7G;have hp:∀op id (l:List Prp),(∀p∈l,Ui p.v=true)->∀c∈Va op id l,UJ c.v:=fun op id l h c hc=>by
  obtain⟨p,hp,rfl⟩:=mem_map.1 hc;exact Xf2 _ 8 (XeE (h p hp)).1
 unfold X0i X0H X1r at hc;simp only[mem_append,mem_map,mem_flatten] at hc;rcases hc with (⟨n,hn,rfl⟩|⟨l,⟨n,hn,rfl⟩,hc⟩)|(⟨e,he,rfl⟩|⟨l,⟨e,he,rfl⟩,hc⟩)
 ·exact hz
 ·rcases mem_append.1 hc with h|h
  ·obtain⟨s,_,rfl⟩:=mem_map.1 h;exact hz
  ·exact hp _ _ _ (gvN v n hn).2.2 c h
 ·exact hz
 ·exact hp _ _ _ (gvE v e he).2 c hc
theorem Xgk (s:Sta) (v:GV s.g) (hr:SchV s.rules) (hg:GraHold s.g):Con prog 86 [] [Xy s] [] (.d (Xg (Xv s.g s.rules))):=by
 refine ZC1 func86 ntmps86 fun E=> ?_;have lO:=Xu7 s.g v hg;have aK:=Xbj v;have iG:=XcE v;have tQ:=Xsp v;have hnew:=XiW;have dF:=v.nn;have hne:=v.ne;have hrl:=hr.len;have hO:=hr.ok;unfold Xv X5n;generalize hcs:X0i s.g=cs at*;obtain⟨⟨ns,es,nn,ne⟩,rs,ts,ep,tail⟩:=s;simp only[Xy,Y6,map_nil] at*;clear v hr hg hcs;have eW:(rs.map Xh).length=rs.length:=by simp
 have eg:(cs.map Xs).length=cs.length:=by simp
 have gT:=X7m ((rs.map Xh).length:Nat) (by omega);have g9:=X38 ((cs.map Xs).length:Nat) (by omega);have kf:=X38 nn (by omega);have kg:=X38 ne (by omega);have t1:=X09 (n:=((rs.map Xh).length:Nat)) (by omega);have t2:=X09 (n:=((cs.map Xs).length:Nat)) (by omega);have t3:=X09 (n:=nn) (by omega);have t4:=X09 (n:=ne) (by omega);have hrb:∀k,((rs.take k).map VS).flatten.length<=8000:=fun k=>by
  have:=X2v (w:=VS) (k:=200) (l:=rs.take k) fun x hx=>by
   have h:=hO x (mem_of_mem_take hx);rw[show VS x=VE x from PI h];exact X65 h
  have:(rs.take k).length<=rs.length:=by rw[LT];omega
  omega
 have hcb:∀k,((cs.take k).map VT).flatten.length<=30000000:=fun k=>by
  have:=X2v (w:=VT) (k:=200) (l:=cs.take k) fun x hx=>by
   have h:=iG x (mem_of_mem_take hx);rw[show VT x=U2 x from PI h];exact X67 h
  have:(cs.take k).length<=cs.length:=by rw[LT];omega
  omega
 rw[<-eW,<-eg];generalize oW:Xl ((rs.map Xh).length:Nat)=P1 at*;generalize oX:Xl ((cs.map Xs).length:Nat)=P2 at*;generalize Xl nn=P3 at*;generalize Xl ne=P4 at*;obtain⟨A,hA⟩:∃A:Nat->List (List D),∀k,(P1++((rs.take k).map VS).flatten).map X5=A k:=⟨_,fun _=>rfl⟩
 have bP:P1.map X5=A 0:=by rw[<-hA];simp
 have eD:∀k,(A k).length<=8010:=fun k=>by rw[<-hA,LM,LA];have:=hrb k;omega
 have ki:∀k x,rs[k]? =some x->A (k+1)=A k++(VS x).map X5:=fun k x hx=>by rw[<-hA,<-hA];exact XcA hx
 obtain⟨B,hB⟩:∃B:Nat->List (List D),∀k,A rs.length++(P2++((cs.take k).map VT).flatten).map X5=B k:=⟨_,fun _=>rfl⟩
 have gF:A rs.length++P2.map X5=B 0:=by rw[<-hB];simp
 have fB:∀k,(B k).length<=31000000:=fun k=>by rw[<-hB,LA,LM,LA];have:=hcb k;have:=eD rs.length;omega
 have fW:∀k x,cs[k]? =some x->B (k+1)=B k++(VT x).map X5:=fun k x hx=>by rw[<-hB,<-hB,XcA hx,AS]
 have bG:(P1++(rs.map VS).flatten++(P2++(cs.map VT).flatten++(P3++P4))).map X5=B cs.length++P3.map X5++P4.map X5:=by
  rw[<-hB,<-hA,take_length,take_length];simp only[map_append,AS]
 unfold Xg at*;rw[bG];have jt:(P1.map X5).length=P1.length:=LM ..;have qO:(P2.map X5).length<=10:=by rw[LM];exact t2
 have qP:(P3.map X5).length<=10:=by rw[LM];exact t3
 have qQ:(P4.map X5).length<=10:=by rw[LM];exact t4
 have hw1:∀x∈rs,((VS x).map X5).length<=200:=fun x hx=>by
  have h:=hO x hx;rw[LM,show VS x=VE x from PI h];exact X65 h
 have bK:∀x∈cs,((VT x).map X5).length<=200:=fun x hx=>by
  have h:=iG x hx;rw[LM,show VT x=U2 x from PI h];exact X67 h
 rw[<-jt] at gT;rw[bP] at gT;clear hrb hcb bG oW oX hA hB bP t1 t2 t3 t4 hO iG jt;generalize P2.map X5=Q2 at*;generalize P3.map X5=Q3 at*;generalize P4.map X5=Q4 at*;refine XA ?_;refine Z3 (af:=gT) ?_;refine W8_ ?_
 refine Xn (fun k:Nat=>k<=rs.length) (fun k=>⟨64,[(1,.ptr 100 0),(3,.own 130 (A k).length),(4,ai k)],[(100,.box [.d (.sl 3 (ns.map Xm)),.d (.sl 5 (es.map Xr)),ai nn,ai ne,.d (.sl 6 (rs.map Xh)),ai ts,ai ep,ai tail]),(130,.row 1 (A k))]⟩) (fun k=>rs.length-k) 0 (Nat.zero_le _)
  (ZL0) ?_
 intro k hk;have oY:=eD k;by_cases aE:k<rs.length
 case pos=>
  have hn:(k:Int)<(rs.map Xh).length:=by omega
  obtain⟨x,hx⟩:=Xu (l:=rs) aE;have au:(rs.map Xh)[k]? =some (Xh x):=XM hx;have hp:=Xmb x;have hst:=ki k x hx;have oZ:=hw1 x (mem_of_getElem? hx);unfold Xg at hp;generalize (VS x).map X5=W at*;clear ki eD fW fB gF lO hx hw1 bK hnew g9 kf kg;obtain⟨rk,rn,eY,gG,gH,gI⟩:=x;simp only[Yu,Xh] at au hp;refine U8 ?_;refine Z3 (af:=hp) ?_;refine W8_ ?_;refine⟨k+1,aE,by omega,?_⟩;rw[hst];exact Xb rfl ⟨JL,AVal.le_of_eq (by refine Eq.trans (b:=AVal.own 130 (_+_)) rfl ?_;simp only[LA,LM,LC,length_nil]),JL,TV⟩ ⟨rfl,rfl,TV⟩
 obtain rfl:k=rs.length:=by omega
 have hn:¬((rs.length:Nat):Int)<(rs.map Xh).length:=by omega
 clear ki eD hk aE hw1;refine YY ?_;refine Z3 (af:=g9) ?_;refine W9_ ?_;have hb0:∀S:St,True:=fun _=>trivial
 skip
 refine Xn (fun k:Nat=>k<=cs.length) (fun k=>⟨64,[(1,.ptr 100 0),(3,.own 130 (B k).length),(5,.d (.sl 10 (cs.map Xs))),(7,ai k)],[(100,.box [.d (.sl 3 (ns.map Xm)),.d (.sl 5 (es.map Xr)),ai nn,ai ne,.d (.sl 6 (rs.map Xh)),ai ts,ai ep,ai tail]),(130,.row 1 (B k))]⟩) (fun k=>cs.length-k) 0 (Nat.zero_le _)
  (by rw[<-gF];exact Xb rfl ⟨JL,AVal.le_of_eq (by refine Eq.trans (b:=AVal.own 130 (_+_)) rfl ?_;simp only[LA,LM,LC,length_nil]),JL,JL,TV⟩ ⟨rfl,rfl,TV⟩) ?_
 clear hn oY gF lO hnew hb0;intro k hk;have hbk:=fB k;by_cases aE:k<cs.length
 case pos=>
  have hn:(k:Int)<(cs.map Xs).length:=by omega
  obtain⟨x,hx⟩:=Xu (l:=cs) aE;have au:(cs.map Xs)[k]? =some (Xs x):=XM hx;have hp:=Xk3 x (tQ x (mem_of_getElem? hx));have hst:=fW k x hx;have oZ:=bK x (mem_of_getElem? hx);unfold Xg at hp;generalize (VT x).map X5=W at*;clear fW fB hx bK g9 kf kg;obtain⟨op,id,src,dst,name,⟨vk,vn,vd,vs,vl⟩⟩:=x;simp only[Xz,Xs] at au hp;refine Yf ?_;refine Z3 (af:=hp) ?_;refine W8_ ?_;refine⟨k+1,aE,by omega,?_⟩;rw[hst];exact Xb rfl ⟨JL,AVal.le_of_eq (by refine Eq.trans (b:=AVal.own 130 (_+_)) rfl ?_;simp only[LA,LM,LC,length_nil]),JL,JL,TV⟩ ⟨rfl,rfl,TV⟩
 obtain rfl:k=cs.length:=by omega
 have hn:¬((cs.length:Nat):Int)<(cs.map Xs).length:=by omega
 clear fW fB hk aE bK g9;generalize B cs.length=Z at*;refine Yg ?_;refine Z3 (af:=kf) ?_;refine W9_ ?_;refine Z3 (af:=kg) ?_;refine W3_ ?_;refine Qwb ?_;refine X8 (Y7 2 130 rfl rfl (by simp only[LA])) ?_
 (show AWP prog E _ _ _;refine X2 ?_;exact(show Xa _ _ _ _ _ from⟨_,St.le_refl _,⟨rfl,TV⟩,X4 _⟩))
theorem Xwq (d:ak) (hl:Vp d):Con prog 56 [] [XU d] [] (XU d):=
 (X6U d hl).dataC (LM ..).symm (LM ..).symm (by decide)
theorem Xhr {b:List UInt8} (h1:0<b.length) (h2:b.length<=64):X2U b=YC b:=by
 unfold X2U YC;rw[show (64-b.length%64)%64=64-b.length by omega]
theorem XsA (a c:Int) (b:List UInt8) (h:∀x∈[a,c,(b.length:Nat),(XT b:Nat)],0<=x/\x<=9223372036854775807):Con prog 111 [] [ai a,ai c,.d (Xg b)] [] (.d (Xg (UI a c (b.length:Nat) (XT b:Nat)))):=by
 refine ZC1 func111 ntmps111 fun E=> ?_;obtain⟨s1,s2⟩:=Xms h;have hu:=Xd3 fun x hx=>(h x hx).2;have hf:=XgD (X04 [a,c,(b.length:Nat),(XT b:Nat)]) (by simp only[LC,length_nil] at hu;omega);have hF:=XbX a c (b.length:Nat) (XT b:Nat) h;have h4:4<=(VL a c (b.length:Nat) (XT b:Nat)).length:=XhJ _;have hp:Con prog 83 [] [.d (Xg (VL a c (b.length:Nat) (XT b:Nat)))] [(132,.row 1 ((X2U (VL a c (b.length:Nat) (XT b:Nat))).map X5))] (.own 132 64):=YK 130 132 (Xnz (VL a c (b.length:Nat) (XT b:Nat)) (by omega));rw[Xhr (by omega) (by omega)] at hp;rw[show Yn (X04 [a,c,(b.length:Nat),(XT b:Nat)])=VL a c (b.length:Nat) (XT b:Nat) from rfl] at hf;have s4:((YC (VL a c (b.length:Nat) (XT b:Nat))).map X5).length=64:=by rw[LM];exact s1
 have s3:((YC (VL a c (b.length:Nat) (XT b:Nat))).map X5).take 63++[[D.v (.int .u8 1)]]++((YC (VL a c (b.length:Nat) (XT b:Nat))).map X5).drop (63+1)=(UI a c (b.length:Nat) (XT b:Nat)).map X5:=by
  rw[<-s2,map_set,set_eq_take_append_cons_drop,PI (by omega),AS];rfl
 have u1:=X7m a (h a (by simp)).2;have u2:=X38 c (h c (by simp)).2;have u3:=X38 (b.length:Nat) (h (b.length:Nat) (by simp)).2;have u4:=X38 (XT b:Nat) (h (XT b:Nat) (by simp)).2;have t1:=X09 (n:=a) (h a (by simp));have t2:=X09 (n:=c) (h c (by simp));have t3:=X09 (n:=(b.length:Nat)) (h (b.length:Nat) (by simp));have t4:=X09 (n:=(XT b:Nat)) (h (XT b:Nat) (by simp));have aM:=Xlv b;have ie:(b.map X5).length=b.length:=LM ..;have hB:(X04 [a,c,(b.length:Nat),(XT b:Nat)]).map X5=(Xl a).map X5++(Xl c).map X5++(Xl (b.length:Nat)).map X5++(Xl (XT b:Nat)).map X5:=by simp[X04]
 have b7:((Xl a).map X5).length=(Xl a).length:=LM ..;have l2:((Xl c).map X5).length<=10:=by rw[LM];exact t2
 have l3:((Xl (b.length:Nat)).map X5).length<=10:=by rw[LM];exact t3
 have l4:((Xl (XT b:Nat)).map X5).length<=10:=by rw[LM];exact t4
 unfold Xg at*;rw[<-s3];rw[hB] at hf;rw[<-b7] at u1 t1;rw[<-ie] at u3;clear s1 s2 s3 hF hu h h4 hB t2 t3 t4 b7;generalize (YC (VL a c (b.length:Nat) (XT b:Nat))).map X5=P at*;generalize (VL a c (b.length:Nat) (XT b:Nat)).map X5=F at*;rw[ie] at u3;generalize (Xl a).map X5=W1 at*;generalize (Xl c).map X5=W2 at*;generalize (Xl (b.length:Nat)).map X5=W3 at*;generalize (Xl (XT b:Nat)).map X5=W4 at*;rw[<-ie] at u3;refine W7_ ?_;refine Z3 (af:=u1) ?_;refine W6_ ?_;refine Z3 (af:=u2) ?_;refine W8_ ?_;refine Z3 (af:=u3) ?_;refine W8_ ?_;refine Z3 (af:=u4) ?_;refine W4_ ?_;refine Qwb ?_;refine X8 (Y7 7 130 rfl rfl (by simp;omega)) ?_;have s5:64=P.length:=s4.symm;refine W9_ ?_;refine Xhz (hg:=JSa) (hx:=JSb) (hL:=JSb) (hi:=JSb) (hn:=JSe) (hlt:=JSh) (hT:=JSb) (hd:=JSb) ?_ (hk:=by exact(show(63:Int)=((63:Nat):Int) from rfl));refine W3_ ?_;refine X8 (XP 132 rfl) ?_;refine X8 (Y7 8 132 rfl rfl (by simp only[LA,LT,LD,LC,length_nil];omega)) ?_;refine W4_ ?_
 (show AWP prog E _ _ _;refine X2 ?_;exact(show Xa _ _ _ _ _ from⟨_,St.le_refl _,⟨rfl,TV⟩,X4 _⟩))
end Go.Fw
