/- The script from an empty graph, the reference's. -/
import Derived.Test.YtfmfekakaeafhaaGreatDoorP42
set_option linter.all false
set_option maxHeartbeats 64000000
namespace Go.Fw
open Go Go.Proofs Tryz List
open List renaming length->J
set_option maxRecDepth 100000
def iy (c:Chg):List D:=[.v (.int .i64 c.op),.v (.int .i64 c.id),.v (.int .i64 c.src),.v (.int .i64 c.dst),.v (.string (X7 c.name)),.v (.int .i64 0),.v (.int .i64 0),.v (.int .i64 0),.v (.string (X7 [])),.v (.slice none 0 0)]
def Xhj (op id f t:Int) (s:List UInt8):leC (iy ⟨op,id,f,t,s,zV⟩) (Xp ⟨op,id,f,t,s,zV⟩):=
 X1p (X1O _) (X1p (X1O _) (X1p (X1O _) (X1p (X1O _) (X1p (X1O _) (X1p (X1O _) (X1p (X1O _) (X1p (X1O _) (X1p (X1O _) (X1p (XhI 5) XlW)))))))))
def Xiz {α:Type}{sz:Nat}{f g:α->List D} (h:∀x,leC (f x) (g x)/\J (f x)=J (g x)):∀l:List α,leW sz (l.map f) (l.map g)
 |[]=>XmH sz
 |x::l=>XdN (h x).1 (h x).2 (Xiz h l)
def Xl3 (sz:Nat) {α:Type}{f g:α->List D} (h:∀x,leC (f x) (g x)/\J (f x)=J (g x)) (l:List α) (b:List (List D)):leW sz (l.map f++b) (l.map g++b):=by
 induction l with
 |nil=>exact⟨rfl,fun _ _ _ h=>h⟩
 |cons x l ih=>exact XdN (h x).1 (h x).2 ih
def XqR (s:List UInt8):Con prog 275 [] [.d (.sl 1 []),Xa s] [] (ab false):=by
 refine ZC1 func275 ntmps275 fun E=> ?_;refine XA ?_
 refine Xl (fun _:Unit=>True) (fun _=>⟨18,[(0,.d (.sl 1 [])),(5,ai 0)],[]⟩) (fun _=>0) () trivial
  (ZL0) ?_
 intro _ _;refine XD ?_
 (exact Zz2)
def Xv9 (s:List UInt8):Con prog 276 [] [.d (.sl 6 []),Xa s] [] (ab false):=by
 refine ZC1 func276 ntmps276 fun E=> ?_;refine XA ?_
 refine Xl (fun _:Unit=>True) (fun _=>⟨19,[(0,.d (.sl 6 [])),(5,ai 0)],[]⟩) (fun _=>0) () trivial
  (ZL0) ?_
 intro _ _;refine XD ?_
 (exact Zz2)
def Xmw :Con prog 97 [] [] [] (XZ UJ):=by
 refine ZC1 func97 ntmps97 fun E=> ?_;refine W9_ ?_;exact X3 ⟨_,Xg 100 (cs:=[aq,aq,ai 1,ai 1]) (cs':=[.d (.sl 3 []),.d (.sl 5 []),ai 1,ai 1]) rfl ⟨AVal.le_nil 3,AVal.le_nil 5,ZzV,ZzV,TV⟩ rfl,⟨⟨100,0,_,rfl,rfl,.inr ⟨4,_,rfl,rfl,rfl,rfl⟩⟩,TV⟩,X5 _⟩
def XmX (id:Int):Con prog 185 [] [.agg [.d (.sl 3 []),.d (.sl 5 []),ai 1,ai 1],ai id] [] (.tup [.agg [ai 0,.d (.sl 1 []),.d (.sl 6 [])],ab false]):=by
 refine ZCt func185 ntmps185 fun E=> ?_;refine XG ?_
 refine Xl (fun _:Unit=>True) (fun _=>⟨28,[(2,.ptr 100 0),(4,.ptr 101 0),(6,ai 0)],[(100,.box [.d (.sl 3 []),.d (.sl 5 []),ai 1,ai 1]),(101,.box [ai 0,aq,aq])]⟩) (fun _=>0) () trivial
  (ZL0) ?_
 intro _ _;refine Yb ?_;exact QKd
def XuY (id:Int):Con prog 218 [] [.agg [.d (.sl 3 []),.d (.sl 5 []),ai 1,ai 1],ai id] [] (.tup [.agg [ai 0,ai 0,ai 0,Xa [],.d (.sl 6 [])],ab false]):=by
 refine ZCt func218 ntmps218 fun E=> ?_;refine XG ?_
 refine Xl (fun _:Unit=>True) (fun _=>⟨28,[(2,.ptr 100 0),(4,.ptr 101 0),(6,ai 0)],[(100,.box [.d (.sl 3 []),.d (.sl 5 []),ai 1,ai 1]),(101,.box [ai 0,ai 0,ai 0,Xa [],aq])]⟩) (fun _=>0) () trivial
  (ZL0) ?_
 intro _ _;refine Yb ?_;exact QLd
def Xnq (a b c:Int) (s:List UInt8) (ps:List (List D)):Con prog 214 [] [.agg [ai a,ai b,ai c,Xa s,.d (.sl 6 ps)],.agg [.d (.sl 3 []),.d (.sl 5 []),ai 1,ai 1]] [] (ab true):=by
 refine ZC1 func214 ntmps214 fun E=> ?_;have h:=XuY a;refine UK ?_
 (exact Zz2)
def Xsc (op id:Int) (l:List (List UInt8)) (hl:J l<=100000):Con prog 215 [] [ai op,ai id,.d (.sl 1 (l.map Xf)),.d (.sl 1 [])] [] (.d (.sl 10 ((l.map fun s=>(⟨op,id,0,0,s,zV⟩:Chg)).map Xp))):=by
 refine ZC1 func215 ntmps215 fun E=> ?_;obtain⟨X,hX⟩:∃X:Nat->List (List D),∀i,((l.take i).map fun s=>iy ⟨op,id,0,0,s,zV⟩)=X i:=⟨_,fun _=>rfl⟩
 have bF:X 0=[]:=IL
 have g6:(l.map fun s=>iy ⟨op,id,0,0,s,zV⟩)=X (J l):=Jc
 have b7:∀i,J (X i)<=J l:=fun i=>by rw[<-hX];simp;omega
 have bw:∀i s,l[i]? =some s->X (i+1)=X i++[iy ⟨op,id,0,0,s,zV⟩]:=fun i s hs=>by rw[<-hX,<-hX,X1A hs,map_append];rfl
 have hlm:J (l.map Xf)=J l:=Oc
 have hle:leW 10 (X (J l)) ((l.map fun s=>(⟨op,id,0,0,s,zV⟩:Chg)).map Xp):=by
  rw[<-g6,map_map];exact Xiz (fun s=>⟨Xhj op id 0 0 s,rfl⟩) l
 clear hX g6;generalize hC:l.map Xf=C at*;refine XD ?_;refine X8 (Uo 9 130 10 rfl rfl rfl) ?_
 refine Xl (fun i:Nat=>i<=J l) (fun i=>⟨35,[(0,ai op),(1,ai id),(2,.d (.sl 1 C)),(3,.d (.sl 1 [])),(8,aq),(9,.own 130 (J (X i))),(10,ai i)],[(130,.row 10 (X i))]⟩) (fun i=>J l-i) 0 (Nat.zero_le _)
  (X9 rfl ⟨JL,JL,JL,JL,JL,Jw,JL,TV⟩ ⟨(by rw[bF];rfl),TV⟩) ?_
 intro i hi;have hroom:=b7 i;by_cases hil:i<J l
 case neg=>
  obtain rfl:i=J l:=Oa
  have hn:¬((J l:Nat):Int)<J C:=Oa
  clear bw hC;refine Qge ?_;refine X8 (XX 9 130 rfl rfl rfl) ?_;refine X8 (Xe 9 (AVal.le_d (XcE hle))) ?_;refine W4_ ?_
  (exact Zz2)
 have hn:(i:Int)<J C:=Oa
 obtain⟨s,hs⟩:=Xn (l:=l) hil;have hsc:C[i]? =some (Xf s):=by rw[<-hC];exact XC hs
 have hst:=bw i s hs;have hc:=XqR s;simp only[Xf,iy] at hsc hst;clear bw hC hle hs;refine QO ?_;refine⟨i+1,hil,Oa,?_⟩;rw[hst];exact X9 rfl ⟨JL,JL,JL,JL,JL,ZzQ Jk,JL,TV⟩ ⟨rfl,TV⟩
def XxA (op id:Int) (C:List (List D)):Con prog 215 [] [ai op,ai id,.d (.sl 1 []),.d (.sl 1 C)] [] (.d (.sl 10 [])):=by
 refine ZC1 func215 ntmps215 fun E=> ?_;refine XD ?_
 refine Xl (fun _:Unit=>True) (fun _=>⟨35,[(2,.d (.sl 1 [])),(8,aq),(9,aq),(10,ai 0)],[]⟩) (fun _=>0) () trivial
  (ZL0) ?_
 intro _ _;refine Ya ?_;exact X3 ⟨_,Xe 8 (AVal.le_nil 10),⟨rfl,TV⟩,X5 _⟩
def Xji (op id:Int) (C:List (List D)):Con prog 216 [] [ai op,ai id,.d (.sl 6 []),.d (.sl 6 C)] [] (.d (.sl 10 [])):=by
 refine ZC1 func216 ntmps216 fun E=> ?_;refine XD ?_
 refine Xl (fun _:Unit=>True) (fun _=>⟨37,[(2,.d (.sl 6 [])),(8,aq),(9,aq),(10,ai 0)],[]⟩) (fun _=>0) () trivial
  (ZL0) ?_
 intro _ _;refine Ya ?_;exact X3 ⟨_,Xe 8 (AVal.le_nil 10),⟨rfl,TV⟩,X5 _⟩
def Xmz (op id:Int) (l:List Prp) (hl:J l<=100000):Con prog 217 [] [ai op,ai id,.d (.sl 6 []),.d (.sl 6 (l.map Xb))] [] (.d (.sl 10 ((Vg op id l).map Xp))):=by
 refine ZC1 func217 ntmps217 fun E=> ?_;obtain⟨X,hX⟩:∃X:Nat->List (List D),∀i,((Vg op id (l.take i)).map Xp)=X i:=⟨_,fun _=>rfl⟩
 have bF:X 0=[]:=by rw[<-hX];simp[Vg]
 have g6:((Vg op id l).map Xp)=X (J l):=Jc
 have b7:∀i,J (X i)<=J l:=fun i=>by rw[<-hX];simp[Vg];omega
 have bw:∀i p,l[i]? =some p->X (i+1)=X i++[Xp ⟨op,id,0,0,p.key,p.v⟩]:=fun i p hp=>by rw[<-hX,<-hX,X1A hp];unfold Vg;rw[map_append,map_append];rfl
 have hlm:J (l.map Xb)=J l:=Oc
 rw[g6];clear hX g6;generalize hC:l.map Xb=C at*;refine XD ?_;refine X8 (Uo 9 130 10 rfl rfl rfl) ?_
 refine Xl (fun i:Nat=>i<=J l) (fun i=>⟨58,[(0,ai op),(1,ai id),(2,.d (.sl 6 [])),(3,.d (.sl 6 C)),(8,aq),(9,.own 130 (J (X i))),(10,ai i)],[(130,.row 10 (X i))]⟩) (fun i=>J l-i) 0 (Nat.zero_le _)
  (X9 rfl ⟨JL,JL,JL,JL,JL,Jw,JL,TV⟩ ⟨(by rw[bF];rfl),TV⟩) ?_
 intro i hi;have hroom:=b7 i;by_cases hil:i<J l
 case neg=>
  obtain rfl:i=J l:=Oa
  have hn:¬((J l:Nat):Int)<J C:=Oa
  clear bw hC;refine Qge ?_;refine X8 (XX 9 130 rfl rfl rfl) ?_;refine W4_ ?_
  (exact Zz2)
 have hn:(i:Int)<J C:=Oa
 obtain⟨p,hp⟩:=Xn (l:=l) hil;have aX:C[i]? =some (Xb p):=by rw[<-hC];exact XC hp
 have hst:=bw i p hp;have hc:=Xv9 p.key;obtain⟨key,⟨k0,k1,k2,k3,k4⟩⟩:=p;simp only[Xb,UB,XR,Xp] at*;clear bw hC hp;refine X4 ?_;refine YA ?_;refine⟨i+1,hil,Oa,?_⟩;rw[hst];exact X9 rfl ⟨JL,JL,JL,JL,JL,ZzQ Jk,JL,TV⟩ ⟨rfl,TV⟩
def XqM (es:List Edg) (h:∀e∈es,J e.props<=16/\∀p∈e.props,U9 p.v=true):J (X1J es)<=17*J es:=by
 unfold X1J;rw[LA,LM];have:=X2N (w:=eV) (k:=16) (l:=es) fun x hx=>by
  have:=h x hx;unfold eV Vg;rw[LM];omega
 omega
def Xqt (B1 B2:List (List D)) (nn ne:Int):Con prog 158 [] [.agg [.d (.sl 3 []),.d (.sl 5 []),ai 1,ai 1],.agg [.d (.sl 3 B1),.d (.sl 5 B2),ai nn,ai ne]] [] aq:=by
 refine ZC1 func158 ntmps158 fun E=> ?_;refine Yr ?_
 refine Xl (fun _:Unit=>True) (fun _=>⟨65,[(2,.ptr 100 0),(4,aq),(5,aq),(6,ai 0)],[(100,.box [.d (.sl 3 []),.d (.sl 5 []),ai 1,ai 1])]⟩) (fun _=>0) () trivial
  (ZL0) ?_
 intro _ _;refine Yb ?_
 refine Xl (fun _:Unit=>True) (fun _=>⟨65,[(2,.ptr 100 0),(4,aq),(5,aq),(7,ai 0)],[(100,.box [.d (.sl 3 []),.d (.sl 5 []),ai 1,ai 1])]⟩) (fun _=>0) () trivial
  (ZL0) ?_
 intro _ _;refine Yr ?_
 (exact Zz2)
def Xyf (ns:List Nod) (C2:List (List D)) (nn ne:Int) (hok:∀n∈ns,J n.labels<=8/\J n.props<=16) (hl:J ns<=4000):Con prog 159 [] [.agg [.d (.sl 3 []),.d (.sl 5 []),ai 1,ai 1],.agg [.d (.sl 3 (ns.map Xi)),.d (.sl 5 C2),ai nn,ai ne]] [] (.d (.sl 10 ((X0Z ns).map Xp))):=by
 refine ZC1 func159 ntmps159 fun E=> ?_;have hlm:J (ns.map Xi)=J ns:=Oc
 obtain⟨X,hX⟩:∃X:Nat->List (List D),∀i,((ns.take i).map (fun x=>iy (gA x)))=X i:=⟨_,fun _=>rfl⟩
 have bF:X 0=[]:=IL
 have b7:∀i,J (X i)<=J ns:=fun i=>by rw[<-hX];simp;omega
 have bw:∀i x,ns[i]? =some x->X (i+1)=X i++[iy (gA x)]:=fun i x hx=>by rw[<-hX,<-hX,X1A hx,map_append];rfl
 obtain⟨Y,hY⟩:∃Y:Nat->List (List D),∀i,X (J ns)++(((ns.take i).map dU).flatten).map Xp=Y i:=⟨_,fun _=>rfl⟩
 have eZ:X (J ns)=Y 0:=by rw[<-hY];simp
 have eu:∀i x,ns[i]? =some x->Y (i+1)=Y i++(dU x).map Xp:=fun i x hx=>Ii
 have hcb:∀x∈ns,J (dU x)<=24:=fun x hx=>by
  have:=hok x hx;simp only[dU,X5D,Vg,LA,LM];omega
 have ey:∀i,i<=J ns->J (Y i)<=J ns+24*i:=fun i=>by
  induction i with
  |zero=>intro _;rw[<-eZ];have:=b7 (J ns);omega
  |succ i ih=>
   intro hi;obtain⟨x,hx⟩:=Xn (l:=ns) (k:=i) Oa;rw[eu i x hx,LA,LM];have:=hcb x (mem_of_getElem? hx);have:=ih Oa;omega
 have hle:leW 10 (Y (J ns)) ((X0Z ns).map Xp):=by
  unfold X0Z;rw[<-hY,<-hX,take_length,map_append,map_map];exact Xl3 10 (fun x=>⟨Xhj _ _ _ _ _,rfl⟩) ns _
 clear hX hY;refine Yr ?_;refine X8 (Uo 5 130 10 rfl rfl rfl) ?_
 refine Xl (fun i:Nat=>i<=J ns) (fun i=>⟨99,[(2,.ptr 100 0),(3,.ptr 101 0),(4,aq),(5,.own 130 (J (X i))),(6,ai i)],[(100,.box [.d (.sl 3 []),.d (.sl 5 []),ai 1,ai 1]),(101,.box [.d (.sl 3 (ns.map Xi)),.d (.sl 5 C2),ai nn,ai ne]),(130,.row 10 (X i))]⟩) (fun i=>J ns-i) 0 (Nat.zero_le _)
  (X9 rfl ⟨JL,JL,JL,Jw,JL,TV⟩ ⟨rfl,rfl,(by rw[bF];rfl),TV⟩) ?_
 intro i hi;have hroom:=b7 i;by_cases hil:i<J ns
 case pos=>
  have hn:(i:Int)<J (ns.map Xi):=Oa
  obtain⟨x,hx⟩:=Xn (l:=ns) hil;have au:(ns.map Xi)[i]? =some (Xi x):=XC hx;have hst:=bw i x hx;clear bw eu ey hcb hle hx hok bF eZ;obtain⟨xi,xl,xp⟩:=x;have hc:=XmX xi;simp only[Xi,gA,iy] at au hst;refine QZ ?_;refine⟨i+1,hil,Oa,?_⟩;rw[hst];exact QJe
 obtain rfl:i=J ns:=Oa
 have hn:¬((J ns:Nat):Int)<J (ns.map Xi):=Oa
 rw[eZ];clear bw bF eZ hroom b7;refine Yb ?_
 refine Xl (fun i:Nat=>i<=J ns) (fun i=>⟨99,[(2,.ptr 100 0),(3,.ptr 101 0),(4,aq),(5,.own 130 (J (Y i))),(9,ai i)],[(100,.box [.d (.sl 3 []),.d (.sl 5 []),ai 1,ai 1]),(101,.box [.d (.sl 3 (ns.map Xi)),.d (.sl 5 C2),ai nn,ai ne]),(130,.row 10 (Y i))]⟩) (fun i=>J ns-i) 0 (Nat.zero_le _)
  (ZL0) ?_
 clear hn;intro i hi';have hroom:=ey i hi';by_cases hil:i<J ns
 case pos=>
  have hn:(i:Int)<J (ns.map Xi):=Oa
  obtain⟨x,hx⟩:=Xn (l:=ns) hil;have au:(ns.map Xi)[i]? =some (Xi x):=XC hx;have hst:=eu i x hx;have qv:=hok x (mem_of_getElem? hx);clear eu ey hcb hle hx hok;obtain⟨xi,xl,xp⟩:=x;simp only at qv;have hc:=XmX xi;have h1:=XxA 4 xi (xl.map Xf);have h2:=Xji 5 xi (xp.map Xb);have h3:=Xsc 3 xi xl Oa;have h4:=Xmz 5 xi xp Oa;rw[show (dU ⟨xi,xl,xp⟩).map Xp=((xl.map fun s=>(⟨3,xi,0,0,s,zV⟩:Chg)).map Xp)++(Vg 5 xi xp).map Xp by unfold dU X5D;rw[map_append]] at hst;have w1:J ((xl.map fun s=>(⟨3,xi,0,0,s,zV⟩:Chg)).map Xp)<=8:=Ou
  have w2:J ((Vg 5 xi xp).map Xp)<=16:=by simp[Vg];omega
  simp only[Xi] at au;generalize (xl.map fun s=>(⟨3,xi,0,0,s,zV⟩:Chg)).map Xp=W1 at*;generalize (Vg 5 xi xp).map Xp=W2 at*;refine Qia ?_;refine Z5 (ag:=h1) ?_;refine V4 ?_;refine Z5 (ag:=h3) ?_;refine YV ?_;refine⟨i+1,hil,Oa,?_⟩;rw[hst];exact X9 rfl ⟨JL,JL,JL,ZzQ (by refine Eq.trans (b:=AVal.own 130 (_+_)) rfl ?_;simp only[LA,append_nil,Nat.add_assoc]),JL,TV⟩ ⟨rfl,rfl,(by refine Eq.trans (b:=AObj.row 10 (Y i++[]++[]++W1++W2)) rfl ?_;simp only[append_nil,AS]),TV⟩
 obtain rfl:i=J ns:=Oa
 have hn:¬((J ns:Nat):Int)<J (ns.map Xi):=Oa
 exact Yt54
def Xsr (es:List Edg) (C2:List (List D)) (nn ne:Int) (hok:∀e∈es,J e.props<=16) (hl:J es<=4000):Con prog 160 [] [.agg [.d (.sl 3 []),.d (.sl 5 []),ai 1,ai 1],.agg [.d (.sl 3 C2),.d (.sl 5 (es.map Xk)),ai nn,ai ne]] [] (.d (.sl 10 ((X1J es).map Xp))):=by
 refine ZC1 func160 ntmps160 fun E=> ?_;have hlm:J (es.map Xk)=J es:=Oc
 obtain⟨X,hX⟩:∃X:Nat->List (List D),∀i,((es.take i).map (fun x=>iy (gB x)))=X i:=⟨_,fun _=>rfl⟩
 have bF:X 0=[]:=IL
 have b7:∀i,J (X i)<=J es:=fun i=>by rw[<-hX];simp;omega
 have bw:∀i x,es[i]? =some x->X (i+1)=X i++[iy (gB x)]:=fun i x hx=>by rw[<-hX,<-hX,X1A hx,map_append];rfl
 obtain⟨Y,hY⟩:∃Y:Nat->List (List D),∀i,X (J es)++(((es.take i).map eV).flatten).map Xp=Y i:=⟨_,fun _=>rfl⟩
 have eZ:X (J es)=Y 0:=by rw[<-hY];simp
 have eu:∀i x,es[i]? =some x->Y (i+1)=Y i++(eV x).map Xp:=fun i x hx=>Ii
 have hcb:∀x∈es,J (eV x)<=16:=fun x hx=>by
  have:=hok x hx;simp only[eV,Vg,LA,LM];omega
 have ey:∀i,i<=J es->J (Y i)<=J es+16*i:=fun i=>by
  induction i with
  |zero=>intro _;rw[<-eZ];have:=b7 (J es);omega
  |succ i ih=>
   intro hi;obtain⟨x,hx⟩:=Xn (l:=es) (k:=i) Oa;rw[eu i x hx,LA,LM];have:=hcb x (mem_of_getElem? hx);have:=ih Oa;omega
 have hle:leW 10 (Y (J es)) ((X1J es).map Xp):=by
  unfold X1J;rw[<-hY,<-hX,take_length,map_append,map_map];exact Xl3 10 (fun x=>⟨Xhj _ _ _ _ _,rfl⟩) es _
 clear hX hY;refine Yr ?_;refine X8 (Uo 5 130 10 rfl rfl rfl) ?_
 refine Xl (fun i:Nat=>i<=J es) (fun i=>⟨82,[(2,.ptr 100 0),(3,.ptr 101 0),(4,aq),(5,.own 130 (J (X i))),(6,ai i)],[(100,.box [.d (.sl 3 []),.d (.sl 5 []),ai 1,ai 1]),(101,.box [.d (.sl 3 C2),.d (.sl 5 (es.map Xk)),ai nn,ai ne]),(130,.row 10 (X i))]⟩) (fun i=>J es-i) 0 (Nat.zero_le _)
  (X9 rfl ⟨JL,JL,JL,Jw,JL,TV⟩ ⟨rfl,rfl,(by rw[bF];rfl),TV⟩) ?_
 intro i hi;have hroom:=b7 i;by_cases hil:i<J es
 case pos=>
  have hn:(i:Int)<J (es.map Xk):=Oa
  obtain⟨x,hx⟩:=Xn (l:=es) hil;have au:(es.map Xk)[i]? =some (Xk x):=XC hx;have hst:=bw i x hx;clear bw eu ey hcb hle hx hok bF eZ;obtain⟨xi,xs,xd,xt,xp⟩:=x;have hc:=Xnq xi xs xd xt (xp.map Xb);simp only[Xk,gB,iy] at au hst;refine Qbb ?_;refine⟨i+1,hil,Oa,?_⟩;rw[hst];exact QJe
 obtain rfl:i=J es:=Oa
 have hn:¬((J es:Nat):Int)<J (es.map Xk):=Oa
 rw[eZ];clear bw bF eZ hroom b7;refine Yb ?_
 refine Xl (fun i:Nat=>i<=J es) (fun i=>⟨82,[(2,.ptr 100 0),(3,.ptr 101 0),(4,aq),(5,.own 130 (J (Y i))),(8,ai i)],[(100,.box [.d (.sl 3 []),.d (.sl 5 []),ai 1,ai 1]),(101,.box [.d (.sl 3 C2),.d (.sl 5 (es.map Xk)),ai nn,ai ne]),(130,.row 10 (Y i))]⟩) (fun i=>J es-i) 0 (Nat.zero_le _)
  (ZL0) ?_
 clear hn;intro i hi';have hroom:=ey i hi';by_cases hil:i<J es
 case pos=>
  have hn:(i:Int)<J (es.map Xk):=Oa
  obtain⟨x,hx⟩:=Xn (l:=es) hil;have au:(es.map Xk)[i]? =some (Xk x):=XC hx;have hst:=eu i x hx;have qv:=hok x (mem_of_getElem? hx);clear eu ey hcb hle hx hok;obtain⟨xi,xs,xd,xt,xp⟩:=x;simp only at qv;have hc:=Xnq xi xs xd xt (xp.map Xb);have h2:=Xji 8 xi (xp.map Xb);have h4:=Xmz 8 xi xp Oa;rw[show (eV ⟨xi,xs,xd,xt,xp⟩).map Xp=(Vg 8 xi xp).map Xp from rfl] at hst;have w2:J ((Vg 8 xi xp).map Xp)<=16:=by simp[Vg];omega
  simp only[Xk] at au;generalize (Vg 8 xi xp).map Xp=W2 at*;refine Qna ?_;refine⟨i+1,hil,Oa,?_⟩;rw[hst];exact X9 rfl ⟨JL,JL,JL,ZzQ (by refine Eq.trans (b:=AVal.own 130 (_+_)) rfl ?_;simp only[LA,append_nil]),JL,TV⟩ ⟨rfl,rfl,(by refine Eq.trans (b:=AObj.row 10 (Y i++[]++W2)) rfl ?_;simp only[append_nil]),TV⟩
 obtain rfl:i=J es:=Oa
 have hn:¬((J es:Nat):Int)<J (es.map Xk):=Oa
 exact Yt54
def XxM (g:Gra) (v:GV g) (hg:GraHold g):Con prog 96 [] [XZ UJ,XZ g] [] (.tup [.d (.sl 10 ((X0v g).map Xp)),ai 0]):=by
 refine ZCt func96 ntmps96 fun E=> ?_;have h1:=Xbh UJ Xdk;have h2:=Xbh g hg;rw[XbB] at h1;rw[(X6Q.2 v:X0w g=0)] at h2;have l1:=v.nl;have l2:=v.el;have hn:=Xie g.nodes (gvN v);have he:=XqM g.aj (gvE v);have c1:=Xqt (g.nodes.map Xi) (g.aj.map Xk) g.nn g.ne;have c2:=Xyf g.nodes (g.aj.map Xk) g.nn g.ne (fun n h=>⟨(gvN v n h).1,(gvN v n h).2.1⟩) Oa;have c3:=Xsr g.aj (g.nodes.map Xi) g.nn g.ne (fun n h=>(gvE v n h).1) Oa;have e:(X0v g).map Xp=[]++(X0Z g.nodes).map Xp++(X1J g.aj).map Xp:=by unfold X0v;simp
 have w1:J ((X0Z g.nodes).map Xp)<=100000:=Oj
 have w2:J ((X1J g.aj).map Xp)<=100000:=Oj
 rw[e];clear e hn he l1 l2 v hg;generalize (X0Z g.nodes).map Xp=W1 at*;generalize (X1J g.aj).map Xp=W2 at*;obtain⟨ns,es,nn,ne⟩:=g;simp only[XZ,map_nil] at*;refine XB ?_;refine Z5 (ag:=h1) ?_;refine XK ?_;refine Z5 (ag:=h2) ?_;refine Yb ?_;refine X8 (Uo 8 130 10 rfl rfl rfl) ?_;refine Yh ?_;refine Qdc ?_;refine X8 (XX 8 130 rfl rfl Oc) ?_;refine W5_ ?_
 (exact Zz1 rfl ⟨_,ZzS,⟨rfl,rfl,TV⟩,X5 _⟩)
def XxZ {g:Gra} (v:GV g):∀c∈X0v g,U1 c.v:=by
 intro c hc;have hz:U1 zV:=X6p;have hp:∀op id (l:List Prp),(∀p∈l,U9 p.v=true)->∀c∈Vg op id l,U1 c.v:=fun op id l h c hc=>by
  obtain⟨p,hp,rfl⟩:=mem_map.1 hc;exact XcY _ 8 (Xhf (h p hp)).1
 unfold X0v X0Z X1J at hc;simp only[mem_append,mem_map,mem_flatten] at hc;rcases hc with (⟨n,hn,rfl⟩|⟨l,⟨n,hn,rfl⟩,hc⟩)|(⟨e,he,rfl⟩|⟨l,⟨e,he,rfl⟩,hc⟩)
 ·exact hz
 ·rcases mem_append.1 hc with h|h
  ·obtain⟨s,_,rfl⟩:=mem_map.1 h;exact hz
  ·exact hp _ _ _ (gvN v n hn).2.2 c h
 ·exact hz
 ·exact hp _ _ _ (gvE v e he).2 c hc
def XfI (s:Sta) (v:GV s.g) (hr:SchV s.rules) (hg:GraHold s.g):Con prog 55 [] [Xz s] [] (.d (Xc (XQ s.g s.rules))):=by
 refine ZC1 func55 ntmps55 fun E=> ?_;have mH:=XxM s.g v hg;have aL:=XbU v;have jx:=Xc6 v;have ux:=XxZ v;have hnew:=Xmw;have dB:=v.nn;have hne:=v.ne;have hrl:=hr.len;have jA:=hr.ok;unfold XQ X5e;generalize hcs:X0v s.g=cs at*;obtain⟨⟨ns,es,nn,ne⟩,rs,ts,ep,tail⟩:=s;simp only[Xz,XZ,map_nil] at*;clear v hr hg hcs;have dW:J (rs.map Xh)=J rs:=Oc
 have fk:J (cs.map Xp)=J cs:=Oc
 have iE:=X8j (J (rs.map Xh):Nat) Oa;have fG:=X3m (J (cs.map Xp):Nat) Oa;have ic:=X3m nn Oa;have kM:=X3m ne Oa;have t1:=X0g (n:=(J (rs.map Xh):Nat)) Oa;have t2:=X0g (n:=(J (cs.map Xp):Nat)) Oa;have t3:=X0g (n:=nn) Oa;have t4:=X0g (n:=ne) Oa;have hrb:∀k,J ((rs.take k).map cu).flatten<=8000:=fun k=>by
  exact Yt39
 have hcb:∀k,J ((cs.take k).map cw).flatten<=30000000:=fun k=>by
  exact Yt40
 rw[<-dW,<-fk];generalize qj:Xq (J (rs.map Xh):Nat)=P1 at*;generalize ql:Xq (J (cs.map Xp):Nat)=P2 at*;generalize Xq nn=P3 at*;generalize Xq ne=P4 at*;obtain⟨A,hA⟩:∃A:Nat->List (List D),∀k,(P1++((rs.take k).map cu).flatten).map X6=A k:=⟨_,fun _=>rfl⟩
 have dh:P1.map X6=A 0:=by rw[<-hA];simp
 have fu:∀k,J (A k)<=8010:=fun k=>by rw[<-hA,LM,LA];have:=hrb k;omega
 have kN:∀k x,rs[k]? =some x->A (k+1)=A k++(cu x).map X6:=fun k x hx=>by rw[<-hA,<-hA];exact Xct hx
 obtain⟨B,hB⟩:∃B:Nat->List (List D),∀k,A (J rs)++(P2++((cs.take k).map cw).flatten).map X6=B k:=⟨_,fun _=>rfl⟩
 have fy:A (J rs)++P2.map X6=B 0:=by rw[<-hB];simp
 have dJ:∀k,J (B k)<=31000000:=fun k=>IA
 have eD:∀k x,cs[k]? =some x->B (k+1)=B k++(cw x).map X6:=fun k x hx=>by rw[<-hB,<-hB,Xct hx,AS]
 have bI:(P1++(rs.map cu).flatten++(P2++(cs.map cw).flatten++(P3++P4))).map X6=B (J cs)++P3.map X6++P4.map X6:=by
  rw[<-hB,<-hA,take_length,take_length];simp only[map_append,AS]
 unfold Xc at*;rw[bI];have jN:J (P1.map X6)=J P1:=LM ..;have rN:J (P2.map X6)<=10:=by rw[LM];exact t2
 have rO:J (P3.map X6)<=10:=Jy
 have rP:J (P4.map X6)<=10:=by rw[LM];exact t4
 have hw1:∀x∈rs,J ((cu x).map X6)<=200:=fun x hx=>by
  have h:=jA x hx;rw[LM,show cu x=VN x from PI h];exact X5Z h
 have cC:∀x∈cs,J ((cw x).map X6)<=200:=fun x hx=>by
  have h:=jx x hx;rw[LM,show cw x=U3 x from PI h];exact X5X h
 rw[<-jN] at iE;rw[dh] at iE;clear hrb hcb bI qj ql hA hB dh t1 t2 t3 t4 jA jx jN;generalize P2.map X6=Q2 at*;generalize P3.map X6=Q3 at*;generalize P4.map X6=Q4 at*;refine XA ?_;refine Z5 (ag:=iE) ?_;refine W8_ ?_
 refine Xl (fun k:Nat=>k<=J rs) (fun k=>⟨64,[(1,.ptr 100 0),(3,.own 130 (J (A k))),(4,ai k)],[(100,.box [.d (.sl 3 (ns.map Xi)),.d (.sl 5 (es.map Xk)),ai nn,ai ne,.d (.sl 6 (rs.map Xh)),ai ts,ai ep,ai tail]),(130,.row 1 (A k))]⟩) (fun k=>J rs-k) 0 (Nat.zero_le _)
  (ZL0) ?_
 intro k hk;have qm:=fu k;by_cases aG:k<J rs
 case pos=>
  have hn:(k:Int)<J (rs.map Xh):=Oa
  obtain⟨x,hx⟩:=Xn (l:=rs) aG;have au:(rs.map Xh)[k]? =some (Xh x):=XC hx;have hp:=Xnk x;have hst:=kN k x hx;have qn:=hw1 x (mem_of_getElem? hx);unfold Xc at hp;generalize (cu x).map X6=W at*;clear kN fu eD dJ fy mH hx hw1 cC hnew fG ic kM;obtain⟨rk,rn,dX,g8,g9,ga⟩:=x;simp only[Yu,Xh] at au hp;refine YV ?_;refine Z5 (ag:=hp) ?_;refine W8_ ?_;refine⟨k+1,aG,Oa,?_⟩;rw[hst];exact X9 rfl ⟨JL,ZzQ Ol,JL,TV⟩ ⟨rfl,rfl,TV⟩
 obtain rfl:k=J rs:=Oa
 have hn:¬((J rs:Nat):Int)<J (rs.map Xh):=Oa
 clear kN fu hk aG hw1;refine U7 ?_;refine Z5 (ag:=fG) ?_;refine W9_ ?_;have hb0:∀S:St,True:=fun _=>trivial
 skip
 refine Xl (fun k:Nat=>k<=J cs) (fun k=>⟨64,[(1,.ptr 100 0),(3,.own 130 (J (B k))),(5,.d (.sl 10 (cs.map Xp))),(7,ai k)],[(100,.box [.d (.sl 3 (ns.map Xi)),.d (.sl 5 (es.map Xk)),ai nn,ai ne,.d (.sl 6 (rs.map Xh)),ai ts,ai ep,ai tail]),(130,.row 1 (B k))]⟩) (fun k=>J cs-k) 0 (Nat.zero_le _)
  (by rw[<-fy];exact X9 rfl ⟨JL,ZzQ Ol,JL,JL,TV⟩ ⟨rfl,rfl,TV⟩) ?_
 clear hn qm fy mH hnew hb0;intro k hk;have hbk:=dJ k;by_cases aG:k<J cs
 case pos=>
  have hn:(k:Int)<J (cs.map Xp):=Oa
  obtain⟨x,hx⟩:=Xn (l:=cs) aG;have au:(cs.map Xp)[k]? =some (Xp x):=XC hx;have hp:=XjJ x (ux x (mem_of_getElem? hx));have hst:=eD k x hx;have qn:=cC x (mem_of_getElem? hx);unfold Xc at hp;generalize (cw x).map X6=W at*;clear eD dJ hx cC fG ic kM;obtain⟨op,id,src,dst,name,⟨vk,vn,vd,vs,vl⟩⟩:=x;simp only[Xu,Xp] at au hp;refine Yh ?_;refine Z5 (ag:=hp) ?_;refine W8_ ?_;refine⟨k+1,aG,Oa,?_⟩;rw[hst];exact X9 rfl ⟨JL,ZzQ Ol,JL,JL,TV⟩ ⟨rfl,rfl,TV⟩
 obtain rfl:k=J cs:=Oa
 have hn:¬((J cs:Nat):Int)<J (cs.map Xp):=Oa
 clear eD dJ hk aG cC fG;generalize B (J cs)=Z at*;refine Yr ?_;refine Z5 (ag:=ic) ?_;refine W9_ ?_;refine Z5 (ag:=kM) ?_;refine W3_ ?_;refine Qdc ?_;refine X8 (XX 2 130 rfl rfl Jt) ?_
 (exact Zz2)
end Go.Fw
