/- Entries read back; Scan. -/
import Derived.Test.YtfmfekakaeafhaaGreatDoorP36
set_option linter.all false
set_option maxHeartbeats 64000000
namespace Go.Fw
open Go Go.Proofs Tryz List
open List renaming length->J
set_option maxRecDepth 100000
def Xt9 (b:List UInt8) (hb:J b<=1000000):Con prog 135 [] [.d (Xc b)] [] (.tup [.d (Xc ((V2 b).getD [])),ab (V2 b).isSome]):=by
 refine ZCt func135 ntmps135 fun E=> ?_;have hlm:J (b.map X6)=J b:=Oc
 generalize hR:V2 b=R;refine Ya ?_;refine X8 (Uo 4 130 1 rfl rfl rfl) ?_
 refine Xl (ι:=Nat×List UInt8) (fun q=>q.1<=J b/\J q.2<=q.1/\(V2 (b.drop q.1)).map (fun l=>q.2++l)=R) (fun q=>⟨53,[(0,.d (Xc b)),(4,.own 130 (J (q.2.map X6))),(5,ai q.1)],[(130,.row 1 (q.2.map X6))]⟩) (fun q=>J b-q.1) (0,[]) ⟨Nat.zero_le _,Nat.le_refl _,by rw[drop_zero,hR];cases R<;>rfl⟩
  (ZL0) ?_
 rintro⟨i,o⟩ ⟨hi,ho,hg⟩;simp only at hi ho hg |-;have hroom:J (o.map X6)<=1000000:=Oj
 by_cases hil:i<J b
 case neg=>
  exact Yt29
 have hn:(i:Int)<J (b.map X6):=Oa
 obtain⟨x,hx⟩:=Xn (l:=b) hil;have au:(b.map X6)[i]? =some (X6 x):=XC hx;rw[X8d hx] at hg;by_cases hx1:x=1
 case neg=>
  have jM:¬(x.toNat:Int)=1:=fun q=>hx1 (UInt8.toNat_inj.1 (show x.toNat=(1:UInt8).toNat by have h:(1:UInt8).toNat=1:=rfl;omega));rw[Xa7 hx1,Option.map_map] at hg;have hst:(o++[x]).map X6=o.map X6++[X6 x]:=Oc
  exact Yt42
 subst hx1;by_cases mD:i+1<J b
 case neg=>
  have hn2:(i:Int)+1=J (b.map X6):=Oa
  rw[drop_of_length_le Oa,Xf3] at hg;have hg:none=R:=hg;subst hg;simp only[Option.getD_none,Option.isSome_none];clear hx;refine Qua ?_;refine QUd ?_;refine W9_ ?_
  (exact Zz1 rfl ⟨_,Xe 2 (AVal.le_nil 1),⟨rfl,rfl,TV⟩,X5 _⟩)
 have hn2:¬(i:Int)+1=J (b.map X6):=Oa
 obtain⟨y,hy⟩:=Xn (l:=b) mD;have cz:(b.map X6)[i+1]? =some (X6 y):=XC hy;rw[X8d hy] at hg;by_cases fN:y=1\/y=2
 case neg=>
  rw[XgV fN] at hg;have hg:none=R:=hg;subst hg;have a1:¬(y.toNat:Int)=1:=fun q=>fN (.inl (UInt8.toNat_inj.1 (show y.toNat=(1:UInt8).toNat by have h:(1:UInt8).toNat=1:=rfl;omega)));have a2:¬(y.toNat:Int)=2:=fun q=>fN (.inr (UInt8.toNat_inj.1 (show y.toNat=(2:UInt8).toNat by have h:(2:UInt8).toNat=2:=rfl;omega)));simp only[Option.getD_none,Option.isSome_none];clear hx hy;refine QVd ?_;refine UI ?_
  (exact Zz1 rfl ⟨_,Xe 2 (AVal.le_nil 1),⟨rfl,rfl,TV⟩,X5 _⟩)
 rw[X9w fN,Option.map_map] at hg;have jr:=Xje fN;have hst:(o++[y-1]).map X6=o.map X6++[X6 (y-1)]:=Oc
 have bD:(V2 (b.drop (i+1+1))).map (fun l=>(o++[y-1])++l)=R:=by rw[<-hg];congr 1;funext l;simp
 clear hx hy hg;rcases fN with rfl|rfl
 ·refine QVd ?_;refine Uf ?_;refine QWd ?_;refine QXd ?_;refine⟨(i+2,o++[1-1]),⟨Od,Ou,bD⟩,Od,?_⟩;dsimp only;rw[hst];exact QTd
 ·refine QVd ?_;refine Uf ?_;refine QYd ?_;refine QXd ?_;refine⟨(i+2,o++[2-1]),⟨Od,Ou,bD⟩,Od,?_⟩;dsimp only;rw[hst];exact QTd
theorem X2c (X:Rcd):Um X= .agg [ai X.kind,ai X.ts,.d (.sl 10 (X.changes.map Xp)),ai X.rule.kind,ai X.rule.n,Xa X.rule.name,Xa X.rule.key,Xa X.rule.src,Xa X.rule.dst,ab X.off]:=by
 obtain⟨kd,ts,l,⟨k,n,name,key,src,dst⟩,off⟩:=X;rfl
def XvR (b:List UInt8) (ep:Int) (hb:J b<=1000000):Con prog 79 [] [.d (Xc b),ai ep] [] (.tup [Um (VP b ep).1,ab (VP b ep).2]):=by
 refine ZCt func79 ntmps79 fun E=> ?_;have c1:=Xt9 b hb;have hlm:J (b.map X6)=J b:=Oc
 cases hu:V2 b with
 |none=>
  rw[XeX hu];rw[hu] at c1;simp only[Option.getD_none,Option.isSome_none,X2c,map_nil] at c1 |-;refine UA ?_
  (exact Zz1 rfl ⟨_,Xg 100 (cs':=[ai 0,ai 0,.d (.sl 10 []),ai 0,ai 0,Xa [],Xa [],Xa [],Xa [],ab false]) rfl JM rfl,⟨⟨100,0,_,rfl,rfl,.inr ⟨10,_,rfl,rfl,rfl,rfl⟩⟩,rfl,TV⟩,X5 _⟩)
 |some raw=>
 rw[hu] at c1;simp only[Option.getD_some,Option.isSome_some] at c1;by_cases hb0:b=[]
 ·subst hb0;rw[Xi9];have jE:(J (([]:List UInt8).map X6):Int)=0:=rfl;simp only[X2c,map_nil] at c1 |-;refine UA ?_
  (exact Zz1 rfl ⟨_,Xg 100 (cs':=[ai 0,ai 0,.d (.sl 10 []),ai 0,ai 0,Xa [],Xa [],Xa [],Xa [],ab false]) rfl JM rfl,⟨⟨100,0,_,rfl,rfl,.inr ⟨10,_,rfl,rfl,rfl,rfl⟩⟩,rfl,TV⟩,X5 _⟩)
 have jE:¬(J (b.map X6):Int)=0:=by
  have:J b≠0:=fun e=>hb0 (eq_nil_of_length_eq_zero e);omega
 rw[X9e hu];have hrl:=X9l (J b) b raw (Nat.le_refl _) hu;have dW:J (raw.map X6)=J raw:=Oc
 have c2:=Xhy raw 0 Oa;have fL:=X8D raw 0;unfold X5M;generalize Y8 raw 0=U at*;obtain⟨c,z,e⟩:=U;simp only at fL c2 |-;clear hu hb0;by_cases he:e=0
 case neg=>
  rw[PI (.inl he)];simp only[X2c,map_nil];refine Qma ?_
  (exact Zz1 rfl ⟨_,Xg 100 (cs':=[ai 0,ai 0,.d (.sl 10 []),ai 0,ai 0,Xa [],Xa [],Xa [],Xa [],ab false]) rfl JM rfl,⟨⟨100,0,_,rfl,rfl,.inr ⟨10,_,rfl,rfl,rfl,rfl⟩⟩,rfl,TV⟩,X5 _⟩)
 by_cases hz:z=J raw
 case neg=>
  have iW:¬z=(J (raw.map X6):Nat):=Jx
  rw[PI (.inr hz)];simp only[X2c,map_nil];refine Qma ?_
  (exact Zz1 rfl ⟨_,Xg 100 (cs':=[ai 0,ai 0,.d (.sl 10 []),ai 0,ai 0,Xa [],Xa [],Xa [],Xa [],ab false]) rfl JM rfl,⟨⟨100,0,_,rfl,rfl,.inr ⟨10,_,rfl,rfl,rfl,rfl⟩⟩,rfl,TV⟩,X5 _⟩)
 rw[NI (fun q=>q.elim (fun q=>q he) (fun q=>q hz))];have iW:z=(J (raw.map X6):Nat):=Jx
 clear hz;subst he;have c3:=X7h c 0 Oa;have hend:=X4Y c 0;unfold X7R;generalize Xd c 0=V at*;obtain⟨n,at_,e3⟩:=V;simp only at c3 hend |-;by_cases kJ:e3=0
 case neg=>
  rw[PI (.inl kJ)];clear hend;simp only[X2c,map_nil];refine QYa ?_;refine W4_ ?_
  (exact Zz1 rfl ⟨_,Xg 100 (cs':=[ai 0,ai 0,.d (.sl 10 []),ai 0,ai 0,Xa [],Xa [],Xa [],Xa [],ab false]) rfl JM rfl,⟨⟨100,0,_,rfl,rfl,.inr ⟨10,_,rfl,rfl,rfl,rfl⟩⟩,rfl,TV⟩,X5 _⟩)
 subst kJ;by_cases hn:n=ep
 case neg=>
  rw[PI (.inr hn)];clear hend;simp only[X2c,map_nil];refine QYa ?_;refine W4_ ?_
  (exact Zz1 rfl ⟨_,Xg 100 (cs':=[ai 0,ai 0,.d (.sl 10 []),ai 0,ai 0,Xa [],Xa [],Xa [],Xa [],ab false]) rfl JM rfl,⟨⟨100,0,_,rfl,rfl,.inr ⟨10,_,rfl,rfl,rfl,rfl⟩⟩,rfl,TV⟩,X5 _⟩)
 rw[NI (fun q=>q.elim (fun q=>q rfl) (fun q=>q hn))];obtain⟨q,hq,nG⟩:=hend rfl;simp only at hq nG;subst hq;rw[Int.toNat_natCast];have fk:J (c.map X6)=J c:=Oc
 have u7:q<=J (c.map X6):=Oa
 have bS:((c.map X6).take (J (c.map X6))).drop q=(c.drop q).map X6:=Jq
 have c4:=Xvl (c.drop q) OR;have hne:¬¬n=ep:=fun h=>h hn;generalize rdS (c.drop q)=D at*;obtain⟨X,e4⟩:=D;simp only[X2c] at c4 |-;clear fL hrl;refine QYa ?_;refine W3_ ?_;refine Z8 (lb:=q) (hb:=J (c.map X6)) (ys:=(c.drop q).map X6) ?_ (hys:=by exact bS);refine Yr ?_
 (exact Zz1 rfl ⟨_,ZzS,⟨⟨100,0,_,rfl,rfl,.inr ⟨10,_,rfl,rfl,rfl,rfl⟩⟩,rfl,TV⟩,X5 _⟩)
def Xzp (b:List UInt8):Con prog 78 [] [.d (Xc b),au8 0] [] (ai (Lib.indexByte b 0)):=by
 refine ZC1 func78 ntmps78 fun E=> ?_;refine W8_ ?_;refine Xxp (c:=0) (hg:=JSa) (hx:=JSb) (hy:=JSb) (hd:=JSb) ?_ (hf:=by exact func134) (h1:=Jd) (h2:=Jd) (h3:=Jd) (h4:=Jd);refine W2_ ?_
 (exact Zz2)
def X6L (ep:Int) (b:List UInt8) (a n:Nat) (h:X14 b=true/\(VP (Yo b) ep).2=true):US ep (n+1) b a=((VP (Yo b) ep).1::(US ep n (b.drop (J (Yo b)+1)) (a+(J (Yo b)+1))).1,(US ep n (b.drop (J (Yo b)+1)) (a+(J (Yo b)+1))).2):=by
 rw[US,PI h]
def X4l (ep:Int) (b:List UInt8) (a n:Nat) (h:¬(X14 b=true/\(VP (Yo b) ep).2=true)):US ep (n+1) b a=([],a):=by
 rw[US,NI h]
def Xah (ep:Int):∀(n m:Nat) (b:List UInt8) (a:Nat),J b<n->J b<m->US ep n b a=US ep m b a
 |0,_,b,_,h,_=>absurd h (Nat.not_lt_zero _)
 |_+1,0,b,_,_,h=>absurd h (Nat.not_lt_zero _)
 |n+1,m+1,b,a,h1,h2=>by
  by_cases h:X14 b=true/\(VP (Yo b) ep).2=true
  ·have hlt:=X7W h.1;rw[X6L ep b a n h,X6L ep b a m h,Xah ep n m (b.drop (J (Yo b)+1)) _ OR OR]
  ·rw[X4l ep b a n h,X4l ep b a m h]
def Xc7 (d:ak) (f t ep:Int) (hf:Vx d):Con prog 49 [] [XY d,ai f,ai t,ai ep] [] (.tup [.d (.sl 10 ((V8 d f t ep).1.map Y6)),ai (V8 d f t ep).2.1,ai (V8 d f t ep).2.2]):=by
 refine ZCt func49 ntmps49 fun E=> ?_;have hc:=Xmk d f t ep 0;by_cases he:Ua d f t ep 0=0
 case neg=>
  have e:V8 d f t ep=([],0,Ua d f t ep 0):=by unfold V8;rw[PI he]
  rw[e];generalize Ua d f t ep 0=r at*;clear hf;obtain⟨secs,af,on⟩:=d;simp only[map_nil];refine X17 ?_;exact X3 ⟨_,Xe 8 (AVal.le_nil 10),⟨rfl,rfl,rfl,TV⟩,X5 _⟩
 rw[he] at hc;obtain⟨hd,h1,h2,h3,_⟩:=X76 he;have hs:=Xif d f t hd hf h1 Oa h3;have e:V8 d f t ep=((X0b ep (XV d f t)).1,(((X0b ep (XV d f t)).2:Nat):Int),0):=by unfold V8;rw[NI Je]
 rw[e];have bx:J (XV d f t)<=200000:=by
  unfold XV;rw[X1j hd _ _ Oa];have:=hf.1;omega
 clear e he hf hd h1 h2 h3;generalize XV d f t=B at*;unfold X0b;generalize hR:US ep (J B+1) B 0=R;have lN:J (B.map X6)=J B:=Oc
 obtain⟨secs,af,on⟩:=d;refine Qla ?_;clear hc hs;refine X8 (Uo 14 130 10 rfl rfl rfl) ?_
 refine Xl (ι:=Nat×List Rcd) (fun q=>q.1<=J B/\J q.2<=q.1/\(q.2++(US ep (J B-q.1+1) (B.drop q.1) q.1).1,(US ep (J B-q.1+1) (B.drop q.1) q.1).2)=R) (fun q=>⟨63,[(3,ai ep),(13,.d (Xc B)),(14,.own 130 (J (q.2.map Y6))),(15,ai q.1)],[(130,.row 10 (q.2.map Y6))]⟩) (fun q=>J B-q.1) (0,[]) ⟨Nat.zero_le _,Nat.le_refl _,by rw[drop_zero,Nat.sub_zero,hR];rfl⟩
  (ZL0) ?_
 rintro⟨i,o⟩ ⟨hi,ho,hg⟩;simp only at hi ho hg |-;have hroom:J (o.map Y6)<=200000:=Oj
 have lF:i<=J (B.map X6):=Oa
 have bS:((B.map X6).take (J (B.map X6))).drop i=(B.drop i).map X6:=Jq
 have qb:=Xzp (B.drop i);have nM:J (B.drop i)=J B-i:=Oc
 rcases XvE (b:=B.drop i) with ⟨k1,k2⟩|⟨k1,k2⟩
 ·rw[X4l ep _ _ _ (fun h=>by rw[k1] at h;simp at h)] at hg;simp only[append_nil] at hg;subst hg;rw[k2] at qb;clear k1 k2;refine QZd ?_;refine Yh ?_;refine Qae ?_
  (exact Zz1 rfl ⟨_,ZzS,⟨rfl,rfl,rfl,TV⟩,X5 _⟩)
 rw[k2] at qb;have hlt:=X7W k1;have cH:=XgA (B.drop i);have dA:=XvR (Yo (B.drop i)) ep Oa;have hsub:((B.map X6).take (i+J (Yo (B.drop i)))).drop i=(Yo (B.drop i)).map X6:=by
  conv=>rhs;rw[cH]
  rw[map_take,map_drop,drop_take];congr 1;omega
 by_cases hok:(VP (Yo (B.drop i)) ep).2=true
 case neg=>
  rw[X4l ep _ _ _ (fun h=>hok h.2)] at hg;simp only[append_nil] at hg;subst hg;have hok:(VP (Yo (B.drop i)) ep).2=false:=by simpa using hok
  rw[hok] at dA;generalize (VP (Yo (B.drop i)) ep).1=X at*;generalize Yo (B.drop i)=H at*;have u9:i+J H<=J (B.map X6):=Oa
  have hle:i<=i+J H:=Oa
  have dB:¬(J H:Int)<0:=Oa
  simp only[X2c] at dA;clear k1 k2 cH hok;refine QZd ?_;refine Yb ?_;refine ZBa ((i:Int)) ((J H:Nat)) (((i+J H:Nat):Int)) ?_;refine Z8 (lb:=i) (hb:=(i+J H)) (ys:=H.map X6) ?_ (hys:=by exact hsub);refine YA ?_;refine Qae ?_
  (exact Zz1 rfl ⟨_,ZzS,⟨rfl,rfl,rfl,TV⟩,X5 _⟩)
 rw[X6L ep _ _ _ ⟨k1,hok⟩] at hg;rw[hok] at dA;generalize hX:(VP (Yo (B.drop i)) ep).1=X at*;generalize Yo (B.drop i)=H at*;have u9:i+J H<=J (B.map X6):=Oa
 have hle:i<=i+J H:=Oa
 have dB:¬(J H:Int)<0:=Oa
 have hst:(o++[X]).map Y6=o.map Y6++[Y6 X]:=Oc
 have iq:((o++[X])++(US ep (J B-(i+(J H+1))+1) (B.drop (i+(J H+1))) (i+(J H+1))).1,(US ep (J B-(i+(J H+1))+1) (B.drop (i+(J H+1))) (i+(J H+1))).2)=R:=by
  rw[<-hg,drop_drop,Xah ep (J B-i) (J B-(i+(J H+1))+1) (B.drop (i+(J H+1))) (i+(J H+1)) OR OR];simp
 clear hg k1 k2 cH hok hX;simp only[X2c] at dA;have m8:Y6 X=[.v (.int .i64 X.kind),.v (.int .i64 X.ts),.sl 10 (X.changes.map Xp),.v (.int .i64 X.rule.kind),.v (.int .i64 X.rule.n),.v (.string (X7 X.rule.name)),.v (.string (X7 X.rule.key)),.v (.string (X7 X.rule.src)),.v (.string (X7 X.rule.dst)),.v (.bool X.off)]:=rfl;rw[m8] at hst;refine QZd ?_;refine Yb ?_;refine ZBa ((i:Int)) ((J H:Nat)) (((i+J H:Nat):Int)) ?_;refine Z8 (lb:=i) (hb:=(i+J H)) (ys:=H.map X6) ?_ (hys:=by exact hsub);refine U7 ?_;refine ZBa ((J H:Nat)) (1) (((J H+1:Nat):Int)) ?_;refine ZBa ((i:Int)) ((J H+1:Nat)) (((i+(J H+1):Nat):Int)) ?_;refine W2_ ?_;refine⟨(i+(J H+1),o++[X]),⟨Od,Ou,iq⟩,Od,?_⟩;dsimp only;rw[hst];exact Qbe
def XO (d:ak):List D:=[XS d.aa,XW d.pending,.v (.bool d.on)]
abbrev cL:List D:=[.v (.int .u8 0)]
theorem Xh5 (L:List UInt8):L.map X6++replicate ((64-J L%64)%64) cL=(YI L).map X6:=by
 unfold YI;rw[map_append,map_replicate];rfl
def Xev (C:List (List D)) (j:Nat):C++replicate (j+1) cL=(C++replicate j cL)++[cL]:=by
 rw[replicate_succ',AS]
structure WrOk (d:ak) (a n:Nat) (Y:List UInt8):Prop where
 ok:DOk d
 few:Vx d
 len:J Y=64*n
 room:a+n<=J d.aa
variable{A Y:List UInt8}{a n:Nat}{d e:ak}{ep f o t tail:Int}{l m:List Rcd}{af:List Wr}{r:Rcd}
def X9p (h:WrOk d a n Y) {k:Nat} (hk:k<=n):DOk (Yt d a (V0 k Y))/\X05 (Yt d a (V0 k Y)):=by
 obtain⟨k1,k2,k3⟩:=X1n (V0 k Y) d a;have h1:=h.few.1;have h2:=h.few.2;have h3:=h.room;have h4:=X2J (V0 k Y) d a h.ok (by rw[X3F];omega) (Xdr k Y (by rw[h.len];omega));exact⟨h4,X5x h4.v (by rw[k3,X3F];omega)⟩
def XdD (h:WrOk d a n Y) {k:Nat} (hk:k<n):Yt d a (V0 (k+1) Y)=X0H (Yt d a (V0 k Y)) (a+k) ((Y.drop (64*k)).take 64)/\J ((Y.drop (64*k)).take 64)=64/\
  VL (Yt d a (V0 k Y)) ((a+k:Nat):Int) ((Y.drop (64*k)).take 64)=(Yt d a (V0 (k+1) Y),0)/\cD d a (V0 (k+1) Y)=cD d a (V0 k Y)++[Yt d a (V0 (k+1) Y)]:=by
 have e1:Yt d a (V0 (k+1) Y)=X0H (Yt d a (V0 k Y)) (a+k) ((Y.drop (64*k)).take 64):=by rw[XgN,Xof,X3F]
 have e2:J ((Y.drop (64*k)).take 64)=64:=by rw[LT,LD,h.len];omega
 have e3:=(X1n (V0 k Y) d a).1;have h3:=h.room;refine⟨e1,e2,?_,?_⟩
 ·rw[e1,Xde (X9p h Oa).1 (by rw[e3];omega) e2]
 ·rw[e1,XgN,Xkk,X3F]
def XiT (d:ak) (f t ep tail:Int) (l:List Rcd) (hf:Vx d) (hr:∀r∈l,X46 r) (hl:J l<=1000):Con prog 64 [] [XY d,ai f,ai t,ai ep,ai tail,.d (.sl 10 (l.map Y6))]
  [(133,.row 3 ((Yy d f t ep tail l).1.map XO))] (.tup [.own 133 (J ((Yy d f t ep tail l).1.map XO)),ai (Yy d f t ep tail l).2.1,ai (Yy d f t ep tail l).2.2]):=by
 refine ZCt func64 ntmps64 fun E=> ?_;have c1:=Xmk d f t ep tail;by_cases he:Ua d f t ep tail=0
 case neg=>
  have e:Yy d f t ep tail l=([],0,Ua d f t ep tail):=by unfold Yy;rw[PI he]
  rw[e];generalize Ua d f t ep tail=r at*;clear hf hr;obtain⟨secs,af,on⟩:=d;simp only[map_nil,length_nil];refine X1B ?_
  (exact Zz1 rfl ⟨_,Uo 12 133 3 rfl rfl rfl,⟨rfl,rfl,rfl,TV⟩,Xm ⟨rfl,TV⟩⟩)
 rw[he] at c1;obtain⟨hd,h1,h2,h3,h4,h5,h6,h7⟩:=X76 he;have c2:=XtU ep l h4 h5 hr hl;by_cases hE:V9 l=0
 case neg=>
  have e:Yy d f t ep tail l=([],0,V9 l):=by unfold Yy;rw[NI Je,PI hE]
  rw[e];generalize V9 l=r at*;generalize X3B ep l=P at*;clear hf hr hd e he;obtain⟨secs,af,on⟩:=d;simp only[map_nil,length_nil];refine Qab ?_
  (exact Zz1 rfl ⟨_,Uo 12 133 3 rfl rfl rfl,⟨rfl,rfl,rfl,TV⟩,Xm ⟨rfl,TV⟩⟩)
 have eP:X3B ep l=Xv ep l:=NI (by rw[hE];simp);rw[hE,eP] at c2;have fu:=X9d h4 h5 l fun r dM=>(hr r dM).2;have eS:Yy d f t ep tail l=if (t-f)*64<tail+J (Xv ep l) then ([],0,20) else (X3O d f t tail (Xv ep l),tail+J (Xv ep l),0):=by
  unfold Yy;rw[NI Je,NI (by rw[hE];simp)]
 rw[eS];generalize Xv ep l=A at*;have ji:J (A.map X6)=J A:=Oc
 have c3:=Xio f t h1 h2 I9;have hN:t<=2000:=I9
 clear eS eP hE he hr;by_cases hfull:(t-f)*64<tail+J A
 ·rw[PI hfull];have cx:(t-f)*64<tail+(J (A.map X6):Nat):=by rw[ji];exact hfull
  clear hf hd h3;obtain⟨secs,af,on⟩:=d;simp only[map_nil,length_nil];refine X4 ?_;refine VM ?_
  (exact Zz1 rfl ⟨_,Uo 12 133 3 rfl rfl rfl,⟨rfl,rfl,rfl,TV⟩,Xm ⟨rfl,TV⟩⟩)
 rw[NI hfull];have cx:¬(t-f)*64<tail+(J (A.map X6):Nat):=by rw[ji];exact hfull
 have c4:=Xif d f t hd hf h1 Oa h3;have nN:J (XV d f t)=64*(t-f).toNat:=O6
 obtain⟨F,rfl⟩:∃F:Nat,f=F:=⟨f.toNat,Oa⟩
 obtain⟨T,rfl⟩:∃T:Nat,tail=T:=⟨tail.toNat,Oa⟩
 unfold X3O V7;have eT:X1I d (F:Nat) t (T:Nat) A=YI (((XV d (F:Nat) t).take T).drop (T/64*64)++A):=by unfold X1I;rw[Int.toNat_natCast]
 rw[eT,Int.toNat_natCast,Int.toNat_natCast];generalize XV d (F:Nat) t=B at*;have lN:J (B.map X6)=J B:=Oc
 obtain⟨X,hX⟩:∃X,X=(B.take T).drop (T/64*64):=⟨_,rfl⟩
 have tv:((B.map X6).take T).drop (T/64*64)=X.map X6:=by rw[hX,map_drop,map_take]
 have b7:J X=T-T/64*64:=by rw[hX,LD,LT];omega
 rw[<-hX];clear hX eT;have hlo:T/64*64<=T:=Oa
 have nO:T<=J (B.map X6):=Oa
 have hend:((T:Int)+(J (A.map X6):Nat))=(T:Int)+(J A:Nat):=by rw[ji]
 have hcap:T/64<2^62:=Oa
 by_cases hA:A=[]
 ·subst hA;rw[PI rfl];simp only[cD,Yt,cons_append,nil_append];have hs:=X64 d (X9M hd.v hf);generalize (V1 d).1=Z at*;generalize (V1 d).2=Z2 at*;obtain⟨zs,zp,zo⟩:=Z;clear hf hd;obtain⟨secs,af,on⟩:=d;have rL:J (X.map X6)=J X:=by simp
  have bw:J X<=64:=Oa
  refine QBa ?_;(refine Z4 (op:= .quo) (r':=ni (T/64)) (u:=ni T) (v:=ni 64) ?_ (hr:=It));refine W8_ ?_;refine ZBM (T/64) 64 ?_;refine W2_ ?_;refine Qce ?_;refine W1_ ?_;refine Xr2 (hg:=JSa) (hx:=JSb) (hy:=JSb) (he:=JSb) (hB:=JSc) (hT:=JSb) (bN:=JSb) (hd:=JSb) ?_;refine W4_ ?_;clear c1 c2 c3 c4;refine Xl (fun j:Nat=>j<=(64-J X%64)%64) (fun j=>match j with
   |0=>⟨109,[(6,.ptr 100 0),(17,.d (Xc [])),(19,ai ((T:Int)+J (([]:List UInt8).map X6))),(21,.dx 1 (X.map X6))],[(100,.box [.d (XS secs),.d (XW af),ab on])]⟩
   |j+1=>⟨109,[(6,.ptr 100 0),(17,.d (Xc [])),(19,ai ((T:Int)+J (([]:List UInt8).map X6))),(21,.own 132 (J (X.map X6++replicate (j+1) cL)))],[(100,.box [.d (XS secs),.d (XW af),ab on]),(132,.row 1 (X.map X6++replicate (j+1) cL))]⟩) (fun j=>(64-J X%64)%64-j) 0 (Nat.zero_le _)
   (ZL0) ?_
  intro j hj;have hn0:¬(0:Int)<(J (([]:List UInt8).map X6):Nat):=Oc
  cases j with
  |zero=>
   dsimp only;by_cases hp:J X%64=0
   ·have aX:((J (X.map X6):Nat):Int)%64=0:=by rw[rL];omega
    have cJ:¬¬((J (X.map X6):Nat):Int)%64=0:=fun h=>h aX;refine W4_ ?_;refine Xp7 (hg:=JSa) (hx:=JSb) (hT:=JSb) (hd:=JSb) ?_;refine W8_ ?_;refine Za (γ:=133) (d:=72) ?_;refine XD ?_;refine Z5 (ag:=hs) ?_;refine Yr ?_
    (exact Zz1 rfl ⟨_,ZzS,⟨rfl,rfl,rfl,TV⟩,Xm ⟨rfl,TV⟩⟩)
   ·have aX:¬((J (X.map X6):Nat):Int)%64=0:=by rw[rL];omega
    refine W4_ ?_;refine Xp7 (hg:=JSa) (hx:=JSb) (hT:=JSb) (hd:=JSb) ?_;refine W9_ ?_;refine Zq (γ:=132) ?_ (hne:=by exact(show[cL]≠[] by simp));refine W2_ ?_;exact⟨0+1,Oa,Oa,X9 rfl ⟨JL,JL,JL,ZzQ (by refine Eq.trans (b:=AVal.own 132 (_+_)) rfl ?_;simp only[LA,LM,LC,length_nil,length_replicate]),TV⟩ ⟨rfl,rfl,TV⟩⟩
  |succ j=>
   dsimp only;obtain⟨W,hW⟩:∃W,W=X.map X6++replicate (j+1) cL:=⟨_,rfl⟩
   have mE:J W=J X+(j+1):=by rw[hW];simp
   have kK:X.map X6++replicate (j+1+1) cL=W++[cL]:=by rw[hW];exact Xev _ _
   rw[<-hW];have hroom:J W<=200:=Oa
   by_cases hp:j+1<(64-J X%64)%64
   ·have aX:¬((J W:Nat):Int)%64=0:=by omega
    refine Yb ?_;refine⟨j+1+1,hp,Oa,?_⟩;dsimp only;rw[kK];exact X9 rfl ⟨JL,JL,JL,ZzQ O7,TV⟩ ⟨rfl,rfl,TV⟩
   ·have aX:((J W:Nat):Int)%64=0:=by omega
    have cJ:¬¬((J W:Nat):Int)%64=0:=fun h=>h aX;refine XK ?_;refine Za (γ:=133) (d:=72) ?_;refine XD ?_;refine Z5 (ag:=hs) ?_;refine Yr ?_
    (exact Zz1 rfl ⟨_,ZzS,⟨rfl,rfl,rfl,TV⟩,Xm ⟨rfl,TV⟩⟩)
 rw[NI hA];have nP:A.map X6≠[]:=fun h=>hA O2;have dh:J A≠0:=fun h=>hA (eq_nil_of_length_eq_zero h);obtain⟨nQ,iI,jj⟩:=X2i (X++A);have kL:=Xh5 (X++A);rw[map_append] at kL;have l8:J (X++A)=J X+J A:=Oc
 generalize hm:(64-J (X++A)%64)%64=p at*;generalize YI (X++A)=Y at*;obtain⟨n,hn⟩:∃n,J Y=64*n:=⟨J Y/64,Oa⟩
 have iO:J Y/64=n:=Oa
 rw[iO];have cO:WrOk d (F+T/64) n Y:=⟨hd,hf,hn,Oa⟩
 have aY:=fun k (hk:k<=n)=>X9p cO hk;have g7:=fun k (hk:k<n)=>XdD cO hk;obtain⟨D,hD⟩:∃D:Nat->ak,∀k,Yt d (F+T/64) (V0 k Y)=D k:=⟨_,fun _=>rfl⟩
 obtain⟨R,hR⟩:∃R:Nat->List ak,∀k,cD d (F+T/64) (V0 k Y)=R k:=⟨_,fun _=>rfl⟩
 simp only[hD,hR] at aY g7 |-;have gC:d=D 0:=hD 0;have lO:[d]=R 0:=hR 0;have bP:∀k,J (R k)=k+1:=fun k=>by rw[<-hR,X7f,X3F]
 clear hD hR cO;have jk:=X64 (D n) (aY n (Nat.le_refl _)).2;generalize (V1 (D n)).1=Z at*;generalize (V1 (D n)).2=Z2 at*;obtain⟨zs,zp,zo⟩:=Z;have bI:(R n++[(⟨zs,zp,zo⟩:ak)]).map XO=(R n).map XO++[[XS zs,XW zp,.v (.bool zo)]]:=by simp[XO]
 rw[bI,LA];clear bI;have gH:p<64:=by rw[<-hm];omega
 have v7:J (X.map X6)+J (A.map X6)=J X+J A:=Oc
 have gS:(J (X.map X6)+J (A.map X6))<=200000:=Oa
 subst gC;clear hf hd;refine QBa ?_;(refine Z4 (op:= .quo) (r':=ni (T/64)) (u:=ni T) (v:=ni 64) ?_ (hr:=It));refine W8_ ?_;refine ZBM (T/64) 64 ?_;refine W2_ ?_;refine Qce ?_;refine W1_ ?_;refine Zq (γ:=132) ?_ (hne:=by exact nP);refine W4_ ?_;clear c1 c2 c3 c4
 refine Xl (fun j:Nat=>j<=p) (fun j=>⟨109,[(1,ai (F:Nat)),(6,.ptr 100 0),(17,.d (Xc A)),(19,ai ((T:Int)+J (A.map X6))),(20,ai (T/64:Nat)),(21,.own 132 (J ((X.map X6++A.map X6)++replicate j cL)))],[(100,.box [.d (XS (D 0).aa),.d (XW (D 0).pending),ab (D 0).on]),(132,.row 1 ((X.map X6++A.map X6)++replicate j cL))]⟩) (fun j=>p-j) 0 (Nat.zero_le _)
  (X9 rfl ⟨JL,JL,JL,JL,JL,ZzQ IH,TV⟩ ⟨rfl,(by simp;rfl),TV⟩) ?_
 intro j hj;obtain⟨W,hW⟩:∃W,W=(X.map X6++A.map X6)++replicate j cL:=⟨_,rfl⟩
 have mE:J W=J X+J A+j:=by rw[hW];simp;omega
 have kK:(X.map X6++A.map X6)++replicate (j+1) cL=W++[cL]:=by rw[hW];exact Xev _ _
 rw[<-hW];have hroom:J W<=200000:=Oa
 by_cases hp:j<p
 ·have aX:¬((J W:Nat):Int)%64=0:=by omega
  refine Yb ?_;refine⟨j+1,hp,Oa,?_⟩;dsimp only;rw[kK];exact X9 rfl ⟨JL,JL,JL,JL,JL,ZzQ O7,TV⟩ ⟨rfl,rfl,TV⟩
 obtain rfl:j=p:=Oa
 have aX:((J W:Nat):Int)%64=0:=Oa
 have cJ:¬¬((J W:Nat):Int)%64=0:=fun h=>h aX;have qf:W=Y.map X6:=by rw[hW,kL]
 have hgt:(0:Int)<(J (A.map X6):Nat):=Oa
 refine XB ?_;subst qf;refine X8 (XI 132 rfl) ?_;refine X8 (XX 21 132 rfl rfl rfl) ?_;refine W2_ ?_;refine Za (γ:=133) (d:=72) ?_;refine Ya ?_;clear aX cJ kK hW hgt
 refine Xl (fun k:Nat=>k<=n) (fun k=>⟨109,[(1,ai (F:Nat)),(6,.ptr 100 0),(19,ai ((T:Int)+J (A.map X6))),(20,ai (T/64:Nat)),(21,.d (Xc (Y.drop (64*k)))),(22,.own 133 (J ((R k).map XO))),(23,ai k)],[(100,.box [.d (XS (D k).aa),.d (XW (D k).pending),ab (D k).on]),(133,.row 3 ((R k).map XO))]⟩) (fun k=>n-k) 0 (Nat.zero_le _)
  (X9 rfl ⟨JL,JL,JL,JL,(by rw[Nat.mul_zero,drop_zero];exact ZzV),(by rw[<-lO];exact ZzV),JL,TV⟩ ⟨rfl,(by rw[<-lO];rfl),TV⟩) ?_
 intro k hk;have aG:=bP k;have nR:J ((R k).map XO)<=5000:=Oj
 have nM:J ((Y.drop (64*k)).map X6)=64*n-64*k:=by simp[hn]
 by_cases hkn:k<n
 case neg=>
  obtain rfl:k=n:=Oa
  have ax:¬(0:Int)<(J ((Y.drop (64*k)).map X6):Nat):=Oa
  clear aY g7;refine XG ?_;refine Z5 (ag:=jk) ?_;refine Yr ?_
  (exact Zz1 rfl ⟨_,Xe 13 (ZzQ Iu),⟨rfl,rfl,rfl,TV⟩,Xm ⟨rfl,TV⟩⟩)
 have ax:(0:Int)<(J ((Y.drop (64*k)).map X6):Nat):=Oa
 obtain⟨s1,s2,s3,s4⟩:=g7 k hkn;have hw:=X5H (D k) ((F+T/64+k:Nat):Int) ((Y.drop (64*k)).take 64) (aY k hk).2 (by rw[s2];omega);rw[s3] at hw;have aO:(((Y.drop (64*k)).map X6).take 64).drop 0=((Y.drop (64*k)).take 64).map X6:=I1
 have bC:(((Y.drop (64*k)).map X6).take (J ((Y.drop (64*k)).map X6))).drop 64=(Y.drop (64*(k+1))).map X6:=by rw[take_length,<-map_drop,drop_drop];congr 2
 have qg:(R (k+1)).map XO=(R k).map XO++[[XS (D (k+1)).aa,XW (D (k+1)).pending,.v (.bool (D (k+1)).on)]]:=by rw[s4,map_append];rfl
 generalize ((Y.drop (64*k)).take 64)=cn at*;have pQ:64<=J ((Y.drop (64*k)).map X6):=Oa
 clear aY g7 s1 s2 s3 s4 jk;refine Yr ?_;refine ZBA F (T/64) ?_;refine W1_ ?_;refine ZBA (F+T/64) k ?_;refine W1_ ?_;refine Z8 (lb:=0) (hb:=64) (ys:=cn.map X6) ?_ (hys:=by exact aO);refine W9_ ?_;refine Z8 (lb:=64) (hb:=J ((Y.drop (64*k)).map X6)) (ys:=(Y.drop (64*(k+1))).map X6) ?_ (hys:=by exact bC);refine XD ?_;refine⟨k+1,hkn,Oa,?_⟩;dsimp only;rw[qg];exact X9 rfl ⟨JL,JL,JL,JL,JL,ZzQ (by refine Eq.trans (b:=AVal.own 133 (_+_)) rfl ?_;simp only[LA,LM,LC,length_nil]),JL,TV⟩ ⟨rfl,rfl,TV⟩
theorem X4S (h:DOk d):DOk (V1 d).1/\J (V1 d).1.aa=J d.aa/\(V1 d).1.pending=[]:=by
 obtain⟨h1,h2,h3,h4⟩:=X2j h.v;have hl:J (Vl d (fun _=>64))=J d.aa:=X4Q _ _ _ _;have hs:∀s∈Vl d (fun _=>64),J s=64:=X6t _ (X4X h.v) _;rw[XfH h];refine⟨⟨?_,rfl⟩,hl,rfl⟩;unfold UF;simp only[decide_eq_true_eq];exact Qde
def X5g (hd:DOk d) (h1:0<=f) (h2:f<t) (h3:t<=J d.aa) (h6:0<=tail) (h7:tail+J A<=(t-f)*64):
  f.toNat+tail.toNat/64+J (V7 d f t tail A)<=J d.aa/\(∀c∈V7 d f t tail A,J c=64)/\J (V7 d f t tail A)<=J d.aa:=by
 have hS:J (XV d f t)=64*(t-f).toNat:=O6
 unfold V7;by_cases hA:A=[]
 ·rw[PI hA];simp only[length_nil,not_mem_nil,false_implies,implies_true,true_and,Nat.zero_le,and_true];subst hA;simp at h7;omega
 ·rw[NI hA,X3F];have hT:J (((XV d f t).take tail.toNat).drop (tail.toNat/64*64)++A)=tail.toNat-tail.toNat/64*64+J A:=by
   rw[LA,LD,LT];omega
  obtain⟨k1,k2,k3⟩:=X2i (((XV d f t).take tail.toNat).drop (tail.toNat/64*64)++A);unfold X1I;generalize YI (((XV d f t).take tail.toNat).drop (tail.toNat/64*64)++A)=Y at*;exact⟨Oa,Xdr _ Y Oa,Oa⟩
def X3N (h:(Yy d f t ep tail l).2.2=0):Ua d f t ep tail=0/\V9 l=0/\tail+J (Xv ep l)<=(t-f)*64/\Yy d f t ep tail l=(X3O d f t tail (Xv ep l),tail+J (Xv ep l),0):=by
 unfold Yy at h |-;by_cases c1:Ua d f t ep tail≠0
 ·rw[PI c1] at h;exact absurd h c1
 rw[NI c1] at h |-;by_cases c2:V9 l≠0
 ·rw[PI c2] at h;exact absurd h c2
 rw[NI c2] at h |-;by_cases c3:(t-f)*64<tail+J (Xv ep l)
 ·rw[PI c3] at h;simp at h
 rw[NI c3];exact⟨IE,Ir,Oa,rfl⟩
def X81 (h:(Yy d f t ep tail l).2.2≠0):(Yy d f t ep tail l).1=[]/\(Yy d f t ep tail l).2.1=0:=by
 unfold Yy at h |-;by_cases c1:Ua d f t ep tail≠0
 ·rw[PI c1];exact⟨rfl,rfl⟩
 rw[NI c1] at h |-;by_cases c2:V9 l≠0
 ·rw[PI c2];exact⟨rfl,rfl⟩
 rw[NI c2] at h |-;by_cases c3:(t-f)*64<tail+J (Xv ep l)
 ·rw[PI c3];exact⟨rfl,rfl⟩
 rw[NI c3] at h;simp at h
def Xbd (hf:Vx d) (h:(Yy d f t ep tail l).2.2=0):J (Yy d f t ep tail l).1<=5000:=by
 obtain⟨s1,s2,s3,s4⟩:=X3N h;obtain⟨hd,h1,h2,h3,h4,h5,h6,h7⟩:=X76 s1;rw[s4];obtain⟨k1,k2,k3⟩:=X5g (A:=Xv ep l) hd h1 h2 h3 h6 s3;have f1:=hf.1;unfold X3O;simp only[LA,length_singleton,X7f];omega
def Xua (d:ak) (f t ep tail:Int) (l:List Rcd) (hf:Vx d) (hr:∀r∈l,X46 r) (hl:J l<=1000):Con prog 35 [] [XY d,ai f,ai t,ai ep,ai tail,.d (.sl 10 (l.map Y6))]
  [] (.tup [XY (Uc d f t ep tail l).1,ai (Uc d f t ep tail l).2.1,ai (Uc d f t ep tail l).2.2]):=by
 refine ZCt func35 ntmps35 fun E=> ?_;have c1:=XiT d f t ep tail l hf hr hl;by_cases he:(Yy d f t ep tail l).2.2=0
 case neg=>
  exact Yt28
 exact Yt6
def XlD {P L:List UInt8} (h:J P%64=0):YI (P++L)=P++YI L:=by
 unfold YI;rw[AS,LA];congr 3;omega
open Go
open List renaming length->J
def Yi (d:ak) (k:Nat):List UInt8:=VF d.pending (k:Nat) ((d.aa[k]?).getD []) (J d.pending)
theorem X6C (h:DOk d) {k:Nat} (hk:k<J d.aa):(YZ d (k:Nat)).1=Yi d k:=by
 unfold YZ Yi;rw[NI (by rw[h.use];simp),PI ⟨Oa,Oa⟩,Int.toNat_natCast]
def XhY {af:List Wr}{w:Wr}{a:Int}{s:List UInt8}:∀n,n<=J af->VF (af++[w]) a s n=VF af a s n
 |0,_=>rfl
 |n+1,h=>by
  have e:=XhY (af:=af) (w:=w) (a:=a) (s:=s) n Oa;simp only[VF,e,getElem?_append_left (show n<J af by omega)]
theorem Xvy {w:Wr}{a:Int}{s:List UInt8}:VF (af++[w]) a s (J (af++[w]))=if w.at_=a then w.b else VF af a s (J af):=by
 rw[LA,length_singleton];simp only[VF,XhY (J af) (Nat.le_refl _)];simp
theorem Xdt (d:ak) (a:Nat) (b:List UInt8) (k:Nat):Yi (X0H d a b) k=if a=k then b else Yi d k:=by
 unfold Yi X0H;simp only[Xvy];by_cases h:a=k
 ·rw[PI h,PI Oa]
 ·rw[NI h,NI Oa]
theorem X4c (bs:List (List UInt8)):∀(d:ak) (a k:Nat),(k<a\/a+J bs<=k->Yi (Yt d a bs) k=Yi d k)/\∀i b,bs[i]? =some b->Yi (Yt d a bs) (a+i)=b:=by
 induction bs with
 |nil=>intro d a k;exact⟨fun _=>rfl,fun i b h=>OQ⟩
 |cons x bs ih=>
  intro d a k;refine⟨fun h=> ?_,fun i b h=> ?_⟩
  ·rw[LC] at h;rw[Yt,(ih (X0H d a x) (a+1) k).1 Oa,Xdt,NI Oa]
  ·cases i with
   |zero=>
    simp only[getElem?_cons_zero,Option.some.injEq] at h;subst h;show Yi (Yt (X0H d a x) (a+1) bs) a=x;rw[(ih (X0H d a x) (a+1) a).1 Oa,Xdt,PI rfl]
   |succ i=>
    rw[Yt,show a+(i+1)=a+1+i by omega];exact(ih (X0H d a x) (a+1) k).2 i b O2
def Xkc {rows:List (List UInt8)} (hok:okW rows af) {k:Nat}{s:List UInt8} (hs:rows[k]? =some s):∀n,(VH rows af (fun _=>64) n)[k]? =some (VF af (k:Nat) s n)
 |0=>hs
 |n+1=>by
  have ih:=Xkc hok hs n;rw[VH,VF];cases hw:af[n]? with
  |none=>exact ih
  |some w=>
   obtain⟨w1,w2,w3⟩:=hok.2 w (mem_of_getElem? hw);have hc:ij 64=64:=rfl;have aG:k<J (VH rows af (fun _=>64) n):=(GS.1 ih).1;simp only[X6c,hc];by_cases ha:w.at_=(k:Nat)
   ·rw[PI ha,show w.at_.toNat=k by omega,getElem?_set_self aG,ih,Option.getD_some];have bx:J (VF af (k:Nat) s n)=64:=by
     have:=X6t (fun _=>64) hok n _ (mem_of_getElem? ih);exact this
    rw[take_of_length_le Oa,drop_of_length_le Oa,append_nil]
   ·rw[NI ha,getElem?_set_ne Oa];exact ih
def X72 (h:DOk d) {k:Nat} (hk:k<J d.aa):Yi (V1 d).1 k=Yi d k:=by
 have hp:=Xkc (X4X h.v) (getElem?_eq_getElem hk) (J d.pending);rw[XfH h];unfold Yi Vl;simp only[length_nil,VF];rw[hp,getElem?_eq_getElem hk];rfl
theorem X83 (d:ak):∀(m n f:Nat),Ug d f (m+n)=Ug d f m++Ug d (f+m) n
 |0,n,f=>by simp[Ug]
 |m+1,n,f=>by
  rw[show m+1+n=(m+n)+1 by omega,Ug,Ug,X83 d m n (f+1),AS,show f+1+m=f+(m+1) by omega]
theorem X6B (hd:DOk d) (he:DOk e) (hl:J e.aa=J d.aa):∀(n f:Nat),f+n<=J d.aa->(∀k,f<=k->k<f+n->Yi d k=Yi e k)->Ug d f n=Ug e f n
 |0,_,_,_=>rfl
 |n+1,f,hf,h=>by
  rw[Ug,Ug,X6C hd Oa,X6C he Oa,h f (Nat.le_refl _) Oa,X6B hd he hl n (f+1) Oa fun k h1 h2=>h k Oa Oa]
theorem Xch (he:DOk e):∀(bs:List (List UInt8)) (a:Nat),a+J bs<=J e.aa->(∀i b,bs[i]? =some b->Yi e (a+i)=b)->Ug e a (J bs)=bs.flatten
 |[],_,_,_=>rfl
 |b::bs,a,hl,h=>by
  rw[LC] at hl |-;rw[Ug,X6C he Oa,show Yi e a=b from h 0 b rfl,flatten_cons,Xch he bs (a+1) Oa fun i c hc=>by
   rw[show a+1+i=a+(i+1) by omega];exact h (i+1) c I5]
def XeF:∀(n:Nat) (Y:List UInt8),J Y=64*n->(V0 n Y).flatten=Y
 |0,Y,h=>by
  have:Y=[]:=eq_nil_of_length_eq_zero Oa;subst this;rfl
 |n+1,Y,h=>by
  rw[V0,flatten_cons,XeF n (Y.drop 64) OR,take_append_drop]
def XoZ (hd:DOk d) {f n a:Nat}{bs:List (List UInt8)} (hn:f+n<=J d.aa) (ha:f<=a) (hb:a+J bs<=f+n) (hc:∀c∈bs,J c=64):
  Ug (V1 (Yt d a bs)).1 f n=(Ug d f n).take (64*(a-f))++bs.flatten++(Ug d f n).drop (64*(a-f+J bs)):=by
 have hl:=X2J bs d a hd Oa hc;obtain⟨s1,s2,s3⟩:=X4S hl;have aL:=(X1n bs d a).1;rw[aL] at s2;generalize hE:(V1 (Yt d a bs)).1=e at*;have hv:∀k,k<J d.aa->Yi e k=Yi (Yt d a bs) k:=fun k hk=>by rw[<-hE];exact X72 hl (by rw[aL];exact hk)
 have e1:n=(a-f)+(J bs+(f+n-a-J bs)):=Oa
 have p1:Ug e f (a-f)=Ug d f (a-f):=X6B s1 hd s2.symm _ _ Oa fun k h1 h2=>IU
 have p2:Ug e (f+(a-f)) (J bs)=bs.flatten:=by
  rw[show f+(a-f)=a by omega];exact Xch s1 bs a Oa fun i b hi=>by
   have hil:=(GS.1 hi).1;rw[hv _ Oa];exact(X4c bs d a a).2 i b hi
 have p3:Ug e (f+(a-f)+J bs) (f+n-a-J bs)=Ug d (f+(a-f)+J bs) (f+n-a-J bs):=X6B s1 hd s2.symm _ _ Oa fun k h1 h2=>IU
 have q1:=X1j hd (a-f) f Oa;have q2:=X1j hd (J bs) (f+(a-f)) Oa;have ud:Ug d f n=Ug d f (a-f)++(Ug d (f+(a-f)) (J bs)++Ug d (f+(a-f)+J bs) (f+n-a-J bs)):=by
  conv=>lhs;rw[e1]
  rw[X83,X83]
 have kJ:Ug e f n=Ug e f (a-f)++(Ug e (f+(a-f)) (J bs)++Ug e (f+(a-f)+J bs) (f+n-a-J bs)):=by
  conv=>lhs;rw[e1]
  rw[X83,X83]
 rw[kJ,p1,p2,p3,ud,AS];congr 1
 ·rw[take_left' Oa]
 ·congr 1;rw[<-AS,drop_left' (by rw[LA];omega)]
def X4x (S:List UInt8) (T:Nat):Prop:=S.drop T=replicate (J S-T) 0
theorem Xqq {α:Type} (n k:Nat) (x:α):(replicate n x).drop k=replicate (n-k) x:=Oc
def XrI (hd:DOk d) (h1:0<=f) (h2:f<t) (h3:t<=J d.aa) (h6:0<=tail) (h7:tail+J A<=(t-f)*64) (hz:X4x (XV d f t) tail.toNat) (hA:A≠[]):
  XV (V1 (Yt d (f.toNat+tail.toNat/64) (V7 d f t tail A))).1 f t=(XV d f t).take tail.toNat++A++replicate (J (XV d f t)-tail.toNat-J A) 0:=by
 obtain⟨k1,k2,k3⟩:=X5g (A:=A) hd h1 h2 h3 h6 h7;have hS:J (XV d f t)=64*(t-f).toNat:=O6
 have hT:J ((XV d f t).take tail.toNat)=tail.toNat:=Oz
 obtain⟨y1,y2,y3⟩:=X2i (((XV d f t).take tail.toNat).drop (tail.toNat/64*64)++A);have b7:J (((XV d f t).take tail.toNat).drop (tail.toNat/64*64))=tail.toNat-tail.toNat/64*64:=by rw[LD,hT]
 have ug:J (((XV d f t).take tail.toNat).drop (tail.toNat/64*64)++A)=tail.toNat-tail.toNat/64*64+J A:=by rw[LA,b7]
 have ir:V7 d f t tail A=V0 (J (X1I d f t tail A)/64) (X1I d f t tail A):=NI hA;have hY:X1I d f t tail A=YI (((XV d f t).take tail.toNat).drop (tail.toNat/64*64)++A):=rfl;rw[<-hY] at y1 y2 y3;have ke:(V7 d f t tail A).flatten=X1I d f t tail A:=by rw[ir];exact XeF _ _ Oa
 have eg:J (V7 d f t tail A)=J (X1I d f t tail A)/64:=by rw[ir,X3F]
 have hw:=XoZ (f:=f.toNat) (n:=(t-f).toNat) hd Oa Oa (by rw[eg];omega) k2 (a:=f.toNat+tail.toNat/64) (bs:=V7 d f t tail A);have h8:tail.toNat+J A<=J (XV d f t):=Oa
 unfold XV at hS hT hz b7 ug y2 y3 hY h8 |-;rw[hw,ke,eg,show f.toNat+tail.toNat/64-f.toNat=tail.toNat/64 by omega];generalize Ug d f.toNat (t-f).toNat=S at*;generalize tail.toNat=T at*;have hfr:S.take (64*(T/64))++X1I d f t tail A=YI (S.take T++A):=by
  have hp:S.take T++A=S.take (T/64*64)++((S.take T).drop (T/64*64)++A):=by
   rw[<-AS];congr 1;conv=>lhs;rw[<-take_append_drop (T/64*64) (S.take T)]
   rw[take_take,Nat.min_eq_left Oa]
  rw[hp,XlD Oz,<-hY,show 64*(T/64)=T/64*64 by omega]
 rw[hfr];unfold YI;rw[AS (S.take T++A)];congr 1;have bS:S.drop (64*(T/64+J (X1I d f t tail A)/64))=replicate (J S-64*(T/64+J (X1I d f t tail A)/64)) 0:=by
  have e:64*(T/64+J (X1I d f t tail A)/64)=T+(64*(T/64+J (X1I d f t tail A)/64)-T):=Oa
  rw[e,<-drop_drop,hz,Xqq];congr 1;omega
 rw[bS,replicate_append_replicate];congr 1;rw[LA,hT];clear hw eg ke hY ir hfr bS hz;generalize J (X1I d f t tail A)=yl at*;omega
def XoT {l:List UInt8}:∀{k:Nat},(∀x∈l.take k,x≠0)->l[k]? =some 0->Yo l=l.take k/\X14 l=true:=by
 induction l with
 |nil=>intro k _ h;simp at h
 |cons y r ih=>
  intro k h1 h2;unfold Yo X14;rw[takeWhile_cons,any_cons];cases k with
  |zero=>
   simp only[getElem?_cons_zero,Option.some.injEq] at h2;subst h2;simp
  |succ k=>
   have hy:y≠0:=h1 y Oc;have h3:(y !=0)=true:=by simpa using hy
   have h4:(y==0)=false:=by simpa using hy
   rw[h3,PI rfl,h4,Bool.false_or,take_succ_cons];obtain⟨k1,k2⟩:=ih (k:=k) (fun x hx=>h1 x JA) OK;unfold Yo at k1;unfold X14 at k2;exact⟨by rw[k1],k2⟩
def X6l (r:Rcd):Prop:=UO r=0/\J (X0e r)<=60000
def Xav:∀{l:List Rcd},V9 l=0->∀r∈l,UO r=0
 |[],_,r,h=>OQ
 |x::l,he,r,h=>by
  rw[V9] at he;by_cases q:UO x=0
  ·rw[NI (by rw[q];simp)] at he;rcases mem_cons.1 h with rfl|h
   ·exact q
   ·exact Xav he r h
  ·rw[PI q] at he;exact absurd he q
def XyB (h1:0<=ep) (h2:ep<=1000000000000000) (hr:X6l r):VP (YB (Yx (Un ep r))) ep=(r,true):=by
 have bx:=X8b h1 h2 hr.2;have hf:=X8N (s:=Un ep r) Oa [] [];simp only[nil_append,append_nil,length_nil,Int.natCast_zero,Int.zero_add] at hf;have hf:Y8 (Yx (Un ep r)) 0=(Un ep r,(J (Yx (Un ep r)):Int),0):=hf;have hu:=X84 (n:=ep) ⟨h1,Oa⟩ [] (X0e r);simp only[nil_append,length_nil,Int.natCast_zero,Int.zero_add] at hu;have hu:Xd (Un ep r) 0=(ep,(J (Xq ep):Int),0):=hu;have hd:(Un ep r).drop (J (Xq ep))=X1c r:=by
  unfold Un;rw[drop_left' rfl];unfold X0e;rw[PI hr.1]
 rw[X9e (XeE _),hf];unfold X5M;rw[NI Oc,hu];unfold X7R;rw[NI Oc];have hrd:rdS ((Un ep r).drop (J (Xq ep)))=(r,0):=by rw[hd];exact Xpp hr.1
 simp only[Int.toNat_natCast,hrd];rfl
def XhA (rest:List UInt8):Yo (UN ep r++rest)=YB (Yx (Un ep r))/\X14 (UN ep r++rest)=true:=by
 have e:UN ep r++rest=YB (Yx (Un ep r))++(0::rest):=by unfold UN;simp
 rw[e];have ht:(YB (Yx (Un ep r))++(0::rest)).take (J (YB (Yx (Un ep r))))=YB (Yx (Un ep r)):=take_left' rfl;obtain⟨k1,k2⟩:=XoT (l:=YB (Yx (Un ep r))++(0::rest)) (k:=J (YB (Yx (Un ep r)))) (by rw[ht];exact XnS _) Oc;exact⟨by rw[k1,ht],k2⟩
def X9q (h1:0<=ep) (h2:ep<=1000000000000000):∀(l:List Rcd) (Z:List UInt8) (a n m:Nat),(∀r∈l,X6l r)->J (Xv ep l++Z)<n->J Z<m->
  US ep n (Xv ep l++Z) a=(l++(US ep m Z (a+J (Xv ep l))).1,(US ep m Z (a+J (Xv ep l))).2)
 |[],Z,a,n,m,_,hn,hm=>by
  simp only[Xv,nil_append,length_nil,Nat.add_zero] at hn |-;rw[Xah ep n m Z a hn hm]
 |r::l,Z,a,n,m,hv,hn,hm=>by
  have hrl:J (UN ep r)=J (YB (Yx (Un ep r)))+1:=by unfold UN;simp
  obtain⟨k1,k2⟩:=XhA (ep:=ep) (r:=r) (Xv ep l++Z);have bR:=XyB h1 h2 (hv r Oc);have e:Xv ep (r::l)++Z=UN ep r++(Xv ep l++Z):=by rw[Xv,AS]
  rw[e] at hn |-;rw[LA] at hn;cases n with
  |zero=>omega
  |succ n=>
   rw[X6L ep _ a n ⟨k2,by rw[k1,bR]⟩,k1,bR,<-hrl,drop_left' rfl];have ih:=X9q h1 h2 l Z (a+J (UN ep r)) n m (fun x hx=>hv x JA) Oa hm;rw[ih];have e2:a+J (UN ep r)+J (Xv ep l)=a+J (Xv ep (r::l)):=by rw[Xv,LA];omega
   rw[e2];rfl
theorem XgH (ep:Int) (z a n:Nat):US ep (n+1) (replicate z 0) a=([],a):=by
 refine X4l ep _ a n fun h=> ?_;cases z with
 |zero=>simp[X14] at h
 |succ z=>
  have e:Yo (replicate (z+1) (0:UInt8))=[]:=by unfold Yo;rw[replicate_succ,takeWhile_cons];simp
  rw[e,Xi9] at h;simp at h
def Xpu (h1:0<=ep) (h2:ep<=1000000000000000) (l:List Rcd) (z:Nat) (hv:∀r∈l,X6l r):X0b ep (Xv ep l++replicate z 0)=(l,J (Xv ep l)):=by
 unfold X0b;rw[X9q h1 h2 l _ 0 _ (z+1) hv (Nat.lt_succ_self _) Oc,XgH];simp
def XfG:∀(l:List UInt8),∀x∈Yo l,x≠0
 |[],x,h=>by simp[Yo] at h
 |y::r,x,h=>by
  unfold Yo at h;rw[takeWhile_cons] at h;by_cases hy:(y !=0)=true
  ·rw[PI hy,mem_cons] at h;rcases h with rfl|h
   ·simpa using hy
   ·exact XfG r x h
  ·rw[NI hy] at h;simp at h
def X6R (hf:Vx d) (h:(Yy d f t ep tail l).2.2=0):(Uc d f t ep tail l).2.2=0/\(Uc d f t ep tail l).2.1=tail+J (Xv ep l)/\
  (Uc d f t ep tail l).1=(V1 (Yt d (f.toNat+tail.toNat/64) (V7 d f t tail (Xv ep l)))).1:=by
 obtain⟨s1,s2,s3,s4⟩:=X3N h;unfold Uc;rw[NI (by rw[h];simp),s4];refine⟨rfl,rfl,?_⟩;unfold X3O;simp
def Xj6 (hd:DOk d) (h1:0<=f) (h2:f<t) (h3:t<=J d.aa) (h6:0<=tail) (h7:tail+J A<=(t-f)*64) (hz:X4x (XV d f t) tail.toNat):
  XV (V1 (Yt d (f.toNat+tail.toNat/64) (V7 d f t tail A))).1 f t=(XV d f t).take tail.toNat++A++replicate (J (XV d f t)-tail.toNat-J A) 0:=by
 by_cases hA:A=[]
 case neg=>exact XrI hd h1 h2 h3 h6 h7 hz hA
 subst hA;have hc:V7 d f t tail []=[]:=PI rfl;have hw:=XoZ (f:=f.toNat) (n:=(t-f).toNat) (a:=f.toNat) (bs:=[]) hd Oa (Nat.le_refl _) Oc Oc;rw[hc];unfold XV at hz |-;have hl:Yt d (f.toNat+tail.toNat/64) []=Yt d f.toNat []:=rfl;rw[hl,hw];simp only[Nat.sub_self,Nat.mul_zero,take_zero,nil_append,flatten_nil,length_nil,Nat.add_zero,drop_zero,append_nil,Nat.sub_zero];conv=>lhs;rw[<-take_append_drop tail.toNat (Ug d f.toNat (t-f).toNat)]
 rw[hz]
structure Log (d:ak) (f t ep:Int) (l:List Rcd) (tail:Int):Prop where
 ok:DOk d
 few:Vx d
 af:d.pending=[]
 len:J d.aa<=2000
 f0:0<=f
 ft:f<t
 t24:t<=(J d.aa:Int)
 eo:0<=ep
 ep1:ep<=1000000000000000
 tl:tail=J (Xv ep l)
 room:tail<=(t-f)*64
 str:XV d f t=Xv ep l++replicate ((t-f).toNat*64-J (Xv ep l)) 0
 ents:V9 l=0
theorem X3q:(Uc d f t ep tail l).2.2=(Yy d f t ep tail l).2.2:=by
 unfold Uc;split
 ·rfl
 ·rename_i h;have:(Yy d f t ep tail l).2.2=0:=by simpa using h
  rw[this]
def XgS:∀{l m:List Rcd},V9 l=0->V9 m=0->V9 (l++m)=0
 |[],_,_,h=>h
 |x::l,m,h1,h2=>by
  rw[cons_append,V9];rw[V9] at h1;by_cases q:UO x=0
  ·rw[NI (by rw[q];simp)] at h1 |-;exact XgS h1 h2
  ·rw[PI q] at h1;exact absurd h1 q
theorem Log.app (h:Log d f t ep l tail) (he:(Uc d f t ep tail m).2.2=0):Log (Uc d f t ep tail m).1 f t ep (l++m) (Uc d f t ep tail m).2.1:=by
 rw[X3q] at he;obtain⟨s1,s2,s3,s4⟩:=X3N he;obtain⟨g1,g2,g3⟩:=X6R h.few he;have ht:=h.tl;have rM:=h.len;have mg:=h.t24;have hS:J (XV d f t)=64*(t-f).toNat:=by unfold XV;exact X1j h.ok _ _ (by have:=h.f0;have:=h.ft;omega)
 have hle:J (Xv ep l)<=(t-f).toNat*64:=by have:=h.room;have:=h.ft;omega
 have hz:X4x (XV d f t) tail.toNat:=by
  unfold X4x;rw[hS,h.str,ht,Int.toNat_natCast,drop_left' rfl];congr 1;omega
 have hst:=Xj6 (A:=Xv ep m) h.ok h.f0 h.ft Oa Oa s3 hz;obtain⟨k1,k2,k3⟩:=X5g (A:=Xv ep m) h.ok h.f0 h.ft Oa Oa s3;have iJ:=X2J (V7 d f t tail (Xv ep m)) d (f.toNat+tail.toNat/64) h.ok k1 k2;obtain⟨m1,m2,m3⟩:=X4S iJ;rw[<-g3] at m1 m2 m3 hst;have ml:J (Uc d f t ep tail m).1.aa=J d.aa:=by rw[m2,(X1n _ d _).1]
 rw[g2];refine⟨m1,⟨Oa,by rw[m3];simp⟩,m3,Oa,h.f0,h.ft,by rw[ml];exact h.t24,h.eo,h.ep1,?_,s3,?_,?_⟩
 ·rw[X6D,LA,ht];omega
 ·rw[hst,X6D,h.str,ht,Int.toNat_natCast,take_left' rfl,LA,LA,length_replicate];congr 2;omega
 ·exact XgS h.ents s2
def Log.app_len (h:Log d f t ep l tail) (he:(Uc d f t ep tail m).2.2=0):J (Uc d f t ep tail m).1.aa=J d.aa:=by
 rw[X3q] at he;obtain⟨s1,s2,s3,s4⟩:=X3N he;obtain⟨g1,g2,g3⟩:=X6R h.few he;have ht:=h.tl;have mg:=h.t24;obtain⟨k1,k2,k3⟩:=X5g (A:=Xv ep m) h.ok h.f0 h.ft Oa Oa s3;have iJ:=X2J (V7 d f t tail (Xv ep m)) d (f.toNat+tail.toNat/64) h.ok k1 k2;obtain⟨m1,m2,m3⟩:=X4S iJ;rw[g3,m2,(X1n _ d _).1]
def Xh4 (h:J r.changes<=60):J (X0e r)<=60000:=by
 unfold X0e;by_cases he:UO r=0
 case neg=>rw[NI he];simp
 rw[PI he];unfold UO at he;by_cases c1:¬(1<=r.kind/\r.kind<=3/\0<=r.ts/\r.ts<=1000000000000000)
 ·rw[PI c1] at he;omega
 rw[NI c1] at he;by_cases c2:(r.kind≠1/\0<J r.changes)\/(r.kind≠2/\(r.off=true\/X59 r.rule=false))
 ·rw[PI c2] at he;omega
 rw[NI c2] at he;have h1:=X7c (n:=r.ts) Oa Oa;have h2:=X7c (n:=(J r.changes:Nat)) Oa Oa;unfold X1c;by_cases k2:r.kind=2
 ·rw[PI k2] at he;have h3:=X5Z he;rw[NI Oa,PI k2];simp only[LC,LA,length_nil];omega
 rw[NI k2] at he;by_cases c3:X24 r.changes≠0
 ·rw[PI c3] at he;exact absurd he c3
 by_cases k1:r.kind=1
 ·rw[PI k1];have hall:∀l:List Chg,X24 l=0->∀c∈l,YE c=0:=by
   intro l;induction l with
   |nil=>intro _ c hc;simp at hc
   |cons x l ih=>
    intro h0 c hc;rw[X24] at h0;by_cases q:YE x=0
    ·rw[NI (by rw[q];simp)] at h0;rcases mem_cons.1 hc with rfl|hc
     ·exact q
     ·exact ih h0 c hc
    ·rw[PI q] at h0;exact absurd h0 q
  have h4:=Xdj (hall r.changes Jn);simp only[LC,LA];omega
 ·rw[NI k1,NI k2];simp only[LC,LA,length_nil];omega
theorem Log.err (h:Log d f t ep l tail):(Uc d f t ep tail m).2.2=if V9 m≠0 then V9 m else if (t-f)*64<tail+J (Xv ep m) then 20 else 0:=by
 have hsp:Ua d f t ep tail=0:=by
  exact Yt35
 rw[X3q];unfold Yy;rw[NI (by rw[hsp];simp)];split
 ·rfl
 ·split<;>rfl
theorem Log.scan (h:Log d f t ep l tail) (hv:∀r∈l,J (X0e r)<=60000):V8 d f t ep=(l,tail,0):=by
 have hsp:Ua d f t ep 0=0:=by
  exact Yt35
 have hb:=Xpu h.eo h.ep1 l ((t-f).toNat*64-J (Xv ep l)) (fun r hr=>⟨Xav h.ents r hr,hv r hr⟩);unfold V8;rw[NI (by rw[hsp];simp),h.str,hb,h.tl]
def Xzc (h1:0<=ep) (h2:ep<=1000000000000000) (hr:X6l r) (ho:o≠ep):(VP (YB (Yx (Un ep r))) o).2=false:=by
 have bx:=X8b h1 h2 hr.2;have hf:=X8N (s:=Un ep r) Oa [] [];simp only[nil_append,append_nil,length_nil,Int.natCast_zero,Int.zero_add] at hf;have hf:Y8 (Yx (Un ep r)) 0=(Un ep r,(J (Yx (Un ep r)):Int),0):=hf;have hu:=X84 (n:=ep) ⟨h1,Oa⟩ [] (X0e r);simp only[nil_append,length_nil,Int.natCast_zero,Int.zero_add] at hu;have hu:Xd (Un ep r) 0=(ep,(J (Xq ep):Int),0):=hu;rw[X9e (XeE _),hf];unfold X5M;rw[NI Oc,hu];unfold X7R;rw[PI (.inr (Ne.symm ho))]
def Log.other (h:Log d f t ep l tail) (hv:∀r∈l,J (X0e r)<=60000) (hne:l≠[]) (h1:0<=o) (h2:o<=1000000000000000) (ho:o≠ep):V8 d f t o=([],0,0):=by
 have hsp:Ua d f t o 0=0:=by
  have h1:=h.f0;have h2:=h.ft;have h3:=h.t24;have h4:=h.len;have h7:=h.tl;have h8:=h.room;unfold Ua;rw[NI (by rw[h.ok.v];simp),NI (by rw[h.ok.on];simp),NI Oa,NI Oa]
 unfold V8 X0b;rw[NI (by rw[hsp];simp),h.str];cases l with
 |nil=>exact absurd rfl hne
 |cons r l=>
  obtain⟨k1,k2⟩:=XhA (ep:=ep) (r:=r) (Xv ep l++replicate ((t-f).toNat*64-J (Xv ep (r::l))) 0);have e:Xv ep (r::l)++replicate ((t-f).toNat*64-J (Xv ep (r::l))) 0=UN ep r++(Xv ep l++replicate ((t-f).toNat*64-J (Xv ep (r::l))) 0):=by
   rw[<-AS];rfl
  rw[e,X4l _ _ _ _ (fun q=>by
   rw[k1,Xzc h.eo h.ep1 ⟨Xav h.ents r Oc,hv r Oc⟩ ho] at q;exact absurd q.2 Oc)]
  rfl
def Xpb (ep:Int):∀(n:Nat) (b:List UInt8) (a:Nat),J b<=1000000->(∀r∈(US ep n b a).1,X0z r)/\J (US ep n b a).1<=n
 |0,_,_,_=>by simp[US]
 |n+1,b,a,hb=>by
  by_cases h:X14 b=true/\(VP (Yo b) ep).2=true
  ·rw[X6L ep b a n h];obtain⟨k1,k2⟩:=Xpb ep n (b.drop (J (Yo b)+1)) (a+(J (Yo b)+1)) OR;refine⟨fun r hr=> ?_,by simpa using k2⟩;rcases mem_cons.1 hr with rfl|hr
   ·have hlt:=X7W h.1;unfold VP;cases hu:V2 (Yo b) with
    |none=>exact⟨Oc,Oc⟩
    |some raw=>
     have fL:=X9l (J (Yo b)) (Yo b) raw (Nat.le_refl _) hu;simp only;unfold X5M;split
     ·exact⟨Oc,Oc⟩
     ·unfold X7R;split
      ·exact⟨Oc,Oc⟩
      ·have:=X8D raw 0;exact Xzs _ OR
   ·exact k1 r hr
  ·rw[X4l ep b a n h];exact⟨Oc,Oc⟩
def X6b (hf:Vx d):(∀r∈(V8 d f t ep).1,X0z r)/\J (V8 d f t ep).1<=9223372036854775807:=by
 unfold V8;by_cases h:Ua d f t ep 0=0
 ·rw[NI (by rw[h];simp)];obtain⟨hd,h1,h2,h3,_⟩:=X76 h;have hl:J (XV d f t)<=200000:=by
   unfold XV;rw[X1j hd _ _ Oa];have:=hf.1;omega
  obtain⟨k1,k2⟩:=Xpb ep (J (XV d f t)+1) (XV d f t) 0 Oa;exact⟨k1,by unfold X0b;simp only;omega⟩
 ·rw[PI h];exact⟨Oc,Oc⟩
end Go.Fw
