/- How far a reader gets; how many things it can read; in plain Lean. -/
import Derived.Test.YtfmfekakaeafhaaGreatDoorP41
import Derived.Test.YtfmfekakaeafhaaGreatDoorP43
import Derived.Test.YtfmfekakaeafhaaGreatDoorP44
import Derived.Test.YtfmfekakaeafhaaGreatDoorP45
import Derived.Test.YtfmfekakaeafhaaGreatDoorP46
set_option linter.all false
set_option maxHeartbeats 128000000
namespace Go.Fw
open Go List
open List renaming length->J
def Xr0 {α:Type}{f:Rd->α×Rd}{d:Int} (hg:GoR d f) {s:Rd} (hs:X2O s):X2O (UL f s).2:=Xee hg _ _ (X7b.ok s hs)
def XmT {α:Type}{f:Rd->α×Rd}{P:α->Prop} (h:∀s,P (f s).1):∀(n:Nat) (s:Rd),∀x∈(Vc f n s).1,P x
 |0,s,x,hx=>by simp[Vc] at hx
 |n+1,s,x,hx=>by
  rw[Vc] at hx;split at hx
  ·simp at hx
  ·simp only[mem_cons] at hx;rcases hx with rfl|hx
   ·exact h s
   ·exact XmT h n _ x hx
def Xz5 (b:List UInt8) (a:Int):X4G (X0L b a).1:=by
 have hz:X4G zC:=⟨Oc,X6p⟩
 unfold X0L;simp only;split
 ·exact hz
 ·generalize (if (UE b a 0).2.2=0 then YE (UE b a 0).1 else (UE b a 0).2.2)=e;split
  ·exact hz
  ·exact XfT b a 0
def XqN (s:Rd):X4G (X0D s).1:=by
 unfold X0D X1m;by_cases q:s.e=0
 ·rw[NI Ip];exact Xz5 s.c s.a
 ·rw[PI q];exact⟨Oc,X6p⟩
def X0l (b:List UInt8) (ts ep:Int):Sta×Bool:=
 let p:=X0i ⟨0,b,0,0⟩
 if p.2.e≠0 then (XT,false) else X3h b ts ep p.1.1 p.1.2.2.1 p.1.2.2.2 (UW UJ p.1.2.1)
def Xtb (b:List UInt8) (ts ep:Int):(X1t b ts ep).2=(X0l b ts ep).2/\((X0l b ts ep).2=true->X1t b ts ep=X0l b ts ep):=by
 unfold X1t X0l;simp only;by_cases c:(X0i ⟨0,b,0,0⟩).2.e≠0
 ·rw[PI (.inl c),PI c];exact⟨rfl,fun _=>rfl⟩
 rw[NI c];by_cases c2:(X0i ⟨0,b,0,0⟩).2.a≠J b
 case neg=>
  rw[NI (by simp only[not_or];exact⟨c,c2⟩)];exact⟨rfl,fun _=>rfl⟩
 rw[PI (.inr c2)];have hf:(X3h b ts ep (X0i ⟨0,b,0,0⟩).1.1 (X0i ⟨0,b,0,0⟩).1.2.2.1 (X0i ⟨0,b,0,0⟩).1.2.2.2 (UW UJ (X0i ⟨0,b,0,0⟩).1.2.1)).2=false:=by
  unfold X3h;by_cases d:(UW UJ (X0i ⟨0,b,0,0⟩).1.2.1).2.2≠0
  ·rw[PI d]
  rw[NI d];simp only
  by_cases q:(YH ⟨⟨(UW UJ (X0i ⟨0,b,0,0⟩).1.2.1).1.nodes,(UW UJ (X0i ⟨0,b,0,0⟩).1.2.1).1.aj,(X0i ⟨0,b,0,0⟩).1.2.2.1,(X0i ⟨0,b,0,0⟩).1.2.2.2⟩,(X0i ⟨0,b,0,0⟩).1.1,ts,ep,0⟩&&
    decide (XQ ⟨(UW UJ (X0i ⟨0,b,0,0⟩).1.2.1).1.nodes,(UW UJ (X0i ⟨0,b,0,0⟩).1.2.1).1.aj,(X0i ⟨0,b,0,0⟩).1.2.2.1,(X0i ⟨0,b,0,0⟩).1.2.2.2⟩ (X0i ⟨0,b,0,0⟩).1.1=b))=true
  ·exfalso;rw[Bool.and_eq_true,decide_eq_true_eq] at q;obtain⟨q1,q2⟩:=q;obtain⟨v,hr,_⟩:=Vz.1 q1;have:=Xik v hr;rw[q2] at this;rw[this] at c2;exact c2 rfl
  ·simpa using q
 rw[hf];exact⟨rfl,fun h=>IV⟩
open Go Go.Proofs Tryz
open List renaming length->J
set_option maxRecDepth 100000
def Xzk (d:ak) (f t:Int) (hd:DOk d) (hf:Vx d) (h1:0<=f) (h2:f<=t) (h3:t<=J d.aa):Con prog 86 [] [XY d,ai f,ai t] [] (.d (Xc (XV d f t))):=(Xl1 d f t hd hf h1 h2 h3).data rfl
def Xr1 (b:List UInt8) (hb:J b<=1000000) (hz:∀x∈b,x≠0):Con prog 145 [] [.d (Xc b)] [] (.tup [.d (Xc ((V2 b).getD [])),ab (V2 b).isSome]):=by
 refine ZCt func145 ntmps145 fun E=> ?_;have hlm:J (b.map X6)=J b:=Oc
 generalize hR:V2 b=R;refine Ya ?_;refine X8 (Uo 4 130 1 rfl rfl rfl) ?_
 refine Xl (ι:=Nat×List UInt8) (fun q=>q.1<=J b/\J q.2<=q.1/\(V2 (b.drop q.1)).map (fun l=>q.2++l)=R) (fun q=>⟨53,[(0,.d (Xc b)),(4,.own 130 (J (q.2.map X6))),(5,ai q.1)],[(130,.row 1 (q.2.map X6))]⟩) (fun q=>J b-q.1) (0,[]) ⟨Nat.zero_le _,Nat.le_refl _,by rw[drop_zero,hR];cases R<;>rfl⟩
  (ZL0) ?_
 rintro⟨i,o⟩ ⟨hi,ho,hg⟩;simp only at hi ho hg |-;have hroom:J (o.map X6)<=1000000:=Oj
 by_cases hil:i<J b
 case neg=>
  exact Yt29
 have hn:(i:Int)<J (b.map X6):=Oa
 obtain⟨x,hx⟩:=Xn (l:=b) hil;have au:(b.map X6)[i]? =some (X6 x):=XC hx;have hx0:x.toNat≠0:=fun q=>hz x (mem_of_getElem? hx) (UInt8.toNat_inj.1 (show x.toNat=(0:UInt8).toNat from q));rw[X8d hx] at hg;by_cases hx1:x=1
 case neg=>
  have nI:x.toNat≠1:=fun q=>hx1 (UInt8.toNat_inj.1 (show x.toNat=(1:UInt8).toNat by have h:(1:UInt8).toNat=1:=rfl;omega));have jM:(1:Int)<(x.toNat:Int):=Oa
  rw[Xa7 hx1,Option.map_map] at hg;have hst:(o++[x]).map X6=o.map X6++[X6 x]:=Oc
  exact Yt42
 subst hx1;have h11:¬(1:Int)<((1:UInt8).toNat:Int):=Oi
 by_cases mD:i+1<J b
 case neg=>
  have hn2:(J (b.map X6):Int)<=(i:Int)+1:=Oa
  rw[drop_of_length_le Oa,Xf3] at hg;have hg:none=R:=hg;subst hg;simp only[Option.getD_none,Option.isSome_none];clear hx;refine Qab ?_
  (exact Zz1 rfl ⟨_,Xe 2 (AVal.le_nil 1),⟨rfl,rfl,TV⟩,X5 _⟩)
 have hn2:¬(J (b.map X6):Int)<=(i:Int)+1:=Oa
 obtain⟨y,hy⟩:=Xn (l:=b) mD;have cz:(b.map X6)[i+1]? =some (X6 y):=XC hy;rw[X8d hy] at hg;by_cases fN:y=1\/y=2
 case neg=>
  rw[XgV fN] at hg;have hg:none=R:=hg;subst hg;have a0:y.toNat≠0:=fun q=>hz y (mem_of_getElem? hy) (UInt8.toNat_inj.1 (show y.toNat=(0:UInt8).toNat from q));have a1:¬(y.toNat:Int)=1:=fun q=>fN (.inl (UInt8.toNat_inj.1 (show y.toNat=(1:UInt8).toNat by have h:(1:UInt8).toNat=1:=rfl;omega)));have a2:¬(y.toNat:Int)=2:=fun q=>fN (.inr (UInt8.toNat_inj.1 (show y.toNat=(2:UInt8).toNat by have h:(2:UInt8).toNat=2:=rfl;omega)));have a3:¬(y.toNat:Int)<1:=Oa
  have a4:(2:Int)<(y.toNat:Int):=Oa
  simp only[Option.getD_none,Option.isSome_none];clear hx hy;refine QVd ?_;refine UI ?_
  (exact Zz1 rfl ⟨_,Xe 2 (AVal.le_nil 1),⟨rfl,rfl,TV⟩,X5 _⟩)
 rw[X9w fN,Option.map_map] at hg;have jr:=Xje fN;have hst:(o++[y-1]).map X6=o.map X6++[X6 (y-1)]:=Oc
 have bD:(V2 (b.drop (i+1+1))).map (fun l=>(o++[y-1])++l)=R:=by rw[<-hg];congr 1;funext l;simp
 clear hx hy hg;rcases fN with rfl|rfl
 ·have b1:¬((1:UInt8).toNat:Int)<1:=by decide
  have b2:¬(2:Int)<((1:UInt8).toNat:Int):=Oi
  refine QVd ?_;refine Uf ?_;refine QWd ?_;refine QXd ?_;refine⟨(i+2,o++[1-1]),⟨Od,Ou,bD⟩,Od,?_⟩;dsimp only;rw[hst];exact QTd
 ·have b1:¬((2:UInt8).toNat:Int)<1:=by decide
  have b2:¬(2:Int)<((2:UInt8).toNat:Int):=Oi
  refine QVd ?_;refine Uf ?_;refine QYd ?_;refine QXd ?_;refine⟨(i+2,o++[2-1]),⟨Od,Ou,bD⟩,Od,?_⟩;dsimp only;rw[hst];exact QTd
def Xqi (b:List UInt8) (ep:Int) (hb:J b<=1000000) (hz:∀x∈b,x≠0):Con prog 87 [] [.d (Xc b),ai ep] [] (.tup [Um (VP b ep).1,ab (VP b ep).2]):=by
 refine ZCt func87 ntmps87 fun E=> ?_;have c1:=Xr1 b hb hz;have hlm:J (b.map X6)=J b:=Oc
 cases hu:V2 b with
 |none=>
  rw[XeX hu];rw[hu] at c1;simp only[Option.getD_none,Option.isSome_none,X2c,map_nil] at c1 |-;refine U7 ?_
  (exact Zz1 rfl ⟨_,Xg 100 (cs':=[ai 0,ai 0,.d (.sl 10 []),ai 0,ai 0,Xa [],Xa [],Xa [],Xa [],ab false]) rfl JM rfl,⟨⟨100,0,_,rfl,rfl,.inr ⟨10,_,rfl,rfl,rfl,rfl⟩⟩,rfl,TV⟩,X5 _⟩)
 |some raw=>
 rw[hu] at c1;simp only[Option.getD_some,Option.isSome_some] at c1;rw[X9e hu];have hrl:=X9l (J b) b raw (Nat.le_refl _) hu;have dW:J (raw.map X6)=J raw:=Oc
 have c2:=XkC raw 0 Oa;have fL:=X8D raw 0;unfold X5M;generalize Y8 raw 0=U at*;obtain⟨c,z,e⟩:=U;simp only at fL c2 |-;clear hu;by_cases he:e=0
 case neg=>
  rw[PI (.inl he)];simp only[X2c,map_nil];refine QZ ?_
  (exact Zz1 rfl ⟨_,Xg 100 (cs':=[ai 0,ai 0,.d (.sl 10 []),ai 0,ai 0,Xa [],Xa [],Xa [],Xa [],ab false]) rfl JM rfl,⟨⟨100,0,_,rfl,rfl,.inr ⟨10,_,rfl,rfl,rfl,rfl⟩⟩,rfl,TV⟩,X5 _⟩)
 by_cases hz:z=J raw
 case neg=>
  have iW:¬z=(J (raw.map X6):Nat):=Jx
  rw[PI (.inr hz)];simp only[X2c,map_nil];refine QZ ?_
  (exact Zz1 rfl ⟨_,Xg 100 (cs':=[ai 0,ai 0,.d (.sl 10 []),ai 0,ai 0,Xa [],Xa [],Xa [],Xa [],ab false]) rfl JM rfl,⟨⟨100,0,_,rfl,rfl,.inr ⟨10,_,rfl,rfl,rfl,rfl⟩⟩,rfl,TV⟩,X5 _⟩)
 rw[NI (fun q=>q.elim (fun q=>q he) (fun q=>q hz))];have iW:z=(J (raw.map X6):Nat):=Jx
 clear hz;subst he;have c3:=X3e c 0 Oa;have hend:=X4Y c 0;unfold X7R;generalize Xd c 0=V at*;obtain⟨n,at_,e3⟩:=V;simp only at c3 hend |-;by_cases kJ:e3=0
 case neg=>
  rw[PI (.inl kJ)];clear hend;simp only[X2c,map_nil];refine X4 ?_;refine X0r ?_
  (exact Zz1 rfl ⟨_,Xg 100 (cs':=[ai 0,ai 0,.d (.sl 10 []),ai 0,ai 0,Xa [],Xa [],Xa [],Xa [],ab false]) rfl JM rfl,⟨⟨100,0,_,rfl,rfl,.inr ⟨10,_,rfl,rfl,rfl,rfl⟩⟩,rfl,TV⟩,X5 _⟩)
 subst kJ;by_cases hn:n=ep
 case neg=>
  rw[PI (.inr hn)];clear hend;simp only[X2c,map_nil];refine X4 ?_;refine X0r ?_
  (exact Zz1 rfl ⟨_,Xg 100 (cs':=[ai 0,ai 0,.d (.sl 10 []),ai 0,ai 0,Xa [],Xa [],Xa [],Xa [],ab false]) rfl JM rfl,⟨⟨100,0,_,rfl,rfl,.inr ⟨10,_,rfl,rfl,rfl,rfl⟩⟩,rfl,TV⟩,X5 _⟩)
 rw[NI (fun q=>q.elim (fun q=>q rfl) (fun q=>q hn))];obtain⟨q,hq,nG⟩:=hend rfl;simp only at hq nG;subst hq;rw[Int.toNat_natCast];have fk:J (c.map X6)=J c:=Oc
 have u7:q<=J (c.map X6):=Oa
 have bS:((c.map X6).take (J (c.map X6))).drop q=(c.drop q).map X6:=Jq
 have c4:=Xuk (c.drop q) OR;have hne:¬¬n=ep:=fun h=>h hn;generalize rdS (c.drop q)=D at*;obtain⟨X,e4⟩:=D;simp only[X2c] at c4 |-;clear fL hrl;refine X4 ?_;refine X1B ?_;refine Z8 (lb:=q) (hb:=J (c.map X6)) (ys:=(c.drop q).map X6) ?_ (hys:=by exact bS);refine Yr ?_
 (exact Zz1 rfl ⟨_,ZzS,⟨⟨100,0,_,rfl,rfl,.inr ⟨10,_,rfl,rfl,rfl,rfl⟩⟩,rfl,TV⟩,X5 _⟩)
def Xx5 {l:List UInt8} (h:∀x∈l,x≠0):X14 l=false:=by
 unfold X14;rw[any_eq_false];intro x hx;simpa using h x hx
def XcS (d:ak) (f t ep:Int) (hf:Vx d):Con prog 51 [] [XY d,ai f,ai t,ai ep] [] (.tup [.d (.sl 10 ((V8 d f t ep).1.map Y6)),ai (V8 d f t ep).2.1,ai (V8 d f t ep).2.2]):=by
 refine ZCt func51 ntmps51 fun E=> ?_;have hc:=XhU d f t ep 0;by_cases he:Ua d f t ep 0=0
 case neg=>
  have e:V8 d f t ep=([],0,Ua d f t ep 0):=by unfold V8;rw[PI he]
  rw[e];generalize Ua d f t ep 0=r at*;clear hf;obtain⟨secs,af,on⟩:=d;simp only[map_nil];refine UI ?_;exact X3 ⟨_,Xe 8 (AVal.le_nil 10),⟨rfl,rfl,rfl,TV⟩,X5 _⟩
 rw[he] at hc;obtain⟨hd,h1,h2,h3,_⟩:=X76 he;have hs:=Xzk d f t hd hf h1 Oa h3;have e:V8 d f t ep=((X0b ep (XV d f t)).1,(((X0b ep (XV d f t)).2:Nat):Int),0):=by unfold V8;rw[NI Je]
 rw[e];have bx:J (XV d f t)<=200000:=by
  unfold XV;rw[X1j hd _ _ Oa];have:=hf.1;omega
 clear e he hf hd h1 h2 h3;generalize XV d f t=B at*;unfold X0b;generalize hR:US ep (J B+1) B 0=R;have lN:J (B.map X6)=J B:=Oc
 obtain⟨secs,af,on⟩:=d;refine QS ?_;clear hc hs;refine X8 (Uo 13 130 10 rfl rfl rfl) ?_
 refine Xl (ι:=Nat×Nat×List Rcd) (fun q=>q.1<=J B/\q.2.1<=q.1/\J q.2.2<=q.2.1/\(∀x∈(B.drop q.2.1).take (q.1-q.2.1),x≠0)/\(q.2.2++(US ep (J B-q.2.1+1) (B.drop q.2.1) q.2.1).1,(US ep (J B-q.2.1+1) (B.drop q.2.1) q.2.1).2)=R) (fun q=>⟨60,[(3,ai ep),(12,.d (Xc B)),(13,.own 130 (J (q.2.2.map Y6))),(14,ai q.2.1),(15,ai q.1)],[(130,.row 10 (q.2.2.map Y6))]⟩) (fun q=>J B-q.1) (0,0,[]) ⟨Nat.zero_le _,Nat.le_refl _,Nat.le_refl _,Oc,by rw[drop_zero,Nat.sub_zero,hR];rfl⟩
  (ZL0) ?_
 rintro⟨i,a,o⟩ ⟨hi,ha,ho,hnz,hg⟩;simp only at hi ha ho hnz hg |-;have hroom:J (o.map Y6)<=200000:=Oj
 by_cases hil:i<J B
 case neg=>
  have hn:¬(i:Int)<J (B.map X6):=Oa
  rw[take_of_length_le OR] at hnz;rw[X4l ep _ _ _ (fun h=>by rw[Xx5 hnz] at h;simp at h)] at hg;simp only[append_nil] at hg;subst hg;clear hnz;refine Yh ?_;refine Qae ?_
  (exact Zz1 rfl ⟨_,ZzS,⟨rfl,rfl,rfl,TV⟩,X5 _⟩)
 have hn:(i:Int)<J (B.map X6):=Oa
 obtain⟨x,hx⟩:=Xn (l:=B) hil;have au:(B.map X6)[i]? =some (X6 x):=XC hx;have mX:(B.drop a)[i-a]? =some x:=by rw[getElem?_drop,show a+(i-a)=i by omega];exact hx
 by_cases hx0:x=0
 case neg=>
  have hx0':¬(x.toNat:Int)=0:=fun q=>hx0 (UInt8.toNat_inj.1 (show x.toNat=(0:UInt8).toNat by have h:(0:UInt8).toNat=0:=rfl;omega));have sD:∀y∈(B.drop a).take (i+1-a),y≠0:=by
   rw[show i+1-a=(i-a)+1 by omega,X7H mX];intro y hy;rw[mem_append,mem_singleton] at hy;rcases hy with hy|rfl
   ·exact hnz y hy
   ·exact hx0
  clear hx mX hnz hR;refine U7 ?_;exact⟨(i+1,a,o),⟨Od,Od,ho,sD,hg⟩,Od,ZL0⟩
 subst hx0;obtain⟨k1,k2⟩:=XoT hnz mX;have dA:=Xqi ((B.drop a).take (i-a)) ep (by rw[LT,LD];omega) hnz;have hsub:((B.map X6).take i).drop a=((B.drop a).take (i-a)).map X6:=by
  rw[<-map_take,<-map_drop,drop_take]
 have uE:J ((B.drop a).take (i-a))=i-a:=by rw[LT,LD];omega
 by_cases hok:(VP ((B.drop a).take (i-a)) ep).2=true
 case neg=>
  rw[X4l ep _ _ _ (fun h=>hok (by rw[<-k1];exact h.2))] at hg;simp only[append_nil] at hg;subst hg;have hok:(VP ((B.drop a).take (i-a)) ep).2=false:=by simpa using hok
  rw[hok] at dA;generalize (VP ((B.drop a).take (i-a)) ep).1=X at*;generalize (B.drop a).take (i-a)=H at*;have hle:a<=i:=ha;have uF:i<=J (B.map X6):=Oa
  simp only[X2c] at dA;clear k1 k2 hok hx mX hnz hR;refine U7 ?_;refine Z8 (lb:=a) (hb:=i) (ys:=H.map X6) ?_ (hys:=by exact hsub);refine V4 ?_;refine Qae ?_
  (exact Zz1 rfl ⟨_,ZzS,⟨rfl,rfl,rfl,TV⟩,X5 _⟩)
 rw[X6L ep _ _ _ ⟨k2,by rw[k1];exact hok⟩,k1,uE,drop_drop,show a+(i-a+1)=i+1 by omega] at hg;rw[hok] at dA;generalize hX:(VP ((B.drop a).take (i-a)) ep).1=X at*;generalize (B.drop a).take (i-a)=H at*;have hle:a<=i:=ha;have uF:i<=J (B.map X6):=Oa
 have hst:(o++[X]).map Y6=o.map Y6++[Y6 X]:=Oc
 have iq:((o++[X])++(US ep (J B-(i+1)+1) (B.drop (i+1)) (i+1)).1,(US ep (J B-(i+1)+1) (B.drop (i+1)) (i+1)).2)=R:=by
  rw[<-hg,Xah ep (J B-a) (J B-(i+1)+1) (B.drop (i+1)) (i+1) OR OR];simp
 clear hg k1 k2 hok hX hx mX hnz hR;simp only[X2c] at dA;have m8:Y6 X=[.v (.int .i64 X.kind),.v (.int .i64 X.ts),.sl 10 (X.changes.map Xp),.v (.int .i64 X.rule.kind),.v (.int .i64 X.rule.n),.v (.string (X7 X.rule.name)),.v (.string (X7 X.rule.key)),.v (.string (X7 X.rule.src)),.v (.string (X7 X.rule.dst)),.v (.bool X.off)]:=rfl;rw[m8] at hst;refine U7 ?_;refine Z8 (lb:=a) (hb:=i) (ys:=H.map X6) ?_ (hys:=by exact hsub);refine UR ?_;refine⟨(i+1,i+1,o++[X]),⟨Od,Nat.le_refl _,Ou,Oc,iq⟩,Od,?_⟩;dsimp only;rw[hst];exact X9 rfl ⟨JL,JL,ZzQ (by refine Eq.trans (b:=AVal.own 130 (_+_)) rfl ?_;rw[LA]),JL,JL,TV⟩ ⟨rfl,TV⟩
theorem Xdo (k:Nat) (c:List UInt8) (a:Int):Ym ⟨k,c,a,0⟩=((Xd c a).1,⟨k,c,if (Xd c a).2.2=0 then (Xd c a).2.1 else a,(Xd c a).2.2⟩):=IF
def XxX (b:List UInt8) (hb:J b<=1000000):Con prog 143 [] [.d (Xc b)] [] (.tup [.d (.sl 6 ((UL Vy ⟨0,b,0,0⟩).1.map Xh)),ai (if (UL Vy ⟨0,b,0,0⟩).2.e=0 then (UL Vy ⟨0,b,0,0⟩).2.a else 0),ab (decide ((UL Vy ⟨0,b,0,0⟩).2.e=0))]):=by
 refine ZCt func143 ntmps143 fun E=> ?_;have hu:=X3e b 0 Oa;have bH:=Xf1 (b:=b) (a:=0);obtain⟨m0,hm0,jP⟩:=X4s ⟨0,b,0,0⟩;have bL:=X7b.ok ⟨0,b,0,0⟩ ⟨Int.le_refl _,Oc⟩;have fc:=(X16.keep ⟨0,b,0,0⟩).2;obtain⟨L1,ek⟩:∃L,Vc Vy m0 (Ym ⟨0,b,0,0⟩).2=L:=⟨_,rfl⟩
 have bh:UL Vy ⟨0,b,0,0⟩=L1:=IM
 have jQ:=X7K X7X X61 (n:=m0) bL I3;rw[ek] at jQ;rw[bh];rw[Xdo] at hm0 bL ek;simp only at hm0 bL ek;generalize Xd b 0=u at*;obtain⟨u1,u2,u3⟩:=u;simp only at hm0 bL ek bH;subst hm0;have iP:(if u3=0 then (if u3=0 then u2 else 0) else 0)=u2:=by
  by_cases h:u3=0
  ·rw[PI h,PI h]
  ·rw[NI h];exact(bH h).symm
 clear bh fc;refine U7 ?_;refine X8 (Uo 5 130 6 rfl rfl rfl) ?_
 refine Xl (ι:=List Rul×Nat×Rd) (fun q=>q.1++(Vc Vy q.2.1 q.2.2).1=L1.1/\(Vc Vy q.2.1 q.2.2).2=L1.2/\q.2.2.c=b/\X2O q.2.2/\q.2.1<=m0)
  (fun q=>⟨45,[(0,.d (Xc b)),(2,aq),(3,ai 0),(4,ab false),(5,.own 130 (J (q.1.map Xh))),(6,ai m0),(7,ai (if q.2.2.e=0 then q.2.2.a else 0)),(8,ai q.2.2.e),(9,ai ((m0-q.2.1:Nat):Int))],[(130,.row 6 (q.1.map Xh))]⟩) (fun q=>q.2.1) ([],m0,⟨0,b,if u3=0 then u2 else 0,u3⟩)
  ⟨by rw[ek];rfl,by rw[ek],rfl,bL,Nat.le_refl _⟩
  (X9 rfl ⟨JL,JL,JL,JL,JL,JL,(by simp only;rw[iP];exact ZzV),JL,(by simp only;rw[Nat.sub_self];exact ZzV),TV⟩ ⟨rfl,TV⟩) ?_
 clear hu bH iP ek bL;rintro⟨acc,j,s⟩ ⟨h1,h2,h3,h4,h5⟩;simp only at h1 h2 h3 h4 h5;have dY:=Xcx h1 jQ;have hroom:J (acc.map Xh)<=1073741825:=Jz
 by_cases bD:j=0\/s.e≠0
 ·have eC:=Xcb h1 h2 bD;subst eC;have hgd:(¬((m0-j:Nat):Int)<(m0:Nat))\/(((m0-j:Nat):Int)<(m0:Nat)/\s.e≠0):=by
   exact Yt62
  obtain⟨k,c,a,e⟩:=s;simp only at hgd h3 |-;subst h3;rcases hgd with hj'|⟨hj',he⟩
  ·refine XD ?_;refine Qdc ?_;refine X8 (XX 5 130 rfl rfl rfl) ?_;refine W9_ ?_
   (exact Zz1 rfl ⟨_,ZzS,⟨rfl,rfl,rfl,TV⟩,X5 _⟩)
  ·refine XD ?_;refine Qdc ?_;refine X8 (XX 5 130 rfl rfl rfl) ?_;refine W9_ ?_
   (exact Zz1 rfl ⟨_,ZzS,⟨rfl,rfl,rfl,TV⟩,X5 _⟩)
 have he:s.e=0:=by
  by_cases q:s.e=0
  ·exact q
  ·exact absurd (.inr q) bD
 obtain⟨i,rfl⟩:∃i,j=i+1:=⟨j-1,Oa⟩
 have hj':((m0-(i+1):Nat):Int)<(m0:Nat):=Oa
 rw[Xd0 he] at h1 h2;simp only at h1 h2;have bX:=X61.ok s h4;obtain⟨k,c,a,e⟩:=s;simp only at he h3;subst he;subst h3;have hr:=Xvi c a Oa;have hz:=Xm4 (b:=c) (a:=a);rw[Xml] at h1 h2 bX;simp only at h1 h2 bX;generalize X1h c a=u at*;obtain⟨x,u2',u3'⟩:=u;simp only at hr hz h1 h2 bX;have aY:(if u3'=0 then (if u3'=0 then u2' else a) else 0)=u2':=by
  by_cases h:u3'=0
  ·rw[PI h,PI h]
  ·rw[NI h];exact(hz h).symm
 have cZ:(acc++[x]).map Xh=acc.map Xh++[Xh x]:=Oc
 have f1:(if (0:Int)=0 then a else 0)=a:=rfl;clear hz bD h4;obtain⟨rk,rn,dX,g8,g9,ga⟩:=x;simp only[Yu,Xh] at hr cZ;simp only[f1];refine Qxa ?_;refine⟨(acc++[⟨rk,rn,dX,g8,g9,ga⟩],i,⟨k,c,if u3'=0 then u2' else a,u3'⟩),⟨Iq,h2,rfl,bX,Od⟩,I8,?_⟩;dsimp only;rw[cZ,aY];exact X9 rfl ⟨JL,JL,JL,JL,ZzQ Jk,JL,JL,JL,ZzQ O5,TV⟩ ⟨rfl,TV⟩
def Xwz (b:List UInt8) (hb:J b<=1000000):Con prog 84 [] [.d (Xc b)] [] (.tup [Xz (X0l b 0 1).1,ab (X0l b 0 1).2]):=by
 refine ZCt func84 ntmps84 fun E=> ?_;have mY:=XxX b hb;have fQ:X0i ⟨0,b,0,0⟩=(((UL Vy ⟨0,b,0,0⟩).1,((UL X0D (UL Vy ⟨0,b,0,0⟩).2).1,((Ym (UL X0D (UL Vy ⟨0,b,0,0⟩).2).2).1,(Ym (Ym (UL X0D (UL Vy ⟨0,b,0,0⟩).2).2).2).1))),(Ym (Ym (UL X0D (UL Vy ⟨0,b,0,0⟩).2).2).2).2):=rfl;have fe:(UL Vy ⟨0,b,0,0⟩).2.c=b:=((X9c X7X).keep _).2;have fh:X2O (UL Vy ⟨0,b,0,0⟩).2:=Xr0 X61 ⟨Int.le_refl _,Oc⟩;have mK:J (UL Vy ⟨0,b,0,0⟩).1<=1073741825:=by
  unfold UL;exact X7K X7X X61 (X7b.ok ⟨0,b,0,0⟩ ⟨Int.le_refl _,Oc⟩) (by rw[(X16.keep ⟨0,b,0,0⟩).2];simp only;omega)
 have aV:Xz XT= .agg [.d (.sl 3 []),.d (.sl 5 []),ai 0,ai 0,.d (.sl 6 []),ai 0,ai 0,ai 0]:=rfl;generalize UL Vy ⟨0,b,0,0⟩=L1 at*;obtain⟨rs,s⟩:=L1;simp only at mY fQ fe fh mK;by_cases q0:s.e=0
 case neg=>
  have e:X0l b 0 1=(XT,false):=by
   unfold X0l;simp only[fQ];rw[PI];rw[(X9c X9S).err s q0,X16.err s q0,X16.err s q0];exact q0
  rw[e];simp only[aV];clear e fQ fh;rw[NI q0,DF q0] at mY;refine UI ?_;exact QUe
 obtain⟨k,c,a,e⟩:=s;simp only at q0 fe;subst q0;subst fe;rw[PI rfl,DT rfl] at mY;have hu:=X3e c a Oa;have bH:=Xf1 (b:=c) (a:=a);obtain⟨m0,hm0,jP⟩:=X4s ⟨k,c,a,0⟩;have bL:=X7b.ok ⟨k,c,a,0⟩ fh;have fc:=(X16.keep ⟨k,c,a,0⟩).2;obtain⟨L2,hL2⟩:∃L,Vc X0D m0 (Ym ⟨k,c,a,0⟩).2=L:=⟨_,rfl⟩
 have bM:UL X0D ⟨k,c,a,0⟩=L2:=by unfold UL;simp only;rw[hm0,Int.toNat_natCast,hL2]
 have qz:=X7K X9S XdB (n:=m0) bL I3;rw[hL2] at qz;have fC:L2.2.c=c:=by rw[<-bM];exact((X9c X9S).keep _).2
 have mZ:∀x∈L2.1,X4G x:=by rw[<-hL2];exact XmT XqN _ _
 rw[bM] at fQ;rw[Xdo] at hm0 bL hL2;simp only at hm0 bL hL2;generalize Xd c a=u at*;obtain⟨u1,u2,u3⟩:=u;simp only at hm0 bL hL2 bH;subst hm0;have iP:(if u3=0 then (if u3=0 then u2 else a) else 0)=u2:=by
  by_cases h:u3=0
  ·rw[PI h,PI h]
  ·rw[NI h];exact(bH h).symm
 clear bM fc;refine YG ?_;refine Z5 (ag:=hu) ?_;refine Yb ?_;refine X4q ⟨116,[(0,.d (Xc c)),(2,.ptr 100 0),(3,ab false),(4,.d (.sl 6 (rs.map Xh))),(8,ai (if L2.2.e=0 then L2.2.a else 0)),(9,ai L2.2.e),(10,.d (.sl 10 (L2.1.map Xp)))],[(100,.box [aq,aq,ai 0,ai 0,aq,ai 0,ai 0,ai 0])]⟩ ?_ ?_
 ·refine X8 (Uo 10 130 10 rfl rfl rfl) ?_;clear fQ fC mZ;refine W1_ ?_
  refine Xl (ι:=List Chg×Nat×Rd) (fun q=>q.1++(Vc X0D q.2.1 q.2.2).1=L2.1/\(Vc X0D q.2.1 q.2.2).2=L2.2/\q.2.2.c=c/\X2O q.2.2/\q.2.1<=m0)
   (fun q=>⟨116,[(0,.d (Xc c)),(2,.ptr 100 0),(3,ab false),(4,.d (.sl 6 (rs.map Xh))),(7,ai m0),(8,ai (if q.2.2.e=0 then q.2.2.a else 0)),(9,ai q.2.2.e),(10,.own 130 (J (q.1.map Xp))),(11,ai ((m0-q.2.1:Nat):Int))],[(100,.box [aq,aq,ai 0,ai 0,aq,ai 0,ai 0,ai 0]),(130,.row 10 (q.1.map Xp))]⟩) (fun q=>q.2.1) ([],m0,⟨k,c,if u3=0 then u2 else a,u3⟩)
   ⟨by rw[hL2];rfl,by rw[hL2],rfl,bL,Nat.le_refl _⟩
   (X9 rfl ⟨JL,JL,JL,JL,JL,(by simp only;rw[iP];exact ZzV),JL,JL,(by simp only;rw[Nat.sub_self];exact ZzV),TV⟩ ⟨rfl,rfl,TV⟩) ?_
  clear hu mY bH iP hL2 bL;rintro⟨acc,j,s⟩ ⟨h1,h2,h3,h4,h5⟩;simp only at h1 h2 h3 h4 h5;have dY:=Xcx h1 qz;have hroom:J (acc.map Xp)<=1073741825:=Jz
  by_cases bD:j=0\/s.e≠0
  ·have eC:=Xcb h1 h2 bD;subst eC;have hgd:(¬((m0-j:Nat):Int)<(m0:Nat))\/(((m0-j:Nat):Int)<(m0:Nat)/\s.e≠0):=by
    exact Yt62
   obtain⟨k',c',a',e⟩:=s;simp only at hgd h3 |-;subst h3;rcases hgd with hj'|⟨hj',he⟩
   ·refine XK ?_;refine St.le_trans (XI 130 rfl) ?_;refine St.le_trans (XX 10 130 rfl rfl rfl) ?_;exact ZL0
   ·refine XK ?_;refine St.le_trans (XI 130 rfl) ?_;refine St.le_trans (XX 10 130 rfl rfl rfl) ?_;exact ZL0
  have he:s.e=0:=by
   by_cases q:s.e=0
   ·exact q
   ·exact absurd (.inr q) bD
  obtain⟨i,rfl⟩:∃i,j=i+1:=⟨j-1,Oa⟩
  have hj':((m0-(i+1):Nat):Int)<(m0:Nat):=Oa
  rw[Xd0 he] at h1 h2;simp only at h1 h2;have bX:=XdB.ok s h4;obtain⟨k',c',a',e⟩:=s;simp only at he h3;subst he;subst h3;have hr:=Xxv c' a' Oa;have hz:=Xl4 (b:=c') (a:=a');rw[Xlt] at h1 h2 bX;simp only at h1 h2 bX;generalize X0L c' a'=u at*;obtain⟨x,u2',u3'⟩:=u;simp only at hr hz h1 h2 bX;have aY:(if u3'=0 then (if u3'=0 then u2' else a') else 0)=u2':=by
   by_cases h:u3'=0
   ·rw[PI h,PI h]
   ·rw[NI h];exact(hz h).symm
  have cZ:(acc++[x]).map Xp=acc.map Xp++[Xp x]:=Oc
  have f1:(if (0:Int)=0 then a' else 0)=a':=rfl;clear hz bD h4;obtain⟨op,id,src,dst,name,⟨vk,vn,vd,vs,vl⟩⟩:=x;simp only[Xu,Xp] at hr cZ;simp only[f1];refine Qxa ?_;refine⟨(acc++[⟨op,id,src,dst,name,.mk vk vn vd vs vl⟩],i,⟨k',c',if u3'=0 then u2' else a',u3'⟩),⟨Iq,h2,rfl,bX,Od⟩,I8,?_⟩;dsimp only;rw[cZ,aY];exact X9 rfl ⟨JL,JL,JL,JL,JL,JL,JL,ZzQ Jk,ZzQ O5,TV⟩ ⟨rfl,rfl,TV⟩
 clear hL2 bL jP bH iP hu mY fh;obtain⟨cs,s⟩:=L2;simp only at qz fC mZ fQ |-;have hU:X0l c 0 1=if (Ym (Ym s).2).2.e≠0 then (XT,false) else X3h c 0 1 rs (Ym s).1 (Ym (Ym s).2).1 (UW UJ cs):=by
  unfold X0l;simp only[fQ]
 clear fQ;by_cases q1:s.e=0
 case neg=>
  have e:X0l c 0 1=(XT,false):=by
   rw[hU,PI];rw[X16.err s q1,X16.err s q1];exact q1
  rw[e];simp only[aV];clear e hU;obtain⟨k',c',a',e⟩:=s;simp only at q1 |-;refine XK ?_;exact QUe
 obtain⟨k',c',a',e⟩:=s;simp only at q1 fC;subst q1;subst fC;have hN:=X16.keep ⟨k',c',a',0⟩;rw[Xdo] at hU;simp only at hU;have fG:=X3e c' a' Oa;generalize Xd c' a'=v at*;obtain⟨n1,a2,e2⟩:=v;simp only at hU;simp only[aN3] at fG;have ic:=X3e c' a2 Oa;have nX:=Xmw;have hap:=XmR UJ cs Xdk Oa mZ;have dR:=XeQ UJ cs;generalize UW UJ cs=R at*;obtain⟨⟨iu,iw,rW,rX⟩,gk,ge⟩:=R;simp only[XZ,map_nil] at nX hap dR;simp only[if_true] at*;clear hN;by_cases q2:ge=0
 case neg=>
  have e:X0l c' 0 1=(XT,false):=by
   rw[hU];unfold X3h;simp only;rw[PI q2,ite_self]
  exact Yt68
 subst q2;by_cases q3:e2=0
 case neg=>
  have e:X0l c' 0 1=(XT,false):=by
   rw[hU,PI];rw[X16.err _ (by exact q3)];exact q3
  exact Yt68
 subst q3;simp only[if_true] at hU;rw[Xdo] at hU;simp only at hU;generalize Xd c' a2=w at*;obtain⟨n2,a3,e3⟩:=w;simp only at hU;simp only[aN3] at ic;by_cases q4:e3=0
 case neg=>
  have e:X0l c' 0 1=(XT,false):=by rw[hU,PI q4]
  rw[e];simp only[aV];clear e hU;exact QWe
 subst q4;rw[NI Oc] at hU;unfold X3h at hU;rw[NI Oc] at hU;rw[hU];clear hU;simp only;have kR:StaHold ⟨⟨iu,iw,n1,n2⟩,rs,0,1,0⟩:=⟨⟨dR.nl,dR.el,dR.nodes,dR.aj⟩,Od⟩
 have jm:=Xc0 _ kR;by_cases q5:YH ⟨⟨iu,iw,n1,n2⟩,rs,0,1,0⟩=true
 case neg=>
  rw[show YH ⟨⟨iu,iw,n1,n2⟩,rs,0,1,0⟩=false by simpa using q5] at jm |-;rw[Bool.false_and];clear q5 kR dR;simp only[Xz] at jm |-;refine QVe ?_;refine X4 ?_;refine YV ?_;exact QXe
 obtain⟨v1,v2,_⟩:=Vz.1 q5;have bA:=XfI ⟨⟨iu,iw,n1,n2⟩,rs,0,1,0⟩ v1 v2 (X49 v1);rw[q5] at jm |-;rw[Bool.true_and];clear q5 kR dR v1 v2;unfold Xc at*;simp only at bA |-;generalize (XQ ⟨iu,iw,n1,n2⟩ rs)=SB at*;simp only[Xz] at jm bA |-;refine QVe ?_;refine X4 ?_;refine YV ?_;exact QXe
def X9L (b C:List UInt8) (ep ts:Int):Sta×Bool:=if Vj ep ts (J C:Nat) (XP C:Nat)=b then (⟨(X0l C 0 1).1.g,(X0l C 0 1).1.rules,ts,ep,(X0l C 0 1).1.tail⟩,(X0l C 0 1).2) else (XT,false)
def X6H (d:ak) (k:Nat):Sta×Bool:=
 let b:=(YZ d (k:Nat)).1
 let u:=Y8 b 0
 let r:=Xd u.1 0
 let s:=Xd u.1 r.2.1
 let t:=Xd u.1 s.2.1
 if u.2.2=0/\r.2.2=0/\s.2.2=0/\t.2.2=0/\X2Q d k (r.1,s.1,t.1,0) then X9L b ((Vm d k).take t.1.toNat) r.1 s.1 else (XT,false)
def XyG {b:List UInt8}{ts ep:Int} (h:0<=ts/\ts<=1000000000000000/\1<=ep/\ep<=1000000000000000):
  (X0l b 0 1).2=(X0l b ts ep).2/\((X0l b ts ep).2=true->(⟨(X0l b 0 1).1.g,(X0l b 0 1).1.rules,ts,ep,(X0l b 0 1).1.tail⟩:Sta)=(X0l b ts ep).1):=by
 unfold X0l;simp only;split
 ·exact⟨rfl,fun h=>IV⟩
 unfold X3h;split
 ·exact⟨rfl,fun h=>IV⟩
 refine⟨?_,fun _=>rfl⟩;simp only;congr 1;unfold YH;simp only;rw[DT (show(0:Int)<=0/\(0:Int)<=1000000000000000/\(1:Int)<=1/\(1:Int)<=1000000000000000/\(0:Int)<=0/\(0:Int)<=262144 by omega),DT (show 0<=ts/\ts<=1000000000000000/\1<=ep/\ep<=1000000000000000/\(0:Int)<=0/\(0:Int)<=262144 by omega)]
theorem XgL (k:Nat) (c:List UInt8) (a:Int):Ym ⟨k,c,a,0⟩=((Xd c a).1,⟨k,c,if (Xd c a).2.2=0 then (Xd c a).2.1 else a,(Xd c a).2.2⟩):=IF
def Xu9 {c:List UInt8} (h:(X5N ⟨0,c,0,0⟩).2.e=0):
  (Xd c 0).2.2=0/\(Xd c (Xd c 0).2.1).2.2=0/\(Xd c (Xd c (Xd c 0).2.1).2.1).2.2=0/\
  (X5N ⟨0,c,0,0⟩).1.1=(Xd c 0).1/\(X5N ⟨0,c,0,0⟩).1.2.1=(Xd c (Xd c 0).2.1).1/\(X5N ⟨0,c,0,0⟩).1.2.2.1=(Xd c (Xd c (Xd c 0).2.1).2.1).1:=by
 unfold X5N X3K at*;simp only[XgL] at*;have h3:=X16.back h;have h2:=X16.back h3;have h1:=X16.back h2;simp only at h1;simp only[h1,if_true] at*;rw[XgL] at h2 h3 |-;simp only at h2;simp only[h2,if_true] at*;rw[XgL] at h3 |-;simp only at h3;exact⟨TV,TV,h3,TV,TV,rfl⟩
def X7k (b:List UInt8) (a:Int):okN (Xd b a).1:=by
 by_cases q2:(Xd b a).2.2=0
 ·obtain⟨_,h1,h2,_⟩:=X43 (b:=b) (a:=a) (n:=(Xd b a).1) (e:=(Xd b a).2.1) (by rw[<-q2]);exact⟨Oa,Oa⟩
 ·rw[Xh1 q2];exact⟨Oi,Oi⟩
variable{d:ak}
def Xu4 (hd:DOk d) (aQ:16<=J d.aa) {k:Nat} (hk:k<2):J (Vm d k)=Xx d*64:=by
 have l4:=X1L aQ hk;obtain⟨l1,l2,l3⟩:=X0m aQ;show J (Ug d (2+k*Xx d) (Xx d))=_;rw[X1j hd _ _ Oa];omega
def Xjx (hd:DOk d) (aQ:16<=J d.aa) {k:Nat} (hk:k<2):
  (X6H d k).2=(Vb d k).2/\((Vb d k).2=true->X6H d k=Vb d k):=by
 have hal:=Xu4 hd aQ hk;unfold X6H Vb;simp only;generalize (YZ d (k:Nat)).1=b;have hs:=fun C:List UInt8=>X5C C;by_cases q:(Y8 b 0).2.2=0/\(Xd (Y8 b 0).1 0).2.2=0/\(Xd (Y8 b 0).1 (Xd (Y8 b 0).1 0).2.1).2.2=0/\(Xd (Y8 b 0).1 (Xd (Y8 b 0).1 (Xd (Y8 b 0).1 0).2.1).2.1).2.2=0/\X2Q d k ((Xd (Y8 b 0).1 0).1,(Xd (Y8 b 0).1 (Xd (Y8 b 0).1 0).2.1).1,(Xd (Y8 b 0).1 (Xd (Y8 b 0).1 (Xd (Y8 b 0).1 0).2.1).2.1).1,0)/\Vj (Xd (Y8 b 0).1 0).1 (Xd (Y8 b 0).1 (Xd (Y8 b 0).1 0).2.1).1 (J ((Vm d k).take (Xd (Y8 b 0).1 (Xd (Y8 b 0).1 (Xd (Y8 b 0).1 0).2.1).2.1).1.toNat):Nat) (XP ((Vm d k).take (Xd (Y8 b 0).1 (Xd (Y8 b 0).1 (Xd (Y8 b 0).1 0).2.1).2.1).1.toNat):Nat)=b
 ·obtain⟨q1,q2,q3,q4,q5,q6⟩:=q;rw[PI ⟨q1,q2,q3,q4,q5⟩];have o1:=X7k (Y8 b 0).1 0;have o2:=X7k (Y8 b 0).1 (Xd (Y8 b 0).1 0).2.1;have o3:=X7k (Y8 b 0).1 (Xd (Y8 b 0).1 (Xd (Y8 b 0).1 0).2.1).2.1;unfold X9L;rw[PI q6];clear q1 q2 q3 q4;generalize (Xd (Y8 b 0).1 (Xd (Y8 b 0).1 (Xd (Y8 b 0).1 0).2.1).2.1).1=n3 at*;generalize (Xd (Y8 b 0).1 (Xd (Y8 b 0).1 0).2.1).1=n2 at*;generalize (Xd (Y8 b 0).1 0).1=n1 at*;obtain⟨p1,p2,p3,p4,p5⟩:=q5;simp only at p1 p2 p3 p4 p5;have hl:(J ((Vm d k).take n3.toNat):Int)=n3:=by rw[LT];have:=o3.1;omega
  have hp:=Xe3 (a:=n1) (b:=n2) (c:=(J ((Vm d k).take n3.toNat):Nat)) (e:=(XP ((Vm d k).take n3.toNat):Nat)) o1 o2 (by rw[hl];exact o3) ⟨Oa,by have:=hs ((Vm d k).take n3.toNat);omega⟩;rw[q6] at hp;rw[hp,hl];simp only;rw[PI ⟨TV,p1,p2,p3,p4,p5⟩];unfold X4Z;simp only;rw[NI Oc];obtain⟨u1,u2⟩:=Xtb ((Vm d k).take n3.toNat) n2 n1;obtain⟨v1,v2⟩:=XyG (b:=(Vm d k).take n3.toNat) (ts:=n2) (ep:=n1) ⟨o2.1,p4,p1,p2⟩;rw[u1];refine⟨v1,fun h=> ?_⟩;rw[u2 h,v2 h,v1]
 have hf:(if (UM b).2=true/\X2Q d k (UM b).1 then X4Z d k (UM b).1 else (XT,false)).2=false:=by
  by_cases c:(UM b).2=true/\X2Q d k (UM b).1
  case neg=>rw[NI c]
  rw[PI c];obtain⟨c1,c2⟩:=c;unfold X4Z;by_cases c3:(XP ((Vm d k).take (UM b).1.2.2.1.toNat):Int)≠(UM b).1.2.2.2
  ·rw[PI c3]
  exfalso;apply q;have c4:(XP ((Vm d k).take (UM b).1.2.2.1.toNat):Int)=(UM b).1.2.2.2:=Jn
  unfold UM at c1 c2 c4;simp only at c1 c2 c4;by_cases c5:(Y8 b 0).2.2=0
  case neg=>rw[PI c5] at c1;cases c1
  rw[NI (by simp[c5])] at c1 c2 c4;simp only[Bool.and_eq_true,decide_eq_true_eq] at c1 c2 c4;obtain⟨⟨c6,c7⟩,c8⟩:=c1;obtain⟨e1,e2,e3,f1,f2,f3⟩:=Xu9 c6;have o3:=X7k (Y8 b 0).1 (Xd (Y8 b 0).1 (Xd (Y8 b 0).1 0).2.1).2.1;rw[<-c4] at c8;generalize (X5N ⟨0,(Y8 b 0).1,0,0⟩).1=P at*;obtain⟨P1,P2,P3,P4⟩:=P;simp only at f1 f2 f3 c8 c2;subst f1 f2 f3;refine⟨c5,e1,e2,e3,c2,?_⟩;obtain⟨p1,p2,p3,p4,p5⟩:=c2;simp only at p5;have hl:(J ((Vm d k).take (Xd (Y8 b 0).1 (Xd (Y8 b 0).1 (Xd (Y8 b 0).1 0).2.1).2.1).1.toNat):Int)=(Xd (Y8 b 0).1 (Xd (Y8 b 0).1 (Xd (Y8 b 0).1 0).2.1).2.1).1:=by rw[LT];have:=o3.1;omega
  rw[hl];exact c8
 have hg:(if (Y8 b 0).2.2=0/\(Xd (Y8 b 0).1 0).2.2=0/\(Xd (Y8 b 0).1 (Xd (Y8 b 0).1 0).2.1).2.2=0/\(Xd (Y8 b 0).1 (Xd (Y8 b 0).1 (Xd (Y8 b 0).1 0).2.1).2.1).2.2=0/\X2Q d k ((Xd (Y8 b 0).1 0).1,(Xd (Y8 b 0).1 (Xd (Y8 b 0).1 0).2.1).1,(Xd (Y8 b 0).1 (Xd (Y8 b 0).1 (Xd (Y8 b 0).1 0).2.1).2.1).1,0) then X9L b ((Vm d k).take (Xd (Y8 b 0).1 (Xd (Y8 b 0).1 (Xd (Y8 b 0).1 0).2.1).2.1).1.toNat) (Xd (Y8 b 0).1 0).1 (Xd (Y8 b 0).1 (Xd (Y8 b 0).1 0).2.1).1 else (XT,false)).2=false:=by
  split
  ·rename_i c;unfold X9L;rw[NI fun h=>q ⟨c.1,c.2.1,c.2.2.1,c.2.2.2.1,c.2.2.2.2,h⟩]
  ·rfl
 rw[hf,hg];exact⟨rfl,fun h=>IV⟩
end Go.Fw
