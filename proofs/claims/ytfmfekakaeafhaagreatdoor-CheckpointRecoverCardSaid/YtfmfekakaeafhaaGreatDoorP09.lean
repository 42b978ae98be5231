/- The codec in plain Lean: what the functions compute. -/
import Derived.Test.YtfmfekakaeafhaaGreatDoorChecked
import Derived.Laws.RangeAny
import Derived.Test.YtfmfekakaeafhaaGreatDoorP04
set_option linter.all false
set_option maxHeartbeats 8000000
namespace Go.Fw
open Go List
open List renaming length->J
inductive Val where
 |mk (kind n d:Int) (s:List UInt8) (l:List Val)
namespace Val
def kind:Val->Int|mk k _ _ _ _=>k
def n:Val->Int|mk _ n _ _ _=>n
def d:Val->Int|mk _ _ d _ _=>d
def s:Val->List UInt8|mk _ _ _ s _=>s
def l:Val->List Val|mk _ _ _ _ l=>l
end Val
abbrev X6 (b:UInt8):List D:=[.v (.int .u8 b.toNat)]
abbrev Xc (l:List UInt8):D:= .sl 1 (l.map X6)
mutual
def UB:Val->List D
 | .mk k n d s l=>[.v (.int .i64 k),.v (.int .i64 n),.v (.int .i64 d),.v (.string (X7 s)),.sl 5 (XR l)]
def XR:List Val->List (List D)
 |[]=>[]
 |v::r=>UB v::XR r
end
theorem X8h:∀l:List Val,XR l=l.map UB
 :=by intro x;induction x<;>simp_all [XR]
variable{i k p u:Nat}{a d e most n nn:Int}{b m s:List UInt8}{c:UInt8}{l:List Val}{x:Val}
def XC {α β:Type}{l:List α}{f:α->β}{x:α} (h:l[k]? =some x):(l.map f)[k]? =some (f x):=by simp[h]
def Xn {α:Type}{l:List α} (h:k<J l):∃x,l[k]? =some x:=⟨_,getElem?_eq_getElem h⟩
def vS (n:Nat):List UInt8:=if n<128 then [UInt8.ofNat n] else UInt8.ofNat (n%128+128)::vS (n/128)
termination_by n
decreasing_by omega
def Xq (n:Int):List UInt8:=if n<0 then [] else vS n.toNat
def zig (n:Int):Nat:=if n<0 then 2*(-(n+1)).toNat+1 else 2*n.toNat
def zag (u:Nat):Int:=if u%2=1 then-((u/2:Nat):Int)-1 else ((u/2:Nat):Int)
def U5 (n:Int):List UInt8:=vS (zig n)
def Ys (s:List UInt8):List UInt8:=Xq (J s)++s
def UG (l:List UInt8):Nat:=J ((l.take 10).takeWhile fun b=>decide (128<=b.toNat))
def Yv:List UInt8->Nat
 |[]=>0
 |b::r=>b.toNat%128+128*Yv r
def YM (b:List UInt8) (a:Int):Nat×Int×Int:=
 if a<0\/(J b:Int)<a then (0,0,1) else
  let l:=b.drop a.toNat
  let n:=UG l
  if n=10 then (0,0,4) else if J l<=n then (0,0,3) else
   if n=9/\1<((l[n]?).getD 0).toNat then (0,0,4) else (Yv (l.take (n+1)),a+n+1,0)
def X0B (b:List UInt8) (a:Int):Bool:=let l:=b.drop a.toNat;decide (0<UG l)&&decide ((l[UG l]?).getD 0=0)
def Xd (b:List UInt8) (a:Int):Int×Int×Int:=
 let r:=YM b a
 if r.2.2≠0 then (0,0,r.2.2) else if 9223372036854775807<r.1 then (0,0,4) else if X0B b a then (0,0,2) else ((r.1:Int),r.2.1,0)
def Y9 (b:List UInt8) (a:Int):Int×Int×Int:=
 let r:=YM b a
 if r.2.2≠0 then (0,0,r.2.2) else if X0B b a then (0,0,2) else (zag r.1,r.2.1,0)
def Uw (b:List UInt8) (a:Int):Nat×Int×Int:=
 let r:=YM b a
 if r.2.2≠0 then (0,0,r.2.2) else if X0B b a then (r.1,0,2) else r
def VZ (b:List UInt8) (a:Int) (most:Int):List UInt8×Int×Int:=
 let r:=Xd b a
 if r.2.2≠0 then ([],0,r.2.2) else if most<r.1 then ([],0,4) else if (J b:Int)-r.2.1<r.1 then ([],0,3) else
  ((b.drop r.2.1.toNat).take r.1.toNat,r.2.1+r.1,0)
def X3j (c:Nat):Nat:=if c%2=1 then (c/2)^^^3988292384 else c/2
def X40:Nat->Nat->Nat
 |0,c=>c
 |k+1,c=>X3j (X40 k c)
def XaI (c:Nat) (x:UInt8):Nat:=X40 8 (c^^^x.toNat)
def X5q (l:List UInt8):Nat:=l.foldl XaI 4294967295
def XP (l:List UInt8):Nat:=4294967295-X5q l
def X0J (l:List UInt8):List UInt8:=let c:=XP l;[UInt8.ofNat (c%256),UInt8.ofNat (c/256%256),UInt8.ofNat (c/65536%256),UInt8.ofNat (c/16777216)]
def Yx (b:List UInt8):List UInt8:=Xq (J b)++b++X0J b
def X3n (b:List UInt8) (k:Nat):Nat:=((b[k]?).getD 0).toNat+256*((b[k+1]?).getD 0).toNat+65536*((b[k+2]?).getD 0).toNat+16777216*((b[k+3]?).getD 0).toNat
def Y8 (b:List UInt8) (a:Int):List UInt8×Int×Int:=
 let r:=Xd b a
 if r.2.2≠0 then ([],0,r.2.2) else if (J b:Int)-r.2.1<4\/(J b:Int)-r.2.1-4<r.1 then ([],0,3) else
  let body:=(b.drop r.2.1.toNat).take r.1.toNat
  if X3n b (r.2.1+r.1).toNat≠XP body then ([],0,21) else (body,r.2.1+r.1+4,0)
def X1E (n d:Int):Bool:=decide (1<=d/\d<=1000000000000000/\ -1000000000000000<=n/\n<=1000000000000000)&&decide (Nat.gcd n.natAbs d.natAbs=1)
def X2s (s:List UInt8):Bool:=s.all fun b=>decide (32<=b.toNat/\b.toNat<=126)
mutual
def Xj:Nat->Val->Bool
 |m,.mk k n d s l=>
  (k==3||d==0)&&(k==4||decide (J s=0))&&(k==7||k==8||decide (J l=0))&&
  (if k=0 then decide (n=0) else if k=1 then decide (n=0\/n=1) else if k=2 then decide (-1000000000000000<=n/\n<=1000000000000000)
   else if k=3 then decide (2<=d)&&X1E n d else if k=4 then decide (n=0/\J s<=100)&&X2s s
   else if k=5\/k=6 then decide (1<=n/\n<=1000000) else if k=7 then decide (n=0/\J l%2=1/\J l<=25)&&X0G 0 l
   else if k=8 then decide (n=0/\J l<=64/\1<=m)&&X0V (m-1) l else false)
def X0V:Nat->List Val->Bool
 |m,[]=>true
 |m,v::r=>Xj m v&&X0V m r
def X0G:Nat->List Val->Bool
 |i,[]=>true
 |i,v::r=>decide (v.kind=5+(i%2:Nat))&&Xj 0 v&&X0G (i+1) r
end
mutual
def Yl:Val->List UInt8
 | .mk k n d s l=>UInt8.ofNat k.toNat::(if k=1\/k=2\/k=5\/k=6 then U5 n else if k=3 then U5 n++U5 d else if k=4 then Ys s
   else if k=7\/k=8 then Xq (J l)++U6 l else [])
def U6:List Val->List UInt8
 |[]=>[]
 |v::r=>Yl v++U6 r
end
def UP (v:Val):List UInt8:=if Xj 8 v then Yl v else []
structure Chg where
 op:Int
 id:Int
 src:Int
 dst:Int
 name:List UInt8
 v:Val
structure Rul where
 kind:Int
 n:Int
 name:List UInt8
 key:List UInt8
 src:List UInt8
 dst:List UInt8
structure Rcd where
 kind:Int
 ts:Int
 changes:List Chg
 rule:Rul
 off:Bool
def X0Q (c:UInt8):Bool:=decide ((97<=c.toNat/\c.toNat<=122)\/(65<=c.toNat/\c.toNat<=90))
def Uj (c:UInt8):Bool:=X0Q c||decide ((48<=c.toNat/\c.toNat<=57)\/c.toNat=95)
def Yc (s:List UInt8):Bool:=decide (1<=J s/\J s<=20)&&X0Q ((s[0]?).getD 0)&&s.all Uj
def Vf (v:Val):Bool:=Xj 8 v&&decide (v.kind=0)
def X8Q (b:Bool) (k:Int):Bool:=decide (k=1\/k=2\/k=4)&&b
def U9 (v:Val):Bool:=X8Q (Xj 8 v) v.kind
def idV (n:Int):Bool:=decide (1<=n/\n<=1000000)
def YO (op:Int):Bool:=decide (op=3\/op=4\/op=5\/op=6\/op=8)
def YL (op:Int):Bool:=decide (op=5\/op=8)
def YE (c:Chg):Int:=
 if decide (1<=c.op/\c.op<=8)=false\/idV c.id=false then 1
 else if (c.op=6/\(idV c.src=false\/idV c.dst=false))\/(c.op≠6/\(c.src≠0\/c.dst≠0)) then 1
 else if (YO c.op=false/\c.name≠[])\/(YL c.op=false/\Vf c.v=false) then 1
 else if YO c.op=true/\Yc c.name=false then 6
 else if YL c.op=true/\Vf c.v=false/\U9 c.v=false then 8 else 0
def XyN (r:Rul):Bool:=if r.kind=3\/r.kind=5 then decide (r.n=1\/r.n=2\/r.n=4) else if r.kind=7 then decide (0<=r.n/\r.n<=4000) else decide (r.n=0)
def X2w (k:Int):Bool:=decide (1<=k/\k<=5)
def Uu (r:Rul):Int:=
 if decide (1<=r.kind/\r.kind<=7)=false\/XyN r=false then 1
 else if (X2w r.kind=false/\r.key≠[])\/(r.kind≠6/\(r.src≠[]\/r.dst≠[])) then 1
 else if Yc r.name=false\/(X2w r.kind=true/\Yc r.key=false)\/(r.src≠[]/\Yc r.src=false)\/(r.dst≠[]/\Yc r.dst=false) then 6 else 0
def U3 (c:Chg):List UInt8:=
 UInt8.ofNat c.op.toNat::(Xq c.id++(if c.op=6 then Xq c.src++Xq c.dst else [])++(if YO c.op=true then Ys c.name else [])++(if YL c.op=true then UP c.v else []))
def cw (c:Chg):List UInt8:=if YE c=0 then U3 c else []
def VN (r:Rul):List UInt8:=UInt8.ofNat r.kind.toNat::(Ys r.name++Ys r.key++Ys r.src++Ys r.dst++U5 r.n)
def cu (r:Rul):List UInt8:=if Uu r=0 then VN r else []
abbrev zR:Rul:=⟨0,0,[],[],[],[]⟩
def X59 (r:Rul):Bool:=decide (r.kind=0/\r.n=0/\r.name=[]/\r.key=[]/\r.src=[]/\r.dst=[])
def X24:List Chg->Int
 |[]=>0
 |c::r=>if YE c≠0 then YE c else X24 r
def UO (r:Rcd):Int:=
 if ¬(1<=r.kind/\r.kind<=3/\0<=r.ts/\r.ts<=1000000000000000) then 1
 else if (r.kind≠1/\0<J r.changes)\/(r.kind≠2/\(r.off=true\/X59 r.rule=false)) then 1
 else if r.kind=2 then Uu r.rule else if X24 r.changes≠0 then X24 r.changes else if 1000<J r.changes then 4 else 0
def X0A (l:List Chg):List UInt8:=(l.map U3).flatten
def X1c (r:Rcd):List UInt8:=
 UInt8.ofNat r.kind.toNat::(Xq r.ts++(if r.kind=1 then Xq (J r.changes)++X0A r.changes else if r.kind=2 then VN r.rule++[if r.off then 1 else 0] else []))
def X0e (r:Rcd):List UInt8:=if UO r=0 then X1c r else []
structure Prp where
 key:List UInt8
 v:Val
structure Nod where
 id:Int
 labels:List (List UInt8)
 props:List Prp
structure Edg where
 id:Int
 src:Int
 dst:Int
 typ:List UInt8
 props:List Prp
structure Gra where
 nodes:List Nod
 aj:List Edg
 nn:Int
 ne:Int
def Xf (s:List UInt8):List D:=[.v (.string (X7 s))]
def Xb (p:Prp):List D:= .v (.string (X7 p.key))::UB p.v
def Xi (n:Nod):List D:=[.v (.int .i64 n.id),.sl 1 (n.labels.map Xf),.sl 6 (n.props.map Xb)]
def Xk (e:Edg):List D:=[.v (.int .i64 e.id),.v (.int .i64 e.src),.v (.int .i64 e.dst),.v (.string (X7 e.typ)),.sl 6 (e.props.map Xb)]
def XZ (g:Gra):AVal:= .agg [.d (.sl 3 (g.nodes.map Xi)),.d (.sl 5 (g.aj.map Xk)),ai g.nn,ai g.ne]
abbrev VS:Gra:=⟨[],[],0,0⟩
def X0f:List (List UInt8)->Bool
 |a::b::r=> !(Op.bytesLess b a||decide (b=a))&&X0f (b::r)
 |_=>true
def X1r (ls:List (List UInt8)) (ps:List Prp):Int:=
 if 8<J ls\/16<J ps then 4
 else if ls.all Yc=false\/(ps.map Prp.key).all Yc=false then 6
 else if X0f ls=false\/X0f (ps.map Prp.key)=false then 26
 else if (ps.map Prp.v).all U9=false then 8 else 0
def X2Z (nn:Int) (prev:Option Nod) (n:Nod):Int:=
 if (∃p,prev=some p/\n.id<=p.id) then 26 else if n.id<1\/nn<=n.id then 1 else X1r n.labels n.props
def X1a (nn:Int):Option Nod->List Nod->Int
 |_,[]=>0
 |p,n::r=>if X2Z nn p n≠0 then X2Z nn p n else X1a nn (some n) r
def Vd (l:List Nod) (n:Int):Bool:=l.any fun x=>decide (x.id=n)
def X3k (ns:List Nod) (ne:Int) (prev:Option Edg) (e:Edg):Int:=
 if (∃p,prev=some p/\e.id<=p.id) then 26 else if e.id<1\/ne<=e.id then 1
 else if Vd ns e.src=false\/Vd ns e.dst=false then 10 else if Yc e.typ=false then 6 else X1r [] e.props
def X2k (ns:List Nod) (ne:Int):Option Edg->List Edg->Int
 |_,[]=>0
 |p,n::r=>if X3k ns ne p n≠0 then X3k ns ne p n else X2k ns ne (some n) r
def X0w (g:Gra):Int:=
 if 2000<J g.nodes\/4000<J g.aj then 4
 else if g.nn<1\/1000001<g.nn\/g.ne<1\/1000001<g.ne then 1
 else if X1a g.nn none g.nodes≠0 then X1a g.nn none g.nodes else X2k g.nodes g.ne none g.aj
def Ve {α:Type} (l:List α) (i:Nat):Option α:=if i=0 then none else l[i-1]?
theorem X5T {α:Type}{l:List α}:Ve l (i+1)=l[i]? :=by simp[Ve]
def Xom {l:List Nod}{n:Nod} (h:l[i]? =some n):
  X1a nn (Ve l i) (l.drop i)=if X2Z nn (Ve l i) n≠0 then X2Z nn (Ve l i) n else X1a nn (Ve l (i+1)) (l.drop (i+1)):=by
 grind [drop_eq_getElem_cons,X1a,X5T]
def Xle {ns:List Nod}{ne:Int}{l:List Edg}{n:Edg} (h:l[i]? =some n):
  X2k ns ne (Ve l i) (l.drop i)=if X3k ns ne (Ve l i) n≠0 then X3k ns ne (Ve l i) n else X2k ns ne (Ve l (i+1)) (l.drop (i+1)):=by
 grind [drop_eq_getElem_cons,X2k,X5T]
def X7D (l:List Nod):Prop:=∀(i j:Nat) (a b:Nod),l[i]? =some a->l[j]? =some b->i<j->a.id<b.id
def XnF:∀(l:List Nod) (p:Option Nod),X1a nn p l=0->(∀a b,p=some a->b∈l->a.id<b.id)/\X7D l
 |[],p,_=>⟨Oc,by grind [X7D]⟩
 |x::r,p,h=>by
  rw[X1a] at h;have h0:X2Z nn p x=0:=by
   omega
  rw[h0,NI Oc] at h;obtain⟨h1,h2⟩:=XnF r (some x) h;have hp:∀a,p=some a->a.id<x.id:=by
   intro a ha;unfold X2Z at h0;by_cases q:∃p',p=some p'/\x.id<=p'.id<;>simp_all
  refine⟨fun a b ha hb=> ?_,fun i j a b hi hj hij=> ?_⟩
  ·grind
  ·cases j with
   |zero=>omega
   |succ j=>
    cases i<;>grind [X7D]
def XfD (l:List Nod) (n:Int):Nat:=J (l.takeWhile fun x=>decide (x.id<n))
def Xbg {α:Type}{p:α->Bool}:∀{l:List α}{i:Nat},i<=J l->(∀k x,k<i->l[k]? =some x->p x=true)->(∀x,l[i]? =some x->p x=false)->J (l.takeWhile p)=i
 |[],i,h,_,_=>by simp at h;simp[h]
 |x::r,0,_,_,h=>by simp_all
 |x::r,i+1,h,h1,h2=>by
  rw[takeWhile_cons_of_pos (h1 0 x Oa Oc),LC,Xbg (i:=i) O2 (fun k y hk hy=>h1 (k+1) y Oa (by simpa using hy)) (fun y hy=>h2 y (by simpa using hy))]
def Xux {l:List Nod} (h:i<=J l) (h1:∀k x,k<i->l[k]? =some x->x.id<n) (h2:∀x,l[i]? =some x->¬x.id<n):XfD l n=i:=
 Xbg h (fun k x hk hx=>II) (fun x hx=>by simpa using h2 x hx)
def Xxi {l:List Nod} (hr:X7D l) (h1:∀k x,k<i->l[k]? =some x->x.id<n) (h2:∀k x,i<=k->l[k]? =some x->n<=x.id):Vd l n=decide (∃x,l[i]? =some x/\x.id=n):=by
 rw[Bool.eq_iff_iff];simp only[Vd,any_eq_true,decide_eq_true_eq]
 grind [getElem?_of_mem,X7D]
def Ul (s t:List UInt8):Int:=if Op.bytesLess s t=true then-1 else if s=t then 0 else 1
def V3 (a b:Rul):Int:=
 if a.kind<b.kind then-1 else if b.kind<a.kind then 1 else if Ul a.name b.name≠0 then Ul a.name b.name else if Ul a.key b.key≠0 then Ul a.key b.key
 else if a.n<b.n then-1 else if b.n<a.n then 1 else if Ul a.src b.src≠0 then Ul a.src b.src else Ul a.dst b.dst
def X2V:Option Rul->List Rul->Bool
 |_,[]=>true
 |p,r::l=>decide (Uu r=0/\∀q,p=some q->V3 q r<0)&&X2V (some r) l
def X1F (l:List Rul):Bool:=X2V none l&&decide (J l<=40)
def Xcc {α:Type}{p:α->Bool}:∀(l:List α) (i:Nat),(∀j,j<i->∃b,l[j]? =some b/\p b=true)->(∀b,l[i]? =some b->p b=false)->J (l.takeWhile p)=i
 |[],0,_,_=>rfl
 |[],i+1,h,_=>by obtain⟨b,hb,_⟩:=h 0 Oa;simp at hb
 |x::l,0,_,h=>by have:=h x Oc;simp[takeWhile,this]
 |x::l,i+1,h,k=>by
  obtain⟨b,hb,hp⟩:=h 0 Oa;simp at hb;subst hb;simp only[takeWhile,hp,LC];rw[Xcc l i (fun j hj=>by simpa using h (j+1) Oa) (fun b hb=>k b (by simpa using hb))]
def big (l:List UInt8) (i:Nat):Prop:=∀j,j<i->∃b,l[j]? =some b/\128<=b.toNat
def Xbv {l:List UInt8} (h:big l i) (hc:l[i]? =some c) (hlt:c.toNat<128) (hi:i<10):UG l=i:=by
 refine Xcc _ _ (fun j hj=> ?_) (fun b hb=> ?_)
 ·obtain⟨b,h1,h2⟩:=h j hj;exact⟨b,by rw[getElem?_take_of_lt Oa];exact h1,OK⟩
 ·rw[getElem?_take_of_lt hi,hc] at hb;cases hb;simpa using hlt
def XcQ {l:List UInt8} (h:big l i) (hi:i=min 10 (J l)):UG l=i:=by
 refine Xcc _ _ (fun j hj=> ?_) (fun b hb=> ?_)
 ·obtain⟨b,h1,h2⟩:=h j hj;exact⟨b,by rw[getElem?_take_of_lt Oa];exact h1,OK⟩
 ·exfalso;have:=(GS.1 hb).1;simp at this;omega
def Xhe {l:List UInt8} (h:big l i) (hc:l[i]? =some c) (h128:128<=c.toNat):big l (i+1):=fun j hj=>by
 by_cases e:j=i
 ·subst e;exact⟨c,hc,h128⟩
 ·exact h j Oa
def X74:∀(l:List UInt8) (i:Nat) (c:UInt8),l[i]? =some c->Yv (l.take (i+1))=Yv (l.take i)+2^(7*i)*(c.toNat%128)
 |[],_,_,h=>OQ
 |x::l,0,c,h=>by simp at h;subst h;simp[Yv]
 |x::l,i+1,c,h=>by
  have:=X74 l i c O2;simp only[take_succ_cons,Yv,this];rw[Nat.mul_add,<-Nat.mul_assoc,show 7*(i+1)=7+7*i by omega,Nat.pow_add,show(2:Nat)^7=128 from rfl];omega
def XnH:∀(l:List UInt8),Yv l<2^(7*J l)
 |[]=>by simp[Yv]
 |x::l=>by
  have:=XnH l;have hx:=Nat.mod_lt x.toNat (show 0<128 by omega);simp only[Yv,LC];rw[show 7*(J l+1)=7+7*J l by omega,Nat.pow_add];omega
def X9s (l:List UInt8) (i:Nat):Yv (l.take i)<2^(7*i):=
 Nat.lt_of_lt_of_le (XnH _) (Nat.pow_le_pow_right Oa Ou)
def Uq (l:List UInt8):Nat->Nat
 |0=>0
 |i+1=>Uq l i|||(((l[i]?).getD 0).toNat%128)*2^(7*i)%18446744073709551616
def X9I (l:List UInt8):∀i,Uq l i<18446744073709551616
 |0=>by simp[Uq]
 |i+1=>by
  have:=X9I l i;exact Nat.or_lt_two_pow (n:=64) this (Nat.mod_lt _ Oa)
def Xgn {a b:Nat} (h:a<2^i):a|||b*2^i=a+2^i*b:=by
 rw[Nat.or_comm,Nat.mul_comm b,<-Nat.two_pow_add_eq_or_of_lt h,Nat.add_comm]
def X9R (l:List UInt8):∀i,i<=9->i<=J l->Uq l i=Yv (l.take i)
 |0,_,_=>by simp[Uq,Yv]
 |i+1,h,hl=>by
  obtain⟨c,hc⟩:=Xn (l:=l) (k:=i) Oa;have h1:=X9R l i Oa Oa;have h2:=X9s l i;have h3:=Nat.mod_lt c.toNat (show 0<128 by omega);have h4:c.toNat%128*2^(7*i)<2^(7+7*i):=by rw[Nat.pow_add];exact Nat.mul_lt_mul_of_pos_right h3 (Nat.pow_pos Oa)
  have h5:2^(7+7*i)<=2^64:=Nat.pow_le_pow_right Oa Oa;simp only[Uq,hc,Option.getD_some];rw[Nat.mod_eq_of_lt (Nat.lt_of_lt_of_le h4 h5),h1,Xgn h2,X74 l i c hc]
def Xia (l:List UInt8) {c:UInt8} (hc:l[9]? =some c) (h:c.toNat<=1):Uq l 10=Yv (l.take 10):=by
 have hl:=(GS.1 hc).1;have h1:=X9R l 9 Oa Oa;have h2:=X9s l 9;simp only[Uq,hc,Option.getD_some] at h1 |-;rw[X74 l 9 c hc,Nat.mod_eq_of_lt (a:=c.toNat%128*2^(7*9)) (by
  have:c.toNat%128<=1:=Oa
  have:c.toNat%128*2^(7*9)<=1*2^(7*9):=Nat.mul_le_mul_right _ this;omega)]
 have:=X9R l 9 Oa Oa;simp only[Uq] at this;rw[this];exact Xgn h2
def X2x:List UInt8->Prop
 |[]=>False
 |[c]=>c.toNat<128
 |b::c::m=>128<=b.toNat/\X2x (c::m)/\c::m≠[0]
def Xfc:∀{m:List UInt8},X2x m->m≠[0]->0<Yv m
 |[c],h,hn=>by
  simp only[X2x] at h;have:c.toNat≠0:=fun e=>hn (by rw[show c=0 from UInt8.toNat_inj.1 e])
  grind [Yv]
 |b::c::m,h,_=>by
  have:=Xfc h.2.1 h.2.2
  grind [Yv]
theorem X1R {n:Nat} (h:n<256):(UInt8.ofNat n).toNat=n:=Ou
theorem Xfo (u:Nat):X2x (vS u)/\Yv (vS u)=u/\(vS u=[0]->u=0):=by
 induction u using Nat.strongRecOn with
 |_ u ih=>
  rw[vS];by_cases h:u<128
  ·grind [X2x,Yv,X1R]
  grind [vS,X1R,Yv,X2x]
def XiL:∀{m:List UInt8},X2x m->vS (Yv m)=m
 |[c],h=>by
  simp only[X2x] at h;have e:Yv [c]=c.toNat:=by grind [Yv]
  simp_all [vS]
 |b::c::m,h=>by
  have h1:=XiL h.2.1;have h2:=Xfc h.2.1 h.2.2;have hb:=b.toNat_lt;have e:Yv (b::c::m)=b.toNat%128+128*Yv (c::m):=rfl;rw[e,vS,NI Oa,show(b.toNat%128+128*Yv (c::m))/128=Yv (c::m) by omega,h1];rw[show (b.toNat%128+128*Yv (c::m))%128+128=b.toNat by have:=h.1;omega];simp
def XeL:∀{m:List UInt8},X2x m->big m (J m-1)/\∃c,m[J m-1]? =some c/\c.toNat<128/\(1<J m->c≠0)
 |[c],h=>⟨fun j hj=>by simp at hj,c,rfl,h,fun h=>OQ⟩
 |b::c::m,h=>by
  obtain⟨h1,x,h2,h3,h4⟩:=XeL h.2.1;refine⟨fun j hj=> ?_,x,OK,h3,fun _ e=> ?_⟩
  ·cases j<;>simp_all [X2x,big]
  grind [X2x]
def XeI:∀{m:List UInt8} (k:Nat),X2x m->Yv m<2^(7*k)->0<k->J m<=k
 |[c],k,_,_,hk=>hk
 |b::c::m,k,h,hn,hk=>by
  have h2:=Xfc h.2.1 h.2.2;cases k with
  |zero=>omega
  |succ k=>
   by_cases bT:k=0
   ·grind [Yv]
   ·have:=XeI k h.2.1 (by
     grind [Yv]) Oa
    grind
def XrD (h:X2x m) (hl:J m=10) (hn:Yv m<18446744073709551616) (hc:m[9]? =some c):c.toNat<=1:=by
 obtain⟨_,x,hx,h128,_⟩:=XeL h;rw[hl,hc] at hx;cases hx;have:=X74 m 9 c hc
 grind
theorem XkA {back:List UInt8} (h:X2x m) (hn:Yv m<18446744073709551616) (front:List UInt8):
  YM (front++m++back) (J front)=(Yv m,(J front:Int)+J m,0)/\X0B (front++m++back) (J front)=false:=by
 obtain⟨hb,c,hc,h128,h0⟩:=XeL h;have hlen:=XeI 10 h (Nat.lt_of_lt_of_le hn Oi) Oa;have hpos:0<J m:=by cases m with|nil=>exact h.elim|cons _ _=>simp
 have hd:(front++m++back).drop (J front:Int).toNat=m++back:=by rw[Int.toNat_natCast,AS,drop_left]
 have kq:(m++back)[J m-1]? =some c:=by rw[getElem?_append_left Oa];exact hc
 have hm:UG (m++back)=J m-1:=Xbv (fun j hj=>by
  obtain⟨b,h1,h2⟩:=hb j hj;exact⟨b,by rw[getElem?_append_left Oa];exact h1,h2⟩) kq h128 Oa
 constructor
 ·unfold YM;rw[NI Ou];simp only[hd,hm];rw[NI Oa,NI Ou,NI (by
   rintro⟨e,h1⟩;rw[kq] at h1;have:=XrD h Oa hn (c:=c) (by rw[<-e];exact hc);simp at h1;omega)]
  rw[show J m-1+1=J m by omega,take_left];refine Prod.ext rfl (Prod.ext ?_ rfl);simp only;omega
 ·unfold X0B;simp only[hd,hm,kq,Option.getD_some];by_cases h1:J m=1
  ·simp[h1]
  ·have:=h0 Oa;simp[this]
def XdV (h:YM b a=(u,e,0)) (hp:X0B b a=false):
  0<=a/\a<e/\e<=J b/\(b.drop a.toNat).take (e-a).toNat=vS u/\u<18446744073709551616:=by
 unfold YM at h;split at h
 ·simp at h
 rename_i ha;simp only at h;split at h
 ·simp at h
 rename_i h10;split at h
 ·simp at h
 rename_i hle;split at h
 ·simp at h
 rename_i h9;simp only[Prod.mk.injEq] at h;obtain⟨rfl,rfl,_⟩:=h;generalize hl:b.drop a.toNat=l at*;have cR:big l (UG l)/\(∀c,l[UG l]? =some c->c.toNat<128)/\UG l<10:=by
  have hw:∀(q:List UInt8),big q (J (q.takeWhile fun b=>decide (128<=b.toNat)))/\∀c,q[J (q.takeWhile fun b=>decide (128<=b.toNat))]? =some c->c.toNat<128:=by
   intro q;induction q with
   |nil=>exact⟨fun j hj=>by simp at hj,fun c hc=>by simp at hc⟩
   |cons x q ih=>
    by_cases hx:128<=x.toNat
    ·simp only[takeWhile,hx,decide_true,LC];refine⟨fun j hj=> ?_,fun c hc=>ih.2 c I5⟩;cases j with
     |zero=>exact⟨x,rfl,hx⟩
     |succ j=>simpa using ih.1 j Oa
    ·simp only[takeWhile,hx,decide_false,length_nil];exact⟨fun j hj=>Oa,fun c hc=>by simp at hc;subst hc;omega⟩
  have h1:=hw (l.take 10);have fM:UG l<=J (l.take 10):=by unfold UG;exact(takeWhile_sublist _).length_le
  have hlt:UG l<10:=by simp at fM;omega
  refine⟨fun j hj=> ?_,fun c hc=>h1.2 c (by unfold UG at hc hlt;rw[getElem?_take_of_lt hlt];exact hc),hlt⟩;obtain⟨x,h2,h3⟩:=h1.1 j hj;rw[getElem?_take_of_lt Oa] at h2;exact⟨x,h2,h3⟩
 obtain⟨gj,ej,jv⟩:=cR;have bz:J l=J b-a.toNat:=by rw[<-hl,LD]
 obtain⟨c,hc⟩:=Xn (l:=l) (k:=UG l) Oa;have pH:=ej c hc;have hcan:∀(k:Nat) (q:List UInt8) (c:UInt8),big q k->q[k]? =some c->c.toNat<128->(0<k->c≠0)->X2x (q.take (k+1)):=by
  intro k;induction k with
  |zero=>
   intro q c _ hq hc _;cases q with
   |nil=>simp at hq
   |cons x q=>simp at hq;subst hq;simpa [X2x] using hc
  |succ k ih=>
   intro q c hb hq hc h0;cases q with
   |nil=>simp at hq
   |cons x q=>
    obtain⟨y,hy,fN⟩:=hb 0 Oa;simp at hy;subst hy;have h1:=ih q c (fun j hj=>by simpa using hb (j+1) Oa) (by simpa using hq) hc (fun _=>h0 Oa);rw[take_succ_cons];cases q with
    |nil=>simp at hq
    |cons z q=>
     refine⟨fN,h1,fun e=> ?_⟩;have e1:z=0:=by simpa using (cons.inj e).1
     have e2:(q.take k)=[]:=(cons.inj e).2;cases k with
     |zero=>
      simp at hq;subst hq;exact h0 Oa e1
     |succ k=>
      have hlt:=(GS.1 hq).1;have:=CG length e2;rw[LT,length_nil] at this;simp only[LC] at hlt;omega
 have cB:0<UG l->c≠0:=by
  intro h0 e;unfold X0B at hp;simp only[hl,hc,Option.getD_some] at hp;simp[h0,e] at hp
 have ku:=hcan _ _ _ gj hc pH cB;have gJ:¬(a<0)/\¬((J b:Int)<a):=by simpa using ha
 refine⟨Oa,Oa,Oa,?_,?_⟩
 ·rw[show (a+(UG l:Int)+1-a).toNat=UG l+1 by omega,XiL ku]
 ·have h1:=X9s l (UG l);rw[X74 l _ c hc];by_cases nF:UG l=9
  ·have:c.toNat<=1:=by
    have h2:=h9;rw[hc] at h2;simp only[nF,true_and,Option.getD_some] at h2;omega
   rw[nF] at h1 |-;have e9:(2:Nat)^(7*9)=9223372036854775808:=rfl;rw[e9] at h1 |-;omega
  ·have h2:(2:Nat)^(7*UG l)<=2^56:=Nat.pow_le_pow_right Oa Oa;have pI:(2:Nat)^56=72057594037927936:=rfl;rw[pI] at h2;have h3:=Nat.mod_lt c.toNat (show 0<128 by omega);have h4:2^(7*UG l)*(c.toNat%128)<=72057594037927936*127:=Nat.mul_le_mul h2 Oa;omega
def Xvn {c:Nat} (h:c<4294967296):X3j c<4294967296:=by
 unfold X3j;split
 ·exact Nat.xor_lt_two_pow (n:=32) Oa Oi
 ·omega
def Xb9 {c:Nat} (h:c<4294967296):∀k,X40 k c<4294967296
 |0=>h
 |k+1=>Xvn (Xb9 h k)
def XfX {c:Nat} (h:c<4294967296) (x:UInt8):c^^^x.toNat<4294967296:=
 Nat.xor_lt_two_pow (n:=32) h (by have:=x.toNat_lt;omega)
def XvB {c:Nat} (h:c<4294967296) (x:UInt8):XaI c x<4294967296:=Xb9 (XfX h x) 8
def XlU:∀(l:List UInt8) {c:Nat},c<4294967296->l.foldl XaI c<4294967296
 |[],c,h=>h
 |x::l,c,h=>XlU l (XvB h x)
def X5C (l:List UInt8):XP l<4294967296:=by unfold XP;omega
theorem X4m (l:List UInt8):J (X0J l)=4:=rfl
def Xlp {p q:List UInt8} (l:List UInt8):X3n (p++X0J l++q) (J p)=XP l:=by
 have hs:=X5C l;have g:∀i,i<4->(p++X0J l++q)[J p+i]? =(X0J l)[i]? :=fun i hi=>by
  rw[AS,getElem?_append_right Oa,getElem?_append_left (by rw[X4m];omega)];congr 1;omega
 unfold X3n;rw[show J p=J p+0 from rfl,g 0 Oa,show J p+0+1=J p+1 from rfl,g 1 Oa,show J p+0+2=J p+2 from rfl,g 2 Oa,show J p+0+3=J p+3 from rfl,g 3 Oa];simp only[X0J,getElem?_cons_zero,getElem?_cons_succ,Option.getD_some,UInt8.toNat_ofNat'];omega
theorem X2z (h:0<=n):Xq n=vS n.toNat:=by grind [Xq]
def X84 (h:0<=n/\n<=9223372036854775807) (front back:List UInt8):
  Xd (front++Xq n++back) (J front)=(n,(J front:Int)+J (Xq n),0):=by
 grind [Xfo,X2z,XkA,Xd]
theorem XuJ:zag (zig n)=n:=by
 grind [zig,zag]
theorem XxU:zig (zag u)=u:=by
 grind [zig,zag]
theorem Xi1 (h: -9223372036854775808<=n/\n<=9223372036854775807):zig n<18446744073709551616:=by
 grind [zig]
def Xbb (h: -9223372036854775808<=n/\n<=9223372036854775807) (front back:List UInt8):
  Y9 (front++U5 n++back) (J front)=(n,(J front:Int)+J (U5 n),0):=by
 grind [Xfo,XkA,Xi1,Y9,U5,XuJ]
def XmC (hs:(J s:Int)<=9223372036854775807) (hm:(J s:Int)<=most) (front back:List UInt8):
  VZ (front++Ys s++back) (J front) most=(s,(J front:Int)+J (Ys s),0):=by
 have h1:=X84 (n:=J s) ⟨Oa,hs⟩ front (s++back);have e:front++Ys s++back=front++Xq (J s)++(s++back):=by simp[Ys]
 unfold VZ;rw[e,h1];simp only[ne_eq,not_true_eq_false,if_false];rw[NI Oa,NI II];have e2:((J front:Int)+(J (Xq (J s:Int)):Int)).toNat=J (front++Xq (J s)):=II
 refine Prod.ext ?_ (Prod.ext ?_ rfl)<;>grind [take_left]
def X8N (hs:(J s:Int)<=9223372036854775807) (front back:List UInt8):
  Y8 (front++Yx s++back) (J front)=(s,(J front:Int)+J (Yx s),0):=by
 have h1:=X84 (n:=J s) ⟨Oa,hs⟩ front (s++X0J s++back);have e:front++Yx s++back=front++Xq (J s)++(s++X0J s++back):=by simp[Yx]
 have h4:=X4m s;unfold Y8;rw[e,h1];simp only[ne_eq,not_true_eq_false,if_false];rw[NI (by simp only[LA];omega)];have e2:((J front:Int)+(J (Xq (J s:Int)):Int)).toNat=J (front++Xq (J s)):=by simp only[LA];omega
 have e3:((J front:Int)+(J (Xq (J s:Int)):Int)+(J s:Int)).toNat=J (front++Xq (J s)++s):=by simp only[LA];omega
 have e4:(drop (J (front++Xq (J s:Int))) (front++Xq (J s:Int)++(s++X0J s++back))).take (J s)=s:=by rw[drop_left,AS,take_left]
 have e5:X3n (front++Xq (J s:Int)++(s++X0J s++back)) (J (front++Xq (J s)++s))=XP s:=by
  have:=Xlp (p:=front++Xq (J s)++s) (q:=back) s
  rwa [show front++Xq (J s:Int)++s++X0J s++back=front++Xq (J s:Int)++(s++X0J s++back) by simp] at this
 rw[e2,e3,Int.toNat_natCast,e4,e5];simp only[not_true_eq_false,if_false];refine Prod.ext rfl (Prod.ext ?_ rfl);simp only[Yx,LA,h4];omega
def only(b:List UInt8) (a e:Int) (want:List UInt8):Prop:=0<=a/\a<=e/\e<=J b/\(b.drop a.toNat).take (e-a).toNat=want
def X43 (h:Xd b a=(n,e,0)):only b a e (Xq n)/\0<=n/\n<=9223372036854775807/\a<e:=by
 unfold Xd at h;simp only at h;split at h
 ·rename_i h0;exact absurd (CG (fun r=>r.2.2) h) h0
 rename_i h0;split at h
 ·exact Qa
 rename_i h1;split at h
 ·exact Qa
 rename_i h2;have h0:(YM b a).2.2=0:=Jm
 simp only[Prod.mk.injEq] at h;obtain⟨rfl,rfl,_⟩:=h;obtain⟨k1,k2,k3,k4,k5⟩:=XdV (b:=b) (a:=a) (e:=(YM b a).2.1) (u:=(YM b a).1) (by rw[<-h0]) OK;exact⟨⟨k1,Oa,k3,by rw[X2z Oa,Int.toNat_natCast];exact k4⟩,Oa,Oa,k2⟩
def Xdn (h:Y9 b a=(n,e,0)):only b a e (U5 n)/\a<e/\ -9223372036854775808<=n/\n<=9223372036854775807:=by
 unfold Y9 at h;simp only at h;split at h
 ·rename_i h0;exact absurd (CG (fun r=>r.2.2) h) h0
 rename_i h0;split at h
 ·exact Qa
 rename_i h2;have h0:(YM b a).2.2=0:=Jm
 simp only[Prod.mk.injEq] at h;obtain⟨rfl,rfl,_⟩:=h;obtain⟨k1,k2,k3,k4,k5⟩:=XdV (b:=b) (a:=a) (e:=(YM b a).2.1) (u:=(YM b a).1) (by rw[<-h0]) OK;refine⟨⟨k1,Oa,k3,by unfold U5;rw[XxU];exact k4⟩,k2,?_,?_⟩<;>unfold zag<;>split<;>omega
def X7Q (h:VZ b a most=(s,e,0)):only b a e (Ys s)/\(J s:Int)<=most/\a<e:=by
 unfold VZ at h;simp only at h;split at h
 ·rename_i h0;exact absurd (CG (fun r=>r.2.2) h) h0
 rename_i h0;split at h
 ·exact Qa
 rename_i h1;split at h
 ·exact Qa
 rename_i h2;have h0:(Xd b a).2.2=0:=Jm
 obtain⟨⟨k1,k2,k3,k4⟩,k5,k6,k7⟩:=X43 (b:=b) (a:=a) (n:=(Xd b a).1) (e:=(Xd b a).2.1) (by rw[<-h0]);generalize (Xd b a).1=n at*;generalize (Xd b a).2.1=f at*;simp only[Prod.mk.injEq] at h;obtain⟨rfl,rfl,_⟩:=h;have hl:J ((b.drop f.toNat).take n.toNat)=n.toNat:=Ou
 refine⟨⟨k1,Oa,Oa,?_⟩,Oa,Oa⟩;rw[show (f+n-a).toNat=(f-a).toNat+n.toNat by omega,take_add,k4,drop_drop,show a.toNat+(f-a).toNat=f.toNat by omega];unfold Ys;rw[hl,show((n.toNat:Nat):Int)=n by omega]
def Xk7 {n:Nat} (h:n<128):vS n=[UInt8.ofNat n]:=by rw[vS,PI h]
abbrev zV:Val:= .mk 0 0 0 [] []
def Yn (g:Nat->Int->Val×Int×Int) (a:Int):Nat->List Val×Int×Int
 |0=>([],a,0)
 |k+1=>let p:=Yn g a k
  if p.2.2≠0 then p else let r:=g k p.2.1;(p.1++[r.1],r.2.1,r.2.2)
def X0P (k n:Int):Bool:=if k=8 then decide (64<n) else decide (25<n)||decide (n%2=0)
def Ut (gl gp:Nat->Int->Val×Int×Int) (b:List UInt8) (a k:Int):Val×Int×Int:=
 if k=1\/k=2\/k=5\/k=6 then let r:=Y9 b a;(.mk k r.1 0 [] [],r.2.1,r.2.2)
 else if k=3 then let r:=Y9 b a
  if r.2.2≠0 then (.mk 3 0 0 [] [],r.2.1,r.2.2) else let q:=Y9 b r.2.1;(.mk 3 r.1 q.1 [] [],q.2.1,q.2.2)
 else if k=4 then let r:=VZ b a 100;(.mk 4 0 0 r.1 [],r.2.1,r.2.2)
 else if k=7\/k=8 then let c:=Xd b a
  if c.2.2≠0 then (.mk k 0 0 [] [],c.2.1,c.2.2) else if X0P k c.1 then (.mk k 0 0 [] [],c.2.1,2) else
   let p:=Yn (if k=8 then gl else gp) c.2.1 c.1.toNat;(.mk k 0 0 [] p.1,p.2.1,p.2.2)
 else (.mk k 0 0 [] [],a,0)
def X0K (gl gp:Nat->Int->Val×Int×Int) (m:Nat) (b:List UInt8) (a want:Int):Val×Int×Int:=
 if a=J b then (zV,a,3) else
  let k:Int:=((b[a.toNat]?).getD 0).toNat
  if 8<k\/(k=8/\m=0)\/(want≠0/\k≠want) then (zV,a,2) else
   let c:=Ut gl gp b (a+1) k
   if c.2.2=0/\Xj 8 c.1=false then (c.1,c.2.1,2) else c
def noG (_:Nat) (a:Int):Val×Int×Int:=(zV,a,2)
def X8l (b:List UInt8) (a want:Int):Val×Int×Int:=X0K noG noG 0 b a want
def X1d (b:List UInt8) (i:Nat) (a:Int):Val×Int×Int:=X8l b a (5+(i%2:Nat))
def X25 (b:List UInt8):Nat->Int->Val×Int×Int
 |0,a=>X0K noG (X1d b) 0 b a 0
 |m+1,a=>X0K (fun _ e=>X25 b m e) (X1d b) (m+1) b a 0
def X3L (b:List UInt8):Nat->Nat->Int->Val×Int×Int
 |0=>noG
 |m+1=>fun _ e=>X25 b m e
theorem X5a (b:List UInt8) (m:Nat) (a:Int):X25 b m a=X0K (X3L b m) (X1d b) m b a 0:=by
 cases m<;>rfl
def X03 (b:List UInt8) (a:Int):Val×Int×Int:=
 if a<0\/(J b:Int)<a then (zV,0,1) else let r:=X25 b 8 a;if r.2.2≠0 then (zV,0,r.2.2) else r
def Xhh:∀(v:Val) (m m':Nat),m<=m'->Xj m v=true->Xj m' v=true:=by
 intro v;induction v using Val.rec (motive_2:=fun l=> ∀(m m':Nat),m<=m'->X0V m l=true->X0V m' l=true) with
 |mk k n d s l ih=>
  intro m m' hm h;rw[Xj] at h |-;by_cases hk:k=8
  ·subst hk;simp at h |-;refine⟨h.1,⟨h.2.1.1,h.2.1.2.1,Oa⟩,ih _ _ Oa h.2.2⟩
  ·simp only[hk,if_false] at h |-;exact h
 |nil=>rfl
 |cons v r ih1 ih2=>
  rename_i hm h;rw[X0V] at h |-;simp at h |-;exact⟨ih1 _ _ hm h.1,ih2 _ _ hm h.2⟩
open Go Go.Proofs Tryz
open List renaming length->J
set_option maxRecDepth 100000
abbrev X52 (n:Nat):AVal:= .d (.v (.int .u64 n))
abbrev n8 (n:Nat):Value:= .int .u8 n
abbrev n32 (n:Nat):Value:= .int .u32 n
abbrev n64 (n:Nat):Value:= .int .u64 n
abbrev ni (n:Nat):Value:= .int .i64 n
def Ui {src dst:TypeId}{k:IntKind}{a:Nat} (hs:(prog.underlying src).isSome=true) (hd:X8J prog dst .u8=true) (w:World):(convert src dst (.int k (a:Int))).run prog w= .ok (n8 (a%256)) w:=
 XvP hs hd rfl w
def XwF:∀m,m<256->m|||128=m%128+128:=OD
def X2n {n:Nat} (h:n<18446744073709551616):J (vS n)<=10:=by
 obtain⟨h1,h2,_⟩:=Xfo n;exact XeI 10 h1 (by rw[h2];exact Nat.lt_of_lt_of_le h Oi) Oa
def Xkv {n:Nat} (h:128<=n):vS n=UInt8.ofNat (n%128+128)::vS (n/128):=by rw[vS,NI Oa]
def Xh2 (n:Nat) (hn:n<18446744073709551616):Con prog 207 [] [aq,X52 n] [(130,.row 1 ((vS n).map X6))] (.own 130 (J (vS n))):=by
 refine ZC1 func207 ntmps207 fun E=> ?_;refine W6_ ?_;refine X8 (Uo 0 130 1 rfl rfl rfl) ?_
 refine Xl (ι:=List UInt8×Nat) (fun i=>i.1++vS i.2=vS n/\i.2<=n) (fun i=>⟨20,[(1,X52 i.2),(0,.own 130 (J i.1))],[(130,.row 1 (i.1.map X6))]⟩) (fun i=>i.2) ([],n) ⟨rfl,Nat.le_refl _⟩
  (X9 rfl ⟨JL,JL,TV⟩ ⟨rfl,TV⟩) ?_
 rintro⟨pre,m⟩ ⟨hpre,hm⟩;simp only at hpre hm;have hlen:J pre<=10:=by
  have h1:=CG length hpre;have h2:=X2n hn;simp only[LA] at h1;omega
 by_cases h:128<=m
 ·have hv:=Xkv h;have e1:n8 (m%256|||128)=n8 (UInt8.ofNat (m%128+128)).toNat:=by rw[XwF _ Oa,X1R Oa];congr 2;omega
  have e2:n64 (m/2^7)=n64 (m/128):=rfl;refine XK ?_;refine Z1 (u:=n64 m) (r:=n8 (m%256)) ?_ (hr:=OM);(refine Z3 (op:= .or) (r':=_) (u:=n8 (m%256)) (v:=n8 128) ?_ (hr':=by exact e1) (hr:=by exact X2h (by rw[VE];omega) (by rw[VE];omega)));refine W6_ ?_;refine Z3 (op:= .shr) (r':=_) (u:=n64 m) (v:=n64 7) ?_ (hr':=by exact e2) (hr:=Iz);refine W2_ ?_;refine⟨(pre++[UInt8.ofNat (m%128+128)],m/128),⟨by simp only;rw[<-hpre,hv];simp,Od⟩,Od,X9 rfl ⟨JL,Ig,TV⟩ ⟨?_,TV⟩⟩;refine Eq.trans (b:=AObj.row 1 (_++[[.v (n8 _)]])) rfl ?_;simp
 ·have hv:vS m=[UInt8.ofNat m]:=Xk7 Oa;have e3:n8 (m%256)=n8 (UInt8.ofNat m).toNat:=by rw[X1R Oa];congr 2;omega
  refine XG ?_;(refine Z1 (u:=n64 m) (r:=n8 (UInt8.ofNat m).toNat) ?_ (hr:=by exact by rw[<-e3];exact Ui rfl rfl));refine W4_ ?_;refine X3 ⟨_,Xe 4 (y:= .own 130 (J (vS n))) (ZzQ ?_),⟨rfl,TV⟩,Xm ⟨?_,TV⟩⟩
  ·refine Qb ?_;rw[<-hpre,hv];simp
  ·refine Eq.trans (b:=AObj.row 1 (_++[[.v (n8 _)]])) rfl ?_;rw[<-hpre,hv];simp
abbrev nj (n:Nat):Value:= .int .i64 n
def inV (n:Int):Bool:=decide (-1000000000000000<=n/\n<=1000000000000000)
def Xa9 (n:Int):Con prog 319 [] [ai n] [] (ab (inV n)):=by
 refine ZC1 func319 ntmps319 fun E=> ?_;by_cases h1: -1000000000000000<=n
 ·by_cases h2:n<=1000000000000000
  ·rw[show inV n=true by simp[inV,h1,h2]];refine XD ?_;exact Qc
  ·rw[show inV n=false by simp[inV,h2]];refine XD ?_;exact Qd
 ·rw[show inV n=false by simp[inV,h1]];refine XD ?_;exact X3 ⟨_,Xe 2 (y:=ab false) (ZzV),⟨rfl,TV⟩,X5 _⟩
def Xzr (n:Int):Con prog 315 [] [ai n] [] (ab (inV n)):=by
 refine ZC1 func315 ntmps315 fun E=> ?_;by_cases h1: -1000000000000000<=n
 ·by_cases h2:n<=1000000000000000
  ·rw[show inV n=true by simp[inV,h1,h2]];refine XD ?_;exact Qc
  ·rw[show inV n=false by simp[inV,h2]];refine XD ?_;exact Qd
 ·rw[show inV n=false by simp[inV,h1]];refine XD ?_;exact X3 ⟨_,Xe 2 (y:=ab false) (ZzV),⟨rfl,TV⟩,X5 _⟩
def Xo8 (n:Int) (h: -1000000000000000<=n/\n<=1000000000000000):Con prog 370 [] [ai n] [] (ai (n.natAbs:Nat)):=by
 refine ZC1 func370 ntmps370 fun E=> ?_;refine XG ?_;exact X3 ⟨_,Xe 2 (y:=ai (n.natAbs:Nat)) (ZzQ (by refine Eq.trans (b:=ai (max n (-n))) rfl ?_;congr 3;omega)),⟨rfl,TV⟩,X5 _⟩
def X9G (n:Int) (h: -1000000000000000<=n/\n<=1000000000000000):Con prog 304 [] [ai n] [] (ai (n.natAbs:Nat)):=by
 refine ZC1 func304 ntmps304 fun E=> ?_;by_cases h0:n<0
 ·refine Yb ?_;exact X3 ⟨_,Xe 2 (y:=ai (n.natAbs:Nat)) (ZzQ (by refine Eq.trans (b:=ai (-n)) rfl ?_;congr 3;omega)),⟨rfl,TV⟩,X5 _⟩
 ·refine Yb ?_;exact X3 ⟨_,Xe 2 (y:=ai (n.natAbs:Nat)) (ZzQ (by refine Eq.trans (b:=ai n) rfl ?_;congr 3;omega)),⟨rfl,TV⟩,X5 _⟩
def Xys (a b:Int) (ha: -1000000000000000<=a/\a<=1000000000000000) (hb: -1000000000000000<=b/\b<=1000000000000000):Con prog 355 [] [ai a,ai b] [] (ai (Nat.gcd a.natAbs b.natAbs:Nat)):=by
 refine ZC1 func355 ntmps355 fun E=> ?_;have h1:Con prog 319 [] [ai a] [] (ab true):=by
  have h:=Xa9 a
  rwa [show inV a=true by simpa [inV] using ha] at h
 have h2:Con prog 319 [] [ai b] [] (ab true):=by
  have h:=Xa9 b
  rwa [show inV b=true by simpa [inV] using hb] at h
 refine Y5 ?_;refine Z5 (ag:=Xo8 a ha) ?_;refine W1_ ?_;refine Z5 (ag:=Xo8 b hb) ?_;refine W5_ ?_
 refine Xl (ι:=Nat×Nat) (fun i=>Nat.gcd i.1 i.2=Nat.gcd a.natAbs b.natAbs) (fun i=>⟨24,[(0,ai i.1),(1,ai i.2)],[]⟩) (fun i=>i.2) (a.natAbs,b.natAbs) rfl
  (X9 rfl ⟨JL,JL,TV⟩ trivial) ?_
 rintro⟨x,y⟩ hg;simp only at hg;by_cases hy:y=0
 ·subst hy;rw[<-hg,Nat.gcd_zero_right];exact Qe
 ·have hy':¬((y:Int)=0):=by omega
  exact Yt66
def XqI (x y:Nat) (hx:x<=1000000000000000) (hy:y<=1000000000000000):Con prog 344 [] [ai x,ai y] [] (ai (Nat.gcd x y:Nat)):=by
 refine ZC1 func344 ntmps344 fun E=> ?_;refine W6_ ?_;generalize hG:Nat.gcd x y=G
 refine Xl (ι:=Nat×Nat) (fun i=>Nat.gcd i.1 i.2=G) (fun i=>⟨12,[(0,ai i.1),(1,ai i.2)],[]⟩) (fun i=>i.2) (x,y) hG
  (X9 rfl ⟨JL,JL,TV⟩ trivial) ?_
 rintro⟨x,y⟩ hg;simp only at hg;by_cases hy:y=0
 ·subst hy;rw[<-hg,Nat.gcd_zero_right];exact Qe
 ·have hy':(0:Int)<y:=by omega
  exact Yt66
abbrev X3V (n d:Int):AVal:= .agg [ai n,ai d]
def X7x (h:¬(1<=d/\d<=1000000000000000/\ -1000000000000000<=n/\n<=1000000000000000)):X1E n d=false:=by simp only[X1E,DF h,Bool.false_and]
def Xmc (h:1<=d/\d<=1000000000000000/\ -1000000000000000<=n/\n<=1000000000000000):X1E n d=decide (Nat.gcd n.natAbs d.natAbs=1):=by simp only[X1E,DT h,Bool.true_and]
def XzL (n d:Int):Con prog 320 [] [X3V n d] [] (ab (X1E n d)):=by
 refine ZC1 func320 ntmps320 fun E=> ?_;by_cases h1:1<=d
 case neg=>
  rw[X7x Oa];exact Qg
 by_cases h2:d<=1000000000000000
 case neg=>
  rw[X7x Oa];exact Qg
 by_cases h3: -1000000000000000<=n/\n<=1000000000000000
 case neg=>
  rw[X7x Oa];have hin:Con prog 319 [] [ai n] [] (ab false):=by
   have h:=Xa9 n
   rwa [show inV n=false by simpa [inV] using h3] at h
  exact Qg
 rw[Xmc Oa];have hin:Con prog 319 [] [ai n] [] (ab true):=by
  have h:=Xa9 n
  rwa [show inV n=true by simpa [inV] using h3] at h
 refine V4 ?_;refine Z5 (ag:=Xys n d h3 Oa) ?_;refine W4_ ?_;exact X3 ⟨_,Xe 2 (y:=ab (decide (Nat.gcd n.natAbs d.natAbs=1))) (ZzQ (by refine Eq.trans (b:=ab (decide (((Nat.gcd n.natAbs d.natAbs:Nat):Int)=1))) rfl ?_;exact CG ab (decide_eq_decide.2 Oa))),⟨rfl,TV⟩,X5 _⟩
def Xdb (n d:Int):Con prog 300 [] [X3V n d] [] (ab (X1E n d)):=by
 refine ZC1 func300 ntmps300 fun E=> ?_;by_cases h1:1<=d
 case neg=>
  rw[X7x Oa];refine X04 ?_;exact Zr0
 by_cases h2:d<=1000000000000000
 case neg=>
  rw[X7x Oa];refine X04 ?_;exact Zr0
 by_cases h3: -1000000000000000<=n
 case neg=>
  rw[X7x Oa];refine X04 ?_;exact Zr0
 by_cases h4:n<=1000000000000000
 case neg=>
  rw[X7x Oa];refine X04 ?_;exact Zr0
 rw[Xmc Oa];obtain⟨e,rfl⟩:∃e:Nat,d=e:=⟨d.toNat,Oa⟩
 refine U7 ?_;refine Z5 (ag:=X9G n ⟨h3,h4⟩) ?_;refine W2_ ?_;refine Z5 (ag:=XqI n.natAbs e Oa Oa) ?_;refine W4_ ?_;exact X3 ⟨_,Xe 2 (y:=ab (decide (Nat.gcd n.natAbs (e:Int).natAbs=1))) (ZzQ (by refine Eq.trans (b:=ab (decide (((Nat.gcd n.natAbs e:Nat):Int)=1))) rfl ?_;exact CG ab (decide_eq_decide.2 (by rw[Int.natAbs_natCast];omega)))),⟨rfl,TV⟩,X5 _⟩
abbrev X1q (l:List UInt8):AVal:= .d (.v (.string (X7 l)))
def okB (b:UInt8):Bool:=decide (32<=b.toNat/\b.toNat<=126)
def X4E (s:List UInt8):Int:=if X2s s then-1 else J (s.takeWhile okB)
def XmN:(X4E s<0)↔X2s s=true:=by
 unfold X4E;cases X2s s<;>simp
def XkS (h:∀j,j<p->∃b,s[j]? =some b/\okB b=true) (hp:p=J s):X2s s=true:=by
 unfold X2s;rw[all_eq_true];intro x hx;obtain⟨i,hi⟩:=getElem?_of_mem hx;obtain⟨b,h1,h2⟩:=h i (by rw[hp];exact(GS.1 hi).1);rw[hi] at h1;cases h1;exact h2
def XyF (h:∀j,j<p->∃b,s[j]? =some b/\okB b=true) (hc:s[p]? =some c) (hb:okB c=false):X4E s=p:=by
 have h1:X2s s=false:=by
  exact Yt48
 unfold X4E;rw[h1,Xcc s p h (fun b hb'=>by rw[hc] at hb';cases hb';exact hb)];simp
def Xj8 (l:List UInt8) {p:Nat}{c:UInt8} (h:l[p]? =some c) (hp:p<(X7 l).size):(X7 l)[p]=c:=by
 have h1:=(GS.1 h).2;exact h1
def Xvb (c:Nat) (hc:c<=2147483647):Con prog 322 [] [.d (.v (.int .i32 c))] [] (ab (!decide (32<=c/\c<=126))):=by
 refine ZC1 func322 ntmps322 fun E=> ?_;by_cases h1:c<32
 ·rw[show (!decide (32<=c/\c<=126))=true by simp;omega];exact Qh
 ·by_cases h2:126<c
  ·rw[show (!decide (32<=c/\c<=126))=true by simp;omega];refine XD ?_;exact X3 ⟨_,Xe 2 (y:=ab true) (ZzQ (by refine Eq.trans (b:=ab (decide (126<(c:Int)))) rfl ?_;exact CG ab (DT Oa))),⟨rfl,TV⟩,X5 _⟩
  ·rw[show (!decide (32<=c/\c<=126))=false by simp;omega];refine XD ?_;exact X3 ⟨_,Xe 2 (y:=ab false) (ZzQ (by refine Eq.trans (b:=ab (decide (126<(c:Int)))) rfl ?_;exact CG ab (DF Oa))),⟨rfl,TV⟩,X5 _⟩
def XqH (s:List UInt8) (hs:J s<=9223372036854775807):Con prog 356 [] [X1q s,.fn 322 [],ab true] [] (ai (X4E s)):=by
 refine ZC1 func356 ntmps356 fun E=> ?_;have hsz:(X7 s).size=J s:=rfl;refine XB ?_
 refine Xl (fun p:Nat=>p<=J s/\∀j,j<p->∃b,s[j]? =some b/\okB b=true) (fun p=>⟨21,[(1,.fn 322 []),(2,ab true),(10,.ptr 100 0)],[(100,.iter (X7 s) p)]⟩) (fun p=>J s-p) 0 ⟨Oa,fun j hj=>Oa⟩
  (X9 rfl ⟨JL,JL,JL,TV⟩ ⟨rfl,TV⟩) ?_
 rintro p ⟨hp,hall⟩;by_cases hlt:p<J s
 ·obtain⟨c,hc⟩:=Xn (l:=s) hlt;have hlt':p<(X7 s).size:=hlt;have fW:=Xj8 s hc hlt';have hr:=Xvb (Utf8.decode (X7 s) p).1 (decode_le _ _);have go:okB c=true->Utf8.decode (X7 s) p=(c.toNat,1):=fun hok=>decode_ascii _ _ hlt' (by unfold okB at hok;rw[decide_eq_true_eq] at hok;rw[fW];omega)|>.trans (by rw[fW])
  cases hok:okB c with
  |true=>
   have hd:=go hok;rw[show (!decide (32<=(Utf8.decode (X7 s) p).1/\(Utf8.decode (X7 s) p).1<=126))=false by rw[hd];unfold okB at hok;simp only;rw[hok];rfl] at hr;refine YV ?_;refine Z7 (ag:=hr) ?_;refine W5_ ?_;refine⟨p+1,⟨Oa,fun j hj=> ?_⟩,Oa,X9 rfl ⟨JL,JL,JL,TV⟩ ⟨?_,TV⟩⟩
   ·by_cases e:j=p
    ·subst e;exact⟨c,hc,hok⟩
    ·exact hall j Oa
   ·refine Eq.trans (b:=AObj.iter (X7 s) (p+(Utf8.decode (X7 s) p).2)) rfl ?_;rw[hd]
  |false=>
   rw[XyF hall hc hok];have fX:(!decide (32<=(Utf8.decode (X7 s) p).1/\(Utf8.decode (X7 s) p).1<=126))=true:=by
    by_cases ha:c.toNat<128
    ·rw[decode_ascii _ _ hlt' (by rw[fW];exact ha),fW];unfold okB at hok;simp only;rw[hok];rfl
    ·have:=(decode_high (X7 s) p hlt' (by rw[fW];omega)).1;simp;omega
   rw[fX] at hr;refine YV ?_;refine Z7 (ag:=hr) ?_;refine W9_ ?_;exact Zr0
 ·obtain rfl:p=J s:=by omega
  rw[show X4E s= -1 by unfold X4E;rw[XkS hall rfl];rfl];have hge:(X7 s).size<=J s:=Nat.le_refl _;exact Qi
def XrU (s:List UInt8) (hs:J s<=9223372036854775807):Con prog 321 [] [X1q s,.fn 322 []] [] (ai (X4E s)):=by
 refine ZC1 func321 ntmps321 fun E=> ?_;refine W8_ ?_;refine Z5 (ag:=XqH s hs) ?_;refine W2_ ?_;exact Zr0
def Xt:Val->AVal
 | .mk k n d s l=> .agg [ai k,ai n,ai d,X1q s,.d (.sl 5 (XR l))]
def X1P (l:List Val):Bool:=decide (J l%2=1/\J l<=25)&&X0G 0 l
def XjX {v:Val} (h:v.kind=5\/v.kind=6) (m m':Nat):Xj m v=Xj m' v:=by
 obtain⟨k,n,d,s,l⟩:=v;have h:k=5\/k=6:=h;rw[Xj,Xj];rcases h with rfl|rfl<;>simp
theorem X1M (l:List Val):J (XR l)=J l:=by rw[X8h,LM]
def X6h (h:l[i]? =some x):(XR l)[i]? =some (UB x):=by rw[X8h];exact XC h
def Xe6 (h:l[i]? =some x):X0G i (l.drop i)=(decide (x.kind=5+(i%2:Nat))&&Xj 0 x&&X0G (i+1) (l.drop (i+1))):=by
 rw[drop_eq_getElem_cons (GS.1 h).1,(GS.1 h).2,X0G]
def Xnc {m:Nat} (h:l[i]? =some x):X0V m (l.drop i)=(Xj m x&&X0V m (l.drop (i+1))):=by
 rw[drop_eq_getElem_cons (GS.1 h).1,(GS.1 h).2,X0V]
def Xbp (h:l[i]? =some x) (hk:¬x.kind=5+(i%2:Nat)):X0G i (l.drop i)=false:=by
 rw[Xe6 h,DF hk];rfl
def XdI (h:l[i]? =some x) (hv:Xj 0 x=false):X0G i (l.drop i)=false:=by
 rw[Xe6 h,hv,Bool.and_false];rfl
def Xc8 (h:l[i]? =some x) (hk:x.kind=5+(i%2:Nat)) (hv:Xj 0 x=true):X0G i (l.drop i)=X0G (i+1) (l.drop (i+1)):=by
 rw[Xe6 h,DT hk,hv];rfl
def Xcz (v:Val):Prop:=∀m:Nat,m<=8->Con prog 279 [] [Xt v,ai (8-m:Nat)] [] (ab (Xj m v))
def Xge (l:List Val):Prop:=Con prog 323 [] [.d (.sl 5 (XR l))] [] (ab (X1P l))
def Xrm (l:List Val) (ih:∀x∈l,Xcz x):Xge l:=by
 refine ZC1 func323 ntmps323 fun E=> ?_;have hlen:=X1M l;by_cases h1:J l%2=0
 ·rw[show X1P l=false by unfold X1P;rw[DF Oa,Bool.false_and]];exact Qj
 by_cases h2:25<J l
 ·rw[show X1P l=false by unfold X1P;rw[DF Oa,Bool.false_and]];exact Qj
 rw[show X1P l=X0G 0 (l.drop 0) by unfold X1P;rw[DT Oa,Bool.true_and];rfl];refine YT ?_
 refine Xl (fun i:Nat=>i<=J l/\X0G 0 (l.drop 0)=X0G i (l.drop i)) (fun i=>⟨37,[(15,.d (.sl 5 (XR l))),(16,ai (J l)),(17,ai i)],[]⟩) (fun i=>J l-i) 0 ⟨Oa,rfl⟩
  (X9 rfl ⟨JL,O8,JL,TV⟩ trivial) ?_
 rintro i ⟨hi,aE⟩;by_cases hlt:i<J l
 ·obtain⟨x,hx⟩:=Xn (l:=l) hlt;have ie:=X6h hx;have uT:i<J (XR l):=by rw[hlen];exact hlt
  have dQ:=ih x (mem_of_getElem? hx) 8 Oa;obtain⟨k,n,d,s,q⟩:=x;simp only[Xt,Nat.sub_self] at dQ;rw[UB] at ie;rw[aE];by_cases hpar:i%2=0
  case pos=>
   by_cases hk:k=5
   case neg=>
    rw[Xbp hx IG];refine Qk ?_;exact Ql
   subst hk;have hfl:=XjX (v:= .mk 5 n d s q) (.inl rfl) 8 0;cases cj:Xj 8 (.mk 5 n d s q) with
   |true=>
    rw[cj] at dQ hfl;have bD:=Xc8 hx (by rw[hpar];rfl) hfl.symm;rw[bD,<-bD,<-aE];refine Qk ?_;refine YJ ?_;exact⟨i+1,⟨Oa,aE.trans bD⟩,Oa,X9 rfl ⟨JL,JL,JL,TV⟩ TV⟩
   |false=>
    rw[cj] at dQ hfl;rw[XdI hx hfl.symm];refine Qk ?_;exact Ql
  case neg=>
   have hpar:i%2=1:=Oa
   by_cases hk:k=6
   case neg=>
    rw[Xbp hx IG];refine Qm ?_;exact Ql
   subst hk;have hfl:=XjX (v:= .mk 6 n d s q) (.inr rfl) 8 0;cases cj:Xj 8 (.mk 6 n d s q) with
   |true=>
    rw[cj] at dQ hfl;have bD:=Xc8 hx (by rw[hpar];rfl) hfl.symm;rw[bD,<-bD,<-aE];refine Qm ?_;refine YJ ?_;exact⟨i+1,⟨Oa,aE.trans bD⟩,Oa,X9 rfl ⟨JL,JL,JL,TV⟩ TV⟩
   |false=>
    rw[cj] at dQ hfl;rw[XdI hx hfl.symm];refine Qm ?_;exact Ql
 obtain rfl:i=J l:=Oa
 rw[aE,drop_length,X0G];exact Qn
structure KOrd {κ:Type} (lt:κ->κ->Bool):Prop where
 irr:∀a,lt a a=false
 tr:∀a b c,lt a b=true->lt b c=true->lt a c=true
 tri:∀a b,lt a b=false->lt b a=false->a=b
section
variable {α κ:Type}{lt:κ->κ->Bool}{key:α->κ}
def YP (lt:κ->κ->Bool) (key:α->κ) (l:List α):Prop:=l.Pairwise fun a b=>lt (key a) (key b)=true
def Xr (lt:κ->κ->Bool) (key:α->κ) (l:List α) (k:κ):Nat:=J (l.takeWhile fun x=>lt (key x) k)
theorem XeB {p:α->Bool}:∀{l:List α}{x:α},x∈l.takeWhile p->p x=true
 |y::l,x,h=>by
  cases hp:p y with
  |true=>
   rw[takeWhile_cons_of_pos hp] at h;rcases mem_cons.1 h with rfl|h
   ·exact hp
   ·exact XeB h
  |false=>simp_all
 |[],x,h=>OQ
theorem X8u {p:α->Bool}:∀l:List α,l.takeWhile p=l.take (J (l.takeWhile p))/\l.dropWhile p=l.drop (J (l.takeWhile p))
 |[]=>⟨rfl,rfl⟩
 |x::l=>by
  cases h:p x with
  |true=>
   rw[takeWhile_cons_of_pos h,dropWhile_cons_of_pos h];obtain⟨h1,h2⟩:=X8u (p:=p) l
   grind
  |false=>
   simp_all
def X6A (l:List α) (k:κ):Xr lt key l k<=J l:=by
 grind [Xr,X8u]
theorem Xbs (l:List α) (k:κ):(l.takeWhile fun x=>lt (key x) k)=l.take (Xr lt key l k):=(X8u l).1
theorem XaV (l:List α) (k:κ):(l.dropWhile fun x=>lt (key x) k)=l.drop (Xr lt key l k):=(X8u l).2
def Xcl {l:List α}{k:κ}:∀x∈l.take (Xr lt key l k),lt (key x) k=true:=by
 grind [Xbs,XeB,Xr]
theorem Xar {l:List α}{k:κ}{x:α} (h:l[Xr lt key l k]? =some x):lt (key x) k=false:=by
 have h1:(l.dropWhile fun x=>lt (key x) k).head? =some x:=by
  grind [XaV,head?_drop]
 grind [head?_dropWhile_not]
def XvW (ho:KOrd lt) {l:List α}{k:κ} (hs:YP lt key l):∀x∈l.drop (Xr lt key l k),lt (key x) k=false:=by
 intro x hx;obtain⟨j,hj⟩:=getElem?_of_mem hx;rw[getElem?_drop] at hj;cases j with
 |zero=>grind [Xar]
 |succ j=>
  have hlt:Xr lt key l k+(j+1)<J l:=(GS.1 hj).1;have h0:l[Xr lt key l k]? =some l[Xr lt key l k]:=getElem?_eq_getElem Oa;have h1:=Xar h0;have h2:=(pairwise_iff_getElem.1 hs) (Xr lt key l k) (Xr lt key l k+(j+1)) Oa hlt Oa;rw[getElem?_eq_getElem hlt] at hj;simp only[Option.some.injEq] at hj;rw[hj] at h2;by_cases q:lt (key x) k=true
  ·rw[ho.tr _ _ _ h2 q] at h1;cases h1
  ·simpa using q
theorem Xff {p:α->Bool}:∀{l:List α},(∀x∈l,p x=true)->l.filter p=l:=fun h=>filter_eq_self.2 h
variable [DecidableEq κ]
def XF (key:α->κ) (l:List α) (k:κ):Bool:=l.any fun x=>decide (key x=k)
def UY (lt:κ->κ->Bool) (key:α->κ) (l:List α) (k:κ) (ns:List α):List α:=(l.takeWhile fun x=>lt (key x) k)++ns++(l.dropWhile fun x=>lt (key x) k).filter fun x=> !decide (key x=k)
def UX (key:α->κ) (l:List α) (k:κ):List α:=l.filter fun x=> !decide (key x=k)
def X1f (ho:KOrd lt) {l:List α}{k:κ} (hs:YP lt key l):XF key l k=decide (∃x,l[Xr lt key l k]? =some x/\key x=k):=by
 rw[Bool.eq_iff_iff];unfold XF;simp only[any_eq_true,decide_eq_true_eq];constructor
 ·rintro⟨x,hx,e⟩;rw[<-take_append_drop (Xr lt key l k) l] at hx;rcases mem_append.1 hx with hx|hx
  ·have:=Xcl x hx;rw[e,ho.irr] at this;cases this
  ·obtain⟨j,hj⟩:=getElem?_of_mem hx
   grind [Xar,pairwise_iff_getElem,YP]
 grind
def X5u {l:List α}{k:κ}{ns:List α} (hn:XF key l k=false):UY lt key l k ns=l.take (Xr lt key l k)++ns++l.drop (Xr lt key l k):=by
 grind [UY,Xbs,XaV,Xff,XF]
theorem Xkt (ho:KOrd lt) {l:List α}{k:κ}{x:α} (hs:YP lt key l) (hx:l[Xr lt key l k]? =some x) (e:key x=k):(l.drop (Xr lt key l k)).filter (fun x=> !decide (key x=k))=l.drop (Xr lt key l k+1):=by
 have hlt:Xr lt key l k<J l:=(GS.1 hx).1;rw[drop_eq_getElem_cons hlt];have hx':l[Xr lt key l k]=x:=II
 rw[hx',filter_cons_of_neg (by simp[e]),Xff];intro y hy;obtain⟨j,hj⟩:=getElem?_of_mem hy;rw[getElem?_drop] at hj;have oJ:Xr lt key l k+1+j<J l:=(GS.1 hj).1;have h2:=(pairwise_iff_getElem.1 hs) (Xr lt key l k) (Xr lt key l k+1+j) hlt oJ Oa;rw[getElem?_eq_getElem oJ] at hj;simp only[Option.some.injEq] at hj;rw[hj,hx',e] at h2;simp only[Bool.not_eq_true',decide_eq_false_iff_not];intro q;rw[q,ho.irr] at h2;cases h2
theorem X8M (ho:KOrd lt) {l:List α}{k:κ}{ns:List α}{x:α} (hs:YP lt key l) (hx:l[Xr lt key l k]? =some x) (e:key x=k):UY lt key l k ns=l.take (Xr lt key l k)++ns++l.drop (Xr lt key l k+1):=by
 grind [UY,Xbs,XaV,Xkt]
def Xdz (ho:KOrd lt) {l:List α}{k:κ}{x:α} (hs:YP lt key l) (hx:l[Xr lt key l k]? =some x) (e:key x=k):UX key l k=l.take (Xr lt key l k)++l.drop (Xr lt key l k+1):=by
 unfold UX;conv=>lhs;rw[<-take_append_drop (Xr lt key l k) l]
 rw[filter_append,Xkt ho hs hx e,Xff];intro y hy;have:=Xcl y hy;simp only[Bool.not_eq_true',decide_eq_false_iff_not];intro q;rw[q,ho.irr] at this;cases this
def X9N {l:List α}{k:κ}{ns:List α}{x:α} (h:x∈UY lt key l k ns):x∈ns\/x∈l:=by
 grind [UY,dropWhile_sublist]
def Xb1 (ho:KOrd lt) {l:List α}{k:κ}{ns:List α} (hs:YP lt key l) (hn:ns=[]\/∃n,ns=[n]/\key n=k):YP lt key (UY lt key l k ns):=by
 unfold UY YP;have h1:YP lt key (l.takeWhile fun x=>lt (key x) k):=hs.sublist (takeWhile_sublist _);have h2:YP lt key ((l.dropWhile fun x=>lt (key x) k).filter fun x=> !decide (key x=k)):=(hs.sublist (dropWhile_sublist _)).sublist filter_sublist;have hA:∀a∈(l.takeWhile fun x=>lt (key x) k),lt (key a) k=true:=fun a ha=>XeB (p:=fun x=>lt (key x) k) ha;have hB:∀b∈((l.dropWhile fun x=>lt (key x) k).filter fun x=> !decide (key x=k)),lt k (key b)=true:=by
  intro b hb;rw[XaV] at hb;have q1:=XvW ho hs b ((mem_filter.1 hb).1);have q2:key b≠k:=II
  by_cases q:lt k (key b)=true
  ·exact q
  ·exact absurd (ho.tri _ _ q1 IK) q2
 have vr:∀a∈(l.takeWhile fun x=>lt (key x) k),∀b∈((l.dropWhile fun x=>lt (key x) k).filter fun x=> !decide (key x=k)),lt (key a) (key b)=true:=fun a ha b hb=>ho.tr _ _ _ (hA a ha) (hB b hb)
 grind [YP]
def Xcj {l:List α}{k:κ} (hs:YP lt key l):YP lt key (UX key l k):=hs.sublist filter_sublist
def Xbq {l:List α}{k:κ}{x:α} (h:x∈UX key l k):x∈l/\key x≠k:=by
 grind [UX]
end
def ltI (a b:Int):Bool:=decide (a<b)
theorem Vp:KOrd ltI:=⟨fun a=>by simp[ltI],fun a b c h1 h2=>by grind [ltI],fun a b h1 h2=>by grind [ltI]⟩
structure Wr where
 at_:Int
 b:List UInt8
structure ak where
 aa:List (List UInt8)
 pending:List Wr
 on:Bool
abbrev Yd (l:List UInt8):List D:=[Xc l]
abbrev cWr (w:Wr):List D:=[.v (.int .i64 w.at_),Xc w.b]
abbrev XS (l:List (List UInt8)):D:= .sl 1 (l.map Yd)
abbrev XW (l:List Wr):D:= .sl 2 (l.map cWr)
abbrev XY (d:ak):AVal:= .agg [.d (XS d.aa),.d (XW d.pending),ab d.on]
def UF (d:ak):Bool:=
 decide (1<=J d.aa/\J d.aa<=4096/\(d.on=true\/J d.pending=0)/\(∀s∈d.aa,J s=64)/\
  ∀w∈d.pending,0<=w.at_/\w.at_<J d.aa/\J w.b=64)
def XbX {α:Type}{l:List α}{p:α->Prop} (h:∀(i:Nat) (x:α),l[i]? =some x->p x):∀x∈l,p x:=by
 intro x hx;obtain⟨i,hi⟩:=getElem?_of_mem hx;exact h i x hi
def Xl7 (xs:List (List D)) (hl:J xs<=140737488355328):Con prog 127 [] [.d (.sl 1 xs)] [] (.d (.sl 1 xs)):=by
 refine ZC1 func127 ntmps127 fun E=> ?_;refine XA ?_;refine X6i rfl (fun h=> ?_) (fun _=> ?_)
 ·subst h;refine W4_ ?_;refine X3 ?_;exact⟨_,Xe 2 (AVal.le_nil 1),⟨rfl,TV⟩,X5 _⟩
 ·refine W8_ ?_;refine X3 ?_;exact⟨_,St.le_trans (XI 100 rfl) (XX 2 100 rfl rfl Oc),⟨rfl,TV⟩,X5 _⟩
end Go.Fw
