/- The codec in plain Lean: what the functions compute. -/
import Derived.Test.YtpbgjcbkhgfmkaaGreatDoorM02
namespace Go.Fw
open Go List
set_option linter.unusedVariables false
inductive Val where
 |mk (kind n d:Int) (s:List UInt8) (l:List Val)
namespace Val
def kind:Val->Int|mk k _ _ _ _=>k
def n:Val->Int|mk _ n _ _ _=>n
def d:Val->Int|mk _ _ d _ _=>d
def s:Val->List UInt8|mk _ _ _ s _=>s
def l:Val->List Val|mk _ _ _ _ l=>l
end Val
abbrev X5 (b:UInt8):List D:=[.v (.int .u8 b.toNat)]
abbrev Xg (l:List UInt8):D:= .sl 1 (l.map X5)
mutual
def UT:Val->List D
 | .mk k n d s l=>[.v (.int .i64 k),.v (.int .i64 n),.v (.int .i64 d),.v (.string (X6 s)),.sl 5 (XX l)]
def XX:List Val->List (List D)
 |[]=>[]
 |v::r=>UT v::XX r
end
theorem X7h:∀l:List Val,XX l=l.map UT
 |[]=>by simp[XX]
 |v::r=>by simp[XX,X7h r]
variable{i k u:Nat}{a e most n nn:Int}{b l m s:List UInt8}{c:UInt8}
theorem XM {α β:Type}{l:List α}{f:α->β}{x:α} (h:l[k]? =some x):(l.map f)[k]? =some (f x):=by simp[h]
theorem Xu {α:Type}{l:List α} (h:k<l.length):∃x,l[k]? =some x:=⟨_,getElem?_eq_getElem h⟩
def vS (n:Nat):List UInt8:=if n<128 then [UInt8.ofNat n] else UInt8.ofNat (n%128+128)::vS (n/128)
termination_by n
decreasing_by omega
def Xl (n:Int):List UInt8:=if n<0 then [] else vS n.toNat
def zig (n:Int):Nat:=if n<0 then 2*(-(n+1)).toNat+1 else 2*n.toNat
def zag (u:Nat):Int:=if u%2=1 then-((u/2:Nat):Int)-1 else ((u/2:Nat):Int)
def U5 (n:Int):List UInt8:=vS (zig n)
def Ym (s:List UInt8):List UInt8:=Xl s.length++s
def V2 (l:List UInt8):Nat:=((l.take 10).takeWhile fun b=>decide (128<=b.toNat)).length
def U9:List UInt8->Nat
 |[]=>0
 |b::r=>b.toNat%128+128*U9 r
def UE (b:List UInt8) (a:Int):Nat×Int×Int:=
 if a<0\/(b.length:Int)<a then (0,0,1) else
  let l:=b.drop a.toNat
  let n:=V2 l
  if n=10 then (0,0,4) else if l.length<=n then (0,0,3) else
   if n=9/\1<((l[n]?).getD 0).toNat then (0,0,4) else (U9 (l.take (n+1)),a+n+1,0)
def X1u (b:List UInt8) (a:Int):Bool:=let l:=b.drop a.toNat;decide (0<V2 l)&&decide ((l[V2 l]?).getD 0=0)
def XB (b:List UInt8) (a:Int):Int×Int×Int:=
 let r:=UE b a
 if r.2.2≠0 then (0,0,r.2.2) else if 9223372036854775807<r.1 then (0,0,4) else if X1u b a then (0,0,2) else ((r.1:Int),r.2.1,0)
def YX (b:List UInt8) (a:Int):Int×Int×Int:=
 let r:=UE b a
 if r.2.2≠0 then (0,0,r.2.2) else if X1u b a then (0,0,2) else (zag r.1,r.2.1,0)
def Uq (b:List UInt8) (a:Int):Nat×Int×Int:=
 let r:=UE b a
 if r.2.2≠0 then (0,0,r.2.2) else if X1u b a then (r.1,0,2) else r
def X0M (b:List UInt8) (a:Int) (most:Int):List UInt8×Int×Int:=
 let r:=XB b a
 if r.2.2≠0 then ([],0,r.2.2) else if most<r.1 then ([],0,4) else if (b.length:Int)-r.2.1<r.1 then ([],0,3) else
  ((b.drop r.2.1.toNat).take r.1.toNat,r.2.1+r.1,0)
def X35 (c:Nat):Nat:=if c%2=1 then (c/2)^^^3988292384 else c/2
def X40:Nat->Nat->Nat
 |0,c=>c
 |k+1,c=>X35 (X40 k c)
def X96 (c:Nat) (x:UInt8):Nat:=X40 8 (c^^^x.toNat)
def X5v (l:List UInt8):Nat:=l.foldl X96 4294967295
def XT (l:List UInt8):Nat:=4294967295-X5v l
def X0p (l:List UInt8):List UInt8:=let c:=XT l;[UInt8.ofNat (c%256),UInt8.ofNat (c/256%256),UInt8.ofNat (c/65536%256),UInt8.ofNat (c/16777216)]
def Yn (b:List UInt8):List UInt8:=Xl b.length++b++X0p b
def X3M (b:List UInt8) (k:Nat):Nat:=((b[k]?).getD 0).toNat+256*((b[k+1]?).getD 0).toNat+65536*((b[k+2]?).getD 0).toNat+16777216*((b[k+3]?).getD 0).toNat
def cj (b:List UInt8) (a:Int):List UInt8×Int×Int:=
 let r:=XB b a
 if r.2.2≠0 then ([],0,r.2.2) else if (b.length:Int)-r.2.1<4\/(b.length:Int)-r.2.1-4<r.1 then ([],0,3) else
  let body:=(b.drop r.2.1.toNat).take r.1.toNat
  if X3M b (r.2.1+r.1).toNat≠XT body then ([],0,21) else (body,r.2.1+r.1+4,0)
def X2p (n d:Int):Bool:=decide (1<=d/\d<=1000000000000000/\ -1000000000000000<=n/\n<=1000000000000000)&&decide (Nat.gcd n.natAbs d.natAbs=1)
def X21 (s:List UInt8):Bool:=s.all fun b=>decide (32<=b.toNat/\b.toNat<=126)
mutual
def Xk:Nat->Val->Bool
 |m,.mk k n d s l=>
  (k==3||d==0)&&(k==4||decide (s.length=0))&&(k==7||k==8||decide (l.length=0))&&
  (if k=0 then decide (n=0) else if k=1 then decide (n=0\/n=1) else if k=2 then decide (-1000000000000000<=n/\n<=1000000000000000)
   else if k=3 then decide (2<=d)&&X2p n d else if k=4 then decide (n=0/\s.length<=100)&&X21 s
   else if k=5\/k=6 then decide (1<=n/\n<=1000000) else if k=7 then decide (n=0/\l.length%2=1/\l.length<=25)&&X0u 0 l
   else if k=8 then decide (n=0/\l.length<=64/\1<=m)&&X0C (m-1) l else false)
def X0C:Nat->List Val->Bool
 |m,[]=>true
 |m,v::r=>Xk m v&&X0C m r
def X0u:Nat->List Val->Bool
 |i,[]=>true
 |i,v::r=>decide (v.kind=5+(i%2:Nat))&&Xk 0 v&&X0u (i+1) r
end
mutual
def Yh:Val->List UInt8
 | .mk k n d s l=>UInt8.ofNat k.toNat::(if k=1\/k=2\/k=5\/k=6 then U5 n else if k=3 then U5 n++U5 d else if k=4 then Ym s
   else if k=7\/k=8 then Xl l.length++U4 l else [])
def U4:List Val->List UInt8
 |[]=>[]
 |v::r=>Yh v++U4 r
end
def UB (v:Val):List UInt8:=if Xk 8 v then Yh v else []
structure Chg where
 op:Int
 id:Int
 src:Int
 dst:Int
 name:List UInt8
 v:Val
structure Rul where
 kind:Int
 n:Int
 name:List UInt8
 key:List UInt8
 src:List UInt8
 dst:List UInt8
structure Rcd where
 kind:Int
 ts:Int
 changes:List Chg
 rule:Rul
 off:Bool
def X0A (c:UInt8):Bool:=decide ((97<=c.toNat/\c.toNat<=122)\/(65<=c.toNat/\c.toNat<=90))
def Ue (c:UInt8):Bool:=X0A c||decide ((48<=c.toNat/\c.toNat<=57)\/c.toNat=95)
def Y8 (s:List UInt8):Bool:=decide (1<=s.length/\s.length<=20)&&X0A ((s[0]?).getD 0)&&s.all Ue
def V4 (v:Val):Bool:=Xk 8 v&&decide (v.kind=0)
def X8c (b:Bool) (k:Int):Bool:=decide (k=1\/k=2\/k=4)&&b
def Ui (v:Val):Bool:=X8c (Xk 8 v) v.kind
def idV (n:Int):Bool:=decide (1<=n/\n<=1000000)
def YS (op:Int):Bool:=decide (op=3\/op=4\/op=5\/op=6\/op=8)
def YL (op:Int):Bool:=decide (op=5\/op=8)
def YD (c:Chg):Int:=
 if decide (1<=c.op/\c.op<=8)=false\/idV c.id=false then 1
 else if (c.op=6/\(idV c.src=false\/idV c.dst=false))\/(c.op≠6/\(c.src≠0\/c.dst≠0)) then 1
 else if (YS c.op=false/\c.name≠[])\/(YL c.op=false/\V4 c.v=false) then 1
 else if YS c.op=true/\Y8 c.name=false then 6
 else if YL c.op=true/\V4 c.v=false/\Ui c.v=false then 8 else 0
def Xrh (r:Rul):Bool:=if r.kind=3\/r.kind=5 then decide (r.n=1\/r.n=2\/r.n=4) else if r.kind=7 then decide (0<=r.n/\r.n<=4000) else decide (r.n=0)
def X24 (k:Int):Bool:=decide (1<=k/\k<=5)
def Uk (r:Rul):Int:=
 if decide (1<=r.kind/\r.kind<=7)=false\/Xrh r=false then 1
 else if (X24 r.kind=false/\r.key≠[])\/(r.kind≠6/\(r.src≠[]\/r.dst≠[])) then 1
 else if Y8 r.name=false\/(X24 r.kind=true/\Y8 r.key=false)\/(r.src≠[]/\Y8 r.src=false)\/(r.dst≠[]/\Y8 r.dst=false) then 6 else 0
def U2 (c:Chg):List UInt8:=
 UInt8.ofNat c.op.toNat::(Xl c.id++(if c.op=6 then Xl c.src++Xl c.dst else [])++(if YS c.op=true then Ym c.name else [])++(if YL c.op=true then UB c.v else []))
def VT (c:Chg):List UInt8:=if YD c=0 then U2 c else []
def VE (r:Rul):List UInt8:=UInt8.ofNat r.kind.toNat::(Ym r.name++Ym r.key++Ym r.src++Ym r.dst++U5 r.n)
def VS (r:Rul):List UInt8:=if Uk r=0 then VE r else []
abbrev zR:Rul:=⟨0,0,[],[],[],[]⟩
def X4i (r:Rul):Bool:=decide (r.kind=0/\r.n=0/\r.name=[]/\r.key=[]/\r.src=[]/\r.dst=[])
def X1P:List Chg->Int
 |[]=>0
 |c::r=>if YD c≠0 then YD c else X1P r
def UH (r:Rcd):Int:=
 if ¬(1<=r.kind/\r.kind<=3/\0<=r.ts/\r.ts<=1000000000000000) then 1
 else if (r.kind≠1/\0<r.changes.length)\/(r.kind≠2/\(r.off=true\/X4i r.rule=false)) then 1
 else if r.kind=2 then Uk r.rule else if X1P r.changes≠0 then X1P r.changes else if 1000<r.changes.length then 4 else 0
def X0j (l:List Chg):List UInt8:=(l.map U2).flatten
def X11 (r:Rcd):List UInt8:=
 UInt8.ofNat r.kind.toNat::(Xl r.ts++(if r.kind=1 then Xl r.changes.length++X0j r.changes else if r.kind=2 then VE r.rule++[if r.off then 1 else 0] else []))
def X0k (r:Rcd):List UInt8:=if UH r=0 then X11 r else []
structure Prp where
 key:List UInt8
 v:Val
structure Nod where
 id:Int
 labels:List (List UInt8)
 props:List Prp
structure Edg where
 id:Int
 src:Int
 dst:Int
 typ:List UInt8
 props:List Prp
structure Gra where
 nodes:List Nod
 aj:List Edg
 nn:Int
 ne:Int
def Xf (s:List UInt8):List D:=[.v (.string (X6 s))]
def Xd (p:Prp):List D:= .v (.string (X6 p.key))::UT p.v
def Xm (n:Nod):List D:=[.v (.int .i64 n.id),.sl 1 (n.labels.map Xf),.sl 6 (n.props.map Xd)]
def Xr (e:Edg):List D:=[.v (.int .i64 e.id),.v (.int .i64 e.src),.v (.int .i64 e.dst),.v (.string (X6 e.typ)),.sl 6 (e.props.map Xd)]
def Y6 (g:Gra):AVal:= .agg [.d (.sl 3 (g.nodes.map Xm)),.d (.sl 5 (g.aj.map Xr)),ai g.nn,ai g.ne]
abbrev VN:Gra:=⟨[],[],0,0⟩
def X08:List (List UInt8)->Bool
 |a::b::r=> !(Op.bytesLess b a||decide (b=a))&&X08 (b::r)
 |_=>true
def X1c (ls:List (List UInt8)) (ps:List Prp):Int:=
 if 8<ls.length\/16<ps.length then 4
 else if ls.all Y8=false\/(ps.map Prp.key).all Y8=false then 6
 else if X08 ls=false\/X08 (ps.map Prp.key)=false then 26
 else if (ps.map Prp.v).all Ui=false then 8 else 0
def X1Z (nn:Int) (prev:Option Nod) (n:Nod):Int:=
 if (∃p,prev=some p/\n.id<=p.id) then 26 else if n.id<1\/nn<=n.id then 1 else X1c n.labels n.props
def X12 (nn:Int):Option Nod->List Nod->Int
 |_,[]=>0
 |p,n::r=>if X1Z nn p n≠0 then X1Z nn p n else X12 nn (some n) r
def V1 (l:List Nod) (n:Int):Bool:=l.any fun x=>decide (x.id=n)
def X2T (ns:List Nod) (ne:Int) (prev:Option Edg) (e:Edg):Int:=
 if (∃p,prev=some p/\e.id<=p.id) then 26 else if e.id<1\/ne<=e.id then 1
 else if V1 ns e.src=false\/V1 ns e.dst=false then 10 else if Y8 e.typ=false then 6 else X1c [] e.props
def X2b (ns:List Nod) (ne:Int):Option Edg->List Edg->Int
 |_,[]=>0
 |p,n::r=>if X2T ns ne p n≠0 then X2T ns ne p n else X2b ns ne (some n) r
def X0n (g:Gra):Int:=
 if 2000<g.nodes.length\/4000<g.aj.length then 4
 else if g.nn<1\/1000001<g.nn\/g.ne<1\/1000001<g.ne then 1
 else if X12 g.nn none g.nodes≠0 then X12 g.nn none g.nodes else X2b g.nodes g.ne none g.aj
def V3 {α:Type} (l:List α) (i:Nat):Option α:=if i=0 then none else l[i-1]?
theorem X50 {α:Type}{l:List α}:V3 l (i+1)=l[i]? :=by simp[V3]
theorem Xnq {l:List Nod}{n:Nod} (h:l[i]? =some n):
  X12 nn (V3 l i) (l.drop i)=if X1Z nn (V3 l i) n≠0 then X1Z nn (V3 l i) n else X12 nn (V3 l (i+1)) (l.drop (i+1)):=by
 obtain⟨hi,h⟩:=GS.1 h;rw[drop_eq_getElem_cons hi,h,X12,X50,getElem?_eq_getElem hi,h]
theorem XnC {ns:List Nod}{ne:Int}{l:List Edg}{n:Edg} (h:l[i]? =some n):
  X2b ns ne (V3 l i) (l.drop i)=if X2T ns ne (V3 l i) n≠0 then X2T ns ne (V3 l i) n else X2b ns ne (V3 l (i+1)) (l.drop (i+1)):=by
 obtain⟨hi,h⟩:=GS.1 h;rw[drop_eq_getElem_cons hi,h,X2b,X50,getElem?_eq_getElem hi,h]
def Xbw (l:List Nod):Prop:=∀(i j:Nat) (a b:Nod),l[i]? =some a->l[j]? =some b->i<j->a.id<b.id
theorem Xij:∀(l:List Nod) (p:Option Nod),X12 nn p l=0->(∀a b,p=some a->b∈l->a.id<b.id)/\Xbw l
 |[],p,_=>⟨by simp,by intro i j a b h;simp at h⟩
 |x::r,p,h=>by
  rw[X12] at h;have h0:X1Z nn p x=0:=by
   by_cases h0:X1Z nn p x=0
   ·exact h0
   ·rw[PI h0] at h;exact absurd h h0
  rw[h0,NI (by simp)] at h;obtain⟨h1,h2⟩:=Xij r (some x) h;have hp:∀a,p=some a->a.id<x.id:=by
   intro a ha;unfold X1Z at h0;by_cases q:∃p',p=some p'/\x.id<=p'.id
   ·rw[PI q] at h0;simp at h0
   ·refine Int.lt_of_not_ge fun hc=>q ⟨a,ha,hc⟩
  refine⟨fun a b ha hb=> ?_,fun i j a b hi hj hij=> ?_⟩
  ·rcases mem_cons.1 hb with rfl|hb
   ·exact hp a ha
   ·exact Int.lt_trans (hp a ha) (h1 x b rfl hb)
  ·cases j with
   |zero=>omega
   |succ j=>
    cases i with
    |zero=>
     simp only[getElem?_cons_zero,Option.some.injEq] at hi;subst hi;exact h1 x b rfl (mem_of_getElem? (by simpa using hj))
    |succ i=>exact h2 i j a b (by simpa using hi) (by simpa using hj) (by omega)
def Xge (l:List Nod) (n:Int):Nat:=(l.takeWhile fun x=>decide (x.id<n)).length
theorem Xcy {α:Type}{p:α->Bool}:∀{l:List α}{i:Nat},i<=l.length->(∀k x,k<i->l[k]? =some x->p x=true)->(∀x,l[i]? =some x->p x=false)->(l.takeWhile p).length=i
 |[],i,h,_,_=>by simp at h;simp[h]
 |x::r,0,_,_,h=>by rw[takeWhile_cons_of_neg (by simp[h x (by simp)])];rfl
 |x::r,i+1,h,h1,h2=>by
  rw[takeWhile_cons_of_pos (h1 0 x (by omega) (by simp)),LC,Xcy (i:=i) (by simpa using h) (fun k y hk hy=>h1 (k+1) y (by omega) (by simpa using hy)) (fun y hy=>h2 y (by simpa using hy))]
theorem Xxh {l:List Nod} (h:i<=l.length) (h1:∀k x,k<i->l[k]? =some x->x.id<n) (h2:∀x,l[i]? =some x->¬x.id<n):Xge l n=i:=
 Xcy h (fun k x hk hx=>by simpa using h1 k x hk hx) (fun x hx=>by simpa using h2 x hx)
theorem Xsj {l:List Nod} (hr:Xbw l) (h1:∀k x,k<i->l[k]? =some x->x.id<n) (h2:∀k x,i<=k->l[k]? =some x->n<=x.id):V1 l n=decide (∃x,l[i]? =some x/\x.id=n):=by
 rw[Bool.eq_iff_iff];simp only[V1,any_eq_true,decide_eq_true_eq];constructor
 ·rintro⟨x,hx,e⟩;obtain⟨k,hk⟩:=getElem?_of_mem hx;have hki:i<=k:=by
   by_cases q:k<i
   ·have:=h1 k x q hk;omega
   ·omega
  have hi:i<l.length:=by have:=(GS.1 hk).1;omega
  refine⟨l[i],getElem?_eq_getElem hi,?_⟩;have a:=h2 i l[i] (Nat.le_refl _) (getElem?_eq_getElem hi);by_cases q:i=k
  ·subst q;rw[getElem?_eq_getElem hi] at hk;injection hk with hk
   rw[hk];exact e
  ·have:=hr i k l[i] x (getElem?_eq_getElem hi) hk (by omega);omega
 ·rintro⟨x,hx,e⟩;exact⟨x,mem_of_getElem? hx,e⟩
def Ur (s t:List UInt8):Int:=if Op.bytesLess s t=true then-1 else if s=t then 0 else 1
def UM (a b:Rul):Int:=
 if a.kind<b.kind then-1 else if b.kind<a.kind then 1 else if Ur a.name b.name≠0 then Ur a.name b.name else if Ur a.key b.key≠0 then Ur a.key b.key
 else if a.n<b.n then-1 else if b.n<a.n then 1 else if Ur a.src b.src≠0 then Ur a.src b.src else Ur a.dst b.dst
def X2M:Option Rul->List Rul->Bool
 |_,[]=>true
 |p,r::l=>decide (Uk r=0/\∀q,p=some q->UM q r<0)&&X2M (some r) l
def X0W (l:List Rul):Bool:=X2M none l&&decide (l.length<=40)
theorem Xbe {α:Type}{p:α->Bool}:∀(l:List α) (i:Nat),(∀j,j<i->∃b,l[j]? =some b/\p b=true)->(∀b,l[i]? =some b->p b=false)->(l.takeWhile p).length=i
 |[],0,_,_=>rfl
 |[],i+1,h,_=>by obtain⟨b,hb,_⟩:=h 0 (by omega);simp at hb
 |x::l,0,_,h=>by have:=h x (by simp);simp[takeWhile,this]
 |x::l,i+1,h,k=>by
  obtain⟨b,hb,hp⟩:=h 0 (by omega);simp at hb;subst hb;simp only[takeWhile,hp,LC];rw[Xbe l i (fun j hj=>by simpa using h (j+1) (by omega)) (fun b hb=>k b (by simpa using hb))]
def big (l:List UInt8) (i:Nat):Prop:=∀j,j<i->∃b,l[j]? =some b/\128<=b.toNat
theorem XeA (h:big l i) (hc:l[i]? =some c) (hlt:c.toNat<128) (hi:i<10):V2 l=i:=by
 refine Xbe _ _ (fun j hj=> ?_) (fun b hb=> ?_)
 ·obtain⟨b,h1,h2⟩:=h j hj;exact⟨b,by rw[getElem?_take_of_lt (by omega)];exact h1,by simpa using h2⟩
 ·rw[getElem?_take_of_lt hi,hc] at hb;cases hb;simpa using hlt
theorem XnH (h:big l i) (hi:i=min 10 l.length):V2 l=i:=by
 refine Xbe _ _ (fun j hj=> ?_) (fun b hb=> ?_)
 ·obtain⟨b,h1,h2⟩:=h j hj;exact⟨b,by rw[getElem?_take_of_lt (by omega)];exact h1,by simpa using h2⟩
 ·exfalso;have:=(GS.1 hb).1;simp at this;omega
theorem XiS (h:big l i) (hc:l[i]? =some c) (h128:128<=c.toNat):big l (i+1):=fun j hj=>by
 by_cases e:j=i
 ·subst e;exact⟨c,hc,h128⟩
 ·exact h j (by omega)
theorem X89:∀(l:List UInt8) (i:Nat) (c:UInt8),l[i]? =some c->U9 (l.take (i+1))=U9 (l.take i)+2^(7*i)*(c.toNat%128)
 |[],_,_,h=>by simp at h
 |x::l,0,c,h=>by simp at h;subst h;simp[U9]
 |x::l,i+1,c,h=>by
  have:=X89 l i c (by simpa using h);simp only[take_succ_cons,U9,this];rw[Nat.mul_add,<-Nat.mul_assoc,show 7*(i+1)=7+7*i by omega,Nat.pow_add,show(2:Nat)^7=128 from rfl];omega
theorem Xi8:∀(l:List UInt8),U9 l<2^(7*l.length)
 |[]=>by simp[U9]
 |x::l=>by
  have:=Xi8 l;have hx:=Nat.mod_lt x.toNat (show 0<128 by omega);simp only[U9,LC];rw[show 7*(l.length+1)=7+7*l.length by omega,Nat.pow_add];omega
theorem XcD (l:List UInt8) (i:Nat):U9 (l.take i)<2^(7*i):=
 Nat.lt_of_lt_of_le (Xi8 _) (Nat.pow_le_pow_right (by omega) (by simp;omega))
def Ul (l:List UInt8):Nat->Nat
 |0=>0
 |i+1=>Ul l i|||(((l[i]?).getD 0).toNat%128)*2^(7*i)%18446744073709551616
theorem X8T (l:List UInt8):∀i,Ul l i<18446744073709551616
 |0=>by simp[Ul]
 |i+1=>by
  have:=X8T l i;exact Nat.or_lt_two_pow (n:=64) this (Nat.mod_lt _ (by omega))
theorem Xfa {a b:Nat} (h:a<2^i):a|||b*2^i=a+2^i*b:=by
 rw[Nat.or_comm,Nat.mul_comm b,<-Nat.two_pow_add_eq_or_of_lt h,Nat.add_comm]
theorem X9F (l:List UInt8):∀i,i<=9->i<=l.length->Ul l i=U9 (l.take i)
 |0,_,_=>by simp[Ul,U9]
 |i+1,h,hl=>by
  obtain⟨c,hc⟩:=Xu (l:=l) (k:=i) (by omega);have h1:=X9F l i (by omega) (by omega);have h2:=XcD l i;have h3:=Nat.mod_lt c.toNat (show 0<128 by omega);have h4:c.toNat%128*2^(7*i)<2^(7+7*i):=by rw[Nat.pow_add];exact Nat.mul_lt_mul_of_pos_right h3 (Nat.pow_pos (by omega))
  have h5:2^(7+7*i)<=2^64:=Nat.pow_le_pow_right (by omega) (by omega);simp only[Ul,hc,Option.getD_some];rw[Nat.mod_eq_of_lt (Nat.lt_of_lt_of_le h4 h5),h1,Xfa h2,X89 l i c hc]
theorem Xgl (l:List UInt8) {c:UInt8} (hc:l[9]? =some c) (h:c.toNat<=1):Ul l 10=U9 (l.take 10):=by
 have hl:=(GS.1 hc).1;have h1:=X9F l 9 (by omega) (by omega);have h2:=XcD l 9;simp only[Ul,hc,Option.getD_some] at h1 |-;rw[X89 l 9 c hc,Nat.mod_eq_of_lt (a:=c.toNat%128*2^(7*9)) (by
  have:c.toNat%128<=1:=by omega
  have:c.toNat%128*2^(7*9)<=1*2^(7*9):=Nat.mul_le_mul_right _ this;omega)]
 have:=X9F l 9 (by omega) (by omega);simp only[Ul] at this;rw[this];exact Xfa h2
def X3a:List UInt8->Prop
 |[]=>False
 |[c]=>c.toNat<128
 |b::c::m=>128<=b.toNat/\X3a (c::m)/\c::m≠[0]
theorem XeI:∀{m:List UInt8},X3a m->m≠[0]->0<U9 m
 |[c],h,hn=>by
  simp only[X3a] at h;have:c.toNat≠0:=fun e=>hn (by rw[show c=0 from UInt8.toNat_inj.1 e]);simp only[U9];omega
 |b::c::m,h,_=>by
  have:=XeI h.2.1 h.2.2;simp only[U9] at this |-;omega
theorem X1k {n:Nat} (h:n<256):(UInt8.ofNat n).toNat=n:=by simp;omega
theorem Xg1 (u:Nat):X3a (vS u)/\U9 (vS u)=u/\(vS u=[0]->u=0):=by
 induction u using Nat.strongRecOn with
 |_ u ih=>
  rw[vS];by_cases h:u<128
  ·rw[PI h];simp only[X3a,U9,X1k (show u<256 by omega)];refine⟨h,by omega,fun e=> ?_⟩;have:=CG (fun l:List UInt8=>(l.headD 1).toNat) e;simp only[headD_cons,X1k (show u<256 by omega)] at this;simpa using this
  ·rw[NI h];obtain⟨h1,h2,h3⟩:=ih (u/128) (by omega);cases hv:vS (u/128) with
   |nil=>rw[hv] at h1;exact h1.elim
   |cons c m=>
    rw[hv] at h1 h2 h3;have hb:(UInt8.ofNat (u%128+128)).toNat=u%128+128:=X1k (by omega);refine⟨⟨by rw[hb];omega,h1,fun e=>by have:=h3 e;omega⟩,?_,fun e=>by simp at e⟩;simp only[U9] at h2 |-;rw[hb];omega
theorem Xmq:∀{m:List UInt8},X3a m->vS (U9 m)=m
 |[c],h=>by
  simp only[X3a] at h;have e:U9 [c]=c.toNat:=by simp only[U9];omega
  rw[e,vS,PI h];simp
 |b::c::m,h=>by
  have h1:=Xmq h.2.1;have h2:=XeI h.2.1 h.2.2;have hb:=b.toNat_lt;have e:U9 (b::c::m)=b.toNat%128+128*U9 (c::m):=rfl;rw[e,vS,NI (by omega),show(b.toNat%128+128*U9 (c::m))/128=U9 (c::m) by omega,h1];rw[show (b.toNat%128+128*U9 (c::m))%128+128=b.toNat by have:=h.1;omega];simp
theorem Xda:∀{m:List UInt8},X3a m->big m (m.length-1)/\∃c,m[m.length-1]? =some c/\c.toNat<128/\(1<m.length->c≠0)
 |[c],h=>⟨fun j hj=>by simp at hj,c,rfl,h,fun h=>by simp at h⟩
 |b::c::m,h=>by
  obtain⟨h1,x,h2,h3,h4⟩:=Xda h.2.1;refine⟨fun j hj=> ?_,x,by simpa using h2,h3,fun _ e=> ?_⟩
  ·cases j with
   |zero=>exact⟨b,rfl,h.1⟩
   |succ j=>simpa using h1 j (by simp at hj |-;omega)
  ·by_cases hm:m=[]
   ·subst hm;simp at h2;subst h2;subst e;exact h.2.2 rfl
   ·refine h4 (by cases m with|nil=>exact absurd rfl hm|cons _ _=>simp) e
theorem Xfy:∀{m:List UInt8} (k:Nat),X3a m->U9 m<2^(7*k)->0<k->m.length<=k
 |[c],k,_,_,hk=>hk
 |b::c::m,k,h,hn,hk=>by
  have h2:=XeI h.2.1 h.2.2;cases k with
  |zero=>omega
  |succ k=>
   by_cases bY:k=0
   ·subst bY;have e:U9 (b::c::m)=b.toNat%128+128*U9 (c::m):=rfl;rw[e] at hn;have:(2:Nat)^(7*(0+1))=128:=rfl;omega
   ·have:=Xfy k h.2.1 (by
     have e:U9 (b::c::m)=b.toNat%128+128*U9 (c::m):=rfl;rw[e,show 7*(k+1)=7+7*k by omega,Nat.pow_add,show(2:Nat)^7=128 from rfl] at hn;omega) (by omega)
    simp only[LC] at this |-;omega
theorem XuD (h:X3a m) (hl:m.length=10) (hn:U9 m<18446744073709551616) (hc:m[9]? =some c):c.toNat<=1:=by
 obtain⟨_,x,hx,h128,_⟩:=Xda h;rw[hl,hc] at hx;cases hx;have:=X89 m 9 c hc;rw[take_of_length_le (by omega)] at this;have h9:(2:Nat)^(7*9)=9223372036854775808:=rfl;rw[this,h9] at hn;omega
theorem XhU {back:List UInt8} (h:X3a m) (hn:U9 m<18446744073709551616) (front:List UInt8):
  UE (front++m++back) front.length=(U9 m,(front.length:Int)+m.length,0)/\X1u (front++m++back) front.length=false:=by
 obtain⟨hb,c,hc,h128,h0⟩:=Xda h;have hlen:=Xfy 10 h (Nat.lt_of_lt_of_le hn (by decide)) (by omega);have hpos:0<m.length:=by cases m with|nil=>exact h.elim|cons _ _=>simp
 have hd:(front++m++back).drop (front.length:Int).toNat=m++back:=by rw[Int.toNat_natCast,AS,drop_left]
 have jP:(m++back)[m.length-1]? =some c:=by rw[getElem?_append_left (by omega)];exact hc
 have hm:V2 (m++back)=m.length-1:=XeA (fun j hj=>by
  obtain⟨b,h1,h2⟩:=hb j hj;exact⟨b,by rw[getElem?_append_left (by omega)];exact h1,h2⟩) jP h128 (by omega)
 constructor
 ·unfold UE;rw[NI (by simp;omega)];simp only[hd,hm];rw[NI (by omega),NI (by simp;omega),NI (by
   rintro⟨e,h1⟩;rw[jP] at h1;have:=XuD h (by omega) hn (c:=c) (by rw[<-e];exact hc);simp at h1;omega)]
  rw[show m.length-1+1=m.length by omega,take_left];refine Prod.ext rfl (Prod.ext ?_ rfl);simp only;omega
 ·unfold X1u;simp only[hd,hm,jP,Option.getD_some];by_cases h1:m.length=1
  ·simp[h1]
  ·have:=h0 (by omega);simp[this]
theorem XeV (h:UE b a=(u,e,0)) (hp:X1u b a=false):
  0<=a/\a<e/\e<=b.length/\(b.drop a.toNat).take (e-a).toNat=vS u/\u<18446744073709551616:=by
 unfold UE at h;split at h
 ·simp at h
 rename_i ha;simp only at h;split at h
 ·simp at h
 rename_i h10;split at h
 ·simp at h
 rename_i hle;split at h
 ·simp at h
 rename_i h9;simp only[Prod.mk.injEq] at h;obtain⟨rfl,rfl,_⟩:=h;generalize hl:b.drop a.toNat=l at*;have eG:big l (V2 l)/\(∀c,l[V2 l]? =some c->c.toNat<128)/\V2 l<10:=by
  have hw:∀(q:List UInt8),big q ((q.takeWhile fun b=>decide (128<=b.toNat)).length)/\∀c,q[(q.takeWhile fun b=>decide (128<=b.toNat)).length]? =some c->c.toNat<128:=by
   intro q;induction q with
   |nil=>exact⟨fun j hj=>by simp at hj,fun c hc=>by simp at hc⟩
   |cons x q ih=>
    by_cases hx:128<=x.toNat
    ·simp only[takeWhile,hx,decide_true,LC];refine⟨fun j hj=> ?_,fun c hc=>ih.2 c (by simpa using hc)⟩;cases j with
     |zero=>exact⟨x,rfl,hx⟩
     |succ j=>simpa using ih.1 j (by omega)
    ·simp only[takeWhile,hx,decide_false,length_nil];exact⟨fun j hj=>by omega,fun c hc=>by simp at hc;subst hc;omega⟩
  have h1:=hw (l.take 10);have eU:V2 l<=(l.take 10).length:=by unfold V2;exact(takeWhile_sublist _).length_le
  have hlt:V2 l<10:=by simp at eU;omega
  refine⟨fun j hj=> ?_,fun c hc=>h1.2 c (by unfold V2 at hc hlt;rw[getElem?_take_of_lt hlt];exact hc),hlt⟩;obtain⟨x,h2,h3⟩:=h1.1 j hj;rw[getElem?_take_of_lt (by omega)] at h2;exact⟨x,h2,h3⟩
 obtain⟨ga,dG,jg⟩:=eG;have bF:l.length=b.length-a.toNat:=by rw[<-hl,LD]
 obtain⟨c,hc⟩:=Xu (l:=l) (k:=V2 l) (by omega);have oG:=dG c hc;have hcan:∀(k:Nat) (q:List UInt8) (c:UInt8),big q k->q[k]? =some c->c.toNat<128->(0<k->c≠0)->X3a (q.take (k+1)):=by
  intro k;induction k with
  |zero=>
   intro q c _ hq hc _;cases q with
   |nil=>simp at hq
   |cons x q=>simp at hq;subst hq;simpa [X3a] using hc
  |succ k ih=>
   intro q c hb hq hc h0;cases q with
   |nil=>simp at hq
   |cons x q=>
    obtain⟨y,hy,jm⟩:=hb 0 (by omega);simp at hy;subst hy;have h1:=ih q c (fun j hj=>by simpa using hb (j+1) (by omega)) (by simpa using hq) hc (fun _=>h0 (by omega));rw[take_succ_cons];cases q with
    |nil=>simp at hq
    |cons z q=>
     refine⟨jm,h1,fun e=> ?_⟩;have e1:z=0:=by simpa using (cons.inj e).1
     have e2:(q.take k)=[]:=(cons.inj e).2;cases k with
     |zero=>
      simp at hq;subst hq;exact h0 (by omega) e1
     |succ k=>
      have hlt:=(GS.1 hq).1;have:=CG length e2;rw[LT,length_nil] at this;simp only[LC] at hlt;omega
 have bJ:0<V2 l->c≠0:=by
  intro h0 e;unfold X1u at hp;simp only[hl,hc,Option.getD_some] at hp;simp[h0,e] at hp
 have jT:=hcan _ _ _ ga hc oG bJ;have gX:¬(a<0)/\¬((b.length:Int)<a):=by simpa using ha
 refine⟨by omega,by omega,by omega,?_,?_⟩
 ·rw[show (a+(V2 l:Int)+1-a).toNat=V2 l+1 by omega,Xmq jT]
 ·have h1:=XcD l (V2 l);rw[X89 l _ c hc];by_cases qE:V2 l=9
  ·have:c.toNat<=1:=by
    have h2:=h9;rw[hc] at h2;simp only[qE,true_and,Option.getD_some] at h2;omega
   rw[qE] at h1 |-;have e9:(2:Nat)^(7*9)=9223372036854775808:=rfl;rw[e9] at h1 |-;omega
  ·have h2:(2:Nat)^(7*V2 l)<=2^56:=Nat.pow_le_pow_right (by omega) (by omega);have sL:(2:Nat)^56=72057594037927936:=rfl;rw[sL] at h2;have h3:=Nat.mod_lt c.toNat (show 0<128 by omega);have h4:2^(7*V2 l)*(c.toNat%128)<=72057594037927936*127:=Nat.mul_le_mul h2 (by omega);omega
theorem XtF {c:Nat} (h:c<4294967296):X35 c<4294967296:=by
 unfold X35;split
 ·exact Nat.xor_lt_two_pow (n:=32) (by omega) (by decide)
 ·omega
theorem XaT {c:Nat} (h:c<4294967296):∀k,X40 k c<4294967296
 |0=>h
 |k+1=>XtF (XaT h k)
theorem XcP {c:Nat} (h:c<4294967296) (x:UInt8):c^^^x.toNat<4294967296:=
 Nat.xor_lt_two_pow (n:=32) h (by have:=x.toNat_lt;omega)
theorem Xp2 {c:Nat} (h:c<4294967296) (x:UInt8):X96 c x<4294967296:=XaT (XcP h x) 8
theorem Xgx:∀(l:List UInt8) {c:Nat},c<4294967296->l.foldl X96 c<4294967296
 |[],c,h=>h
 |x::l,c,h=>Xgx l (Xp2 h x)
theorem X74 (l:List UInt8):XT l<4294967296:=by unfold XT;omega
theorem X3Q (l:List UInt8):(X0p l).length=4:=rfl
theorem Xng {p q:List UInt8} (l:List UInt8):X3M (p++X0p l++q) p.length=XT l:=by
 have hs:=X74 l;have g:∀i,i<4->(p++X0p l++q)[p.length+i]? =(X0p l)[i]? :=fun i hi=>by
  rw[AS,getElem?_append_right (by omega),getElem?_append_left (by rw[X3Q];omega)];congr 1;omega
 unfold X3M;rw[show p.length=p.length+0 from rfl,g 0 (by omega),show p.length+0+1=p.length+1 from rfl,g 1 (by omega),show p.length+0+2=p.length+2 from rfl,g 2 (by omega),show p.length+0+3=p.length+3 from rfl,g 3 (by omega)];simp only[X0p,getElem?_cons_zero,getElem?_cons_succ,Option.getD_some,UInt8.toNat_ofNat'];omega
theorem X2k (h:0<=n):Xl n=vS n.toNat:=by unfold Xl;rw[NI (by omega)]
theorem X7b (h:0<=n/\n<=9223372036854775807) (front back:List UInt8):
  XB (front++Xl n++back) front.length=(n,(front.length:Int)+(Xl n).length,0):=by
 obtain⟨h1,h2,_⟩:=Xg1 n.toNat;rw[X2k h.1];obtain⟨h3,h4⟩:=XhU (m:=vS n.toNat) (back:=back) h1 (by omega) front;unfold XB;rw[h3,h4,h2];simp only[ne_eq,not_true_eq_false,if_false,Bool.false_eq_true];rw[NI (by omega)];refine Prod.ext ?_ rfl;simp only;omega
theorem Xr7:zag (zig n)=n:=by
 unfold zig zag;split<;>split<;>omega
theorem Xpp:zig (zag u)=u:=by
 unfold zig zag;split<;>split<;>omega
theorem Xl8 (h: -9223372036854775808<=n/\n<=9223372036854775807):zig n<18446744073709551616:=by
 unfold zig;split<;>omega
theorem XaQ (h: -9223372036854775808<=n/\n<=9223372036854775807) (front back:List UInt8):
  YX (front++U5 n++back) front.length=(n,(front.length:Int)+(U5 n).length,0):=by
 obtain⟨h1,h2,_⟩:=Xg1 (zig n);obtain⟨h3,h4⟩:=XhU (m:=vS (zig n)) (back:=back) h1 (by rw[h2];exact Xl8 h) front;unfold YX U5;rw[h3,h4,h2];simp[Xr7]
theorem Xi0 (hs:(s.length:Int)<=9223372036854775807) (hm:(s.length:Int)<=most) (front back:List UInt8):
  X0M (front++Ym s++back) front.length most=(s,(front.length:Int)+(Ym s).length,0):=by
 have h1:=X7b (n:=s.length) ⟨by omega,hs⟩ front (s++back);have e:front++Ym s++back=front++Xl s.length++(s++back):=by simp[Ym]
 unfold X0M;rw[e,h1];simp only[ne_eq,not_true_eq_false,if_false];rw[NI (by omega),NI (by simp only[LA];omega)];have e2:((front.length:Int)+((Xl (s.length:Int)).length:Int)).toNat=(front++Xl s.length).length:=by simp only[LA];omega
 refine Prod.ext ?_ (Prod.ext ?_ rfl)
 ·simp only[e2,drop_left,Int.toNat_natCast,take_left]
 ·simp only[Ym,LA];omega
theorem X7U (hs:(s.length:Int)<=9223372036854775807) (front back:List UInt8):
  cj (front++Yn s++back) front.length=(s,(front.length:Int)+(Yn s).length,0):=by
 have h1:=X7b (n:=s.length) ⟨by omega,hs⟩ front (s++X0p s++back);have e:front++Yn s++back=front++Xl s.length++(s++X0p s++back):=by simp[Yn]
 have h4:=X3Q s;unfold cj;rw[e,h1];simp only[ne_eq,not_true_eq_false,if_false];rw[NI (by simp only[LA];omega)];have e2:((front.length:Int)+((Xl (s.length:Int)).length:Int)).toNat=(front++Xl s.length).length:=by simp only[LA];omega
 have e3:((front.length:Int)+((Xl (s.length:Int)).length:Int)+(s.length:Int)).toNat=(front++Xl s.length++s).length:=by simp only[LA];omega
 have e4:(drop (front++Xl (s.length:Int)).length (front++Xl (s.length:Int)++(s++X0p s++back))).take s.length=s:=by rw[drop_left,AS,take_left]
 have e5:X3M (front++Xl (s.length:Int)++(s++X0p s++back)) (front++Xl s.length++s).length=XT s:=by
  have:=Xng (p:=front++Xl s.length++s) (q:=back) s
  rwa [show front++Xl (s.length:Int)++s++X0p s++back=front++Xl (s.length:Int)++(s++X0p s++back) by simp] at this
 rw[e2,e3,Int.toNat_natCast,e4,e5];simp only[not_true_eq_false,if_false];refine Prod.ext rfl (Prod.ext ?_ rfl);simp only[Yn,LA,h4];omega
def only(b:List UInt8) (a e:Int) (want:List UInt8):Prop:=0<=a/\a<=e/\e<=b.length/\(b.drop a.toNat).take (e-a).toNat=want
theorem X4M (h:XB b a=(n,e,0)):only b a e (Xl n)/\0<=n/\n<=9223372036854775807/\a<e:=by
 unfold XB at h;simp only at h;split at h
 ·rename_i h0;exact absurd (CG (fun r=>r.2.2) h) h0
 rename_i h0;split at h
 ·exact absurd (CG (fun r=>r.2.2) h) (by simp)
 rename_i h1;split at h
 ·exact absurd (CG (fun r=>r.2.2) h) (by simp)
 rename_i h2;have h0:(UE b a).2.2=0:=by simpa using h0
 simp only[Prod.mk.injEq] at h;obtain⟨rfl,rfl,_⟩:=h;obtain⟨k1,k2,k3,k4,k5⟩:=XeV (b:=b) (a:=a) (e:=(UE b a).2.1) (u:=(UE b a).1) (by rw[<-h0]) (by simpa using h2);exact⟨⟨k1,by omega,k3,by rw[X2k (by omega),Int.toNat_natCast];exact k4⟩,by omega,by omega,k2⟩
theorem Xav (h:YX b a=(n,e,0)):only b a e (U5 n)/\a<e/\ -9223372036854775808<=n/\n<=9223372036854775807:=by
 unfold YX at h;simp only at h;split at h
 ·rename_i h0;exact absurd (CG (fun r=>r.2.2) h) h0
 rename_i h0;split at h
 ·exact absurd (CG (fun r=>r.2.2) h) (by simp)
 rename_i h2;have h0:(UE b a).2.2=0:=by simpa using h0
 simp only[Prod.mk.injEq] at h;obtain⟨rfl,rfl,_⟩:=h;obtain⟨k1,k2,k3,k4,k5⟩:=XeV (b:=b) (a:=a) (e:=(UE b a).2.1) (u:=(UE b a).1) (by rw[<-h0]) (by simpa using h2);refine⟨⟨k1,by omega,k3,by unfold U5;rw[Xpp];exact k4⟩,k2,?_,?_⟩<;>unfold zag<;>split<;>omega
theorem X7Q (h:X0M b a most=(s,e,0)):only b a e (Ym s)/\(s.length:Int)<=most/\a<e:=by
 unfold X0M at h;simp only at h;split at h
 ·rename_i h0;exact absurd (CG (fun r=>r.2.2) h) h0
 rename_i h0;split at h
 ·exact absurd (CG (fun r=>r.2.2) h) (by simp)
 rename_i h1;split at h
 ·exact absurd (CG (fun r=>r.2.2) h) (by simp)
 rename_i h2;have h0:(XB b a).2.2=0:=by simpa using h0
 obtain⟨⟨k1,k2,k3,k4⟩,k5,k6,k7⟩:=X4M (b:=b) (a:=a) (n:=(XB b a).1) (e:=(XB b a).2.1) (by rw[<-h0]);generalize (XB b a).1=n at*;generalize (XB b a).2.1=f at*;simp only[Prod.mk.injEq] at h;obtain⟨rfl,rfl,_⟩:=h;have hl:((b.drop f.toNat).take n.toNat).length=n.toNat:=by simp;omega
 refine⟨⟨k1,by omega,by omega,?_⟩,by omega,by omega⟩;rw[show (f+n-a).toNat=(f-a).toNat+n.toNat by omega,take_add,k4,drop_drop,show a.toNat+(f-a).toNat=f.toNat by omega];unfold Ym;rw[hl,show((n.toNat:Nat):Int)=n by omega]
theorem XmI {n:Nat} (h:n<128):vS n=[UInt8.ofNat n]:=by rw[vS,PI h]
end Go.Fw
