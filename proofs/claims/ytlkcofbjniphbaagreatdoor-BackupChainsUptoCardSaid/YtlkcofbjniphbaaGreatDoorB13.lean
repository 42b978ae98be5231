/- The codec in plain Lean: what the functions compute. -/
import Derived.Test.YtlkcofbjniphbaaGreatDoorChecked
import Derived.Test.YtlkcofbjniphbaaGreatDoorB11
set_option maxHeartbeats 8000000
namespace Go.Fw
open Go
set_option linter.unusedVariables false
inductive Val where
 |mk (kind n d:Int) (s:List UInt8) (l:List Val)
namespace Val
def kind:Val→Int|mk k _ _ _ _=>k
def n:Val→Int|mk _ n _ _ _=>n
def d:Val→Int|mk _ _ d _ _=>d
def s:Val→List UInt8|mk _ _ _ s _=>s
def l:Val→List Val|mk _ _ _ _ l=>l
end Val
abbrev Xc (b:UInt8):List D:=[.v (.int .u8 b.toNat)]
abbrev Xk (l:List UInt8):D:= .sl 1 (l.map Xc)
mutual
def U3:Val→List D
 | .mk k n d s l=>[.v (.int .i64 k),.v (.int .i64 n),.v (.int .i64 d),.v (.string (Xb s)),.sl 5 (XU l)]
def XU:List Val→List (List D)
 |[]=>[]
 |v::r=>U3 v::XU r
end
theorem X3T:∀l:List Val,XU l=l.map U3
 |[]=>by simp[XU]
 |v::r=>by simp[XU,X3T r]
theorem Y5 {α β:Type}{l:List α}{f:α→β}{k:Nat}{x:α} (h:l[k]? =some x):(l.map f)[k]? =some (f x):=by simp[h]
theorem XI {α:Type}{l:List α}{k:Nat} (h:k<l.length):∃x,l[k]? =some x:=⟨_,List.getElem?_eq_getElem h⟩
def vS (n:Nat):List UInt8:=if n<128 then [UInt8.ofNat n] else UInt8.ofNat (n%128+128)::vS (n/128)
termination_by n
decreasing_by omega
def Xm (n:Int):List UInt8:=if n<0 then [] else vS n.toNat
def zig (n:Int):Nat:=if n<0 then 2*(-(n+1)).toNat+1 else 2*n.toNat
def zag (u:Nat):Int:=if u%2=1 then-((u/2:Nat):Int)-1 else ((u/2:Nat):Int)
def YK (n:Int):List UInt8:=vS (zig n)
def XX (s:List UInt8):List UInt8:=Xm s.length++s
def YY (l:List UInt8):Nat:=((l.take 10).takeWhile fun b=>decide (128≤b.toNat)).length
def Yb:List UInt8→Nat
 |[]=>0
 |b::r=>b.toNat%128+128*Yb r
def Ye (b:List UInt8) (a:Int):Nat×Int×Int:=
 if a<0∨(b.length:Int)<a then (0,0,1) else
  let l:=b.drop a.toNat
  let n:=YY l
  if n=10 then (0,0,4) else if l.length≤n then (0,0,3) else
   if n=9∧1<((l[n]?).getD 0).toNat then (0,0,4) else (Yb (l.take (n+1)),a+n+1,0)
def V1 (b:List UInt8) (a:Int):Bool:=let l:=b.drop a.toNat;decide (0<YY l)&&decide ((l[YY l]?).getD 0=0)
def Xz (b:List UInt8) (a:Int):Int×Int×Int:=
 let r:=Ye b a
 if r.2.2≠0 then (0,0,r.2.2) else if 9223372036854775807<r.1 then (0,0,4) else if V1 b a then (0,0,2) else ((r.1:Int),r.2.1,0)
def XW (b:List UInt8) (a:Int):Int×Int×Int:=
 let r:=Ye b a
 if r.2.2≠0 then (0,0,r.2.2) else if V1 b a then (0,0,2) else (zag r.1,r.2.1,0)
def YR (b:List UInt8) (a:Int):Nat×Int×Int:=
 let r:=Ye b a
 if r.2.2≠0 then (0,0,r.2.2) else if V1 b a then (r.1,0,2) else r
def U2 (b:List UInt8) (a:Int) (most:Int):List UInt8×Int×Int:=
 let r:=Xz b a
 if r.2.2≠0 then ([],0,r.2.2) else if most<r.1 then ([],0,4) else if (b.length:Int)-r.2.1<r.1 then ([],0,3) else
  ((b.drop r.2.1.toNat).take r.1.toNat,r.2.1+r.1,0)
def X1G (c:Nat):Nat:=if c%2=1 then (c/2)^^^3988292384 else c/2
def X2c:Nat→Nat→Nat
 |0,c=>c
 |k+1,c=>X1G (X2c k c)
def X6C (c:Nat) (x:UInt8):Nat:=X2c 8 (c^^^x.toNat)
def X3m (l:List UInt8):Nat:=l.foldl X6C 4294967295
def YE (l:List UInt8):Nat:=4294967295-X3m l
def Vq (l:List UInt8):List UInt8:=let c:=YE l;[UInt8.ofNat (c%256),UInt8.ofNat (c/256%256),UInt8.ofNat (c/65536%256),UInt8.ofNat (c/16777216)]
def YM (b:List UInt8):List UInt8:=Xm b.length++b++Vq b
def X0s (b:List UInt8) (k:Nat):Nat:=((b[k]?).getD 0).toNat+256*((b[k+1]?).getD 0).toNat+65536*((b[k+2]?).getD 0).toNat+16777216*((b[k+3]?).getD 0).toNat
def UZ (b:List UInt8) (a:Int):List UInt8×Int×Int:=
 let r:=Xz b a
 if r.2.2≠0 then ([],0,r.2.2) else if (b.length:Int)-r.2.1<4∨(b.length:Int)-r.2.1-4<r.1 then ([],0,3) else
  let body:=(b.drop r.2.1.toNat).take r.1.toNat
  if X0s b (r.2.1+r.1).toNat≠YE body then ([],0,21) else (body,r.2.1+r.1+4,0)
def X0z (n d:Int):Bool:=decide (1≤d∧d≤1000000000000000∧ -1000000000000000≤n∧n≤1000000000000000)&&decide (Nat.gcd n.natAbs d.natAbs=1)
def X0q (s:List UInt8):Bool:=s.all fun b=>decide (32≤b.toNat∧b.toNat≤126)
mutual
def Xe:Nat→Val→Bool
 |m,.mk k n d s l=>
  (k==3||d==0)&&(k==4||decide (s.length=0))&&(k==7||k==8||decide (l.length=0))&&
  (if k=0 then decide (n=0) else if k=1 then decide (n=0∨n=1) else if k=2 then decide (-1000000000000000≤n∧n≤1000000000000000)
   else if k=3 then decide (2≤d)&&X0z n d else if k=4 then decide (n=0∧s.length≤100)&&X0q s
   else if k=5∨k=6 then decide (1≤n∧n≤1000000) else if k=7 then decide (n=0∧l.length%2=1∧l.length≤25)&&Vg 0 l
   else if k=8 then decide (n=0∧l.length≤64∧1≤m)&&Vy (m-1) l else false)
def Vy:Nat→List Val→Bool
 |m,[]=>true
 |m,v::r=>Xe m v&&Vy m r
def Vg:Nat→List Val→Bool
 |i,[]=>true
 |i,v::r=>decide (v.kind=5+(i%2:Nat))&&Xe 0 v&&Vg (i+1) r
end
mutual
def Y3:Val→List UInt8
 | .mk k n d s l=>UInt8.ofNat k.toNat::(if k=1∨k=2∨k=5∨k=6 then YK n else if k=3 then YK n++YK d else if k=4 then XX s
   else if k=7∨k=8 then Xm l.length++YF l else [])
def YF:List Val→List UInt8
 |[]=>[]
 |v::r=>Y3 v++YF r
end
def YN (v:Val):List UInt8:=if Xe 8 v then Y3 v else []
structure Chg where
 op:Int
 id:Int
 src:Int
 dst:Int
 name:List UInt8
 v:Val
structure Rul where
 kind:Int
 n:Int
 name:List UInt8
 key:List UInt8
 src:List UInt8
 dst:List UInt8
def X16 (c:UInt8):Bool:=decide ((97≤c.toNat∧c.toNat≤122)∨(65≤c.toNat∧c.toNat≤90))
def UI (c:UInt8):Bool:=X16 c||decide ((48≤c.toNat∧c.toNat≤57)∨c.toNat=95)
def XZ (s:List UInt8):Bool:=decide (1≤s.length∧s.length≤20)&&X16 ((s[0]?).getD 0)&&s.all UI
def Um (v:Val):Bool:=Xe 8 v&&decide (v.kind=0)
def X5U (b:Bool) (k:Int):Bool:=decide (k=1∨k=2∨k=4)&&b
def U5 (v:Val):Bool:=X5U (Xe 8 v) v.kind
def idV (n:Int):Bool:=decide (1≤n∧n≤1000000)
def Yo (op:Int):Bool:=decide (op=3∨op=4∨op=5∨op=6∨op=8)
def Yi (op:Int):Bool:=decide (op=5∨op=8)
def YJ (c:Chg):Int:=
 if decide (1≤c.op∧c.op≤8)=false∨idV c.id=false then 1
 else if (c.op=6∧(idV c.src=false∨idV c.dst=false))∨(c.op≠6∧(c.src≠0∨c.dst≠0)) then 1
 else if (Yo c.op=false∧c.name≠[])∨(Yi c.op=false∧Um c.v=false) then 1
 else if Yo c.op=true∧XZ c.name=false then 6
 else if Yi c.op=true∧Um c.v=false∧U5 c.v=false then 8 else 0
def Xn2 (r:Rul):Bool:=if r.kind=3∨r.kind=5 then decide (r.n=1∨r.n=2∨r.n=4) else if r.kind=7 then decide (0≤r.n∧r.n≤4000) else decide (r.n=0)
def X3F (k:Int):Bool:=decide (1≤k∧k≤5)
def X05 (r:Rul):Int:=
 if decide (1≤r.kind∧r.kind≤7)=false∨Xn2 r=false then 1
 else if (X3F r.kind=false∧r.key≠[])∨(r.kind≠6∧(r.src≠[]∨r.dst≠[])) then 1
 else if XZ r.name=false∨(X3F r.kind=true∧XZ r.key=false)∨(r.src≠[]∧XZ r.src=false)∨(r.dst≠[]∧XZ r.dst=false) then 6 else 0
def YP (c:Chg):List UInt8:=
 UInt8.ofNat c.op.toNat::(Xm c.id++(if c.op=6 then Xm c.src++Xm c.dst else [])++(if Yo c.op=true then XX c.name else [])++(if Yi c.op=true then YN c.v else []))
def X1q (r:Rul):List UInt8:=UInt8.ofNat r.kind.toNat::(XX r.name++XX r.key++XX r.src++XX r.dst++YK r.n)
def UG (r:Rul):List UInt8:=if X05 r=0 then X1q r else []
abbrev zR:Rul:=⟨0,0,[],[],[],[]⟩
structure Prp where
 key:List UInt8
 v:Val
structure Nod where
 id:Int
 labels:List (List UInt8)
 props:List Prp
structure Edg where
 id:Int
 src:Int
 dst:Int
 typ:List UInt8
 props:List Prp
structure Gra where
 nodes:List Nod
 edges:List Edg
 nn:Int
 ne:Int
def Xl (s:List UInt8):List D:=[.v (.string (Xb s))]
def Xh (p:Prp):List D:= .v (.string (Xb p.key))::U3 p.v
def Xp (n:Nod):List D:=[.v (.int .i64 n.id),.sl 1 (n.labels.map Xl),.sl 6 (n.props.map Xh)]
def Xs (e:Edg):List D:=[.v (.int .i64 e.id),.v (.int .i64 e.src),.v (.int .i64 e.dst),.v (.string (Xb e.typ)),.sl 6 (e.props.map Xh)]
def XG (g:Gra):AVal:= .agg [.d (.sl 3 (g.nodes.map Xp)),.d (.sl 5 (g.edges.map Xs)),ai g.nn,ai g.ne]
abbrev YL:Gra:=⟨[],[],0,0⟩
def UF:List (List UInt8)→Bool
 |a::b::r=> !(Op.bytesLess b a||decide (b=a))&&UF (b::r)
 |_=>true
def V2 (ls:List (List UInt8)) (ps:List Prp):Int:=
 if 8<ls.length∨16<ps.length then 4
 else if ls.all XZ=false∨(ps.map Prp.key).all XZ=false then 6
 else if UF ls=false∨UF (ps.map Prp.key)=false then 26
 else if (ps.map Prp.v).all U5=false then 8 else 0
def VL (nn:Int) (prev:Option Nod) (n:Nod):Int:=
 if (∃p,prev=some p∧n.id≤p.id) then 26 else if n.id<1∨nn≤n.id then 1 else V2 n.labels n.props
def V9 (nn:Int):Option Nod→List Nod→Int
 |_,[]=>0
 |p,n::r=>if VL nn p n≠0 then VL nn p n else V9 nn (some n) r
def U4 (l:List Nod) (n:Int):Bool:=l.any fun x=>decide (x.id=n)
def X0m (ns:List Nod) (ne:Int) (prev:Option Edg) (e:Edg):Int:=
 if (∃p,prev=some p∧e.id≤p.id) then 26 else if e.id<1∨ne≤e.id then 1
 else if U4 ns e.src=false∨U4 ns e.dst=false then 10 else if XZ e.typ=false then 6 else V2 [] e.props
def X0c (ns:List Nod) (ne:Int):Option Edg→List Edg→Int
 |_,[]=>0
 |p,n::r=>if X0m ns ne p n≠0 then X0m ns ne p n else X0c ns ne (some n) r
def YH (g:Gra):Int:=
 if 2000<g.nodes.length∨4000<g.edges.length then 4
 else if g.nn<1∨1000001<g.nn∨g.ne<1∨1000001<g.ne then 1
 else if V9 g.nn none g.nodes≠0 then V9 g.nn none g.nodes else X0c g.nodes g.ne none g.edges
def Uo {α:Type} (l:List α) (i:Nat):Option α:=if i=0 then none else l[i-1]?
theorem X4I {α:Type}{l:List α}{i:Nat}:Uo l (i+1)=l[i]? :=by simp[Uo]
theorem XdN {nn:Int}{l:List Nod}{i:Nat}{n:Nod} (h:l[i]? =some n):
  V9 nn (Uo l i) (l.drop i)=if VL nn (Uo l i) n≠0 then VL nn (Uo l i) n else V9 nn (Uo l (i+1)) (l.drop (i+1)):=by
 obtain⟨hi,h⟩:=List.getElem?_eq_some_iff.1 h
 rw[List.drop_eq_getElem_cons hi,h,V9,X4I,List.getElem?_eq_getElem hi,h]
theorem XeZ {ns:List Nod}{ne:Int}{l:List Edg}{i:Nat}{n:Edg} (h:l[i]? =some n):
  X0c ns ne (Uo l i) (l.drop i)=if X0m ns ne (Uo l i) n≠0 then X0m ns ne (Uo l i) n else X0c ns ne (Uo l (i+1)) (l.drop (i+1)):=by
 obtain⟨hi,h⟩:=List.getElem?_eq_some_iff.1 h
 rw[List.drop_eq_getElem_cons hi,h,X0c,X4I,List.getElem?_eq_getElem hi,h]
def X81 (l:List Nod):Prop:=∀(i j:Nat) (a b:Nod),l[i]? =some a→l[j]? =some b→i<j→a.id<b.id
theorem XfE {nn:Int}:∀(l:List Nod) (p:Option Nod),V9 nn p l=0→(∀a b,p=some a→b∈l→a.id<b.id)∧X81 l
 |[],p,_=>⟨by simp,by intro i j a b h;simp at h⟩
 |x::r,p,h=>by
  rw[V9] at h
  have h0:VL nn p x=0:=by
   by_cases h0:VL nn p x=0
   ·exact h0
   ·rw[if_pos h0] at h;exact absurd h h0
  rw[h0,if_neg (by simp)] at h
  obtain⟨h1,h2⟩:=XfE r (some x) h
  have hp:∀a,p=some a→a.id<x.id:=by
   intro a ha
   unfold VL at h0
   by_cases q:∃p',p=some p'∧x.id≤p'.id
   ·rw[if_pos q] at h0;simp at h0
   ·refine Int.lt_of_not_ge fun hc=>q ⟨a,ha,hc⟩
  refine⟨fun a b ha hb=> ?_,fun i j a b hi hj hij=> ?_⟩
  ·rcases List.mem_cons.1 hb with rfl|hb
   ·exact hp a ha
   ·exact Int.lt_trans (hp a ha) (h1 x b rfl hb)
  ·cases j with
   |zero=>omega
   |succ j=>
    cases i with
    |zero=>
     simp only[List.getElem?_cons_zero,Option.some.injEq] at hi
     subst hi
     exact h1 x b rfl (List.mem_of_getElem? (by simpa using hj))
    |succ i=>exact h2 i j a b (by simpa using hi) (by simpa using hj) (by omega)
def X7w (l:List Nod) (n:Int):Nat:=(l.takeWhile fun x=>decide (x.id<n)).length
theorem XbF {α:Type}{p:α→Bool}:∀{l:List α}{i:Nat},i≤l.length→(∀k x,k<i→l[k]? =some x→p x=true)→(∀x,l[i]? =some x→p x=false)→(l.takeWhile p).length=i
 |[],i,h,_,_=>by simp at h;simp[h]
 |x::r,0,_,_,h=>by rw[List.takeWhile_cons_of_neg (by simp[h x (by simp)])];rfl
 |x::r,i+1,h,h1,h2=>by
  rw[List.takeWhile_cons_of_pos (h1 0 x (by omega) (by simp)),List.length_cons,XbF (i:=i) (by simpa using h) (fun k y hk hy=>h1 (k+1) y (by omega) (by simpa using hy)) (fun y hy=>h2 y (by simpa using hy))]
theorem Xmj {l:List Nod}{n:Int}{i:Nat} (h:i≤l.length) (h1:∀k x,k<i→l[k]? =some x→x.id<n) (h2:∀x,l[i]? =some x→¬x.id<n):X7w l n=i:=
 XbF h (fun k x hk hx=>by simpa using h1 k x hk hx) (fun x hx=>by simpa using h2 x hx)
theorem XlQ {l:List Nod}{n:Int}{i:Nat} (hr:X81 l) (h1:∀k x,k<i→l[k]? =some x→x.id<n) (h2:∀k x,i≤k→l[k]? =some x→n≤x.id):U4 l n=decide (∃x,l[i]? =some x∧x.id=n):=by
 rw[Bool.eq_iff_iff]
 simp only[U4,List.any_eq_true,decide_eq_true_eq]
 constructor
 ·rintro⟨x,hx,e⟩
  obtain⟨k,hk⟩:=List.getElem?_of_mem hx
  have hki:i≤k:=by
   by_cases q:k<i
   ·have:=h1 k x q hk;omega
   ·omega
  have hi:i<l.length:=by have:=(List.getElem?_eq_some_iff.1 hk).1;omega
  refine⟨l[i],List.getElem?_eq_getElem hi,?_⟩
  have a:=h2 i l[i] (Nat.le_refl _) (List.getElem?_eq_getElem hi)
  by_cases q:i=k
  ·subst q
   rw[List.getElem?_eq_getElem hi] at hk
   injection hk with hk
   rw[hk];exact e
  ·have:=hr i k l[i] x (List.getElem?_eq_getElem hi) hk (by omega)
   omega
 ·rintro⟨x,hx,e⟩
  exact⟨x,List.mem_of_getElem? hx,e⟩
def Uy (s t:List UInt8):Int:=if Op.bytesLess s t=true then-1 else if s=t then 0 else 1
def X29 (a b:Rul):Int:=
 if a.kind<b.kind then-1 else if b.kind<a.kind then 1 else if Uy a.name b.name≠0 then Uy a.name b.name else if Uy a.key b.key≠0 then Uy a.key b.key
 else if a.n<b.n then-1 else if b.n<a.n then 1 else if Uy a.src b.src≠0 then Uy a.src b.src else Uy a.dst b.dst
def X2s:Option Rul→List Rul→Bool
 |_,[]=>true
 |p,r::l=>decide (X05 r=0∧∀q,p=some q→X29 q r<0)&&X2s (some r) l
def X1k (l:List Rul):Bool:=X2s none l&&decide (l.length≤40)
theorem X86 {α:Type}{p:α→Bool}:∀(l:List α) (i:Nat),(∀j,j<i→∃b,l[j]? =some b∧p b=true)→(∀b,l[i]? =some b→p b=false)→(l.takeWhile p).length=i
 |[],0,_,_=>rfl
 |[],i+1,h,_=>by obtain⟨b,hb,_⟩:=h 0 (by omega);simp at hb
 |x::l,0,_,h=>by have:=h x (by simp);simp[List.takeWhile,this]
 |x::l,i+1,h,k=>by
  obtain⟨b,hb,hp⟩:=h 0 (by omega)
  simp at hb;subst hb
  simp only[List.takeWhile,hp,List.length_cons]
  rw[X86 l i (fun j hj=>by simpa using h (j+1) (by omega)) (fun b hb=>k b (by simpa using hb))]
def big (l:List UInt8) (i:Nat):Prop:=∀j,j<i→∃b,l[j]? =some b∧128≤b.toNat
theorem X8r {l:List UInt8}{i:Nat}{c:UInt8} (h:big l i) (hc:l[i]? =some c) (hlt:c.toNat<128) (hi:i<10):YY l=i:=by
 refine X86 _ _ (fun j hj=> ?_) (fun b hb=> ?_)
 ·obtain⟨b,h1,h2⟩:=h j hj
  exact⟨b,by rw[List.getElem?_take_of_lt (by omega)];exact h1,by simpa using h2⟩
 ·rw[List.getElem?_take_of_lt hi,hc] at hb
  cases hb;simpa using hlt
theorem X7r {l:List UInt8}{i:Nat} (h:big l i) (hi:i=min 10 l.length):YY l=i:=by
 refine X86 _ _ (fun j hj=> ?_) (fun b hb=> ?_)
 ·obtain⟨b,h1,h2⟩:=h j hj
  exact⟨b,by rw[List.getElem?_take_of_lt (by omega)];exact h1,by simpa using h2⟩
 ·exfalso
  have:=(List.getElem?_eq_some_iff.1 hb).1
  simp at this;omega
theorem Xb3 {l:List UInt8}{i:Nat}{c:UInt8} (h:big l i) (hc:l[i]? =some c) (h128:128≤c.toNat):big l (i+1):=fun j hj=>by
 by_cases e:j=i
 ·subst e;exact⟨c,hc,h128⟩
 ·exact h j (by omega)
theorem X4z:∀(l:List UInt8) (i:Nat) (c:UInt8),l[i]? =some c→Yb (l.take (i+1))=Yb (l.take i)+2^(7*i)*(c.toNat%128)
 |[],_,_,h=>by simp at h
 |x::l,0,c,h=>by simp at h;subst h;simp[Yb]
 |x::l,i+1,c,h=>by
  have:=X4z l i c (by simpa using h)
  simp only[List.take_succ_cons,Yb,this]
  rw[Nat.mul_add,←Nat.mul_assoc,show 7*(i+1)=7+7*i by omega,Nat.pow_add,show(2:Nat)^7=128 from rfl]
  omega
theorem Xh4:∀(l:List UInt8),Yb l<2^(7*l.length)
 |[]=>by simp[Yb]
 |x::l=>by
  have:=Xh4 l
  have hx:=Nat.mod_lt x.toNat (show 0<128 by omega)
  simp only[Yb,List.length_cons]
  rw[show 7*(l.length+1)=7+7*l.length by omega,Nat.pow_add]
  omega
theorem X6V (l:List UInt8) (i:Nat):Yb (l.take i)<2^(7*i):=
 Nat.lt_of_lt_of_le (Xh4 _) (Nat.pow_le_pow_right (by omega) (by simp;omega))
def YT (l:List UInt8):Nat→Nat
 |0=>0
 |i+1=>YT l i|||(((l[i]?).getD 0).toNat%128)*2^(7*i)%18446744073709551616
theorem X6n (l:List UInt8):∀i,YT l i<18446744073709551616
 |0=>by simp[YT]
 |i+1=>by
  have:=X6n l i
  exact Nat.or_lt_two_pow (n:=64) this (Nat.mod_lt _ (by omega))
theorem Xc2 {a b i:Nat} (h:a<2^i):a|||b*2^i=a+2^i*b:=by
 rw[Nat.or_comm,Nat.mul_comm b,←Nat.two_pow_add_eq_or_of_lt h,Nat.add_comm]
theorem X6G (l:List UInt8):∀i,i≤9→i≤l.length→YT l i=Yb (l.take i)
 |0,_,_=>by simp[YT,Yb]
 |i+1,h,hl=>by
  obtain⟨c,hc⟩:=XI (l:=l) (k:=i) (by omega)
  have h1:=X6G l i (by omega) (by omega)
  have h2:=X6V l i
  have h3:=Nat.mod_lt c.toNat (show 0<128 by omega)
  have h4:c.toNat%128*2^(7*i)<2^(7+7*i):=by rw[Nat.pow_add];exact Nat.mul_lt_mul_of_pos_right h3 (Nat.pow_pos (by omega))
  have h5:2^(7+7*i)≤2^64:=Nat.pow_le_pow_right (by omega) (by omega)
  simp only[YT,hc,Option.getD_some]
  rw[Nat.mod_eq_of_lt (Nat.lt_of_lt_of_le h4 h5),h1,Xc2 h2,X4z l i c hc]
theorem XeL (l:List UInt8) {c:UInt8} (hc:l[9]? =some c) (h:c.toNat≤1):YT l 10=Yb (l.take 10):=by
 have hl:=(List.getElem?_eq_some_iff.1 hc).1
 have h1:=X6G l 9 (by omega) (by omega)
 have h2:=X6V l 9
 simp only[YT,hc,Option.getD_some] at h1 ⊢
 rw[X4z l 9 c hc,Nat.mod_eq_of_lt (a:=c.toNat%128*2^(7*9)) (by
  have:c.toNat%128≤1:=by omega
  have:c.toNat%128*2^(7*9)≤1*2^(7*9):=Nat.mul_le_mul_right _ this
  omega)]
 have:=X6G l 9 (by omega) (by omega)
 simp only[YT] at this
 rw[this]
 exact Xc2 h2
def X1r:List UInt8→Prop
 |[]=>False
 |[c]=>c.toNat<128
 |b::c::m=>128≤b.toNat∧X1r (c::m)∧c::m≠[0]
theorem X9r:∀{m:List UInt8},X1r m→m≠[0]→0<Yb m
 |[c],h,hn=>by
  simp only[X1r] at h
  have:c.toNat≠0:=fun e=>hn (by rw[show c=0 from UInt8.toNat_inj.1 e])
  simp only[Yb];omega
 |b::c::m,h,_=>by
  have:=X9r h.2.1 h.2.2
  simp only[Yb] at this ⊢;omega
theorem X0k {n:Nat} (h:n<256):(UInt8.ofNat n).toNat=n:=by simp;omega
theorem XcG (u:Nat):X1r (vS u)∧Yb (vS u)=u∧(vS u=[0]→u=0):=by
 induction u using Nat.strongRecOn with
 |_ u ih=>
  rw[vS]
  by_cases h:u<128
  ·rw[if_pos h]
   simp only[X1r,Yb,X0k (show u<256 by omega)]
   refine⟨h,by omega,fun e=> ?_⟩
   have:=congrArg (fun l:List UInt8=>(l.headD 1).toNat) e
   simp only[List.headD_cons,X0k (show u<256 by omega)] at this
   simpa using this
  ·rw[if_neg h]
   obtain⟨h1,h2,h3⟩:=ih (u/128) (by omega)
   cases hv:vS (u/128) with
   |nil=>rw[hv] at h1;exact h1.elim
   |cons c m=>
    rw[hv] at h1 h2 h3
    have hb:(UInt8.ofNat (u%128+128)).toNat=u%128+128:=X0k (by omega)
    refine⟨⟨by rw[hb];omega,h1,fun e=>by have:=h3 e;omega⟩,?_,fun e=>by simp at e⟩
    simp only[Yb] at h2 ⊢
    rw[hb];omega
theorem XdJ:∀{m:List UInt8},X1r m→vS (Yb m)=m
 |[c],h=>by
  simp only[X1r] at h
  have e:Yb [c]=c.toNat:=by simp only[Yb];omega
  rw[e,vS,if_pos h];simp
 |b::c::m,h=>by
  have h1:=XdJ h.2.1
  have h2:=X9r h.2.1 h.2.2
  have hb:=b.toNat_lt
  have e:Yb (b::c::m)=b.toNat%128+128*Yb (c::m):=rfl
  rw[e,vS,if_neg (by omega),show(b.toNat%128+128*Yb (c::m))/128=Yb (c::m) by omega,h1]
  rw[show (b.toNat%128+128*Yb (c::m))%128+128=b.toNat by have:=h.1;omega]
  simp
theorem Xbq:∀{m:List UInt8} (k:Nat),X1r m→Yb m<2^(7*k)→0<k→m.length≤k
 |[c],k,_,_,hk=>hk
 |b::c::m,k,h,hn,hk=>by
  have h2:=X9r h.2.1 h.2.2
  cases k with
  |zero=>omega
  |succ k=>
   by_cases hk0:k=0
   ·subst hk0
    have e:Yb (b::c::m)=b.toNat%128+128*Yb (c::m):=rfl
    rw[e] at hn
    have:(2:Nat)^(7*(0+1))=128:=rfl
    omega
   ·have:=Xbq k h.2.1 (by
     have e:Yb (b::c::m)=b.toNat%128+128*Yb (c::m):=rfl
     rw[e,show 7*(k+1)=7+7*k by omega,Nat.pow_add,show(2:Nat)^7=128 from rfl] at hn
     omega) (by omega)
    simp only[List.length_cons] at this ⊢;omega
theorem XbN {b:List UInt8}{a e:Int}{u:Nat} (h:Ye b a=(u,e,0)) (hp:V1 b a=false):
  0≤a∧a<e∧e≤b.length∧(b.drop a.toNat).take (e-a).toNat=vS u∧u<18446744073709551616:=by
 unfold Ye at h
 split at h
 ·simp at h
 rename_i ha
 simp only at h
 split at h
 ·simp at h
 rename_i h10
 split at h
 ·simp at h
 rename_i hle
 split at h
 ·simp at h
 rename_i h9
 simp only[Prod.mk.injEq] at h
 obtain⟨rfl,rfl,_⟩:=h
 generalize hl:b.drop a.toNat=l at*
 have hbig:big l (YY l)∧(∀c,l[YY l]? =some c→c.toNat<128)∧YY l<10:=by
  have hw:∀(q:List UInt8),big q ((q.takeWhile fun b=>decide (128≤b.toNat)).length)∧∀c,q[(q.takeWhile fun b=>decide (128≤b.toNat)).length]? =some c→c.toNat<128:=by
   intro q
   induction q with
   |nil=>exact⟨fun j hj=>by simp at hj,fun c hc=>by simp at hc⟩
   |cons x q ih=>
    by_cases hx:128≤x.toNat
    ·simp only[List.takeWhile,hx,decide_true,List.length_cons]
     refine⟨fun j hj=> ?_,fun c hc=>ih.2 c (by simpa using hc)⟩
     cases j with
     |zero=>exact⟨x,rfl,hx⟩
     |succ j=>simpa using ih.1 j (by omega)
    ·simp only[List.takeWhile,hx,decide_false,List.length_nil]
     exact⟨fun j hj=>by omega,fun c hc=>by simp at hc;subst hc;omega⟩
  have h1:=hw (l.take 10)
  have hmore:YY l≤(l.take 10).length:=by unfold YY;exact(List.takeWhile_sublist _).length_le
  have hlt:YY l<10:=by simp at hmore;omega
  refine⟨fun j hj=> ?_,fun c hc=>h1.2 c (by unfold YY at hc hlt;rw[List.getElem?_take_of_lt hlt];exact hc),hlt⟩
  obtain⟨x,h2,h3⟩:=h1.1 j hj
  rw[List.getElem?_take_of_lt (by omega)] at h2
  exact⟨x,h2,h3⟩
 obtain⟨hb1,hb2,hb3⟩:=hbig
 have hll:l.length=b.length-a.toNat:=by rw[←hl,List.length_drop]
 obtain⟨c,hc⟩:=XI (l:=l) (k:=YY l) (by omega)
 have hc128:=hb2 c hc
 have hcan:∀(k:Nat) (q:List UInt8) (c:UInt8),big q k→q[k]? =some c→c.toNat<128→(0<k→c≠0)→X1r (q.take (k+1)):=by
  intro k
  induction k with
  |zero=>
   intro q c _ hq hc _
   cases q with
   |nil=>simp at hq
   |cons x q=>simp at hq;subst hq;simpa [X1r] using hc
  |succ k ih=>
   intro q c hb hq hc h0
   cases q with
   |nil=>simp at hq
   |cons x q=>
    obtain⟨y,hy,hy2⟩:=hb 0 (by omega)
    simp at hy;subst hy
    have h1:=ih q c (fun j hj=>by simpa using hb (j+1) (by omega)) (by simpa using hq) hc (fun _=>h0 (by omega))
    rw[List.take_succ_cons]
    cases q with
    |nil=>simp at hq
    |cons z q=>
     refine⟨hy2,h1,fun e=> ?_⟩
     have e1:z=0:=by simpa using (List.cons.inj e).1
     have e2:(q.take k)=[]:=(List.cons.inj e).2
     cases k with
     |zero=>
      simp at hq;subst hq
      exact h0 (by omega) e1
     |succ k=>
      have hlt:=(List.getElem?_eq_some_iff.1 hq).1
      have:=congrArg List.length e2
      rw[List.length_take,List.length_nil] at this
      simp only[List.length_cons] at hlt
      omega
 have hpad:0<YY l→c≠0:=by
  intro h0 e
  unfold V1 at hp
  simp only[hl,hc,Option.getD_some] at hp
  simp[h0,e] at hp
 have hcn:=hcan _ _ _ hb1 hc hc128 hpad
 have ha':¬(a<0)∧¬((b.length:Int)<a):=by simpa using ha
 refine⟨by omega,by omega,by omega,?_,?_⟩
 ·rw[show (a+(YY l:Int)+1-a).toNat=YY l+1 by omega,XdJ hcn]
 ·have h1:=X6V l (YY l)
  rw[X4z l _ c hc]
  by_cases hm9:YY l=9
  ·have:c.toNat≤1:=by
    have h2:=h9
    rw[hc] at h2
    simp only[hm9,true_and,Option.getD_some] at h2;omega
   rw[hm9] at h1 ⊢
   have e9:(2:Nat)^(7*9)=9223372036854775808:=rfl
   rw[e9] at h1 ⊢
   omega
  ·have h2:(2:Nat)^(7*YY l)≤2^56:=Nat.pow_le_pow_right (by omega) (by omega)
   have e56:(2:Nat)^56=72057594037927936:=rfl
   rw[e56] at h2
   have h3:=Nat.mod_lt c.toNat (show 0<128 by omega)
   have h4:2^(7*YY l)*(c.toNat%128)≤72057594037927936*127:=Nat.mul_le_mul h2 (by omega)
   omega
theorem XnF {c:Nat} (h:c<4294967296):X1G c<4294967296:=by
 unfold X1G
 split
 ·exact Nat.xor_lt_two_pow (n:=32) (by omega) (by decide)
 ·omega
theorem X8c {c:Nat} (h:c<4294967296):∀k,X2c k c<4294967296
 |0=>h
 |k+1=>XnF (X8c h k)
theorem X9q {c:Nat} (h:c<4294967296) (x:UInt8):c^^^x.toNat<4294967296:=
 Nat.xor_lt_two_pow (n:=32) h (by have:=x.toNat_lt;omega)
theorem XrM {c:Nat} (h:c<4294967296) (x:UInt8):X6C c x<4294967296:=X8c (X9q h x) 8
theorem Xda:∀(l:List UInt8) {c:Nat},c<4294967296→l.foldl X6C c<4294967296
 |[],c,h=>h
 |x::l,c,h=>Xda l (XrM h x)
theorem X49 (l:List UInt8):YE l<4294967296:=by unfold YE;omega
theorem X2W (l:List UInt8):(Vq l).length=4:=rfl
theorem XhN {p q:List UInt8} (l:List UInt8):X0s (p++Vq l++q) p.length=YE l:=by
 have hs:=X49 l
 have g:∀i,i<4→(p++Vq l++q)[p.length+i]? =(Vq l)[i]? :=fun i hi=>by
  rw[List.append_assoc,List.getElem?_append_right (by omega),List.getElem?_append_left (by rw[X2W];omega)]
  congr 1;omega
 unfold X0s
 rw[show p.length=p.length+0 from rfl,g 0 (by omega),show p.length+0+1=p.length+1 from rfl,g 1 (by omega),show p.length+0+2=p.length+2 from rfl,g 2 (by omega),show p.length+0+3=p.length+3 from rfl,g 3 (by omega)]
 simp only[Vq,List.getElem?_cons_zero,List.getElem?_cons_succ,Option.getD_some,UInt8.toNat_ofNat']
 omega
theorem XpB {a b c d a' b' c' d':UInt8} (h:a.toNat+256*b.toNat+65536*c.toNat+16777216*d.toNat=a'.toNat+256*b'.toNat+65536*c'.toNat+16777216*d'.toNat):a=a'∧b=b'∧c=c'∧d=d':=by
 have h1:=a.toNat_lt;have h2:=b.toNat_lt;have h3:=c.toNat_lt;have h4:=d.toNat_lt
 have h5:=a'.toNat_lt;have h6:=b'.toNat_lt;have h7:=c'.toNat_lt;have h8:=d'.toNat_lt
 refine⟨UInt8.toNat_inj.1 ?_,UInt8.toNat_inj.1 ?_,UInt8.toNat_inj.1 ?_,UInt8.toNat_inj.1 ?_⟩<;>omega
theorem X1j {n:Int} (h:0≤n):Xm n=vS n.toNat:=by unfold Xm;rw[if_neg (by omega)]
theorem Xjo {u:Nat}:zig (zag u)=u:=by
 unfold zig zag
 split<;>split<;>omega
theorem XgS {n:Int} (h: -9223372036854775808≤n∧n≤9223372036854775807):zig n<18446744073709551616:=by
 unfold zig;split<;>omega
def only(b:List UInt8) (a e:Int) (want:List UInt8):Prop:=0≤a∧a≤e∧e≤b.length∧(b.drop a.toNat).take (e-a).toNat=want
theorem X3r {b:List UInt8}{a n e:Int} (h:Xz b a=(n,e,0)):only b a e (Xm n)∧0≤n∧n≤9223372036854775807∧a<e:=by
 unfold Xz at h
 simp only at h
 split at h
 ·rename_i h0;exact absurd (congrArg (fun r=>r.2.2) h) h0
 rename_i h0
 split at h
 ·exact Qa
 rename_i h1
 split at h
 ·exact Qa
 rename_i h2
 have h0:(Ye b a).2.2=0:=by simpa using h0
 simp only[Prod.mk.injEq] at h
 obtain⟨rfl,rfl,_⟩:=h
 obtain⟨k1,k2,k3,k4,k5⟩:=XbN (b:=b) (a:=a) (e:=(Ye b a).2.1) (u:=(Ye b a).1) (by rw[←h0]) (by simpa using h2)
 exact⟨⟨k1,by omega,k3,by rw[X1j (by omega),Int.toNat_natCast];exact k4⟩,by omega,by omega,k2⟩
theorem X83 {b:List UInt8}{a n e:Int} (h:XW b a=(n,e,0)):only b a e (YK n)∧a<e∧ -9223372036854775808≤n∧n≤9223372036854775807:=by
 unfold XW at h
 simp only at h
 split at h
 ·rename_i h0;exact absurd (congrArg (fun r=>r.2.2) h) h0
 rename_i h0
 split at h
 ·exact Qa
 rename_i h2
 have h0:(Ye b a).2.2=0:=by simpa using h0
 simp only[Prod.mk.injEq] at h
 obtain⟨rfl,rfl,_⟩:=h
 obtain⟨k1,k2,k3,k4,k5⟩:=XbN (b:=b) (a:=a) (e:=(Ye b a).2.1) (u:=(Ye b a).1) (by rw[←h0]) (by simpa using h2)
 refine⟨⟨k1,by omega,k3,by unfold YK;rw[Xjo];exact k4⟩,k2,?_,?_⟩<;>unfold zag<;>split<;>omega
theorem X4G {b:List UInt8}{a e most:Int}{s:List UInt8} (h:U2 b a most=(s,e,0)):only b a e (XX s)∧(s.length:Int)≤most∧a<e:=by
 unfold U2 at h
 simp only at h
 split at h
 ·rename_i h0;exact absurd (congrArg (fun r=>r.2.2) h) h0
 rename_i h0
 split at h
 ·exact Qa
 rename_i h1
 split at h
 ·exact Qa
 rename_i h2
 have h0:(Xz b a).2.2=0:=by simpa using h0
 obtain⟨⟨k1,k2,k3,k4⟩,k5,k6,k7⟩:=X3r (b:=b) (a:=a) (n:=(Xz b a).1) (e:=(Xz b a).2.1) (by rw[←h0])
 generalize (Xz b a).1=n at*
 generalize (Xz b a).2.1=f at*
 simp only[Prod.mk.injEq] at h
 obtain⟨rfl,rfl,_⟩:=h
 have hl:((b.drop f.toNat).take n.toNat).length=n.toNat:=by simp;omega
 refine⟨⟨k1,by omega,by omega,?_⟩,by omega,by omega⟩
 rw[show (f+n-a).toNat=(f-a).toNat+n.toNat by omega,List.take_add,k4,List.drop_drop,show a.toNat+(f-a).toNat=f.toNat by omega]
 unfold XX
 rw[hl,show((n.toNat:Nat):Int)=n by omega]
theorem XgU {b:List UInt8}{a e:Int}{x:List UInt8} (h:UZ b a=(x,e,0)):only b a e (YM x):=by
 unfold UZ at h
 simp only at h
 split at h
 ·rename_i h0;exact absurd (congrArg (fun r=>r.2.2) h) h0
 rename_i h0
 split at h
 ·exact Qa
 rename_i h1
 split at h
 ·exact Qa
 rename_i h2
 have h0:(Xz b a).2.2=0:=by simpa using h0
 obtain⟨⟨k1,k2,k3,k4⟩,k5,k6,k7⟩:=X3r (b:=b) (a:=a) (n:=(Xz b a).1) (e:=(Xz b a).2.1) (by rw[←h0])
 generalize (Xz b a).1=n at*
 generalize (Xz b a).2.1=f at*
 simp only[Prod.mk.injEq] at h
 obtain⟨rfl,rfl,_⟩:=h
 have hl:((b.drop f.toNat).take n.toNat).length=n.toNat:=by simp;omega
 have h2:X0s b (f+n).toNat=YE ((b.drop f.toNat).take n.toNat):=by simpa using h2
 have h4:(b.drop (f+n).toNat).take 4=Vq ((b.drop f.toNat).take n.toNat):=by
  generalize hx:(b.drop f.toNat).take n.toNat=x at*
  generalize hk:(f+n).toNat=k at*
  obtain⟨q0,g0⟩:=XI (l:=b) (k:=k) (by omega)
  obtain⟨q1,g1⟩:=XI (l:=b) (k:=k+1) (by omega)
  obtain⟨q2,g2⟩:=XI (l:=b) (k:=k+2) (by omega)
  obtain⟨q3,g3⟩:=XI (l:=b) (k:=k+3) (by omega)
  have hs:=X49 x
  have hb:=XhN (p:=[]) (q:=[]) x
  simp only[List.nil_append,List.append_nil,List.length_nil] at hb
  rw[←hb] at h2
  unfold X0s at h2
  simp only[g0,g1,g2,g3,Option.getD_some,Vq,Nat.zero_add,List.getElem?_cons_zero,List.getElem?_cons_succ] at h2
  obtain⟨e0,e1,e2,e3⟩:=XpB h2
  apply List.ext_getElem?
  intro i
  rw[List.getElem?_take]
  split
  ·rename_i hi
   rw[List.getElem?_drop]
   rcases i with _|_|_|_|i
   ·rw[Nat.add_zero,g0,e0];rfl
   ·rw[g1,e1];rfl
   ·rw[g2,e2];rfl
   ·rw[g3,e3];rfl
   ·omega
  ·rename_i hi
   rw[List.getElem?_eq_none (by rw[X2W];omega)]
 refine⟨k1,by omega,by omega,?_⟩
 rw[show (f+n+4-a).toNat=(f-a).toNat+(n.toNat+4) by omega,List.take_add,k4,List.drop_drop,show a.toNat+(f-a).toNat=f.toNat by omega,List.take_add,List.drop_drop,show f.toNat+n.toNat=(f+n).toNat by omega,h4]
 unfold YM
 rw[hl,show((n.toNat:Nat):Int)=n by omega,List.append_assoc]
theorem XgK {n:Nat} (h:n<128):vS n=[UInt8.ofNat n]:=by rw[vS,if_pos h]
abbrev zV:Val:= .mk 0 0 0 [] []
def Y8 (g:Nat→Int→Val×Int×Int) (a:Int):Nat→List Val×Int×Int
 |0=>([],a,0)
 |k+1=>let p:=Y8 g a k
  if p.2.2≠0 then p else let r:=g k p.2.1;(p.1++[r.1],r.2.1,r.2.2)
def Vv (k n:Int):Bool:=if k=8 then decide (64<n) else decide (25<n)||decide (n%2=0)
def YU (gl gp:Nat→Int→Val×Int×Int) (b:List UInt8) (a k:Int):Val×Int×Int:=
 if k=1∨k=2∨k=5∨k=6 then let r:=XW b a;(.mk k r.1 0 [] [],r.2.1,r.2.2)
 else if k=3 then let r:=XW b a
  if r.2.2≠0 then (.mk 3 0 0 [] [],r.2.1,r.2.2) else let q:=XW b r.2.1;(.mk 3 r.1 q.1 [] [],q.2.1,q.2.2)
 else if k=4 then let r:=U2 b a 100;(.mk 4 0 0 r.1 [],r.2.1,r.2.2)
 else if k=7∨k=8 then let c:=Xz b a
  if c.2.2≠0 then (.mk k 0 0 [] [],c.2.1,c.2.2) else if Vv k c.1 then (.mk k 0 0 [] [],c.2.1,2) else
   let p:=Y8 (if k=8 then gl else gp) c.2.1 c.1.toNat;(.mk k 0 0 [] p.1,p.2.1,p.2.2)
 else (.mk k 0 0 [] [],a,0)
def Vm (gl gp:Nat→Int→Val×Int×Int) (m:Nat) (b:List UInt8) (a want:Int):Val×Int×Int:=
 if a=b.length then (zV,a,3) else
  let k:Int:=((b[a.toNat]?).getD 0).toNat
  if 8<k∨(k=8∧m=0)∨(want≠0∧k≠want) then (zV,a,2) else
   let c:=YU gl gp b (a+1) k
   if c.2.2=0∧Xe 8 c.1=false then (c.1,c.2.1,2) else c
def noG (_:Nat) (a:Int):Val×Int×Int:=(zV,a,2)
def X53 (b:List UInt8) (a want:Int):Val×Int×Int:=Vm noG noG 0 b a want
def VK (b:List UInt8) (i:Nat) (a:Int):Val×Int×Int:=X53 b a (5+(i%2:Nat))
def X0t (b:List UInt8):Nat→Int→Val×Int×Int
 |0,a=>Vm noG (VK b) 0 b a 0
 |m+1,a=>Vm (fun _ e=>X0t b m e) (VK b) (m+1) b a 0
def X1U (b:List UInt8):Nat→Nat→Int→Val×Int×Int
 |0=>noG
 |m+1=>fun _ e=>X0t b m e
theorem X2I (b:List UInt8) (m:Nat) (a:Int):X0t b m a=Vm (X1U b m) (VK b) m b a 0:=by
 cases m<;>rfl
def Ug (b:List UInt8) (a:Int):Val×Int×Int:=
 if a<0∨(b.length:Int)<a then (zV,0,1) else let r:=X0t b 8 a;if r.2.2≠0 then (zV,0,r.2.2) else r
theorem Xa6:∀(v:Val) (m m':Nat),m≤m'→Xe m v=true→Xe m' v=true:=by
 intro v
 induction v using Val.rec (motive_2:=fun l=> ∀(m m':Nat),m≤m'→Vy m l=true→Vy m' l=true) with
 |mk k n d s l ih=>
  intro m m' hm h
  rw[Xe] at h ⊢
  by_cases hk:k=8
  ·subst hk
   simp at h ⊢
   refine⟨h.1,⟨h.2.1.1,h.2.1.2.1,by omega⟩,ih _ _ (by omega) h.2.2⟩
  ·simp only[hk,if_false] at h ⊢
   exact h
 |nil=>rfl
 |cons v r ih1 ih2=>
  rename_i hm h
  rw[Vy] at h ⊢
  simp at h ⊢
  exact⟨ih1 _ _ hm h.1,ih2 _ _ hm h.2⟩
open Go Go.Proofs
set_option maxRecDepth 100000
set_option linter.unusedSimpArgs false
abbrev X21 (n:Nat):AVal:= .d (.v (.int .u64 n))
abbrev n8 (n:Nat):Value:= .int .u8 n
abbrev n32 (n:Nat):Value:= .int .u32 n
abbrev n64 (n:Nat):Value:= .int .u64 n
abbrev ni (n:Nat):Value:= .int .i64 n
theorem U8 {src dst:TypeId}{k:IntKind}{a:Nat} (hs:(Tryz.prog.underlying src).isSome=true) (hd:X4t Tryz.prog dst .u8=true) (w:World):(convert src dst (.int k (a:Int))).run Tryz.prog w= .ok (n8 (a%256)) w:=
 XoL hs hd rfl w
theorem XkY:∀m,m<256→m|||128=m%128+128:=by decide+kernel
theorem X0Q {n:Nat} (h:n<18446744073709551616):(vS n).length≤10:=by
 obtain⟨h1,h2,_⟩:=XcG n
 exact Xbq 10 h1 (by rw[h2];exact Nat.lt_of_lt_of_le h (by decide)) (by omega)
theorem Xdt {n:Nat} (h:128≤n):vS n=UInt8.ofNat (n%128+128)::vS (n/128):=by rw[vS,if_neg (by omega)]
theorem Xa7 (n:Nat) (hn:n<18446744073709551616):Con Tryz.prog 101 [] [ani,X21 n] [(130,.row 1 ((vS n).map Xc))] (.own 130 (vS n).length):=by
 refine Xg (xs:=[.own 130 (vS n).length]) Tryz.func101 rfl Tryz.ntmps101 rfl rfl rfl (fun E=> ?_)
 refine W6_ ?_;refine Xq (V3 0 130 1 rfl rfl rfl) ?_
 refine XK (ι:=List UInt8×Nat) (fun i=>i.1++vS i.2=vS n∧i.2≤n) (fun i=>⟨20,[(1,X21 i.2),(0,.own 130 i.1.length)],[(130,.row 1 (i.1.map Xc))]⟩) (fun i=>i.2) ([],n) ⟨rfl,Nat.le_refl _⟩
  (Xd rfl ⟨JL,JL,trivial⟩ ⟨rfl,trivial⟩) ?_
 rintro⟨pre,m⟩ ⟨hpre,hm⟩
 simp only at hpre hm
 have hlen:pre.length≤10:=by
  have h1:=congrArg List.length hpre
  have h2:=X0Q hn
  simp only[List.length_append] at h1;omega
 by_cases h:128≤m
 ·have hv:=Xdt h
  have e1:n8 (m%256|||128)=n8 (UInt8.ofNat (m%128+128)).toNat:=by rw[XkY _ (by omega),X0k (by omega)];congr 2;omega
  have e2:n64 (m/2^7)=n64 (m/128):=rfl
  refine W6_ ?_;refine Qb ?_;refine Z0 (u:=n64 m) (r:=n8 (m%256)) ?_ (hr:=by exact U8 rfl rfl);(refine Z1 (op:= .or) (r':=_) (u:=n8 (m%256)) (v:=n8 128) ?_ (hr':=by exact e1) (hr:=by exact X0G (by rw[UR];omega) (by rw[UR];omega)));refine W6_ ?_;refine Z1 (op:= .shr) (r':=_) (u:=n64 m) (v:=n64 7) ?_ (hr':=by exact e2) (hr:=by exact X0D (by decide));refine W2_ ?_
  refine⟨(pre++[UInt8.ofNat (m%128+128)],m/128),⟨by simp only;rw[←hpre,hv];simp,by simp only;omega⟩,by simp only;omega,Xd rfl ⟨JL,(by refine AVal.le_of_eq ?_;refine Eq.trans (b:=AVal.own 130 (_+_)) rfl ?_;simp),trivial⟩ ⟨?_,trivial⟩⟩
  refine Eq.trans (b:=AObj.row 1 (_++[[.v (n8 _)]])) rfl ?_
  simp
 ·have hv:vS m=[UInt8.ofNat m]:=XgK (by omega)
  have e3:n8 (m%256)=n8 (UInt8.ofNat m).toNat:=by rw[X0k (by omega)];congr 2;omega
  refine W6_ ?_;refine Qc ?_;(refine Z0 (u:=n64 m) (r:=n8 (UInt8.ofNat m).toNat) ?_ (hr:=by exact by rw[←e3];exact U8 rfl rfl));refine W4_ ?_
  refine X1 ⟨_,Xw 4 (y:= .own 130 (vS n).length) (AVal.le_of_eq ?_),⟨rfl,trivial⟩,Xn ⟨?_,trivial⟩⟩
  ·refine Qd ?_
   rw[←hpre,hv];simp
  ·refine Eq.trans (b:=AObj.row 1 (_++[[.v (n8 _)]])) rfl ?_
   rw[←hpre,hv];simp
theorem Xk6 (n:Int) (hn:n≤9223372036854775807):Con Tryz.prog 60 [] [ai n] [(130,.row 1 ((Xm n).map Xc))] (.own 130 (Xm n).length):=by
 refine Xg (xs:=[.own 130 (Xm n).length]) Tryz.func60 rfl Tryz.ntmps60 rfl rfl rfl (fun E=> ?_)
 by_cases h:n<0
 ·rw[show Xm n=[] by simp[Xm,h]]
  refine Xj ?_;refine Qe ?_;refine Xq (V3 2 130 1 rfl rfl rfl) ?_;exact Qf
 ·obtain⟨m,rfl⟩:∃m:Nat,n=m:=⟨n.toNat,by omega⟩
  rw[show Xm (m:Int)=vS m by unfold Xm;rw[if_neg h,Int.toNat_natCast]]
  refine Xj ?_;refine Qg ?_;(refine Z0 (u:=ni m) (r:=n64 m) ?_ (hr:=by exact YQ rfl rfl (by rw[Yf];omega)));refine Z3 (hcon:=Xa7 m (by omega)) ?_;exact Qh
theorem XqF (n:Int) (hn: -9223372036854775808≤n∧n≤9223372036854775807):Con Tryz.prog 155 [] [ai n] [(130,.row 1 ((YK n).map Xc))] (.own 130 (YK n).length):=by
 refine Xg (xs:=[.own 130 (YK n).length]) Tryz.func155 rfl Tryz.ntmps155 rfl rfl rfl (fun E=> ?_)
 by_cases h:n<0
 ·obtain⟨m,rfl⟩:∃m:Nat,n= -(m:Int)-1:=⟨(-n-1).toNat,by omega⟩
  have ez:zig (-(m:Int)-1)=2*m+1:=by unfold zig;rw[if_pos (by omega)];omega
  unfold YK;rw[ez]
  have ew:IntKind.u64.wrap (-(m:Int)-1)=((18446744073709551615-m:Nat):Int):=by rw[IntKind.wrap_u64];omega
  have es:(18446744073709551615-m)*2^1%2^IntKind.u64.bits=18446744073709551614-2*m:=by
   rw[show 2^IntKind.u64.bits=18446744073709551616 from rfl];omega
  have ec:2^IntKind.u64.bits-1-(18446744073709551614-2*m)=2*m+1:=by
   rw[show 2^IntKind.u64.bits=18446744073709551616 from rfl];omega
  have hcompl:∀w,(Op.unary .xor (n64 (18446744073709551614-2*m))).run Tryz.prog w= .ok (n64 (2*m+1)) w:=fun w=>by
   have h:=Xd8 (P:=Tryz.prog) (k:= .u64) (a:=18446744073709551614-2*m) rfl (by rw[show 2^IntKind.u64.bits=18446744073709551616 from rfl];omega) w
   rwa [ec] at h
  refine W7_ ?_
  (refine Z0 (u:= .int .i64 (-(m:Int)-1)) (r:=n64 (18446744073709551615-m)) ?_ (hr:=by exact by intro w;show _=Result.ok (Value.int .u64 ((18446744073709551615-m:Nat):Int)) w;rw[←ew];exact X6H rfl rfl w))
  refine Z1 (op:= .shl) (r':=n64 (18446744073709551614-2*m)) (u:=n64 (18446744073709551615-m)) (v:=n64 1) ?_ (hr':=by exact congrArg n64 es) (hr:=by exact X0F rfl (by decide));refine Qi ?_;refine W2_ ?_;refine Z4 (u:=n64 (18446744073709551614-2*m)) (r:=n64 (2*m+1)) ?_ (hr:=by exact hcompl);refine W5_ ?_;refine Z3 (hcon:=Xa7 (2*m+1) (by omega)) ?_;exact Qh
 ·obtain⟨m,rfl⟩:∃m:Nat,n=m:=⟨n.toNat,by omega⟩
  have ez:zig (m:Int)=2*m:=by unfold zig;rw[if_neg (by omega)];omega
  unfold YK;rw[ez]
  have es:m*2^1%2^IntKind.u64.bits=2*m:=by
   rw[show 2^IntKind.u64.bits=18446744073709551616 from rfl];omega
  refine W7_ ?_;(refine Z0 (u:=ni m) (r:=n64 m) ?_ (hr:=by exact YQ rfl rfl (by rw[Yf];omega)));refine Z1 (op:= .shl) (r':=n64 (2*m)) (u:=n64 m) (v:=n64 1) ?_ (hr':=by exact congrArg n64 es) (hr:=by exact X0F rfl (by decide));refine W8_ ?_;refine Qg ?_;refine Z3 (hcon:=Xa7 (2*m) (by omega)) ?_;exact Qh
theorem X3H (n:Int) (hn:n≤9223372036854775807):Con Tryz.prog 60 [] [ai n] [] (.d (Xk (Xm n))):=(Xk6 n hn).data (by simp)
theorem X4h (n:Int) (hn: -9223372036854775808≤n∧n≤9223372036854775807):Con Tryz.prog 155 [] [ai n] [] (.d (Xk (YK n))):=(XqF n hn).data (by simp)
abbrev XH (l:List UInt8):AVal:= .d (.v (.string (Xb l)))
abbrev X8o (n:Nat):AVal:= .d (.v (n32 n))
def VD (b:List UInt8) (i:Nat):Nat:=(b.take i).foldl X6C 4294967295
theorem XcR (b:List UInt8) (i:Nat):VD b i<4294967296:=Xda _ (by decide)
theorem Xh7 {b:List UInt8}{i:Nat}{x:UInt8} (h:b[i]? =some x):VD b (i+1)=X6C (VD b i) x:=by
 unfold VD
 rw[List.take_add_one,h,Option.toList_some,List.foldl_append];rfl
theorem Xdy (b:List UInt8):VD b b.length=X3m b:=by unfold VD X3m;rw[List.take_length]
theorem Xnv (s:List UInt8) (hs:s.length≤65536):Con Tryz.prog 58 [] [XH s] [(131,.row 1 ((XX s).map Xc))] (.own 131 (XX s).length):=by
 refine Xg (xs:=[.own 131 (XX s).length]) Tryz.func58 rfl Tryz.ntmps58 rfl rfl rfl (fun E=> ?_)
 have hl:(Xm (s.length:Int)).length≤10:=by rw[X1j (by omega)];exact X0Q (by omega)
 have hsz:(Xb s).size=s.length:=rfl
 have hlm:(List.map Xc (Xm (s.length:Int))).length=(Xm (s.length:Int)).length:=by simp
 generalize hhd:Xm (s.length:Int)=hd at*
 have hput:XX s=hd++s:=by unfold XX;rw[hhd]
 have hpc:=X3H s.length (by omega)
 rw[hhd] at hpc
 have hm1:hd.length=min (hd.map Xc).length (List.replicate ((hd.map Xc).length+(Xb s).size) (zD (Value.int IntKind.u8 0).cells.toList)).length:=by simp
 have hk:hd.length≤((hd.map Xc).take hd.length++(List.replicate ((hd.map Xc).length+(Xb s).size) (zD (Value.int IntKind.u8 0).cells.toList)).drop hd.length).length:=by simp
 have hm2:s.length=min (s.map Xc).length (((hd.map Xc).take hd.length++(List.replicate ((hd.map Xc).length+(Xb s).size) (zD (Value.int IntKind.u8 0).cells.toList)).drop hd.length).length-hd.length):=by simp[hsz]
 refine W8_ ?_;refine Z3 (hcon:=hpc) ?_;refine W9_ ?_;refine Qj ?_;refine W7_ ?_;refine X9L (m:=hd.length) (hg:=JSa) (hx:=JSb) (hL:=JSb) (hn:=JSe) (hy:=JSb) (hT:=JSb) (hd:=JSb) ?_ (hm:=by exact hm1);refine X1f (k:=hd.length) (hg:=JSa) (hx:=JSb) (hL:=JSb) (hlo:=JSb) (hn:=JSe) (hT:=JSb) (hd:=JSb) ?_ (hk:=by exact hk);refine W1_ ?_;refine X2R (m:=s.length) (hg:=JSa) (hx:=JSb) (hL:=JSb) (hn:=JSe) (hy:=JSb) (hsrc:=JSf) (hT:=JSb) (hd:=JSb) ?_ (hk:=by exact hk) (hm:=by exact hm2);refine W6_ ?_
 refine X1 ⟨_,Xw 2 (y:= .own 131 (XX s).length) (AVal.le_of_eq ?_),⟨rfl,trivial⟩,Xn ⟨?_,trivial⟩⟩
 ·refine Eq.trans (b:=AVal.own 131 (_+_)) rfl ?_
  simp[hput,hsz]
 ·refine Eq.trans (b:=AObj.row 1 (List.take _ _++_++List.drop _ _)) rfl ?_
  rw[hput]
  congr 1
  rw[List.take_of_length_le (l:=hd.map Xc) (by simp),List.take_left' (by simp),List.take_of_length_le (by simp),List.drop_of_length_le (by simp[hsz]),List.append_nil,List.map_append]
theorem X9B (b:List UInt8):Con Tryz.prog 61 [] [.d (Xk b)] [] (ai (YE b)):=by
 refine Xg (xs:=[ai (YE b)]) Tryz.func61 rfl Tryz.ntmps61 rfl rfl rfl (fun E=> ?_)
 refine Yc ?_
 refine XK (fun i:Nat=>i≤b.length) (fun i=>⟨31,[(3,X8o (VD b i)),(6,.d (Xk b)),(7,ai b.length),(8,ai i)],[]⟩) (fun i=>b.length-i) 0 (by omega)
  (Xd rfl ⟨JL,JL,JL,JL,trivial⟩ trivial) ?_
 intro i hi
 refine XeO 6 (sz:=1) (xs:=b.map Xc) rfl fun hbl=> ?_
 rw[List.length_map] at hbl
 have hc:=XcR b i
 by_cases hlt:i<b.length
 ·obtain⟨x,hx⟩:=XI hlt
  have hx8:=x.toNat_lt
  refine Ql ?_;(refine Z0 (u:=n8 x.toNat) (r:=n32 x.toNat) ?_ (hr:=by exact YQ rfl rfl (by rw[X0j];omega)));(refine Z2 (op:= .xor) (r':=n32 (VD b i^^^x.toNat)) (u:=n32 (VD b i)) (v:=n32 x.toNat) ?_ (hr:=by exact X5W (by rw[X0j];omega) (by rw[X0j];omega)));refine W7_ ?_
  refine XK (fun k:Nat=>k≤8) (fun k=>⟨31,[(6,.d (Xk b)),(7,ai b.length),(8,ai i),(3,X8o (X2c k (VD b i^^^x.toNat))),(16,ai k)],[]⟩) (fun k=>8-k) 0 (by omega)
   (Xd rfl ⟨JL,JL,JL,JL,JL,trivial⟩ trivial) ?_
  intro k hk
  have hv:=X8c (X9q hc x) k
  have hv1:X2c (k+1) (VD b i^^^x.toNat)=X1G (X2c k (VD b i^^^x.toNat)):=rfl
  generalize hgv:X2c k (VD b i^^^x.toNat)=v at*
  by_cases hk8:k<8
  ·by_cases hodd:v%2=1
   ·have hb:X1G v=(v/2)^^^3988292384:=by unfold X1G;rw[if_pos hodd]
    refine W5_ ?_;refine Qb ?_;(refine Z1 (op:= .and) (r':=n32 (v%2)) (u:=n32 v) (v:=n32 1) ?_ (hr':=by exact congrArg n32 (Nat.and_one_is_mod v)) (hr:=by exact X0i (by rw[X0j];omega) (by rw[X0j];omega)));refine W2_ ?_;refine Qm ?_;refine Z2 (op:= .shr) (r':=n32 (v/2)) (u:=n32 v) (v:=n64 1) ?_ (hr:=by exact X0D (by decide));(refine Z2 (op:= .xor) (r':=n32 (v/2^^^3988292384)) (u:=n32 (v/2)) (v:=n32 3988292384) ?_ (hr:=by exact X5W (by rw[X0j];omega) (by rw[X0j];omega)));refine W6_ ?_;exact Qn
   ·have hb:X1G v=v/2:=by unfold X1G;rw[if_neg hodd]
    refine W5_ ?_;refine Qb ?_;(refine Z1 (op:= .and) (r':=n32 (v%2)) (u:=n32 v) (v:=n32 1) ?_ (hr':=by exact congrArg n32 (Nat.and_one_is_mod v)) (hr:=by exact X0i (by rw[X0j];omega) (by rw[X0j];omega)));refine W2_ ?_;refine Qo ?_;refine Z2 (op:= .shr) (r':=n32 (v/2)) (u:=n32 v) (v:=n64 1) ?_ (hr:=by exact X0D (by decide));refine W6_ ?_;exact Qn
  obtain rfl:k=8:=by omega
  have hstep:VD b (i+1)=v:=by rw[Xh7 hx];exact hgv
  refine W5_ ?_;refine Qc ?_;exact⟨i+1,by omega,by omega,Xd rfl ⟨(by rw[hstep];exact AVal.le_refl _),JL,JL,JL,trivial⟩ trivial⟩
 obtain rfl:i=b.length:=by omega
 have hall:=Xdy b
 rw[hall] at hc
 rw[hall]
 have hcompl:∀w,(Op.unary .xor (n32 (X3m b))).run Tryz.prog w= .ok (n32 (YE b)) w:=fun w=>Xd8 (P:=Tryz.prog) (k:= .u32) (a:=X3m b) rfl hc w
 refine W5_ ?_;refine Qg ?_;refine Z4 (u:=n32 (X3m b)) (r:=n32 (YE b)) ?_ (hr:=by exact hcompl);(refine Z0 (u:=n32 (YE b)) (r:=ni (YE b)) ?_ (hr:=by exact YQ rfl rfl (by rw[XJ];have:=X49 b;omega)));exact Qq
theorem X2M (s:List UInt8) (hs:s.length≤65536):Con Tryz.prog 58 [] [XH s] [] (.d (Xk (XX s))):=(Xnv s hs).data (by simp)
end Go.Fw
