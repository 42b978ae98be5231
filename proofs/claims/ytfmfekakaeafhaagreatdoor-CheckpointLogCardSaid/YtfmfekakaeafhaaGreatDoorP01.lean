/- A small separation calculus over the model: immutable data, owned boxes and rows. First part: data, abstract values, the invariant. -/
import Derived.Calls
import Derived.Orders
import Derived.Laws.Entries
import Derived.Laws.Rows
import Derived.RowKit3
import Derived.Scope
import Derived.IntWalk
import Derived.Laws.Slices
import Derived.Laws.AppendOwn
set_option linter.all false
namespace Go.Fw
open Go List
open List renaming length->J
def TV:True:=trivial
def NI {c:Prop} {h:Decidable c} (k:¬c) {α:Sort _} {x y:α}:ite c x y=y:=if_neg k
theorem PI {c:Prop} {h:Decidable c} (k:c) {α:Sort _} {x y:α}:ite c x y=x:=if_pos k
def CG {α β:Sort _} {x y:α} (f:α->β) (h:x=y):f x=f y:=congrArg f h
theorem LA {α:Type _} {x y:List α}:J (x++y)=J x+J y:=length_append
theorem LM {α β:Type _} {x:List α} (f:α->β):J (x.map f)=J x:=length_map f
variable{bytes cap f i id j m n o off sz γ:Nat}{agg draw:Bool}{P:Program}{ops:Array Oper}{Q:Exit->Act->World->Prop}{a b:Int}{ah:Array Edge}{d:Option Nat}{gd:Option (Nat×Bool)}{k:IntKind}{new:List Nat}{op:Op}{pos:String}{h hv r u v:Value}{c x y z:Operand}{base:Option Addr}{news:Array Value}{us vs zs:List Value}{p:Prop}{w w':World}
theorem LT {α:Type _}  {x:List α}:J (x.take i)=min i (J x):=length_take
theorem LD {α:Type _}  {x:List α}:J (x.drop i)=J x-i:=length_drop
theorem LC {α:Type _} {a:α} {x:List α}:J (a::x)=J x+1:=length_cons
theorem AS {α:Type _} (x y z:List α):x++y++z=x++(y++z):=append_assoc x y z
def GS {α:Type _} {x:List α}  {a:α}:x[i]?=some a↔∃h:i<J x,x[i]=a:=List.getElem?_eq_some_iff
def DT [h:Decidable p]:p->decide p=true:=decide_eq_true
def DF [h:Decidable p]:¬p->decide p=false:=decide_eq_false
abbrev Mem:=Addr->Option Value
inductive D where
 |v (x:Value)
 |sl (sz:Nat) (xs:List (List D))
mutual
def D.rep (M:Mem):D->Value->Prop
 | .v x,u=>u=x/\x.oneCell'=true
 | .sl sz xs,u=> ∃(a:Option Addr) (cap:Nat),u= .slice a (J xs) cap/\J xs<=cap/\cap<=maxLen/\
   (xs=[]\/∃b o,a=some ⟨b,o,none⟩/\X0N M sz xs b o)
def X09 (M:Mem):List D->Nat->Nat->Prop
 |[],_,_=>True
 |d::ds,b,o=>(∃u,M ⟨b,o,none⟩=some u/\D.rep M d u)/\X09 M ds b (o+1)
def X0N (M:Mem) (sz:Nat):List (List D)->Nat->Nat->Prop
 |[],_,_=>True
 |r::rs,b,o=>J r=sz/\X09 M r b o/\X0N M sz rs b (o+sz)
end
def YN (M M':Mem):Prop:=∀a v,M a=some v->M' a=some v
theorem YN.refl (M:Mem):YN M M:=fun _ _ h=>h
def YN.trans {A B C:Mem} (h:YN A B) (k:YN B C):YN A C:=fun _ _ x=>k _ _ (h _ _ x)
variable{M M':Mem}
mutual
theorem D.rep_mono (h:YN M M'):∀(d:D) (u:Value),d.rep M u->d.rep M' u
 | .v x,u,hr=>by simpa only[D.rep] using hr
 | .sl sz xs,u,hr=>by
  simp only[D.rep] at hr |-;obtain⟨a,cap,h1,h2,h3,h4⟩:=hr;refine⟨a,cap,h1,h2,h3,?_⟩;rcases h4 with h4|⟨b,o,h5,h6⟩
  ·exact .inl h4
  ·exact .inr ⟨b,o,h5,XlA h sz xs b o h6⟩
theorem XeZ (h:YN M M'):∀(ds:List D) (b o:Nat),X09 M ds b o->X09 M' ds b o
 |[],_,_,_=>by simp only[X09]
 |d::ds,b,o,hr=>by
  simp only[X09] at hr |-;obtain⟨⟨u,h1,h2⟩,h3⟩:=hr;exact⟨⟨u,h _ _ h1,D.rep_mono h d u h2⟩,XeZ h ds b (o+1) h3⟩
theorem XlA (h:YN M M') (sz:Nat):∀(xs:List (List D)) (b o:Nat),X0N M sz xs b o->X0N M' sz xs b o
 |[],_,_,_=>by simp only[X0N]
 |r::rs,b,o,hr=>by
  simp only[X0N] at hr |-;exact⟨hr.1,XeZ h r b o hr.2.1,XlA h sz rs b (o+sz) hr.2.2⟩
end
theorem Xbu:∀(ds:List D) (b o i:Nat) (d:D),X09 M ds b o->ds[i]? =some d->∃u,M ⟨b,o+i,none⟩=some u/\d.rep M u
 :=by intro x;induction x<;>grind [X09]
theorem X7t:∀(ds:List D) (b o:Nat),(∀i d,ds[i]? =some d->∃u,M ⟨b,o+i,none⟩=some u/\d.rep M u)->X09 M ds b o
 |[],_,_,_=>by simp only[X09]
 |e::ds,b,o,h=>by
  simp only[X09];refine⟨by simpa using h 0 e (by simp),X7t ds b (o+1) fun i d hd=> ?_⟩;have:=h (i+1) d (by simpa using hd)
  rwa [show o+(i+1)=o+1+i by omega] at this
variable{ds:List D}
def Xzy {b:Nat} (h:X09 M ds b o) (k:Nat):X09 M (ds.drop k) b (o+k):=by
 grind [X7t,Xbu]
def XsZ {b:Nat} (h:X09 M ds b o) (k:Nat):X09 M (ds.take k) b o:=by
 grind [X7t,Xbu]
theorem Xsg {es:List D}{b:Nat} (h:X09 M ds b o) (h':X09 M es b (o+J ds)):X09 M (ds++es) b o:=by
 grind [X7t,Xbu]
theorem X6o:∀(xs:List (List D)) (b o i:Nat) (r:List D),X0N M sz xs b o->xs[i]? =some r->J r=sz/\X09 M r b (o+i*sz)
 |[],_,_,_,_,_,h=>by simp at h
 |e::xs,b,o,0,r,hr,h=>by
  grind [X0N]
 |e::xs,b,o,i+1,r,hr,h=>by
  simp only[X0N] at hr;have:=X6o xs b (o+sz) i r hr.2.2 (by simpa using h)
  rwa [show o+sz+i*sz=o+(i+1)*sz by rw[Nat.add_mul];omega] at this
theorem X99:∀(xs:List (List D)) (b o:Nat),(∀i r,xs[i]? =some r->J r=sz/\X09 M r b (o+i*sz))->X0N M sz xs b o
 |[],_,_,_=>by simp only[X0N]
 |e::xs,b,o,h=>by
  simp only[X0N];have h0:=h 0 e (by simp);refine⟨h0.1,by simpa using h0.2,X99 xs b (o+sz) fun i r hr=> ?_⟩;have:=h (i+1) r (by simpa using hr)
  rwa [show o+(i+1)*sz=o+sz+i*sz by rw[Nat.add_mul];omega] at this
variable{xs:List (List D)}
theorem Xbk {b:Nat} (h:X0N M sz xs b o) (k:Nat):X0N M sz (xs.drop k) b (o+k*sz):=by
 refine X99 _ _ _ fun i r hr=> ?_;rw[getElem?_drop] at hr;have:=X6o xs b o (k+i) r h hr
 grind
theorem Xaf {b:Nat} (h:X0N M sz xs b o) (k:Nat):X0N M sz (xs.take k) b o:=by
 refine X99 _ _ _ fun i r hr=> ?_
 grind [X6o]
inductive AVal where
 |any
 |d (x:D)
 |ptr (γ o:Nat)
 |own (γ n:Nat)
 |rptr (γ n o:Nat)
 |inn (γ i:Nat)
 |bsl (γ n:Nat)
 |rs (γ o n c:Nat)
 |mptr (γ n i:Nat)
 |cut (γ n k sz:Nat)
 |dptr (row:List D)
 |dx (sz:Nat) (xs:List (List D))
 |bq (p q:Prop)
 |agg (cs:List AVal)
 |tup (vs:List AVal)
 |fn (f:FuncId) (caps:List AVal)
structure Gh where
 az:Nat->Nat
 hd:Nat->Value
 aI:Nat->Nat->Value
 M:Mem
mutual
def AVal.sat (g:Gh):AVal->Value->Prop
 | .any,_=>True
 | .d x,u=>x.rep g.M u
 | .ptr γ o,u=>u= .pointer (some ⟨g.az γ,o,none⟩)
 | .own γ n,u=>u.oneCell'=true/\∃a m c,g.hd γ= .slice a m c/\n<=m/\(n=m->u= .slice a m c)
 | .rptr γ n o,u=>u.oneCell'=true/\∃a m c,g.hd γ= .slice a m c/\n<=m/\(n=m->∃b,a=some b/\u= .pointer (some ⟨b.block,o,none⟩))
 | .bsl γ n,u=>u= .slice (some ⟨g.az γ,0,none⟩) n n
 | .rs γ o n c,u=>u= .slice (some ⟨g.az γ,o,none⟩) n c
 | .inn γ i,u=>u.oneCell'=true/\u=g.aI γ i/\∃a m c,g.hd γ= .slice a m c/\i<m
 | .mptr γ n i,u=>u.oneCell'=true/\∃a m c,g.hd γ= .slice a m c/\n<=m/\(n=m->∃b,a=some b/\u= .pointer (some ⟨b.block,i,none⟩))
 | .cut γ n k sz,u=>u.oneCell'=true/\∃a m c,g.hd γ= .slice a m c/\n<=m/\(n=m->u= .slice (if c=k then a else a.map fun p=>p.add (k*sz)) (n-k) (c-k))
 | .dptr row,u=> ∃b o,u= .pointer (some ⟨b,o,none⟩)/\X09 g.M row b o
 | .dx sz xs,u=> ∃a,u= .slice a (J xs) (J xs)/\(D.sl sz xs).rep g.M u
 | .bq p q,u=> ∃b:Bool,u= .bool b/\(b=true->p)/\(b=false->q)
 | .agg cs,u=> ∃vs,u= .agg vs/\Xy g cs vs.toList
 | .tup cs,u=> ∃vs,u= .tuple vs/\Xy g cs vs.toList
 | .fn f cs,u=> ∃vs,u= .func (.func f) #[] vs/\Xy g cs vs.toList
def Xy (g:Gh):List AVal->List Value->Prop
 |[],[]=>True
 |x::xs,u::us=>x.sat g u/\Xy g xs us
 |_,_=>False
end
mutual
def AVal.ment (γ:Nat):AVal->Bool
 | .ptr k _=>Nat.beq k γ
 | .own k _=>Nat.beq k γ
 | .rptr k _ _=>Nat.beq k γ
 | .inn k _=>Nat.beq k γ
 | .bsl k _=>Nat.beq k γ
 | .rs k _ _ _=>Nat.beq k γ
 | .mptr k _ _=>Nat.beq k γ
 | .cut k _ _ _=>Nat.beq k γ
 | .agg cs=>X0y γ cs
 | .tup cs=>X0y γ cs
 | .fn _ cs=>X0y γ cs
 | .any=>false
 | .d _=>false
 | .dptr _=>false
 | .dx _ _=>false
 | .bq _ _=>false
def X0y (γ:Nat):List AVal->Bool
 |[]=>false
 |x::xs=>x.ment γ||X0y γ xs
end
def Gh.keeps (g g':Gh) (γ:Nat):Prop:=
 g'.az γ=g.az γ/\(g'.hd γ=g.hd γ\/∃a m c a' m' c',g.hd γ= .slice a m c/\g'.hd γ= .slice a' m' c'/\m<m')/\
  ∀i a m c,g.hd γ= .slice a m c->i<m->g'.aI γ i=g.aI γ i
def Gh.keeps_refl (g:Gh) (γ:Nat):g.keeps g γ:=⟨rfl,.inl rfl,fun _ _ _ _ _ _=>rfl⟩
variable{g g':Gh}
theorem Gh.keeps_of (h1:g'.az γ=g.az γ) (h2:g'.hd γ=g.hd γ) (h3:g'.aI γ=g.aI γ):g.keeps g' γ:=⟨h1,.inl h2,fun i _ _ _ _ _=>by rw[h3]⟩
variable{n7:Gh}
def Gh.keeps_trans (h:g.keeps g' γ) (k:g'.keeps n7 γ):g.keeps n7 γ:=by
 refine⟨k.1.trans h.1,?_,fun i a m c ha hi=> ?_⟩
 ·grind [Gh.keeps]
 ·refine Eq.trans ?_ (h.2.2 i a m c ha hi);rcases h.2.1 with e|⟨a',m',c',a'',m'',c'',e1,e2,e3⟩
  ·grind [Gh.keeps]
  ·rw[ha] at e1;cases e1;exact k.2.2 i _ _ _ e2 (by omega)
mutual
theorem AVal.sat_mono (h:YN g.M g'.M):∀(x:AVal) (u:Value),(∀γ,x.ment γ=true->g.keeps g' γ)->x.sat g u->x.sat g' u
 | .any,_,_,_=>by simp only[AVal.sat]
 | .d x,u,_,hs=>by simp only[AVal.sat] at hs |-;exact D.rep_mono h x u hs
 | .ptr γ o,u,hk,hs=>by
  simp only[AVal.sat] at hs |-;rw[(hk γ (by simp[AVal.ment])).1];exact hs
 | .own γ n,u,hk,hs=>by
  simp only[AVal.sat] at hs |-;obtain⟨h1,a,m,c,h2,h3,h4⟩:=hs;refine⟨h1,?_⟩;rcases (hk γ (by simp[AVal.ment])).2.1 with e|⟨a0,m0,c0,a',m',c',e1,e2,e3⟩
  ·exact⟨a,m,c,e.trans h2,h3,h4⟩
  ·rw[h2] at e1;cases e1;exact⟨a',m',c',e2,by omega,fun e=>by omega⟩
 | .rptr γ n o,u,hk,hs=>by
  simp only[AVal.sat] at hs |-;obtain⟨h1,a,m,c,h2,h3,h4⟩:=hs;refine⟨h1,?_⟩;rcases (hk γ (by simp[AVal.ment])).2.1 with e|⟨a0,m0,c0,a',m',c',e1,e2,e3⟩
  ·exact⟨a,m,c,e.trans h2,h3,h4⟩
  ·rw[h2] at e1;cases e1;exact⟨a',m',c',e2,by omega,fun e=>by omega⟩
 | .bsl γ n,u,hk,hs=>by
  simp only[AVal.sat] at hs |-;rw[(hk γ (by simp[AVal.ment])).1];exact hs
 | .rs γ o n c,u,hk,hs=>by
  simp only[AVal.sat] at hs |-;rw[(hk γ (by simp[AVal.ment])).1];exact hs
 | .inn γ i,u,hk,hs=>by
  simp only[AVal.sat] at hs |-;obtain⟨h1,h2,a,m,c,h3,h4⟩:=hs;have hkk:=hk γ (by simp[AVal.ment]);refine⟨h1,h2.trans (hkk.2.2 i a m c h3 h4).symm,?_⟩;rcases hkk.2.1 with e|⟨a0,m0,c0,a',m',c',e1,e2,e3⟩
  ·exact⟨a,m,c,e.trans h3,h4⟩
  ·rw[h3] at e1;cases e1;exact⟨a',m',c',e2,by omega⟩
 | .mptr γ n i,u,hk,hs=>by
  simp only[AVal.sat] at hs |-;obtain⟨h1,a,m,c,h2,h3,h4⟩:=hs;refine⟨h1,?_⟩;rcases (hk γ (by simp[AVal.ment])).2.1 with e|⟨a0,m0,c0,a',m',c',e1,e2,e3⟩
  ·exact⟨a,m,c,e.trans h2,h3,h4⟩
  ·rw[h2] at e1;cases e1;exact⟨a',m',c',e2,by omega,fun e=>by omega⟩
 | .cut γ n k sz,u,hk,hs=>by
  simp only[AVal.sat] at hs |-;obtain⟨h1,a,m,c,h2,h3,h4⟩:=hs;refine⟨h1,?_⟩;rcases (hk γ (by simp[AVal.ment])).2.1 with e|⟨a0,m0,c0,a',m',c',e1,e2,e3⟩
  ·exact⟨a,m,c,e.trans h2,h3,h4⟩
  ·rw[h2] at e1;cases e1;exact⟨a',m',c',e2,by omega,fun e=>by omega⟩
 | .dptr row,u,_,hs=>by
  simp only[AVal.sat] at hs |-;obtain⟨b,o,h1,h2⟩:=hs;exact⟨b,o,h1,XeZ h _ _ _ h2⟩
 | .bq p q,u,_,hs=>by simp only[AVal.sat] at hs |-;exact hs
 | .dx sz xs,u,_,hs=>by
  simp only[AVal.sat] at hs |-;obtain⟨a,h1,h2⟩:=hs;exact⟨a,h1,D.rep_mono h _ _ h2⟩
 | .agg cs,u,hk,hs=>by
  simp only[AVal.sat] at hs |-;obtain⟨vs,h1,h2⟩:=hs;exact⟨vs,h1,X22 h cs _ (fun γ hm=>hk γ (by simpa only[AVal.ment] using hm)) h2⟩
 | .tup cs,u,hk,hs=>by
  simp only[AVal.sat] at hs |-;obtain⟨vs,h1,h2⟩:=hs;exact⟨vs,h1,X22 h cs _ (fun γ hm=>hk γ (by simpa only[AVal.ment] using hm)) h2⟩
 | .fn f cs,u,hk,hs=>by
  simp only[AVal.sat] at hs |-;obtain⟨vs,h1,h2⟩:=hs;exact⟨vs,h1,X22 h cs _ (fun γ hm=>hk γ (by simpa only[AVal.ment] using hm)) h2⟩
theorem X22 (h:YN g.M g'.M):∀(xs:List AVal) (us:List Value),(∀γ,X0y γ xs=true->g.keeps g' γ)->Xy g xs us->Xy g' xs us
 |[],[],_,_=>by simp only[Xy]
 |[],_::_,_,hs=>by grind [Xy]
 |_::_,[],_,hs=>by grind [Xy]
 |x::xs,u::us,hk,hs=>by
  simp only[Xy] at hs |-;exact⟨AVal.sat_mono h x u (fun γ hm=>hk γ (by simp[X0y,hm])) hs.1,X22 h xs us (fun γ hm=>hk γ (by simp[X0y,hm])) hs.2⟩
end
def AVal.cellish:AVal->Bool
 | .any=>false
 | .agg _=>false
 | .tup _=>false
 |_=>true
theorem D.rep_one {d:D} (h:d.rep M u):u.oneCell'=true:=by
 cases d with
 |v x=>grind [D.rep]
 |sl sz xs=>simp only[D.rep] at h;obtain⟨a,cap,rfl,_⟩:=h;rfl
theorem AVal.sat_one {x:AVal} (hc:x.cellish=true) (h:x.sat g u):u.oneCell'=true:=by
 cases x with
 |any=>grind [AVal.cellish]
 |agg _=>grind [AVal.cellish]
 |tup _=>grind [AVal.cellish]
 |d x=>grind [AVal.sat,D.rep_one]
 |ptr γ o=>simp only[AVal.sat] at h;rw[h];rfl
 |own γ n=>grind [AVal.sat]
 |rptr γ n o=>grind [AVal.sat]
 |inn γ i=>grind [AVal.sat]
 |bsl γ n=>simp only[AVal.sat] at h;rw[h];rfl
 |rs γ o n c=>simp only[AVal.sat] at h;rw[h];rfl
 |mptr γ n i=>grind [AVal.sat]
 |cut γ n k sz=>grind [AVal.sat]
 |dptr row=>simp only[AVal.sat] at h;obtain⟨b,o,rfl,_⟩:=h;rfl
 |dx sz xs=>simp only[AVal.sat] at h;obtain⟨a,rfl,_⟩:=h;rfl
 |bq p q=>simp only[AVal.sat] at h;obtain⟨b,rfl,_⟩:=h;rfl
 |fn f cs=>simp only[AVal.sat] at h;obtain⟨vs,rfl,_⟩:=h;rfl
theorem V6:∀{xs:List AVal}{us:List Value},Xy g xs us->J us=J xs
 |[],[],_=>rfl
 |[],_::_,h=>by simp only[Xy] at h
 |_::_,[],h=>by simp only[Xy] at h
 |x::xs,u::us,h=>by simp only[Xy] at h;simp[V6 h.2]
theorem X07:∀{xs:List AVal}{us:List Value},Xy g xs us->∀(i:Nat) (x:AVal),xs[i]? =some x->∃u,us[i]? =some u/\x.sat g u
 |[],[],_,_,_,h=>by simp at h
 |[],_::_,h,_,_,_=>by simp only[Xy] at h
 |_::_,[],h,_,_,_=>by simp only[Xy] at h
 |x::xs,u::us,h,0,y,hy=>by grind [Xy]
 |x::xs,u::us,h,i+1,y,hy=>by
  simp only[Xy] at h;simpa using X07 h.2 i y (by simpa using hy)
theorem X4k:∀{xs:List AVal}{us:List Value},J us=J xs->(∀(i:Nat) (x:AVal) (u:Value),xs[i]? =some x->us[i]? =some u->x.sat g u)->Xy g xs us
 |[],[],_,_=>by simp only[Xy]
 |[],_::_,h,_=>by simp at h
 |_::_,[],h,_=>by simp at h
 |x::xs,u::us,h,hs=>by
  simp only[Xy];exact⟨hs 0 x u (by simp) (by simp),X4k (by simpa using h) fun i y v hy hv=>hs (i+1) y v (by simpa using hy) (by simpa using hv)⟩
theorem X5d {xs:List AVal} (h:Xy g xs us) (k:Nat):Xy g (xs.drop k) (us.drop k):=by
 grind [V6,X4k,X07]
theorem X3G {xs:List AVal} (h:Xy g xs us) (k:Nat):Xy g (xs.take k) (us.take k):=by
 grind [V6,X4k,X07]
variable{ys:List AVal}
theorem X4D {xs:List AVal} (h:Xy g xs us) (h':Xy g ys vs):Xy g (xs++ys) (us++vs):=by
 grind [V6,X4k,X07]
inductive NC where
 |d (x:D)
 |r (b9:Nat) (rows:List (List D))
def KK:Nat:=9223372036854775808
abbrev Hd:=Value×Nat×List (List D)
def XbK:List NC->List (Nat×List (List D))
 |[]=>[]
 | .d _::r=>XbK r
 | .r z rows::r=>(z,rows)::XbK r
def Xc3 (us:Nat->Value):Nat->List (Nat×List (List D))->List Hd
 |_,[]=>[]
 |j,p::r=>(us j,p.1,p.2)::Xc3 us (j+1) r
def X4J (us:Nat->Value) (xs:List (List NC)):List Hd:=Xc3 us KK (XbK xs.flatten)
def X15:List NC->List D->List Hd->Prop
 |[],[],[]=>True
 | .d x::cs,y::ds,hs=>y=x/\X15 cs ds hs
 | .r z rows::cs,y::ds,h::hs=>y= .v h.1/\h.2=(z,rows)/\X15 cs ds hs
 |_,_,_=>False
inductive AObj where
 |dead
 |box (cs:List AVal)
 |row (sz:Nat) (xs:List (List D))
 |froz (sz:Nat) (xs:List (List D))
 |mat (sz:Nat) (rows:List (List (List D)))
 |iter (s:ByteArray) (pos:Nat)
 |imap (es:List (Int×Int))
 |nest (sz:Nat) (xs:List (List NC))
 |bag (hs:List Hd)
 |raw (cs:List (Option D)) (ho:Option (Nat×AVal))
 |wrow (sz:Nat) (xs:List (List D))
def oA:Option D->AVal
 |some d=> .d d
 |none=> .any
def Yj (cs:List (Option D)):Option (Nat×AVal)->List AVal
 |none=>cs.map oA
 |some h=>(cs.map oA).set h.1 h.2
def hoL:Option (Nat×AVal)->List AVal
 |none=>[]
 |some h=>[h.2]
theorem Xq1 (γ:Nat) (c:Option D):(oA c).ment γ=false:=by cases c<;>rfl
theorem Xg9 (hM:YN g.M g'.M) {cs:List (Option D)}{ho:Option (Nat×AVal)}{us:List Value} (bf:∀vs,Xy g (hoL ho) vs->Xy g' (hoL ho) vs) (h:Xy g (Yj cs ho) us):Xy g' (Yj cs ho) us:=by
 refine X4k (V6 h) fun i x u hx hu=> ?_;obtain⟨u',h1,h2⟩:=X07 h i x hx;rw[h1] at hu;cases hu;have plain:(∃c,x=oA c)->x.sat g' u:=by
  grind [AVal.sat_mono,Xq1]
 cases ho with
 |none=>
  grind [Yj]
 |some q=>
  simp only[Yj] at hx;rw[getElem?_set] at hx;split at hx
  ·split at hx
   ·cases hx;have:=bf [u] (by grind [hoL,Xy])
    grind [hoL,Xy]
   ·cases hx
  grind
def AObj.says:AObj->List AVal
 | .box cs=>cs
 | .raw _ ho=>hoL ho
 |_=>[]
def AObj.ment (γ:Nat) (x:AObj):Bool:=X0y γ x.says
def X4A (fr:Nat×Nat) (n:Nat):Prop:=∀i,i<n+1->¬(fr.1<=i/\i<fr.2)
def UZ (g:Gh) (w:World) (h:Value) (sz:Nat) (xs:List (List D)):Prop:=
 (∀x∈xs,J x=sz)/\
  ((h= .slice none 0 0/\xs=[])\/
  ∃b cap vs e fr,h= .slice (some ⟨b,0,none⟩) (J xs) cap/\J xs<=cap/\cap<=maxLen/\
   w.heap[b]? =some (.cells vs e fr)/\X4A fr vs.size/\cap*sz<=vs.size/\
   Xy g (xs.flatten.map .d) (vs.toList.take (J xs*sz)))
def XvX (fr:Nat×Nat) (n:Nat):Prop:=∀i,i<n->¬(fr.1<=i/\i<fr.2)
def X5Y (g:Gh) (w:World) (h:Value) (sz:Nat) (xs:List (List D)):Prop:=
 (∀x∈xs,J x=sz)/\
  ((h= .slice none 0 0/\xs=[])\/
  ∃b cap vs e fr,h= .slice (some ⟨b,0,none⟩) (J xs) cap/\J xs<=cap/\cap<=maxLen/\
   w.heap[b]? =some (.cells vs e fr)/\XvX fr vs.size/\cap*sz<=vs.size/\
   Xy g (xs.flatten.map .d) (vs.toList.take (J xs*sz)))
def U0 (h:Value) (b:Nat):Prop:=∃a n c,h= .slice (some a) n c/\a.block=b
def XeU (g:Gh) (w:World) (γ sz:Nat) (rows:List (List (List D))):Prop:=
 ((g.hd γ= .slice none 0 0/\rows=[])\/
 ∃b cap vs e fr,g.hd γ= .slice (some ⟨b,0,none⟩) (J rows) cap/\J rows<=cap/\cap<=maxLen/\
  w.heap[b]? =some (.cells vs e fr)/\X4A fr vs.size/\cap<=vs.size/\(∀i,i<J rows->vs[i]? =some (g.aI γ i))/\
  ∀i,i<J rows->¬U0 (g.aI γ i) b)/\
 (∀i r,rows[i]? =some r->UZ g w (g.aI γ i) sz r)/\
 ∀i j b,i<J rows->j<J rows->U0 (g.aI γ i) b->U0 (g.aI γ j) b->i=j
def Xz0 (ms:Array MapEntry) (es:List (Int×Int)):Prop:=ms.toList.map (fun e=>(e.key,e.val))=es.map fun p=>(Value.int .i64 p.1,Value.int .i64 p.2)
def X1X (g:Gh) (w:World) (hs:List Hd):Prop:=
 (∀h∈hs,UZ g w h.1 h.2.1 h.2.2)/\hs.Pairwise fun h k=> ∀b,U0 h.1 b->¬U0 k.1 b
def XfR (g:Gh) (w:World) (γ sz:Nat) (xs:List (List NC)):Prop:=
 (∃rows,J rows=J xs/\X15 xs.flatten rows.flatten (X4J (g.aI γ) xs)/\UZ g w (g.hd γ) sz rows)/\
 X1X g w (X4J (g.aI γ) xs)/\∀h∈X4J (g.aI γ) xs,∀b,U0 h.1 b->¬U0 (g.hd γ) b
def Ud (g:Gh) (w:World) (γ:Nat):AObj->Prop
 | .dead=>True
 | .box cs=> ∃vs e fr,w.heap[g.az γ]? =some (.cells vs e fr)/\X4A fr vs.size/\Xy g cs vs.toList/\∀c∈cs,c.cellish=true
 | .row sz xs=>UZ g w (g.hd γ) sz xs
 | .froz sz xs=>(D.sl sz xs).rep g.M (g.hd γ)
 | .mat sz rows=>XeU g w γ sz rows
 | .iter s pos=>w.heap[g.az γ]? =some (.stringIter s pos)
 | .imap es=>(g.hd γ= .slice none 1 1/\g.aI γ 0= .map (some (g.az γ)))/\∃ms clock,w.heap[g.az γ]? =some (.map ms clock)/\Xz0 ms es
 | .nest sz xs=>XfR g w γ sz xs
 | .bag hs=>X1X g w hs
 | .raw cs ho=> ∃vs e fr,w.heap[g.az γ]? =some (.cells vs e fr)/\X4A fr vs.size/\Xy g (Yj cs ho) vs.toList
 | .wrow sz xs=>X5Y g w (g.hd γ) sz xs
def Xw (g:Gh):AObj->Nat->Nat->Prop
 | .dead,_,_=>False
 | .froz _ _,_,_=>False
 | .box _,γ,b=>g.az γ=b
 | .iter _ _,γ,b=>g.az γ=b
 | .imap _,γ,b=>g.az γ=b
 | .row _ _,γ,b=>U0 (g.hd γ) b
 | .mat _ rows,γ,b=>U0 (g.hd γ) b\/∃i,i<J rows/\U0 (g.aI γ i) b
 | .nest _ xs,γ,b=>U0 (g.hd γ) b\/∃h∈X4J (g.aI γ) xs,U0 h.1 b
 | .bag hs,_,b=> ∃h∈hs,U0 h.1 b
 | .raw _ _,γ,b=>g.az γ=b
 | .wrow _ _,γ,b=>U0 (g.hd γ) b
theorem X5l (hb:g'.az γ=g.az γ) (hh:g'.hd γ=g.hd γ) (hi:g'.aI γ=g.aI γ) (x:AObj) (b:Nat):Xw g' x γ b↔Xw g x γ b:=by
 cases x<;>simp only[Xw,hb,hh,hi]
theorem XdE (γ:Nat):∀l:List D,X0y γ (l.map .d)=false
 |[]=>rfl
 |x::l=>by simp[X0y,AVal.ment,XdE γ l]
theorem X4M (hM:YN g.M g'.M) {h:Value}{sz:Nat}{xs:List (List D)} (bg:∀b,U0 h b->w'.heap[b]? =w.heap[b]?) (hr:UZ g w h sz xs):UZ g' w' h sz xs:=by
 refine⟨hr.1,?_⟩;rcases hr.2 with h'|⟨b,cap,vs,e,fr,h1,h2,h3,h4,h5,h6,h7⟩
 ·exact .inl h'
 ·refine .inr ⟨b,cap,vs,e,fr,h1,h2,h3,?_,h5,h6,X22 hM _ _ (fun γ hm=>by grind [XdE]) h7⟩
  grind [U0]
theorem XtF (hM:YN g.M g'.M) {h:Value}{sz:Nat}{xs:List (List D)} (bg:∀b,U0 h b->w'.heap[b]? =w.heap[b]?) (hr:X5Y g w h sz xs):X5Y g' w' h sz xs:=by
 refine⟨hr.1,?_⟩;rcases hr.2 with h'|⟨b,cap,vs,e,fr,h1,h2,h3,h4,h5,h6,h7⟩
 ·exact .inl h'
 ·refine .inr ⟨b,cap,vs,e,fr,h1,h2,h3,?_,h5,h6,X22 hM _ _ (fun γ hm=>by grind [XdE]) h7⟩
  grind [U0]
theorem XgE (hM:YN g.M g'.M) {hs:List Hd} (bg:∀b,(∃h∈hs,U0 h.1 b)->w'.heap[b]? =w.heap[b]?) (h:X1X g w hs):X1X g' w' hs:=
 ⟨fun k hk=>X4M hM (fun b hb=>bg b ⟨k,hk,hb⟩) (h.1 k hk),h.2⟩
theorem X8s (hM:YN g.M g'.M) (hb:g'.az γ=g.az γ) (hh:g'.hd γ=g.hd γ) (hi:g'.aI γ=g.aI γ) {x:AObj}
  (bg:∀b,Xw g x γ b->w'.heap[b]? =w.heap[b]?) (bf:∀cs us,x.says=cs->Xy g cs us->Xy g' cs us) (h:Ud g w γ x):Ud g' w' γ x:=by
 cases x with
 |dead=>trivial
 |froz sz xs=>grind [Ud,D.rep_mono]
 |iter s p=>
  grind [Ud,Xw]
 |imap es=>
  grind [Ud,Xw]
 |box cs=>
  grind [Ud,Xw,AObj.says]
 |row sz xs=>
  grind [Ud,X4M,Xw]
 |wrow sz xs=>
  grind [Ud,XtF,Xw]
 |bag hs=>exact XgE hM bg h
 |raw cs ho=>
  grind [Xg9,Ud,Xw,AObj.says]
 |nest sz xs=>
  simp only[Ud,XfR] at h |-;rw[hh,hi]
  grind [X4M,X1X,Xw]
 |mat sz rows=>
  simp only[Ud,XeU] at h |-;rw[hh,hi];refine⟨?_,fun i r hr=>X4M hM (fun b hb'=>bg b (.inr ⟨i,(GS.1 hr).1,hb'⟩)) (h.2.1 i r hr),h.2.2⟩;rcases h.1 with h'|⟨b,cap,vs,e,fr,h1,h2,h3,h4,h5,h6,h7⟩
  ·exact .inl h'
  ·refine .inr ⟨b,cap,vs,e,fr,h1,h2,h3,?_,h5,h6,h7⟩
   grind [Xw,U0]
structure Env where
 W:World
 M:Mem
 A:Nat->Prop
 g0:Gh
 ds:List Deferred:=[]
structure Inv (E:Env) (L:Nat->AObj) (g:Gh) (w:World):Prop where
 obj:∀γ,Ud g w γ (L γ)
 inj:∀γ γ' b,Xw g (L γ) γ b->Xw g (L γ') γ' b->γ=γ'
 mem:∀a v,g.M a=some v->w.cell? a=some v
 sep:∀γ b,Xw g (L γ) γ b->∀a v,g.M a=some v->a.block≠b
 new:∀γ b,Xw g (L γ) γ b->E.W.heap.size<=b\/E.A b
 ext:YN E.M g.M
 lim:∀a v,g.M a=some v->(∃v',E.M a=some v')\/E.W.heap.size<=a.block\/E.A a.block
 frame:∀b,b<E.W.heap.size->¬E.A b->w.heap[b]? =E.W.heap[b]?
 size:E.W.heap.size<=w.heap.size
 os:w.os=E.W.os
 out:w.output=E.W.output
 kp:∀γ,γ<100->E.g0.keeps g γ
def Xs {α:Type} (z:α):List (Nat×α)->Nat->α
 |[],_=>z
 |(k,x)::r,t=>bif Nat.beq k t then x else Xs z r t
theorem YK {α:Type} (z:α) (k:Nat) (x:α) (r:List (Nat×α)):Xs z ((k,x)::r) k=x:=by simp[Xs]
theorem YC {α:Type} (z:α) {k t:Nat} (x:α) (r:List (Nat×α)) (h:k≠t):Xs z ((k,x)::r) t=Xs z r t:=by
 grind [Nat.eq_of_beq_eq_true,Xs]
structure St where
 n:Nat
 τ:List (Nat×AVal)
 L:List (Nat×AObj)
def St.get (S:St) (t:Nat):AVal:=Xs .any S.τ t
def St.obj (S:St) (γ:Nat):AObj:=Xs .dead S.L γ
def Vr (E:Env) (S:St) (g:Gh) (a:Act) (w:World):Prop:=
 Inv E S.obj g w/\a.defers=E.ds/\a.tmps.size=S.n/\∀t,(S.get t).sat g (a.tmps.getD t undef)
def holds (E:Env) (S:St) (a:Act) (w:World):Prop:=∃g,Vr E S g a w
def St.ev (S:St):Operand->AVal
 | .tmp t=>S.get t
 | .const v=>bif v.oneCell' then .d (.v v) else .any
 | .global _=> .any
 | .func f=> .fn f []
variable{E:Env}{S:St}
theorem X9O {a:Act} (h:Vr E S g a w) (x:Operand):(S.ev x).sat g (a.eval x):=by
 cases x with
 |tmp t=>exact h.2.2.2 t
 |const v=>
  show(bif v.oneCell' then AVal.d (.v v) else AVal.any).sat g v
  grind [AVal.sat,D.rep]
 |global g=>grind [St.ev,AVal.sat]
 |func f=>exact⟨#[],rfl,by simp[Xy]⟩
def XzM:True:=by
 have:= @World.frozen?.match_1.congr_eq_1.{1};have:= @World.frozen?.match_1.congr_eq_2.{1};trivial
structure Cert where
 reads:List (Operand×AVal)
 dst:Option (Nat×AVal)
 fS:List (Nat×AObj)
 gf:List (Nat×AObj)
 new:List Nat
def St.set (S:St) (d:Nat) (y:AVal):St:=⟨S.n,(d,y)::S.τ,S.L⟩
def St.own (S:St) (γ:Nat) (o:AObj):St:=⟨S.n,S.τ,(γ,o)::S.L⟩
def St.cat (S:St) (Lo:List (Nat×AObj)):St:=⟨S.n,S.τ,Lo++S.L⟩
def St.skip (S:St) (d:Option Nat):St:=⟨S.n,(d.map fun t=>(t,AVal.tup [])).toList++S.τ,S.L⟩
def X7N (γ:Nat):List (Nat×AVal)->Bool
 |[]=>true
 |p::r=> !p.2.ment γ&&X7N γ r
def X8k (γ:Nat):List (Nat×AObj)->Bool
 |[]=>true
 |p::r=> !p.2.ment γ&&X8k γ r
def St.free (S:St) (γ:Nat):Bool:=Nat.ble 100 γ&&(X7N γ S.τ&&X8k γ S.L)
theorem X88 (γ:Nat):∀l,X7N γ l=true↔∀p∈l,p.2.ment γ=false
 :=by intro x;induction x<;>simp_all [X7N]
theorem Xdy (γ:Nat):∀l,X8k γ l=true↔∀p∈l,p.2.ment γ=false
 :=by intro x;induction x<;>simp_all [X8k]
def Cert.app (c:Cert) (S:St):St:={n:=S.n,τ:=c.dst.toList++S.τ,L:=c.gf++S.L}
def X1U (S:St):List (Operand×AVal)->Prop
 |[]=>True
 |p::r=>S.ev p.1=p.2/\X1U S r
def Vn (S:St):List (Nat×AObj)->Prop
 |[]=>True
 |p::r=>S.obj p.1=p.2/\Vn S r
def X33 (S:St):List Nat->Prop
 |[]=>True
 |γ::r=>S.free γ=true/\X33 S r
def X4K (S:St):Option (Nat×AVal)->Prop
 |none=>True
 |some p=>Nat.blt p.1 S.n=true
def Cert.ok (c:Cert) (S:St):Prop:=X1U S c.reads/\Vn S c.fS/\X33 S c.new/\X4K S c.dst
theorem X5n (S:St):∀l,X1U S l↔∀p∈l,S.ev p.1=p.2
 :=by intro x;induction x<;>simp_all [X1U]
theorem X6v (S:St):∀l,Vn S l↔∀p∈l,S.obj p.1=p.2
 :=by intro x;induction x<;>simp_all [Vn]
theorem X8e (S:St):∀l,X33 S l↔∀γ∈l,S.free γ=true
 :=by intro x;induction x<;>simp_all [X33]
def Yg {α:Type} (k:Nat):List (Nat×α)->Bool
 |[]=>false
 |p::r=>Nat.beq p.1 k||Yg k r
theorem X9t {α:Type} (k:Nat):∀l:List (Nat×α),Yg k l=true↔∃p∈l,p.1=k
 :=by intro x;induction x<;>simp_all [Yg]
def X7G {α β:Type} (l:List (Nat×α)):List (Nat×β)->Bool
 |[]=>true
 |p::r=> !Yg p.1 l&&X7G l r
theorem XeA {α β:Type} (l:List (Nat×α)):∀m:List (Nat×β),X7G l m=true↔∀p∈m,∀q∈l,q.1≠p.1
 |[]=>by simp[X7G]
 |p::r=>by
  simp only[X7G,Bool.and_eq_true,Bool.not_eq_true',XeA l r,mem_cons,forall_eq_or_imp];refine and_congr_left fun _=> ?_;rw[<-Bool.not_eq_true,X9t];exact⟨fun h q hq e=>h ⟨q,hq,e⟩,fun h ⟨q,hq,e⟩=>h q hq e⟩
theorem X5L {a b:Nat} (h:Nat.beq a b=false):a≠b:=by
 intro e;subst e;simp at h
def X6N (d:Nat):List (Operand×AVal)->Bool
 |[]=>true
 |(.tmp t,_)::r=> !Nat.beq t d&&X6N d r
 |_::r=>X6N d r
theorem XdL (d:Nat):∀l,X6N d l=true->∀p∈l,p.1≠.tmp d
 |[],_,_,h=>by simp at h
 |(x,_)::r,h,q,hq=>by
  have hr:X6N d r=true:=by
   cases x<;>simp[X6N] at h<;>first|exact h.2|exact h
  rcases mem_cons.1 hq with rfl|hq
  ·cases x with
   |tmp t=>simp only[X6N,Bool.and_eq_true,Bool.not_eq_true'] at h;intro e;cases e;exact X5L h.1 rfl
   |_=>simp
  ·exact XdL d r hr q hq
def X9A (x:Option (Nat×AVal)) (c:Cert):Bool:=
 match x with
 |none=>true
 |some p=>X6N p.1 c.reads&&(match c.dst with|none=>true|some q=> !Nat.beq p.1 q.1)
def X9E (c:Cert):List Nat->Bool
 |[]=>true
 |γ::r=>(X7N γ c.dst.toList&&X8k γ c.gf)&&X9E c r
theorem Xse (c:Cert):∀l,X9E c l=true↔∀γ∈l,X7N γ c.dst.toList=true/\X8k γ c.gf=true
 :=by intro x;induction x<;>simp_all [X9E]
def X4T (c d:Cert):Bool:=
 X9A c.dst d&&X9A d.dst c&&X7G c.gf d.fS&&X7G c.gf d.gf&&X7G d.gf c.fS&&X9E d c.new&&X9E c d.new
structure St.Eqv (S T:St):Prop where
 n:S.n=T.n
 get:∀t,S.get t=T.get t
 obj:∀γ,S.obj γ=T.obj γ
 memT:∀p,p∈S.τ↔p∈T.τ
 memL:∀p,p∈S.L↔p∈T.L
theorem St.Eqv.refl (S:St):S.Eqv S:=⟨rfl,fun _=>rfl,fun _=>rfl,fun _=>Iff.rfl,fun _=>Iff.rfl⟩
variable{T:St}
theorem St.Eqv.symm (h:S.Eqv T):T.Eqv S:=⟨h.n.symm,fun t=>(h.get t).symm,fun t=>(h.obj t).symm,fun p=>(h.memT p).symm,fun p=>(h.memL p).symm⟩
variable{U:St}
def St.Eqv.trans (h:S.Eqv T) (k:T.Eqv U):S.Eqv U:=
 ⟨h.n.trans k.n,fun t=>(h.get t).trans (k.get t),fun t=>(h.obj t).trans (k.obj t),fun p=>(h.memT p).trans (k.memT p),fun p=>(h.memL p).trans (k.memL p)⟩
theorem St.Eqv.ev (h:S.Eqv T) (x:Operand):S.ev x=T.ev x:=by
 cases x<;>first|rfl|exact h.get _
theorem St.Eqv.free (h:S.Eqv T) (γ:Nat):S.free γ=T.free γ:=by
 rw[Bool.eq_iff_iff];simp only[St.free,Bool.and_eq_true,X88,Xdy];exact and_congr_right fun _=>and_congr ⟨fun k p hp=>k p ((h.memT p).2 hp),fun k p hp=>k p ((h.memT p).1 hp)⟩ ⟨fun k p hp=>k p ((h.memL p).2 hp),fun k p hp=>k p ((h.memL p).1 hp)⟩
def St.Eqv.holds (h:S.Eqv T) {E:Env}{a:Act}{w:World} (hs:holds E S a w):holds E T a w:=by
 obtain⟨g,h1,h2,h3,h4⟩:=hs;have:S.obj=T.obj:=funext h.obj;exact⟨g,this ▸ h1,h2,h.n ▸ h3,fun t=>by rw[<-h.get];exact h4 t⟩
def Cert.ok_eqv {c:Cert} (h:S.Eqv T) (hc:c.ok S):c.ok T:=by
 obtain⟨h1,h2,h3,h4⟩:=hc;rw[X5n] at h1;rw[X6v] at h2;rw[X8e] at h3;refine⟨(X5n _ _).2 fun p hp=>(h.ev _).symm.trans (h1 p hp),(X6v _ _).2 fun p hp=>(h.obj _).symm.trans (h2 p hp),(X8e _ _).2 fun γ b6=>(h.free γ).symm.trans (h3 γ b6),?_⟩;cases hd:c.dst with
 |none=>trivial
 |some p=>rw[hd] at h4;simp only[X4K] at h4 |-;rw[<-h.n];exact h4
theorem X7m {α:Type} (z:α) (l m:List (Nat×α)) (k:Nat):Xs z (l++m) k=if Yg k l then Xs z l k else Xs z m k:=by
 induction l<;>grind [Yg,Xs]
theorem St.Eqv.app (h:S.Eqv T) (c:Cert):(c.app S).Eqv (c.app T):=by
 refine⟨h.n,fun t=> ?_,fun γ=> ?_,fun p=> ?_,fun p=> ?_⟩
 ·show Xs _ _ _=Xs _ _ _;simp only[Cert.app,X7m];split
  ·rfl
  ·exact h.get t
 ·show Xs _ _ _=Xs _ _ _;simp only[Cert.app,X7m];split
  ·rfl
  ·exact h.obj γ
 ·simp only[Cert.app,mem_append,h.memT]
 ·simp only[Cert.app,mem_append,h.memL]
def Xq4 {c d:Cert} (hi:X4T c d=true) (S:St):(d.app (c.app S)).Eqv (c.app (d.app S)):=by
 simp only[X4T,Bool.and_eq_true] at hi;obtain⟨⟨⟨⟨⟨⟨h1,h2⟩,h3⟩,h4⟩,h5⟩,h6⟩,h7⟩:=hi;rw[XeA] at h4;have hd:∀t,Yg t c.dst.toList=true->Yg t d.dst.toList=true->False:=by
  grind [X9t,X9A,Yg]
 refine⟨rfl,fun t=> ?_,fun γ=> ?_,fun p=> ?_,fun p=> ?_⟩
 ·grind [Cert.app,X7m,St.get]
 ·grind [Cert.app,X7m,X9t,St.obj]
 ·grind [Cert.app]
 grind [Cert.app]
theorem XmI {c:Cert} (h:∀p,c.dst=some p->x≠.tmp p.1):(c.app S).ev x=S.ev x:=by
 cases x with
 |tmp t=>
  show Xs _ _ _=Xs _ _ _
  grind [Cert.app,X7m,X9t]
 |_=>rfl
theorem Xkm {c:Cert} (h:∀p∈c.gf,p.1≠γ):(c.app S).obj γ=S.obj γ:=by
 grind [Cert.app,X7m,X9t,St.obj]
def Xqn {c d:Cert} (hi:X4T c d=true) {S:St} (hc:c.ok S) (hd:d.ok (c.app S)):d.ok S/\c.ok (d.app S):=by
 have hi':=hi;simp only[X4T,Bool.and_eq_true] at hi;obtain⟨⟨⟨⟨⟨⟨h1,h2⟩,h3⟩,h4⟩,h5⟩,h6⟩,h7⟩:=hi;rw[XeA] at h3 h4 h5;rw[Xse] at h6 h7;obtain⟨c1,c2,c3,c4⟩:=hc;obtain⟨d1,d2,d3,d4⟩:=hd;rw[X5n] at c1 d1;rw[X6v] at c2 d2;rw[X8e] at c3 d3
 refine⟨⟨(X5n _ _).2 fun p hp=> ?_,(X6v _ _).2 fun p hp=> ?_,(X8e _ _).2 fun γ b6=> ?_,?_⟩,
  (X5n _ _).2 fun p hp=> ?_,(X6v _ _).2 fun p hp=> ?_,(X8e _ _).2 fun γ b6=> ?_,?_⟩
 ·grind [XmI,X9A,XdL]
 ·grind [Xkm]
 ·have:=d3 γ b6;simp only[St.free,Cert.app,Bool.and_eq_true,X88,Xdy,mem_append] at this |-
  grind
 ·exact d4
 ·grind [XmI,X9A,XdL]
 ·grind [Xkm]
 ·grind [St.free,Cert.app,X88,Xdy]
 ·exact c4
def XaB (P:Program) (ops:Array Oper) (o:Oper) (c:Cert):Prop:=
 ∀(E:Env) (S:St) (a:Act) (w:World),holds E S a w->c.ok S->
  ∀(Q:Exit->Act->World->Prop) (K:Act->World->Prop),(∀a' w',holds E (c.app S) a' w'->K a' w')->
   if Region.wanted o (yielded ops a.tmps) then o.wp P a w K Q else K (a.put o.dst undef) w
abbrev XU:=List (Nat×Oper×Cert)
def X7L (P:Program) (ops:Array Oper) (E:Env) (Q:Exit->Act->World->Prop) (o:Oper) (c:Cert):Prop:=
 ∀(S:St) (a:Act) (w:World),holds E S a w->c.ok S->
  ∀(K:Act->World->Prop),(∀a' w',holds E (c.app S) a' w'->K a' w')->
   if Region.wanted o (yielded ops a.tmps) then o.wp P a w K Q else K (a.put o.dst undef) w
theorem XaB.q {o:Oper}{c:Cert} (h:XaB P ops o c) (E:Env) (Q:Exit->Act->World->Prop):X7L P ops E Q o c:=fun S a w hs hok K=>h E S a w hs hok Q K
def X0E (V:Oper->Cert->Prop):XU->St->St->Prop
 |[],S,T=>S.Eqv T
 |x::r,S,T=>V x.2.1 x.2.2/\x.2.2.ok S/\X0E V r (x.2.2.app S) T
abbrev Xef (P:Program) (ops:Array Oper):XU->St->St->Prop:=X0E (XaB P ops)
variable{V:Oper->Cert->Prop}
def X0E.mono {W:Oper->Cert->Prop} (hV:∀o c,V o c->W o c):∀{l:XU}{S T:St},X0E V l S T->X0E W l S T
 |[],_,_,h=>h
 |_::_,_,_,h=>⟨hV _ _ h.1,h.2.1,X0E.mono hV h.2.2⟩
def X0E.eqv:∀{l:XU}{S S' T:St},S.Eqv S'->X0E V l S T->X0E V l S' T
 |[],_,_,_,h,hc=>h.symm.trans hc
 |x::r,_,_,_,h,hc=>⟨hc.1,Cert.ok_eqv h hc.2.1,X0E.eqv (h.app _) hc.2.2⟩
theorem X0E.app:∀{l m:XU}{S T U:St},X0E V l S T->X0E V m T U->X0E V (l++m) S U
 |[],[],S,T,U,h,k=>h.trans k
 |[],x::m,S,T,U,h,k=>⟨k.1,Cert.ok_eqv h.symm k.2.1,X0E.eqv (h.symm.app _) k.2.2⟩
 |_::_,_,_,_,_,h,k=>⟨h.1,h.2.1,X0E.app h.2.2 k⟩
def X0E.front {V:Oper->Cert->Prop}{k:Nat×Oper×Cert}{l₂:XU}{T:St}:∀{l₁:XU}{S:St},
  (∀x∈l₁,X4T x.2.2 k.2.2=true)->X0E V (l₁++k::l₂) S T->X0E V (k::(l₁++l₂)) S T
 |[],_,_,h=>h
 |x::l₁,S,hi,h=>by
  obtain⟨hx,jY,hr⟩:=h;have hr':=X0E.front (l₁:=l₁) (fun y hy=>hi y (by simp[hy])) hr;obtain⟨hk,n9,gT⟩:=hr';have qE:=Xqn (hi x (by simp)) jY n9;exact⟨hk,qE.1,hx,qE.2,X0E.eqv (Xq4 (hi x (by simp)) S) gT⟩
def X5z (ops:Array Oper):Nat->Nat->Nat->Bool
 |0,_,_=>false
 |n+1,i,x=>((ops[i]?).map fun o=>o.after.toList.any fun e=>Region.binds .any e&&(Nat.beq e.on x||X5z ops n e.on x)).getD false
def XbN (ops:Array Oper) (k:Nat×Oper×Cert):XU->Bool
 |[]=>true
 |x::r=>(X4T x.2.2 k.2.2||X5z ops ops.size k.1 x.1)&&XbN ops k r
def Xf5 (k:Nat×Oper×Cert):Bool:=k.2.1.after.toList.all fun e=> !Region.binds .any e||Nat.blt e.on k.1
def X7l (ops:Array Oper):XU->Bool
 |[]=>true
 |k::r=>XbN ops k r&&Xf5 k&&X7l ops r
theorem XuC (ops:Array Oper) (k:Nat×Oper×Cert):∀l,XbN ops k l=true↔∀x∈l,X4T x.2.2 k.2.2=true\/X5z ops ops.size k.1 x.1=true
 :=by intro x;induction x<;>simp_all [XbN]
def Xlo {listed:Array Bool}
  (eg:∀j o,ops[j]? =some o->listed.getD j false=true->∀e∈o.after,Region.binds .any e=true->listed.getD e.on false=true):
  ∀(n i x:Nat) (o:Oper),ops[i]? =some o->(∀e∈o.after,Region.binds .any e=true->listed.getD e.on false=true)->X5z ops n i x=true->listed.getD x false=true
 |0,_,_,_,_,_,h=>by simp[X5z] at h
 |n+1,i,x,o,ho,he,h=>by
  simp only[X5z,ho,Option.map_some,Option.getD_some,any_eq_true,Bool.and_eq_true,Bool.or_eq_true] at h;obtain⟨e,hm,hb,hx⟩:=h;have hl:=he e (by simpa using hm) hb;rcases hx with hx|hx
  ·rw[<-Nat.eq_of_beq_eq_true hx];exact hl
  ·cases ho':ops[e.on]? with
   |none=>cases n<;>simp[X5z,ho'] at hx
   |some o'=>exact Xlo eg n e.on x o' ho' (fun e' h1 h2=>eg _ _ ho' hl e' h1 h2) hx
structure Rest (ops:Array Oper) (l:XU) (listed:Array Bool):Prop where
 at_:∀x∈l,ops[x.1]? =some x.2.1
 inc:l.Pairwise fun x y=>x.1<y.1
 all:∀i,listed.getD i true=false↔∃x∈l,x.1=i
 closed:∀j o,ops[j]? =some o->listed.getD j false=true->∀e∈o.after,Region.binds .any e=true->listed.getD e.on false=true
 size:listed.size=ops.size
 pairs:∀x∈l,∀y∈l,x.1<y.1->X4T x.2.2 y.2.2=true\/X5z ops ops.size y.1 x.1=true
 aj:∀x∈l,∀e∈x.2.1.after,Region.binds .any e=true->e.on<x.1
def Xs2 (hQ:∀a w,holds E T a w->Q .normal a w):
  ∀(fuel:Nat) (l:XU) (listed:Array Bool) (S:St) (a:Act) (w:World),J l=fuel->Rest ops l listed->X0E (X7L P ops E Q) l S T->holds E S a w->
   wpAny P .any ops Q fuel listed a w:=by
 intro fuel;induction fuel with
 |zero=>
  intro l listed S a w hl hr hc hs;have hl':l=[]:=by grind
  subst hl';refine⟨?_,hQ _ _ (St.Eqv.holds hc hs)⟩;rw[eq_nil_iff_forall_not_mem];intro i hi;rw[mem_ready] at hi;obtain⟨x,hx,_⟩:=(hr.all i).1 hi.1;simp at hx
 |succ fuel ih=>
  intro l listed S a w hl hr hc hs;refine⟨fun eE=> ?_,fun i hi=> ?_⟩
  ·exfalso;cases l with
   |nil=>simp at hl
   |cons x r=>
    have hx:x.1∈Region.ready .any ops listed:=by
     rw[mem_ready];refine⟨(hr.all x.1).2 ⟨x,by simp,rfl⟩,x.2.1,hr.at_ x (by simp),fun e he hb=> ?_⟩;have hlt:=hr.aj x (by simp) e he hb;cases hle:listed.getD e.on true with
     |false=>
      obtain⟨y,hy,jr⟩:=(hr.all e.on).1 hle;rcases mem_cons.1 hy with rfl|hy
      ·omega
      ·have:=(pairwise_cons.1 hr.inc).1 y hy;omega
     |true=>
      have hi:e.on<ops.size:=by
       have:=hr.at_ x (by simp)
       grind
      have hi':e.on<listed.size:=by rw[hr.size];exact hi
      simpa [hi'] using hle
    grind
  ·rw[mem_ready] at hi;obtain⟨iC,o,ho,hall⟩:=hi;obtain⟨k,hk,rfl⟩:=(hr.all _).1 iC;have n9:=hr.at_ k hk;rw[ho] at n9;cases n9;obtain⟨l₁,l₂,rfl⟩:=append_of_mem hk;have kX:=hr.inc;rw[pairwise_append] at kX;have hlt:∀x∈l₁,x.1<k.1:=fun x hx=>kX.2.2 x hx k (by simp);have qF:∀x∈l₁,X4T x.2.2 k.2.2=true:=by
    intro x hx;rcases hr.pairs x (by simp[hx]) k (by simp) (hlt x hx) with h|h
    ·exact h
    ·have h1:=Xlo hr.closed _ _ _ _ ho hall h;have h2:=(hr.all x.1).2 ⟨x,by simp[hx],rfl⟩
     grind
   obtain⟨hv,hok,gT⟩:=X0E.front qF hc;have uO:k.1<listed.size:=by grind
   have hrl:Rest ops (l₁++l₂) (listed.setIfInBounds k.1 true):=by
    refine⟨fun x hx=>hr.at_ x (by grind),?_,fun i=> ?_,fun j o' hj hl' e he hb=> ?_,by simp[hr.size],?_,?_⟩
    ·grind
    ·by_cases hik:i=k.1
     ·subst hik;constructor
      ·simp
      grind [pairwise_cons]
     ·rw[getD_set_ne true (Ne.symm hik),hr.all];constructor
      ·rintro⟨x,hx,rfl⟩
       grind
      ·rintro⟨x,hx,rfl⟩
       grind
    ·by_cases lq:j=k.1
     ·grind [getD_set_true]
     ·rw[getD_set_ne false (Ne.symm lq)] at hl';exact getD_set_true (hr.closed j o' hj hl' e he hb)
    ·intro x hx y hy hxy;refine hr.pairs x ?_ y ?_ hxy<;>grind
    ·intro x hx;exact hr.aj x (by grind)
   have hlen:J (l₁++l₂)=fuel:=by simp at hl |-;omega
   unfold wpOp;simp only[ho];have iD:=hv S a w hs hok (wpAny P .any ops Q fuel (listed.setIfInBounds k.1 true)) (fun a' w' h'=>ih _ _ _ _ _ hlen hrl gT h')
   grind
def XiG (hQ:∀a w,holds E T a w->Q .normal a w):
  ∀(l:XU) (S:St) (a:Act) (w:World),(∀x∈l,ops[x.1]? =some x.2.1)->Xef P ops l S T->holds E S a w->wpOps P ops Q (l.map (·.1)) a w
 |[],S,a,w,_,hc,hs=>hQ _ _ (St.Eqv.holds hc hs)
 |x::r,S,a,w,ha,hc,hs=>by
  obtain⟨hv,hok,hr⟩:=hc;rw[map_cons,wpOps_cons];unfold wpOp;simp only[ha x (by simp)];have iD:=hv E S a w hs hok Q (wpOps P ops Q (r.map (·.1))) (fun a' w' h'=>XiG hQ r _ _ _ (fun y hy=>ha y (by simp[hy])) hr h');split
  ·rename_i hw;rw[PI hw] at iD;exact .inl iD
  ·rename_i hw;rw[NI hw] at iD;exact iD
inductive Walk (P:Program) (ops:Array Oper) (draw:Bool) (K:XU->St->Prop):List Oper->XU->St->Prop
 |done {l:XU}{S:St}:(draw=true->X7l ops l=true)->K l S->Walk P ops draw K [] l S
 |step {o:Oper}{rest:List Oper}{l:XU}{S:St} (c:Cert):XaB P ops o c->c.ok S->
   Walk P ops draw K rest ((J l,o,c)::l) (c.app S)->Walk P ops draw K (o::rest) l S
variable{K:XU->St->Prop}
def Walk.chain {rest:List Oper}{l:XU} (h:Walk P ops draw K rest l S):
  ∃(m:XU) (T:St),(draw=true->X7l ops (m.reverse++l)=true)/\K (m.reverse++l) T/\Xef P ops m S T/\m.map (·.2.1)=rest/\m.map (·.1)=range' (J l) (J m):=by
 induction h with
 |done hok hK=>exact⟨[],_,by simpa using hok,by simpa using hK,St.Eqv.refl _,rfl,rfl⟩
 |step c hv hok _ ih=>
  rename_i o rest l S _;obtain⟨m,T,h1,h2,h3,h4,h5⟩:=ih;refine⟨(J l,o,c)::m,T,fun hd=> ?_,by simpa using h2,⟨hv,hok,h3⟩,by simp[h4],?_⟩<;>simp_all [range'_succ]
def Xix:∀(l:XU),X7l ops l=true->(l.Pairwise fun y x=>X4T x.2.2 y.2.2=true\/X5z ops ops.size y.1 x.1=true)/\∀x∈l,Xf5 x=true
 |[],_=>by simp
 |k::r,h=>by
  simp only[X7l,Bool.and_eq_true,XuC] at h;obtain⟨⟨h1,h2⟩,h3⟩:=h;have ih:=Xix r h3;exact⟨pairwise_cons.2 ⟨fun x hx=>h1 x hx,ih.1⟩,fun x hx=>(mem_cons.1 hx).elim (fun e=>e ▸ h2) (ih.2 x)⟩
theorem XxT {a:Act} (h:holds E S a w):holds E S a {w with drawn:=w.drawn+1}:=by
 obtain⟨g,hi,h2⟩:=h;exact⟨g,⟨fun γ=>by
  have:=hi.obj γ;revert this;cases S.obj γ<;>exact id,hi.inj,hi.mem,hi.sep,hi.new,hi.ext,hi.lim,hi.frame,hi.size,hi.os,hi.out,hi.kp⟩,h2⟩
def XnU {m:XU} (h4:m.map (·.2.1)=ops.toList) (h5:m.map (·.1)=range' 0 (J m)):∀x∈m,ops[x.1]? =some x.2.1:=by
 intro x hx;obtain⟨i,hi,rfl⟩:=getElem_of_mem hx;have e1:(m[i]).1=i:=by
  have:=CG (fun l=>l[i]?) h5;simpa [hi] using this
 have e2:=CG (fun l=>l[i]?) h4
 grind
theorem Xoj {m:XU} (hm:P.follows .mixedOrders=true)
  (h1:X7l ops m.reverse=true) (hQ:∀a w,holds E T a w->Q .normal a w) (h3:X0E (X7L P ops E Q) m S T) (h4:m.map (·.2.1)=ops.toList) (h5:m.map (·.1)=range' 0 (J m)) {a:Act}{w:World} (hs:holds E S a w):
  (Code.region id ops true).wp P Q a w:=by
 have hlen:J m=ops.size:=by have:=CG length h4;simpa using this
 have aY:=XnU h4 h5;refine wp_region_any hm ?_;have oB:=Xix _ h1;refine Xs2 hQ ops.size m _ S a _ hlen ?_ h3 (XxT hs);have kX:m.Pairwise fun x y=>x.1<y.1:=by
  grind [pairwise_lt_range']
 refine⟨aY,kX,fun i=> ?_,fun j o hj hl=> ?_,by simp,?_,?_⟩
 ·constructor
  ·intro hi;have hlt:i<ops.size:=by
    grind
   have:i∈m.map (·.1):=by grind
   simpa using this
  ·rintro⟨x,hx,rfl⟩;have:=(Array.getElem?_eq_some_iff.1 (aY x hx)).1;simp[this]
 ·exfalso;have:=(Array.getElem?_eq_some_iff.1 hj).1;simp[this] at hl
 ·intro x hx y hy hxy;have hp:=pairwise_reverse.1 oB.1;obtain⟨i,hi,rfl⟩:=getElem_of_mem hx;obtain⟨j,hj,rfl⟩:=getElem_of_mem hy
  grind [pairwise_iff_getElem]
 ·intro x hx e he hb;have:=oB.2 x (by simpa using hx);simp only[Xf5,all_eq_true] at this;have:=this e (by simpa using he);simp_all
theorem XqG 
  (hm:draw=true->P.follows .mixedOrders=true)
  (h:Walk P ops draw K ops.toList [] S) (hQ:∀l T,K l T->∀a w,holds E T a w->Q .normal a w) {a:Act}{w:World} (hs:holds E S a w):
  (Code.region id ops draw).wp P Q a w:=by
 obtain⟨m,T,h1,h2,h3,h4,h5⟩:=h.chain;cases draw with
 |false=>
  refine wp_region ?_;have hlen:J m=ops.size:=by have:=CG length h4;simpa using this
  have:=XiG (P:=P) (Q:=Q) (hQ _ T h2) m S a w (XnU h4 h5) h3 hs
  grind [range_eq_range']
 |true=>exact Xoj (hm rfl) (by simpa using h1 rfl) (hQ _ T h2) (h3.mono fun o c hv=>hv.q E Q) h4 h5 hs
def Gh.keeps.trans' (h:g.keeps g' γ) (k:g'.keeps n7 γ):g.keeps n7 γ:=Gh.keeps_trans h k
theorem X9g (hr:UZ g w h sz xs) {b:Nat} (hb:U0 h b):b<w.heap.size:=by
 grind [UZ,U0]
def Xy1 (hr:X5Y g w h sz xs) {b:Nat} (hb:U0 h b):b<w.heap.size:=by
 grind [X5Y,U0]
variable{L:Nat->AObj}
theorem X4H (hi:Inv E L g w) {γ b:Nat} (h:Xw g (L γ) γ b):b<w.heap.size:=by
 have ho:=hi.obj γ;cases hL:L γ with
 |dead=>grind [Xw]
 |froz sz xs=>grind [Xw]
 |box cs=>
  grind [Xw,Ud]
 |iter s p=>
  grind [Xw,Ud]
 |imap es=>
  grind [Xw,Ud]
 |row sz xs=>
  rw[hL] at h ho;exact X9g ho h
 |wrow sz xs=>
  rw[hL] at h ho;exact Xy1 ho h
 |raw cs hole=>
  grind [Xw,Ud]
 |bag hs=>
  rw[hL] at h ho;obtain⟨k,hk,hb⟩:=h;exact X9g (ho.1 k hk) hb
 |nest sz xs=>
  rw[hL] at h ho;obtain⟨⟨rows,_,_,h1⟩,h2,_⟩:=ho
  grind [Xw,UZ,X1X,U0]
 |mat sz rows=>
  rw[hL] at h ho;obtain⟨h1,h2,h3⟩:=ho;rcases h with h|⟨i,hi',hb⟩
  ·grind [U0]
  ·exact X9g (h2 i _ (getElem?_eq_getElem hi')) hb
variable{L':Nat->AObj}
theorem Inv.updX (hi:Inv E L g w) (γ:Nat) (obj':AObj)
  (hL:L' γ=obj') (hL':∀k,k≠γ->L' k=L k)
  (bg:∀b,b<w.heap.size->¬Xw g (L γ) γ b->w'.heap[b]? =w.heap[b]?)
  (hsize:w.heap.size<=w'.heap.size) (hos:w'.os=w.os) (hout:w'.output=w.output)
  (hM:g'.M=g.M) (hk:∀k,k≠γ->g'.az k=g.az k/\g'.hd k=g.hd k/\g'.aI k=g.aI k)
  (bf:∀k cs us,k≠γ->(L k).says=cs->Xy g cs us->Xy g' cs us)
  (gU:Ud g' w' γ obj')
  (fD:∀b,Xw g' obj' γ b->Xw g (L γ) γ b\/w.heap.size<=b\/((∀k,k≠γ->¬Xw g (L k) k b)/\(∀a v,g.M a=some v->a.block≠b)/\(E.W.heap.size<=b\/E.A b))) (hkp:γ<100->g.keeps g' γ):Inv E L' g' w':=by
 have hlv:∀k b,k≠γ->(Xw g' (L' k) k b↔Xw g (L k) k b):=by
  grind [X5l]
 have hold:∀k b,k≠γ->Xw g (L k) k b->w'.heap[b]? =w.heap[b]? :=by
  intro k b b8 hb;refine bg b (X4H hi hb) fun h=>b8 (hi.inj _ _ _ hb h)
 refine⟨fun k=> ?_,fun k k' b h h'=> ?_,fun a v h=> ?_,fun k b h a v hm=> ?_,fun k b h=> ?_,hM ▸ hi.ext,hM ▸ hi.lim,fun b hb hA=> ?_,Nat.le_trans hi.size hsize,hos.trans hi.os,hout.trans hi.out,fun k gV=> ?_⟩
 ·by_cases b8:k=γ
  ·grind
  ·rw[hL' k b8];exact X8s (by grind [YN.refl]) (hk k b8).1 (hk k b8).2.1 (hk k b8).2.2 (fun b hb=>hold k b b8 hb) (fun cs us e h=>bf k cs us b8 e h) (hi.obj k)
 ·by_cases h1:k=γ<;>by_cases h2:k'=γ
  ·rw[h1,h2]
  ·subst h1;rw[hL] at h;rw[hlv k' _ h2] at h';rcases fD b h with h3|h3|h3
   ·exact hi.inj _ _ _ h3 h'
   ·grind [X4H]
   grind
  ·subst h2;rw[hL] at h';rw[hlv k _ h1] at h;rcases fD b h' with h3|h3|h3
   ·exact hi.inj _ _ _ h h3
   ·grind [X4H]
   grind
  ·rw[hlv k _ h1] at h;rw[hlv k' _ h2] at h';exact hi.inj _ _ _ h h'
 ·rw[hM] at h;have hc:=hi.mem a v h;have hlt:=block_lt_of_cell hc;have:=bg a.block hlt (fun hlv=>hi.sep _ _ hlv a v h rfl)
  grind [World.cell?]
 ·rw[hM] at hm;by_cases h1:k=γ
  ·subst h1;rw[hL] at h;rcases fD b h with h3|h3|h3
   ·exact hi.sep _ _ h3 a v hm
   ·have:=block_lt_of_cell (hi.mem a v hm);omega
   grind
  ·rw[hlv k _ h1] at h;exact hi.sep _ _ h a v hm
 ·by_cases h1:k=γ
  ·subst h1;rw[hL] at h;rcases fD b h with h3|h3|h3
   ·exact hi.new _ _ h3
   ·have:=hi.size;exact .inl (by omega)
   ·exact h3.2.2
  ·rw[hlv k _ h1] at h;exact hi.new _ _ h
 ·have:=hi.size;rw[bg b (by omega) (fun hlv=>(hi.new _ _ hlv).elim (fun h=>by omega) hA)];exact hi.frame b hb hA
 ·by_cases b8:k=γ
  ·subst b8;exact(hi.kp k gV).trans' (hkp gV)
  ·exact(hi.kp k gV).trans' (Gh.keeps_of (hk k b8).1 (hk k b8).2.1 (hk k b8).2.2)
def Inv.upd (hi:Inv E L g w) (γ:Nat) (obj':AObj)
  (hL:L' γ=obj') (hL':∀k,k≠γ->L' k=L k)
  (bg:∀b,b<w.heap.size->¬Xw g (L γ) γ b->w'.heap[b]? =w.heap[b]?)
  (hsize:w.heap.size<=w'.heap.size) (hos:w'.os=w.os) (hout:w'.output=w.output)
  (hM:g'.M=g.M) (hk:∀k,k≠γ->g'.az k=g.az k/\g'.hd k=g.hd k/\g'.aI k=g.aI k)
  (bf:∀k cs us,k≠γ->(L k).says=cs->Xy g cs us->Xy g' cs us)
  (gU:Ud g' w' γ obj')
  (fD:∀b,Xw g' obj' γ b->Xw g (L γ) γ b\/w.heap.size<=b) (hkp:γ<100->g.keeps g' γ):Inv E L' g' w':=by grind [Inv.updX]
structure AWP (P:Program) (E:Env) (c:Code) (S:St) (Q:Exit->St->Prop):Prop where
 run:∀a w,holds E S a w->c.wp P (fun e a' w'=> ∃T,Q e T/\holds E T a' w') a w
def X3p (next:St->Prop) (Q:Exit->St->Prop):Exit->St->Prop
 | .normal,T=>next T
 |e,T=>Q e T
def XkQ (id:Nat) (Q:Exit->St->Prop):Exit->St->Prop
 | .exit k,T=>bif Nat.beq k id then Q .normal T else Q (.exit k) T
 |e,T=>Q e T
def XeK (R:St->Prop):Exit->St->Prop
 | .normal,T=>R T
 | .ret,T=>R T
 |_,_=>False
section
variable {P:Program}{E:Env}{S:St}{Q:Exit->St->Prop}
def Xut (h:Q .normal S):AWP P E .skip S Q:=⟨fun a w hs=>wp_skip ⟨S,h,hs⟩⟩
def X3 (h:Q .ret S):AWP P E .ret S Q:=⟨fun a w hs=>wp_ret ⟨S,h,hs⟩⟩
theorem Xsv (h:Q (.exit id) S):AWP P E (.exit id) S Q:=⟨fun a w hs=>wp_exit ⟨S,h,hs⟩⟩
def X7Y {x y:Code} (h:AWP P E x S (X3p (fun T=>AWP P E y T Q) Q)):AWP P E (.seq x y) S Q:=by
 refine⟨fun a w hs=> ?_⟩;refine wp_seq (wp_mono (h.run a w hs) ?_);rintro e a' w' ⟨T,hq,ht⟩;cases e<;>first|exact hq.run a' w' ht|exact⟨T,hq,ht⟩
theorem Xgd {c:Code} (h:AWP P E c S (XkQ id Q)):AWP P E (.block id c) S Q:=by
 refine⟨fun a w hs=> ?_⟩;refine wp_block (wp_mono (h.run a w hs) ?_);rintro e a' w' ⟨T,hq,ht⟩;cases e with
 |exit k=>
  simp only[XkQ] at hq;simp only[Exit.inBlock];by_cases hk:k=id
  ·subst hk;simp at hq
   grind
  grind [Nat.eq_of_beq_eq_true]
 |_=>exact⟨T,hq,ht⟩
theorem X2E {x y:Code}{b:Bool} (hc:S.ev c= .d (.v (.bool b))) (ht:b=true->AWP P E x S Q) (hf:b=false->AWP P E y S Q):
  AWP P E (.cond c x y) S Q:=by
 refine⟨fun a w hs=> ?_⟩;obtain⟨g,hg⟩:=hs;have he:=X9O hg c;rw[hc] at he;simp only[AVal.sat,D.rep] at he;exact wp_cond_split he.1 (fun h=>(ht h).run a w ⟨g,hg⟩) (fun h=>(hf h).run a w ⟨g,hg⟩)
def Xqj {x y:Code}{b:Bool} (hc:S.ev c= .d (.v (.bool b))) (hb:b=true) (ht:AWP P E x S Q):AWP P E (.cond c x y) S Q:=by simp_all [X2E]
def Xr5 {x y:Code}{b:Bool} (hc:S.ev c= .d (.v (.bool b))) (hb:b=false) (hf:AWP P E y S Q):AWP P E (.cond c x y) S Q:=by simp_all [X2E]
def X6i {x y:Code}{q:Prop} (hc:S.ev c= .bq p q) (ht:p->AWP P E x S Q) (hf:q->AWP P E y S Q):
  AWP P E (.cond c x y) S Q:=by
 refine⟨fun a w hs=> ?_⟩;obtain⟨g,hg⟩:=hs;have he:=X9O hg c;rw[hc] at he;simp only[AVal.sat] at he;obtain⟨b,hb,hp,hq⟩:=he;exact wp_cond_split hb (fun h=>(ht (hp h)).run a w ⟨g,hg⟩) (fun h=>(hf (hq h)).run a w ⟨g,hg⟩)
theorem Xrz (hm:P.follows .mixedOrders=true)
  (h:Walk P ops draw (fun _=>Q .normal) ops.toList [] S):AWP P E (.region id ops draw) S Q:=
 ⟨fun a w hs=>XqG (fun _=>hm) h (fun _ T hT a' w' h'=>⟨T,hT,h'⟩) hs⟩
def St.le (S T:St):Prop:=∀E a w,holds E S a w->holds E T a w
def St.le_refl (S:St):S.le S:=fun _ _ _ h=>h
def St.le_trans {S:St} (h:S.le T) (k:T.le U):S.le U:=fun E a w x=>k E a w (h E a w x)
theorem X8 {c:Code} (h:S.le T) (k:AWP P E c T Q):AWP P E c S Q:=⟨fun a w hs=>k.run a w (h E a w hs)⟩
def Xcp {c:Code}{Q':Exit->St->Prop} (h:AWP P E c S Q) (hq:∀e T,Q e T->Q' e T):AWP P E c S Q':=
 ⟨fun a w hs=>wp_mono (h.run a w hs) fun e a' w' ⟨T,h1,h2⟩=>⟨T,hq e T h1,h2⟩⟩
def Xk4 {x y:Code} (U:St) (h:AWP P E x S (X3p (fun T=>T.le U) Q)) (k:AWP P E y U Q):AWP P E (.seq x y) S Q:=by
 refine X7Y (Xcp h ?_);intro e T hq;cases e<;>first|exact X8 hq k|exact hq
theorem XtT {c:Code}{ι:Type} (st:ι->St) (m:ι->Nat) (i₀:ι) (h₀:S.le (st i₀))
  (hr:∀i,AWP P E c (st i) (X3p (fun T=> ∃j,m j<m i/\T.le (st j)) Q)):AWP P E (.loop c) S Q:=by
 refine⟨fun a w hs b k cs=> ?_⟩
 have key:∀n i a w,m i=n->holds E (st i) a w->
   ∃e a' w',(∃T,Q e T/\holds E T a' w')/\Arrives P (lone (b.at a (.code c:: .inLoop c::k)) cs w) b k cs e a' w':=by
  intro n;induction n using Nat.strongRecOn with
  |_ n ih=>
   intro i a w hn hh;obtain⟨e,a₁,w₁,⟨T,hq,ht⟩,fA⟩:=(hr i).run a w hh b (.inLoop c::k) cs;cases e with
   |normal=>
    obtain⟨j,hj,hle⟩:=hq;obtain⟨e₂,a₂,w₂,hq₂,harr₂⟩:=ih (m j) (hn ▸ hj) j a₁ w₁ rfl (hle E a₁ w₁ ht);exact⟨e₂,a₂,w₂,hq₂,.of_steps (Steps.trans fA (.one step_inLoop)) harr₂⟩
   |exit id=>exact⟨_,a₁,w₁,⟨T,hq,ht⟩,.pass (x:= .inLoop c) rfl (fun _ _=> .inl (by simp)) fA⟩
   |goto l=>exact⟨_,a₁,w₁,⟨T,hq,ht⟩,.pass (x:= .inLoop c) rfl (fun _ _=> .inl (by simp)) fA⟩
   |ret=>exact⟨_,a₁,w₁,⟨T,hq,ht⟩,.pass (x:= .inLoop c) rfl (fun _ _=> .inl (by simp)) fA⟩
   |panic ch=>exact⟨_,a₁,w₁,⟨T,hq,ht⟩,.pass (x:= .inLoop c) rfl (fun _ _=> .inl (by simp)) fA⟩
   |outgrown=>exact⟨_,a₁,w₁,⟨T,hq,ht⟩,.pass (x:= .inLoop c) rfl (fun _ _=> .inl (by simp)) fA⟩
 obtain⟨e,a',w',hq,fA⟩:=key _ i₀ a w rfl (h₀ E a w hs);exact⟨e,a',w',hq,.of_steps (.one step_loop) fA⟩
def Xl {c:Code}{ι:Type} (I:ι->Prop) (st:ι->St) (m:ι->Nat) (i₀:ι) (hI:I i₀) (h₀:S.le (st i₀))
  (hr:∀i,I i->AWP P E c (st i) (X3p (fun T=> ∃j,I j/\m j<m i/\T.le (st j)) Q)):AWP P E (.loop c) S Q:=by
 refine XtT (ι:={i:ι//I i}) (fun i=>st i.1) (fun i=>m i.1) ⟨i₀,hI⟩ h₀ fun i=> ?_;refine Xcp (hr i.1 i.2) fun e T hq=> ?_;cases e with
 |normal=>obtain⟨j,h1,h2,h3⟩:=hq;exact⟨⟨j,h1⟩,h2,h3⟩
 |_=>exact hq
end
abbrev ab (b:Bool):AVal:= .d (.v (.bool b))
abbrev ai (n:Int):AVal:= .d (.v (.int .i64 n))
abbrev au8 (n:Int):AVal:= .d (.v (.int .u8 n))
abbrev aZ (s:ByteArray):AVal:= .d (.v (.string s))
abbrev aq:AVal:= .d (.v (.slice none 0 0))
def VK (g:Gh) (a:Act):List (Operand×AVal)->Prop
 |[]=>True
 |p::r=>p.2.sat g (a.eval p.1)/\VK g a r
theorem X1K {a:Act} (h:Vr E S g a w):∀l,X1U S l->VK g a l
 |[],_=>trivial
 |p::r,hr=>⟨by grind [X9O,X1U],X1K h r hr.2⟩
def X8R (P:Program) (o:Oper) (c:Cert):Prop:=
 ∀E S a w g,Vr E S g a w->c.ok S->∀(Q:Exit->Act->World->Prop) (K:Act->World->Prop),(∀a' w',holds E (c.app S) a' w'->K a' w')->o.wp P a w K Q
def X4i (ops:Array Oper) (j:Nat):Nat:=((ops[j]?).bind (·.dst)).getD 0
def XH (ops:Array Oper):Option (Nat×Bool)->List (Operand×AVal)
 |none=>[]
 |some (j,b)=>[(.tmp (X4i ops j),ab b)]
def XL (ops:Array Oper) (S:St):Option (Nat×Bool)->Prop
 |none=>True
 |some (j,b)=>((ops[j]?).bind (·.dst)).isSome=true/\S.get (X4i ops j)=ab b
def Xn1 (ops:Array Oper) (S:St):Option (Nat×Bool)->Prop
 |none=>False
 |some (j,true)=>((ops[j]?).bind (·.dst)).isSome=true/\S.get (X4i ops j)=ab false
 |some (j,false)=>((ops[j]?).bind (·.dst)).isSome=true/\S.get (X4i ops j)=ab true
def Xsf {b:Bool} (h:Xn1 ops S (some (j,b))):((ops[j]?).bind (·.dst)).isSome=true/\S.get (X4i ops j)=ab (!b):=by
 cases b<;>exact h
def Xln {a:Act}{b:Bool} (h:Vr E S g a w)
  (hd:((ops[j]?).bind (·.dst)).isSome=true) (hb:S.get (X4i ops j)=ab b):yielded ops a.tmps j=some b:=by
 obtain⟨t,ht⟩:=Option.isSome_iff_exists.1 hd;have gD:X4i ops j=t:=by simp[X4i,ht]
 have hs:=h.2.2.2 t;rw[<-gD,hb,gD] at hs;simp only[AVal.sat,D.rep] at hs;have hs:=hs.1;unfold yielded;rw[ht];simp only[Option.bind_some];cases hq:a.tmps[t]? <;>simp_all [undef]
variable{cs:List AVal}{fS:List (Nat×AObj)}{reads:List (Operand×AVal)}{row:List D}
section
variable {P:Program}{ops:Array Oper}{draw:Bool}{K:XU->St->Prop}{rest:List Oper}{l:XU}{S:St}
def XsR {o:Oper} (c:Cert) (hv:X8R P o c) (hg:XL ops S o.guard) (hc:c.ok S)
  (h:Walk P ops draw K rest ((J l,o,{c with reads:=XH ops o.guard++c.reads})::l) (c.app S)):Walk P ops draw K (o::rest) l S:=by
 refine .step {c with reads:=XH ops o.guard++c.reads} (fun E S' a w hs hok Q K' hK=> ?_) ?_ h
 ·obtain⟨g,hs⟩:=hs;have uP:c.ok S':=by
   refine⟨?_,hok.2⟩;have:=hok.1;rw[X5n] at this |-;exact fun p hp=>this p (by simp[hp])
  have hw:Region.wanted o (yielded ops a.tmps)=true:=by
   unfold Region.wanted;cases hgd:o.guard with
   |none=>rfl
   |some jb=>
    obtain⟨j,b⟩:=jb;rw[hgd] at hg;have h1:=hok.1;rw[hgd] at h1;simp[Xln hs hg.1 h1.1]
  grind [X8R,Cert.app]
 ·refine⟨?_,hc.2⟩;have:=hc.1;rw[X5n] at this |-;intro p hp;rcases mem_append.1 hp with h'|h'
  ·cases hgd:o.guard<;>simp_all [XH,St.ev,XL]
  ·exact this p h'
def Yq {o:Oper}{rd:List (Operand×AVal)}{dst:Option (Nat×AVal)}{gf:List (Nat×AObj)}
  (h:Walk P ops draw K rest ((J l,o,⟨XH ops o.guard++rd,dst,fS,gf,new⟩)::l) (Cert.app ⟨rd,dst,fS,gf,new⟩ S)) (hg:XL ops S o.guard) (hv:X8R P o ⟨rd,dst,fS,gf,new⟩) (hc:Cert.ok ⟨rd,dst,fS,gf,new⟩ S):Walk P ops draw K (o::rest) l S:=
 XsR _ hv hg hc h
theorem X2f {L':List (Nat×AObj)}{a:Act}{x:AVal}{d:Nat}
  (hi:Inv E (Xs .dead L') g' w') (hd:a.defers=E.ds) (hn:a.tmps.size=S.n) (hs:∀t,(S.get t).sat g' (a.tmps.getD t undef)) (hx:x.sat g' v)
  (hlt:Nat.blt d S.n=true):holds E ⟨S.n,(d,x)::S.τ,L'⟩ (a.put (some d) v) w':=by
 have hlt':d<a.tmps.size:=by simp_all
 refine⟨g',hi,hd,by simp[Act.put,hn],fun t=> ?_⟩;by_cases h:t=d
 ·subst h;show AVal.sat g' (Xs _ _ _) _;simp_all [YK,Act.put]
 ·show AVal.sat g' (Xs _ _ _) _;rw[YC _ _ _ (Ne.symm h)];have:(a.put (some d) v).tmps.getD t undef=a.tmps.getD t undef:=by
   simp_all [Act.put,Ne.symm]
  rw[this];exact hs t
def Xit:(AVal.tup []).sat g undef:=by
 simp only[AVal.sat];exact⟨#[],rfl,by simp only[Xy]⟩
def Xwu {ty:TypeId}
  (hg:Xn1 ops S gd) (hd:X4K S (d.map fun t=>(t,AVal.tup [])))
  (h:Walk P ops draw K rest ((J l,⟨d,op,ty,pos,ah,gd⟩,⟨XH ops (gd.map fun p=>(p.1,!p.2)),d.map fun t=>(t,.tup []),[],[],[]⟩)::l)
   (S.skip d)):
  Walk P ops draw K (⟨d,op,ty,pos,ah,gd⟩::rest) l S:=by
 cases gd with
 |none=>exact hg.elim
 |some jb=>
  obtain⟨j,b⟩:=jb;have hg:=Xsf hg;refine .step ⟨XH ops (some (j,!b)),d.map fun t=>(t,.tup []),[],[],[]⟩ (fun E S' a w hs hok Q K' hK=> ?_) ⟨⟨hg.2,TV⟩,TV,TV,hd⟩ h;obtain⟨g,hs⟩:=hs;have hy:=Xln (b:= !b) hs hg.1 hok.1.1;have hw:Region.wanted ⟨d,op,ty,pos,ah,some (j,b)⟩ (yielded ops a.tmps)=false:=by
   grind [Region.wanted]
  rw[hw];simp only[Bool.false_eq_true,if_false];refine hK _ _ ?_;cases d with
  |none=>exact⟨g,hs⟩
  |some d=>exact X2f hs.1 hs.2.1 hs.2.2.1 hs.2.2.2 Xit hok.2.2.2
def X2 {ty:TypeId}{t:Nat}{b:Bool} (hgd:gd=some (j,b))
  (hj:(ops[j]?).bind (·.dst)=some t) (ht:S.get t= .tup []) (hd:X4K S (d.map fun t=>(t,AVal.tup [])))
  (h:Walk P ops draw K rest ((J l,⟨d,op,ty,pos,ah,gd⟩,⟨[(.tmp t,.tup [])],d.map fun t=>(t,.tup []),[],[],[]⟩)::l) (S.skip d)):
  Walk P ops draw K (⟨d,op,ty,pos,ah,gd⟩::rest) l S:=by
 subst hgd;refine .step ⟨[(.tmp t,.tup [])],d.map fun t=>(t,.tup []),[],[],[]⟩ (fun E S' a w hs hok Q K' hK=> ?_) ⟨⟨ht,TV⟩,TV,TV,hd⟩ h;obtain⟨g,hs⟩:=hs;have hv:=hs.2.2.2 t;have h1:S'.get t= .tup []:=hok.1.1;rw[h1] at hv;simp only[AVal.sat] at hv;obtain⟨vs,hv,_⟩:=hv;have hw:Region.wanted ⟨d,op,ty,pos,ah,some (j,b)⟩ (yielded ops a.tmps)=false:=by
  simp only[Region.wanted,yielded,hj,Option.bind_some];cases hq:a.tmps[t]? <;>simp_all
 rw[hw];simp only[Bool.false_eq_true,if_false];refine hK _ _ ?_;cases d with
 |none=>exact⟨g,hs⟩
 |some d=>exact X2f hs.1 hs.2.1 hs.2.2.1 hs.2.2.2 Xit hok.2.2.2
def Uk {o:Oper}{d:Nat}{x:AVal} (gD:o.dst=some d)
  (h:∀E S g a w,Vr E S g a w->VK g a reads->Vn S fS->∃v,(execOp a.eval o).run P w= .ok (.value v) w/\x.sat g v):
  X8R P o ⟨reads,some (d,x),fS,[],[]⟩:=by
 intro E S a w g hs hok Q K hK;obtain⟨v,h1,h2⟩:=h E S g a w hs (X1K hs _ hok.1) hok.2.1;unfold Oper.wp;rw[h1,Oper.upon_value,gD];exact hK _ _ (X2f hs.1 hs.2.1 hs.2.2.1 hs.2.2.2 h2 hok.2.2.2)
variable {d:Nat}{ty:TypeId}{pos:String}{ah:Array Edge}{gd:Option (Nat×Bool)}
def XxP {y:AVal} (hx:S.ev x=y) (hd:Nat.blt d S.n=true) (hg:XL ops S gd)
  (h:Walk P ops draw K rest ((J l,⟨some d,.move x,ty,pos,ah,gd⟩,⟨XH ops gd++[(x,y)],some (d,y),[],[],[]⟩)::l) (S.set d (y))):
  Walk P ops draw K (⟨some d,.move x,ty,pos,ah,gd⟩::rest) l S:=
 Yq h hg (Uk rfl fun E S g a w hs hr _=>⟨_,rfl,hr.1⟩) ⟨⟨hx,TV⟩,TV,TV,hd⟩
def XuX {y:AVal} (hx:S.ev x=y) (hd:Nat.blt d S.n=true) (hg:XL ops S gd)
  (h:Walk P ops draw K rest ((J l,⟨some d,.assign x,ty,pos,ah,gd⟩,⟨XH ops gd++[(x,y)],some (d,y),[],[],[]⟩)::l) (S.set d (y))):
  Walk P ops draw K (⟨some d,.assign x,ty,pos,ah,gd⟩::rest) l S:=
 Yq h hg (Uk rfl fun E S g a w hs hr _=>⟨_,rfl,hr.1⟩) ⟨⟨hx,TV⟩,TV,TV,hd⟩
def XoG {b:Bool} (h:(ab b).sat g v):v= .bool b:=by grind [AVal.sat,D.rep]
def Uy {x:Value} (h:(AVal.d (.v x)).sat g v):v=x:=by grind [AVal.sat,D.rep]
theorem X0k {x:Value} (h:x.oneCell'=true):(AVal.d (.v x)).sat g x:=by grind [AVal.sat,D.rep]
def XxI {b:Bool}{y:AVal} (hc:S.ev c=ab b) (hb:b=true) (hx:S.ev x=y) (hd:Nat.blt d S.n=true) (hg:XL ops S gd)
  (h:Walk P ops draw K rest ((J l,⟨some d,.pick c x z,ty,pos,ah,gd⟩,⟨XH ops gd++[(c,ab true),(x,y)],some (d,y),[],[],[]⟩)::l) (S.set d (y))):
  Walk P ops draw K (⟨some d,.pick c x z,ty,pos,ah,gd⟩::rest) l S:=
 Yq h hg (Uk rfl fun E S g a w hs hr _=>by
  refine⟨a.eval x,?_,hr.2.1⟩;simp[execOp,XoG hr.1,asBool]) ⟨⟨hb ▸ hc,hx,TV⟩,TV,TV,hd⟩
def XyX {b:Bool}{y:AVal} (hc:S.ev c=ab b) (hb:b=false) (hx:S.ev z=y) (hd:Nat.blt d S.n=true) (hg:XL ops S gd)
  (h:Walk P ops draw K rest ((J l,⟨some d,.pick c x z,ty,pos,ah,gd⟩,⟨XH ops gd++[(c,ab false),(z,y)],some (d,y),[],[],[]⟩)::l) (S.set d (y))):
  Walk P ops draw K (⟨some d,.pick c x z,ty,pos,ah,gd⟩::rest) l S:=
 Yq h hg (Uk rfl fun E S g a w hs hr _=>by
  refine⟨a.eval z,?_,hr.2.1⟩;simp[execOp,XoG hr.1,asBool]) ⟨⟨hb ▸ hc,hx,TV⟩,TV,TV,hd⟩
def UV {op:BinOp}{xt yt:TypeId} (hx:S.ev x= .d (.v u)) (hy:S.ev y= .d (.v v))
  (hr:∀w,(do eqGuard op xt x y u v;binOp op xt u v:Sem Value).run P w= .ok r w) (h1:r.oneCell'=true) (hd:Nat.blt d S.n=true) (hg:XL ops S gd)
  (h:Walk P ops draw K rest ((J l,⟨some d,.binOp op xt x y yt,ty,pos,ah,gd⟩,⟨XH ops gd++[(x,.d (.v u)),(y,.d (.v v))],some (d,.d (.v r)),[],[],[]⟩)::l) (S.set d (.d (.v r)))):
  Walk P ops draw K (⟨some d,.binOp op xt x y yt,ty,pos,ah,gd⟩::rest) l S:=
 Yq h hg (Uk rfl fun E S g a w hs hq _=>by
  refine⟨r,?_,X0k h1⟩;have:=hr w;simp only[execOp,Uy hq.1,Uy hq.2.1,Sem.run_bind,Sem.run_pure] at this |-;rw[this];rfl) ⟨⟨hx,hy,TV⟩,TV,TV,hd⟩
def Xl8 {t:TypeId} (w:World):(do eqGuard .lss t x y (.int k a) (.int k b);binOp .lss t (.int k a) (.int k b):Sem Value).run P w= .ok (.bool (decide (a<b))) w:=by simp[go_sem]
def XzI {t:TypeId} (w:World):(do eqGuard .leq t x y (.int k a) (.int k b);binOp .leq t (.int k a) (.int k b):Sem Value).run P w= .ok (.bool (decide (a<=b))) w:=by simp[go_sem]
def XwK {t:TypeId} (w:World):(do eqGuard .gtr t x y (.int k a) (.int k b);binOp .gtr t (.int k a) (.int k b):Sem Value).run P w= .ok (.bool (decide (b<a))) w:=by simp[go_sem]
def XtC {t:TypeId} (w:World):(do eqGuard .geq t x y (.int k a) (.int k b);binOp .geq t (.int k a) (.int k b):Sem Value).run P w= .ok (.bool (decide (b<=a))) w:=by simp[go_sem]
def XoI {t:TypeId} (w:World):(do eqGuard .eql t x y (.int k a) (.int k b);binOp .eql t (.int k a) (.int k b):Sem Value).run P w= .ok (.bool (decide (a=b))) w:=by
 simp[go_sem];grind
def XlR {t:TypeId} (w:World):(do eqGuard .neq t x y (.int k a) (.int k b);binOp .neq t (.int k a) (.int k b):Sem Value).run P w= .ok (.bool (decide (a≠b))) w:=by
 simp[go_sem,bne,Bool.beq_eq_decide_eq]
theorem XoC {t:TypeId} (w:World):(do eqGuard .add t x y (.int k a) (.int k b);binOp .add t (.int k a) (.int k b):Sem Value).run P w= .ok (.int k (k.wrap (a+b))) w:=by simp[go_sem]
theorem XaU {t:TypeId} (w:World):(do eqGuard .sub t x y (.int k a) (.int k b);binOp .sub t (.int k a) (.int k b):Sem Value).run P w= .ok (.int k (k.wrap (a-b))) w:=by simp[go_sem]
theorem Xn6 {t:TypeId} (w:World):(do eqGuard .mul t x y (.int k a) (.int k b);binOp .mul t (.int k a) (.int k b):Sem Value).run P w= .ok (.int k (k.wrap (a*b))) w:=by simp[go_sem]
def X0S (n:Int):Prop:= -9223372036854775808<=n/\n<=9223372036854775807
def XnL {t:TypeId} (h:X0S (a+b)) (w:World):(do eqGuard .add t x y (.int .i64 a) (.int .i64 b);binOp .add t (.int .i64 a) (.int .i64 b):Sem Value).run P w= .ok (.int .i64 (a+b)) w:=by
 rw[XoC,IntWalk.i64_in _ h]
def X5G {t:TypeId} (h:X0S (a-b)) (w:World):(do eqGuard .sub t x y (.int .i64 a) (.int .i64 b);binOp .sub t (.int .i64 a) (.int .i64 b):Sem Value).run P w= .ok (.int .i64 (a-b)) w:=by
 rw[XaU,IntWalk.i64_in _ h]
def Xw7 {t:TypeId} (h:X0S (a*b)) (w:World):(do eqGuard .mul t x y (.int .i64 a) (.int .i64 b);binOp .mul t (.int .i64 a) (.int .i64 b):Sem Value).run P w= .ok (.int .i64 (a*b)) w:=by
 rw[Xn6,IntWalk.i64_in _ h]
def Xj7 {op:UnOp}{xt:TypeId} (hx:S.ev x= .d (.v u))
  (hr:∀w,(Op.unary op u).run P w= .ok r w) (h1:r.oneCell'=true) (hd:Nat.blt d S.n=true) (hg:XL ops S gd)
  (h:Walk P ops draw K rest ((J l,⟨some d,.unOp op xt x,ty,pos,ah,gd⟩,⟨XH ops gd++[(x,.d (.v u))],some (d,.d (.v r)),[],[],[]⟩)::l) (S.set d (.d (.v r)))):
  Walk P ops draw K (⟨some d,.unOp op xt x,ty,pos,ah,gd⟩::rest) l S:=
 Yq h hg (Uk rfl fun E S g a w hs hq _=>by
  refine⟨r,?_,X0k h1⟩;simp only[execOp,Uy hq.1,Sem.run_bind,hr w];rfl) ⟨⟨hx,TV⟩,TV,TV,hd⟩
def Xu2 {b:Bool} (w:World):(Op.unary .not (.bool b)).run P w= .ok (.bool (!b)) w:=rfl
def XoF {src dst:TypeId} (hx:S.ev x= .d (.v u))
  (hr:∀w,(convert src dst u).run P w= .ok r w) (h1:r.oneCell'=true) (hd:Nat.blt d S.n=true) (hg:XL ops S gd)
  (h:Walk P ops draw K rest ((J l,⟨some d,.convert src dst x,ty,pos,ah,gd⟩,⟨XH ops gd++[(x,.d (.v u))],some (d,.d (.v r)),[],[],[]⟩)::l) (S.set d (.d (.v r)))):
  Walk P ops draw K (⟨some d,.convert src dst x,ty,pos,ah,gd⟩::rest) l S:=
 Yq h hg (Uk rfl fun E S g a w hs hq _=>by
  refine⟨r,?_,X0k h1⟩;simp only[execOp,Uy hq.1,Sem.run_bind,hr w];rfl) ⟨⟨hx,TV⟩,TV,TV,hd⟩
def X8J (P:Program) (t:TypeId) (k:IntKind):Bool:=match P.underlying t with|some (.int q)=>decide (q=k)|_=>false
def Xd4 {src dst:TypeId}{q:IntKind}{n:Int} (hs:(P.underlying src).isSome=true) (hd:X8J P dst q=true) (w:World):
  (convert src dst (.int k n)).run P w= .ok (.int q (q.wrap n)) w:=by
 grind [X8J,Program.intKind,run_convert_int]
def X1u (P:Program) (t:TypeId) (agg:Bool) (sz:Nat):Bool:=
 match P.underlying t,P.info? t with
 |some d,some i=>((match d with| .struct _=>agg| .array _ _=>agg|_=> !agg)&&Nat.beq i.size sz)
 |_,_=>false
def Xp1 (P:Program) (t:TypeId):Nat:=match P.info? t with|some i=>i.size|none=>0
def XkP (P:Program) (s:TypeId) (f:Nat):Nat:=
 match P.underlying s with
 |some (.struct fs)=>(match fs[f]? with|some q=>q.offset|none=>0)
 |_=>0
def cy (P:Program) (t:TypeId):Bool:=match P.underlying t with|some (.slice _)=>true|_=>false
def X5R {t:TypeId} (h:cy P t=true):∃e,P.underlying t=some (.slice e):=by
 grind [cy]
def UT (P:Program) (t:TypeId) (sz:Nat):Bool:=
 match P.underlying t with
 |some (.slice e)=>(match P.info? e with|some i=>Nat.beq i.size sz|none=>false)
 |_=>false
def XaQ (P:Program) (s:TypeId) (f off:Nat):Bool:=
 match P.underlying s with
 |some (.struct fs)=>(match fs[f]? with|some q=>Nat.beq q.offset off&&(match P.info? q.type with|some i=> !Nat.beq i.size 0|none=>false)|none=>false)
 |_=>false
def X8f {t:TypeId} (h:X1u P t agg sz=true):
  (∀w,(isAgg t).run P w= .ok agg w)/\(∀w,(sizeOf t).run P w= .ok sz w):=by
 unfold X1u at h;cases hu:P.underlying t with
 |none=>simp[hu] at h
 |some de=>
  cases hq:P.info? t with
  |none=>simp[hq] at h
  |some i=>
   rw[hu,hq] at h;simp only[Bool.and_eq_true] at h;have h2:i.size=sz:=Nat.eq_of_beq_eq_true h.2;refine⟨fun w=> ?_,fun w=>by simp_all [sizeOf,typeInfo]⟩;unfold isAgg;rw[Sem.run_bind,run_underlying hu w];have h1:=h.1;cases de<;>cases agg<;>simp_all
def X29 {t:TypeId} (h:UT P t sz=true):∃e,P.underlying t=some (.slice e)/\(∀w,(sizeOf e).run P w= .ok sz w)/\P.elem t=e:=by
 unfold UT at h;cases hu:P.underlying t with
 |none=>simp[hu] at h
 |some de=>
  cases de<;>rw[hu] at h<;>simp at h;rename_i e;cases hq:P.info? e<;>simp_all [sizeOf,typeInfo,Program.elem]
theorem X8P {t:TypeId}{p:Addr} (ht:X1u P t false 1=true) (h:w.cell? p=some v):(loadVar t p).run P w= .ok v w:=by
 have:=(X8f ht).1 w;simp_all [loadVar]
def Xa1 {t:TypeId}{p:Addr} (ht:X1u P t true (J vs)=true) (h:∀j v,vs[j]? =some v->w.cell? (p.add j)=some v):
  (loadVar t p).run P w= .ok (.agg vs.toArray) w:=by
 have h1:=(X8f ht).1 w;have h2:=(X8f ht).2 w;simp_all [run_loadCells_list,loadVar]
theorem Vq (b o j:Nat):(⟨b,o,none⟩:Addr).add j=⟨b,o+j,none⟩:=Addr.add_lit b o j
def Xr4 {t:TypeId}{y:AVal} (hx:S.ev x= .ptr γ o) (hL:S.obj γ= .box cs) (hy:cs[o]? =some y)
  (ht:X1u P t false 1=true) (hd:Nat.blt d S.n=true) (hg:XL ops S gd)
  (h:Walk P ops draw K rest ((J l,⟨some d,.load t x,ty,pos,ah,gd⟩,⟨XH ops gd++[(x,.ptr γ o)],some (d,y),[(γ,.box cs)],[],[]⟩)::l) (S.set d (y))):
  Walk P ops draw K (⟨some d,.load t x,ty,pos,ah,gd⟩::rest) l S:=
 Yq h hg (Uk rfl fun E S g a w hs hq hl=>by
  have ho:=hs.1.obj γ;rw[hl.1] at ho;obtain⟨vs,e,fr,h1,h2,h3,h4⟩:=ho;obtain⟨u,hu,gG⟩:=X07 h3 o y hy;refine⟨u,?_,gG⟩;have hp:a.eval x= .pointer (some ⟨g.az γ,o,none⟩):=by grind [AVal.sat,VK]
  have hc:w.cell? ⟨g.az γ,o,none⟩=some u:=by grind [cell_of_row]
  simp_all [execOp,Instr.loadAt,Instr.sureAddr,X8P]) ⟨⟨hx,TV⟩,⟨hL,TV⟩,TV,hd⟩
def Xvu {t:TypeId} (hx:S.ev x= .ptr γ o) (hL:S.obj γ= .box cs)
  (hsz:Xp1 P t=sz) (ht:X1u P t true sz=true) (hy:(cs.drop o).take sz=ys) (hlen:Nat.beq (J ys) sz=true) (hd:Nat.blt d S.n=true) (hg:XL ops S gd)
  (h:Walk P ops draw K rest ((J l,⟨some d,.load t x,ty,pos,ah,gd⟩,⟨XH ops gd++[(x,.ptr γ o)],some (d,.agg ys),[(γ,.box cs)],[],[]⟩)::l) (S.set d (.agg ys))):
  Walk P ops draw K (⟨some d,.load t x,ty,pos,ah,gd⟩::rest) l S:=
 Yq h hg (Uk rfl fun E S g a w hs hq hl=>by
  have ho:=hs.1.obj γ;rw[hl.1] at ho;obtain⟨vs,e,fr,h1,h2,h3,h4⟩:=ho;have hsub:=X3G (X5d h3 o) sz;rw[hy] at hsub;have bh:=V6 hsub;have bM:J ys=sz:=Nat.eq_of_beq_eq_true hlen;refine⟨.agg ((vs.toList.drop o).take sz).toArray,?_,by grind [AVal.sat]⟩;have hp:a.eval x= .pointer (some ⟨g.az γ,o,none⟩):=by grind [AVal.sat,VK]
  have:=Xa1 (P:=P) (p:=⟨g.az γ,o,none⟩) (w:=w) (vs:=(vs.toList.drop o).take sz) (t:=t) (by grind) (fun j v hv=>by
   grind [Vq,cell_of_row])
  simp_all [execOp,Instr.loadAt,Instr.sureAddr]) ⟨⟨hx,TV⟩,⟨hL,TV⟩,TV,hd⟩
def Xph {t:TypeId}{y:D}{r:List D} (hx:S.ev x= .dptr (y::r))
  (ht:X1u P t false 1=true) (hd:Nat.blt d S.n=true) (hg:XL ops S gd)
  (h:Walk P ops draw K rest ((J l,⟨some d,.load t x,ty,pos,ah,gd⟩,⟨XH ops gd++[(x,.dptr (y::r))],some (d,.d y),[],[],[]⟩)::l) (S.set d (.d y))):
  Walk P ops draw K (⟨some d,.load t x,ty,pos,ah,gd⟩::rest) l S:=
 Yq h hg (Uk rfl fun E S g a w hs hq hl=>by
  have:=hq.1;simp only[AVal.sat] at this;obtain⟨b,o,hp,hr⟩:=this;simp only[X09] at hr;obtain⟨⟨u,hu,gG⟩,_⟩:=hr;refine⟨u,?_,by grind [AVal.sat]⟩;have hc:=hs.1.mem _ _ hu;simp_all [execOp,Instr.loadAt,Instr.sureAddr,X8P]) ⟨⟨hx,TV⟩,TV,TV,hd⟩
def Xem (hm:∀a v,M a=some v->w.cell? a=some v):∀(ds:List D) (b o:Nat),X09 M ds b o->
  ∃vs:List Value,J vs=J ds/\(∀(j:Nat) (v:Value),vs[j]? =some v->w.cell? ⟨b,o+j,none⟩=some v)/\(∀(j:Nat) (d:D) (v:Value),ds[j]? =some d->vs[j]? =some v->d.rep M v)
 |[],_,_,_=>⟨[],rfl,by simp,by simp⟩
 |d::ds,b,o,h=>by
  simp only[X09] at h;obtain⟨⟨u,h1,h2⟩,h3⟩:=h;obtain⟨vs,k1,k2,k3⟩:=Xem hm ds b (o+1) h3;refine⟨u::vs,by simp[k1],fun j v hv=> ?_,fun j d' v hd' hv=> ?_⟩<;>grind
def Xz7 {t:TypeId} (hx:S.ev x= .dptr row)
  (hsz:Xp1 P t=sz) (ht:X1u P t true sz=true) (hy:(row.take sz).map .d=ys) (hlen:Nat.beq (J ys) sz=true) (hd:Nat.blt d S.n=true) (hg:XL ops S gd)
  (h:Walk P ops draw K rest ((J l,⟨some d,.load t x,ty,pos,ah,gd⟩,⟨XH ops gd++[(x,.dptr row)],some (d,.agg ys),[],[],[]⟩)::l) (S.set d (.agg ys))):
  Walk P ops draw K (⟨some d,.load t x,ty,pos,ah,gd⟩::rest) l S:=
 Yq h hg (Uk rfl fun E S g a w hs hq hl=>by
  have:=hq.1;simp only[AVal.sat] at this;obtain⟨b,o,hp,hr⟩:=this;obtain⟨vs,k1,k2,k3⟩:=Xem hs.1.mem _ _ _ (XsZ hr sz);have bM:J ys=sz:=Nat.eq_of_beq_eq_true hlen;have jZ:J vs=sz:=by grind
  refine⟨.agg vs.toArray,?_,?_⟩
  ·have:=Xa1 (P:=P) (p:=⟨b,o,none⟩) (w:=w) (vs:=vs) (t:=t) (by rw[jZ];exact ht) (fun j v hv=>by grind [Vq]);simp[execOp,hp,Instr.loadAt,Instr.sureAddr,this]
  grind [AVal.sat,X4k]) ⟨⟨hx,TV⟩,TV,TV,hd⟩
def Xsi {s:TypeId} (h:XaQ P s f off=true):∃fs q i,P.underlying s=some (.struct fs)/\fs[f]? =some q/\q.offset=off/\P.info? q.type=some i/\i.size≠0:=by
 unfold XaQ at h;cases hu:P.underlying s with
 |none=>simp[hu] at h
 |some de=>
  cases de<;>rw[hu] at h<;>simp at h;rename_i fs;cases hq:fs[f]? with
  |none=>simp[hq] at h
  |some q=>
   rw[hq] at h;cases hi:P.info? q.type<;>simp_all [X5L]
def XkW {s:TypeId}{b:Nat} (h:XaQ P s f off=true) (w:World):(Instr.fieldAt s (.pointer (some ⟨b,o,none⟩)) f).run P w= .ok (.pointer (some ⟨b,o+off,none⟩)) w:=by
 obtain⟨fs,q,i,h1,h2,h3,h4,h5⟩:=Xsi h;simp_all [Instr.fieldAt,run_underlying,Instr.sureAddr,fieldPlace,Vq,sizeOf,typeInfo]
def Xuj {s:TypeId} (hx:S.ev x= .ptr γ o) (hoff:XkP P s f=off) (hf:XaQ P s f off=true) (hd:Nat.blt d S.n=true) (hg:XL ops S gd)
  (h:Walk P ops draw K rest ((J l,⟨some d,.fieldAddr s x f,ty,pos,ah,gd⟩,⟨XH ops gd++[(x,.ptr γ o)],some (d,.ptr γ (o+off)),[],[],[]⟩)::l) (S.set d (.ptr γ (o+off)))):
  Walk P ops draw K (⟨some d,.fieldAddr s x f,ty,pos,ah,gd⟩::rest) l S:=
 Yq h hg (Uk rfl fun E S g a w hs hq hl=>by
  have hp:a.eval x= .pointer (some ⟨g.az γ,o,none⟩):=by grind [AVal.sat,VK]
  exact⟨.pointer (some ⟨g.az γ,o+off,none⟩),by simp[execOp,hp,XkW hf],by simp only[AVal.sat]⟩) ⟨⟨hx,TV⟩,TV,TV,hd⟩
def XrK {s:TypeId} (hx:S.ev x= .dptr row) (hoff:XkP P s f=off) (hf:XaQ P s f off=true) (hd:Nat.blt d S.n=true) (hg:XL ops S gd)
  (h:Walk P ops draw K rest ((J l,⟨some d,.fieldAddr s x f,ty,pos,ah,gd⟩,⟨XH ops gd++[(x,.dptr row)],some (d,.dptr (row.drop off)),[],[],[]⟩)::l) (S.set d (.dptr (row.drop off)))):
  Walk P ops draw K (⟨some d,.fieldAddr s x f,ty,pos,ah,gd⟩::rest) l S:=
 Yq h hg (Uk rfl fun E S g a w hs hq hl=>by
  have:=hq.1;simp only[AVal.sat] at this;obtain⟨b,o,hp,hr⟩:=this;exact⟨.pointer (some ⟨b,o+off,none⟩),by simp[execOp,hp,XkW hf],by simp only[AVal.sat];exact⟨b,o+off,rfl,Xzy hr off⟩⟩) ⟨⟨hx,TV⟩,TV,TV,hd⟩
def XbY {t:TypeId} (ht:X1u P t agg sz=true) (vs:Array Value) (off:Nat) (w:World):
  (part t vs off).run P w=if agg then .ok (.agg (vs.extract off (off+sz))) w else match vs[off]? with|some v=> .ok v w|none=> .halt (.stuck "part: no such cell") w:=by
 have h1:=(X8f ht).1 w;have h2:=(X8f ht).2 w;cases agg with
 |true=>simp[part,h1,h2]
 |false=>
  simp only[part,Sem.run_bind,h1,Result.andThen_ok,Bool.false_eq_true,if_false];cases vs[off]? <;>rfl
def Xuh {vs:List AVal}{y:AVal} (hx:S.ev x= .tup vs) (hy:vs[i]? =some y) (hd:Nat.blt d S.n=true) (hg:XL ops S gd)
  (h:Walk P ops draw K rest ((J l,⟨some d,.extract x i,ty,pos,ah,gd⟩,⟨XH ops gd++[(x,.tup vs)],some (d,y),[],[],[]⟩)::l) (S.set d (y))):
  Walk P ops draw K (⟨some d,.extract x i,ty,pos,ah,gd⟩::rest) l S:=
 Yq h hg (Uk rfl fun E S g a w hs hq hl=>by
  have:=hq.1;simp only[AVal.sat] at this;obtain⟨us,hp,hr⟩:=this;obtain⟨u,hu,gG⟩:=X07 hr i y hy;simp_all [execOp,Instr.extract]) ⟨⟨hx,TV⟩,TV,TV,hd⟩
end
theorem XeW {α:Type} (z:α) (l:List (Nat×α)) (t:Nat):Xs z l t=z\/∃p∈l,p.2=Xs z l t:=by
 induction l<;>grind [Xs]
theorem Xon (h:S.free γ=true) (t:Nat):(S.get t).ment γ=false:=by
 grind [St.free,X88,XeW,AVal.ment,St.get]
def Xdx (h:S.free γ=true) (k:Nat):(S.obj k).ment γ=false:=by
 simp only[St.free,Bool.and_eq_true,X88,Xdy] at h;have h:=h.2;rcases XeW AObj.dead S.L k with e|⟨p,hp,e⟩
 ·show AObj.ment γ (Xs _ _ _)=false;rw[e];rfl
 grind [St.obj]
def Gh.put (g:Gh) (γ:Nat) (b:Nat) (hv:Value):Gh:=
 {az:=fun k=>if k=γ then b else g.az k,hd:=fun k=>if k=γ then hv else g.hd k,aI:=g.aI,M:=g.M}
def XjV {b:Nat}{k:Nat} (h:k≠γ):g.keeps (g.put γ b hv) k:=by
 grind [Gh.keeps_of,Gh.put]
theorem Xxx {b:Nat}{x:AVal} (hm:x.ment γ=false) (h:x.sat g u):x.sat (g.put γ b hv) u:=
 AVal.sat_mono (g:=g) (g':=g.put γ b hv) (YN.refl _) x u (fun k hk=>XjV (fun e=>by grind)) h
def X7Z {b:Nat}{xs:List AVal} (hm:X0y γ xs=false) (h:Xy g xs us):Xy (g.put γ b hv) xs us:=
 X22 (g:=g) (g':=g.put γ b hv) (YN.refl _) xs us (fun k hk=>XjV (fun e=>by grind)) h
def X80 (hi:Inv E S.obj g w) (γ:Nat) (hf:S.free γ=true) (av:S.obj γ= .dead)
  (obj:AObj) (b:Nat) (hv:Value) {w':World} (bg:∀b,b<w.heap.size->w'.heap[b]? =w.heap[b]?) (hsize:w.heap.size<=w'.heap.size)
  (hos:w'.os=w.os) (hout:w'.output=w.output) (gU:Ud (g.put γ b hv) w' γ obj)
  (fD:∀k,Xw (g.put γ b hv) obj γ k->w.heap.size<=k):
  Inv E (Xs .dead ((γ,obj)::S.L)) (g.put γ b hv) w':=by
 refine Inv.upd hi γ obj (YK _ _ _ _) (fun k hk=>YC _ _ _ (Ne.symm hk)) (fun b hb _=>bg b hb) hsize hos hout rfl
  (fun k hk=>⟨by simp[Gh.put,hk],by simp[Gh.put,hk],rfl⟩) (fun k cs us hk hL hs=>X7Z ?_ hs) gU (fun k hk=> .inr (fD k hk)) (fun hlt=>by grind [St.free,Nat.ble_eq])
 have:=Xdx hf k
 grind [AObj.ment]
def X44 (hf:S.free γ=true) {g:Gh}{a:Act}{b:Nat}{hv:Value} (hs:∀t,(S.get t).sat g (a.tmps.getD t undef)):
  ∀t,(S.get t).sat (g.put γ b hv) (a.tmps.getD t undef):=by simp_all [Xxx,Xon]
theorem X4V (w:World) (o:Obj):∀b,b<w.heap.size->(w.alloc o).heap[b]? =w.heap[b]? :=by simp_all [heap_alloc_old]
def X7q (w:World) (o:Obj):w.heap.size<=(w.alloc o).heap.size:=by simp
def X4f (g:Gh) (w:World) (γ:Nat):Gh:=g.put γ w.heap.size undef
def X6J (n:Nat):X4A (0,0) n:=fun i hi=>by simp
theorem XdJ (hi:Inv E S.obj g w) (γ:Nat) (hf:S.free γ=true) (av:S.obj γ= .dead) (e:TypeId)
  {cs:List AVal}{vs:Array Value} (hs:Xy g cs vs.toList) (hm:X0y γ cs=false) (hc:∀c∈cs,c.cellish=true):
  Inv E (Xs .dead ((γ,.box cs)::S.L)) (X4f g w γ) (w.alloc (.cells vs e)):=by
 refine X80 hi γ hf av _ _ _ (X4V _ _) (X7q _ _) rfl rfl ?_ (fun k hk=> ?_)
 ·refine⟨vs,e,(0,0),?_,X6J _,X7Z hm hs,hc⟩
  grind [Gh.put,heap_alloc_new]
 grind [Xw,Gh.put]
def X31:List AVal->Bool
 |[]=>true
 |c::r=>c.cellish&&X31 r
theorem X6a:∀l,X31 l=true↔∀c∈l,c.cellish=true
 :=by intro x;induction x<;>simp_all [X31]
def AVal.parts:AVal->List AVal
 | .agg cs=>cs
 |x=>[x]
theorem Xaw {x:AVal} (h:x.sat g v) (hc:X31 x.parts=true):Xy g x.parts v.cells.toList:=by
 rw[X6a] at hc;cases x with
 |agg cs=>simp only[AVal.sat] at h;obtain⟨vs,rfl,h⟩:=h;exact h
 |any=>grind [AVal.parts,AVal.cellish]
 |tup vs=>simp_all [AVal.parts,AVal.cellish]
 |_=>
  all_goals
   have h1:=AVal.sat_one (by exact hc _ (by simp[AVal.parts])) h;have e:v.cells= #[v]:=by cases v<;>simp[Value.oneCell'] at h1<;>rfl
   rw[e];simp only[AVal.parts];exact⟨h,by simp only[Xy]⟩
def XwE {x:AVal} (h:x.sat g v) (hc:X31 x.parts=true):∀(i:Nat) (c:AVal) (u:Value),x.parts[i]? =some c->v.cells.toList[i]? =some u->u.oneCell'=true:=by
 intro i c u qG qH;obtain⟨u',h1,h2⟩:=X07 (Xaw h hc) i c qG;rw[h1] at qH;cases qH;exact AVal.sat_one ((X6a _).1 hc c (mem_of_getElem? qG)) h2
variable{obj:AObj}
section
variable {P:Program}{ops:Array Oper}{draw:Bool}{K:XU->St->Prop}{rest:List Oper}{l:XU}{S:St}
variable {d:Nat}{ty:TypeId}{pos:String}{ah:Array Edge}{gd:Option (Nat×Bool)}
def X3H {o:Oper}{d:Nat}{x:AVal} (gD:o.dst=some d)
  (h:∀E S g a w,Vr E S g a w->VK g a reads->Vn S fS->X33 S new->∃v g' w',(execOp a.eval o).run P w= .ok (.value v) w'/\x.sat g' v/\
   Inv E (Xs .dead ((γ,obj)::S.L)) g' w'/\∀t,(S.get t).sat g' (a.tmps.getD t undef)):
  X8R P o ⟨reads,some (d,x),fS,[(γ,obj)],new⟩:=by
 intro E S a w g hs hok Q K hK;obtain⟨v,g',w',h1,h2,h3,h4⟩:=h E S g a w hs (X1K hs _ hok.1) hok.2.1 hok.2.2.1;unfold Oper.wp;rw[h1,Oper.upon_value,gD];exact hK _ _ (X2f h3 hs.2.1 hs.2.2.1 h4 h2 hok.2.2.2)
def Xd9 {o:Oper} (gD:o.dst=none)
  (h:∀E S g a w,Vr E S g a w->VK g a reads->Vn S fS->X33 S new->∃g' w',(execOp a.eval o).run P w= .ok .skip w'/\
   Inv E (Xs .dead ((γ,obj)::S.L)) g' w'/\∀t,(S.get t).sat g' (a.tmps.getD t undef)):
  X8R P o ⟨reads,none,fS,[(γ,obj)],new⟩:=by
 intro E S a w g hs hok Q K hK;obtain⟨g',w',h1,h3,h4⟩:=h E S g a w hs (X1K hs _ hok.1) hok.2.1 hok.2.2.1;unfold Oper.wp;rw[h1,Oper.upon_skip,gD];exact hK _ _ ⟨g',h3,hs.2.1,hs.2.2.1,h4⟩
def X5i (P:Program) (t:TypeId):Option (List Value):=
 match P.info? t with
 |some i=>(match i.zero with|some z=>some z.cells.toList|none=>none)
 |none=>none
def X1Q:List Value->Bool
 |[]=>true
 |v::r=>v.oneCell'&&X1Q r
theorem Xrp:∀l,X1Q l=true↔∀v∈l,v.oneCell'=true
 :=by intro x;induction x<;>simp_all [X1Q]
def dvL:List Value->List AVal
 |[]=>[]
 |v::r=> .d (.v v)::dvL r
theorem XaF:∀{vs:List Value},X1Q vs=true->Xy g (dvL vs) vs
 :=by intro x;induction x<;>simp_all [dvL,Xy,X1Q,X0k]
theorem Xm2 (γ:Nat):∀vs:List Value,X0y γ (dvL vs)=false
 |[]=>rfl
 |v::r=>by simp[dvL,X0y,AVal.ment,Xm2 γ r]
theorem XnI:∀vs:List Value,∀c∈dvL vs,c.cellish=true
 |[],_,h=>by simp[dvL] at h
 |v::r,c,h=>by
  simp only[dvL,mem_cons] at h;rcases h with rfl|h
  ·rfl
  ·exact XnI r c h
def Xgg {t:TypeId} (h:X5i P t=some zs):∃z:Value,z.cells.toList=zs/\∀w,(zeroValue t).run P w= .ok z w:=by
 unfold X5i at h;cases hi:P.info? t with
 |none=>grind
 |some i=>
  rw[hi] at h;cases hz:i.zero<;>simp_all [zeroValue,typeInfo]
def X69 {t:TypeId} (hz:X5i P t=some zs) (h1:X1Q zs=true) (av:S.obj γ= .dead) (hf:S.free γ=true)
  (hd:Nat.blt d S.n=true) (hg:XL ops S gd)
  (h:Walk P ops draw K rest ((J l,⟨some d,.alloc t,ty,pos,ah,gd⟩,⟨XH ops gd++[],some (d,.ptr γ 0),[(γ,.dead)],[(γ,.box (dvL zs))],[γ]⟩)::l)
   ((S.set d (.ptr γ 0)).own γ (.box (dvL zs)))):
  Walk P ops draw K (⟨some d,.alloc t,ty,pos,ah,gd⟩::rest) l S:=
 Yq h hg (X3H rfl fun E S g a w hs hq hl hn=>by
  obtain⟨z,ng,qI⟩:=Xgg hz;refine⟨.pointer (some ⟨w.heap.size,0,none⟩),X4f g w γ,w.alloc (.cells z.cells t),?_,?_,?_,X44 hn.1 hs.2.2.2⟩
  ·simp[execOp,Instr.alloc,qI,newVar,newRow]
  ·simp[AVal.sat,X4f,Gh.put]
  grind [XdJ,XaF,Xm2,XnI,Vr,Vn,X33]) ⟨TV,⟨av,TV⟩,⟨hf,TV⟩,hd⟩
def Xgv {t:TypeId}{y:AVal} (hx:S.ev x=y) (hc:X31 y.parts=true) (av:S.obj γ= .dead) (hf:S.free γ=true) (hm:X0y γ y.parts=false)
  (hd:Nat.blt d S.n=true) (hg:XL ops S gd)
  (h:Walk P ops draw K rest ((J l,⟨some d,.box t x,ty,pos,ah,gd⟩,⟨XH ops gd++[(x,y)],some (d,.ptr γ 0),[(γ,.dead)],[(γ,.box y.parts)],[γ]⟩)::l)
   ((S.set d (.ptr γ 0)).own γ (.box y.parts))):
  Walk P ops draw K (⟨some d,.box t x,ty,pos,ah,gd⟩::rest) l S:=
 Yq h hg (X3H rfl fun E S g a w hs hq hl hn=>by
  refine⟨.pointer (some ⟨w.heap.size,0,none⟩),X4f g w γ,w.alloc (.cells (a.eval x).cells t),?_,?_,?_,X44 hn.1 hs.2.2.2⟩
  ·simp[execOp,Instr.box,newVar,newRow]
  ·simp[AVal.sat,X4f,Gh.put]
  grind [XdJ,Xaw,X6a,Vr,VK,Vn,X33]) ⟨⟨hx,TV⟩,⟨av,TV⟩,⟨hf,TV⟩,hd⟩
def X6W (b:Nat) (e:TypeId) (fr:Nat×Nat) (n:Nat) (hfr:X4A fr n):∀(us:List Value) (o i:Nat) (vs:Array Value) (w:World),w.heap[b]? =some (.cells vs e fr)->vs.size=n->
  o+i+J us<=vs.size->(∀u∈us,u.oneCell'=true)->
  ∃vs':Array Value,(storeCells ⟨b,o,none⟩ us i).run P w= .ok () (w.setRow b vs')/\vs'.toList=vs.toList.take (o+i)++us++vs.toList.drop (o+i+J us)
 |[],o,i,vs,w,h,hn,hl,h1=>⟨vs,by
   have:w.setRow b vs=w:=by
    cases w with
    |mk heap tape drawn os output=>
     simp only[World.setRow];congr 1
     grind
   simp[storeCells,this],by simp⟩
 |u::us,o,i,vs,w,h,hn,hl,h1=>by
  have hlt:o+i<vs.size:=by simp at hl;omega
  have hc:w.cell? ⟨b,o+i,none⟩=some vs[o+i]:=by rw[cell_of_row w _ _ vs e fr h];simp[hlt]
  have hf:w.frozen? ⟨b,o+i,none⟩=false:=by
   simp only[World.frozen?,h];have:=hfr (o+i) (by omega);simpa using this
  have bK:=setCell_eq_setRow w b (o+i) vs e fr u h;have hw':(w.setRow b (vs.setIfInBounds (o+i) u)).heap[b]? =some (.cells (vs.setIfInBounds (o+i) u) e fr):=setRow_heap w b vs _ e fr h;obtain⟨vs',k1,k2⟩:=X6W b e fr n hfr us o (i+1) (vs.setIfInBounds (o+i) u) _ hw' (by simp[hn]) (by simp at hl |-;omega) (fun x hx=>h1 x (by simp[hx]));refine⟨vs',?_,?_⟩
  ·grind [storeCells,Sem.run_bind,Vq,run_store,Result.andThen_ok,setRow_setRow]
  ·rw[k2];apply ext_getElem?;intro k;simp only[getElem?_append,LA,LT,LD,Array.length_toList,Array.size_setIfInBounds,LC,getElem?_take,getElem?_drop,Array.getElem?_toList,Array.getElem?_setIfInBounds,getElem?_cons]
   grind
def X7A (P:Program) (t:TypeId) (sz:Nat):Bool:=match P.info? t with|some i=>Nat.beq i.size sz|none=>false
def Xbt {t:TypeId} (h:X7A P t sz=true) (w:World):(sizeOf t).run P w= .ok sz w:=by
 unfold X7A at h;cases hi:P.info? t<;>simp_all [sizeOf,typeInfo]
def XuU {t:TypeId}{v:Operand}{y:AVal} (hx:S.ev x= .ptr γ o) (hL:S.obj γ= .box cs) (hv:S.ev v=y) (hc:X31 y.parts=true)
  (ht:X7A P t (J y.parts)=true) (hb:Nat.ble (o+J y.parts) (J cs)=true) (hg:XL ops S gd)
  (h:Walk P ops draw K rest ((J l,⟨none,.store t x v,ty,pos,ah,gd⟩,⟨XH ops gd++[(x,.ptr γ o),(v,y)],none,[(γ,.box cs)],[(γ,.box (cs.take o++y.parts++cs.drop (o+J y.parts)))],[]⟩)::l)
   (S.own γ (.box (cs.take o++y.parts++cs.drop (o+J y.parts))))):
  Walk P ops draw K (⟨none,.store t x v,ty,pos,ah,gd⟩::rest) l S:=
 Yq h hg (Xd9 rfl fun E S g a w hs hq hl hn=>by
  have ho:=hs.1.obj γ;rw[hl.1] at ho;obtain⟨vs,e,fr,h1,h2,h3,h4⟩:=ho;have hp:a.eval x= .pointer (some ⟨g.az γ,o,none⟩):=by grind [AVal.sat,VK]
  have hps:=Xaw hq.2.1 hc;have hlen:J (a.eval v).cells.toList=J y.parts:=V6 hps;have hvl:vs.size=J cs:=by have:=V6 h3;simpa using this
  have hb':o+J y.parts<=J cs:=by simpa using hb
  obtain⟨vs',k1,k2⟩:=X6W (P:=P) (g.az γ) e fr vs.size h2 (a.eval v).cells.toList o 0 vs w h1 rfl (by rw[hlen];omega) (fun u hu=>by
   obtain⟨i,hi,rfl⟩:=getElem_of_mem hu;have hi':i<J y.parts:=by omega
   exact XwE hq.2.1 hc i _ _ (getElem?_eq_getElem hi') (getElem?_eq_getElem hi))
  simp only[Nat.add_zero,hlen] at k2;refine⟨g,w.setRow (g.az γ) vs',?_,?_,hs.2.2.2⟩
  ·have hsz:=Xbt ht w;simp_all [execOp,Instr.storeAt,Instr.sureAddr,storeVar]
  ·have lS:vs'.size=vs.size:=by
    have:=CG length k2
    grind
   refine Inv.upd hs.1 γ _ (YK _ _ _ _) (fun k hk=>YC _ _ _ (Ne.symm hk)) (fun b hb ax=> ?_) (by simp) rfl rfl rfl (fun k hk=>⟨rfl,rfl,rfl⟩) (fun k cs us _ _ h=>h) ?_ (fun b hb=> .inl (by rw[hl.1];exact hb)) (fun _=>Gh.keeps_refl _ _)
   ·grind [setRow_other,Vn,Xw]
   ·refine⟨vs',e,fr,setRow_heap w _ vs _ e fr h1,by rw[lS];exact h2,?_,fun c fk=> ?_⟩<;>grind [X4D,X3G,X5d,X6a]) ⟨⟨hx,hv,TV⟩,⟨hL,TV⟩,TV,TV⟩
def Xmf (cs ys:List AVal) (o:Nat):List AVal:=cs.take o++ys++cs.drop (o+J ys)
def X4z (place:Nat->Option (Nat×Nat)) (cs:List AVal):List (Nat×AVal)->Option (List AVal)
 |[]=>some cs
 |(i,x)::r=>
  match place i with
  |none=>none
  |some (off,sz)=>bif Nat.beq (J x.parts) sz&&Nat.ble (off+sz) (J cs)&&X31 x.parts then X4z place (Xmf cs x.parts off) r else none
def XsT (xs:List Value):∀(k:Nat) (cs:Array Value) (off:Nat),off+k+J xs<=cs.size->
  ((xs.zipIdx k).foldl (fun cs (p:Value×Nat)=>cs.setIfInBounds (off+p.2) p.1) cs).toList=cs.toList.take (off+k)++xs++cs.toList.drop (off+k+J xs):=by
 induction xs with
 |nil=>simp
 |cons x xs ih=>
  intro k cs off h;simp only[zipIdx_cons,foldl_cons];rw[ih (k+1) _ off (by simp at h |-;omega)];apply ext_getElem?;intro j;simp only[LC] at h;simp only[getElem?_append,LA,LT,Array.length_toList,Array.size_setIfInBounds,LC,getElem?_take,getElem?_drop,Array.getElem?_toList,Array.getElem?_setIfInBounds,getElem?_cons]
  grind
def evL (S:St):List (Nat×Operand)->List (Nat×AVal)
 |[]=>[]
 |p::r=>(p.1,S.ev p.2)::evL S r
def X3d:List (Nat×Operand)->List (Nat×AVal)->List (Operand×AVal)
 |p::r,q::s=>(p.2,q.2)::X3d r s
 |_,_=>[]
def XbV {g:Gh}{a:Act}{place:Nat->Option (Nat×Nat)}:∀{parts:List (Nat×Operand)}{ps:List (Nat×AVal)}{cs out:List AVal}{vs:Array Value},
  ps.map (·.1)=parts.map (·.1)->VK g a (X3d parts ps)->Xy g cs vs.toList->X4z place cs ps=some out->
  ∃us:Array Value,Instr.fill place vs (parts.map fun p=>(p.1,a.eval p.2))=some us/\Xy g out us.toList
 |[],[],cs,out,vs,_,_,hs,hf=>by
  simp only[X4z,Option.some.injEq] at hf;subst hf;exact⟨vs,rfl,hs⟩
 |[],_::_,_,_,_,hm,_,_,_=>by simp at hm
 |_::_,[],_,_,_,hm,_,_,_=>by simp at hm
 |p::parts,(i,x)::ps,cs,out,vs,hm,hr,hs,hf=>by
  simp only[map_cons,cons.injEq] at hm;obtain⟨fm,hm2⟩:=hm;simp only[X4z] at hf;cases hp:place i with
  |none=>rw[hp] at hf;simp at hf
  |some os=>
   obtain⟨off,sz⟩:=os;rw[hp] at hf;simp only at hf;cases hb:(Nat.beq (J x.parts) sz&&Nat.ble (off+sz) (J cs)&&X31 x.parts) with
   |false=>rw[hb] at hf;simp at hf
   |true=>
    rw[hb] at hf;simp only[Bool.and_eq_true] at hb;obtain⟨⟨b1,b2⟩,b3⟩:=hb;have sP:J x.parts=sz:=by simpa using b1
    have vf:off+sz<=J cs:=by simpa using b2
    obtain⟨fE,gh⟩:=hr;have hps:=Xaw fE b3;have bh:=V6 hps;have bM:=V6 hs;simp only[Array.length_toList] at bh bM;have lT:=XsT (a.eval p.2).cells.toList 0 vs off (by simp;omega);simp only[Nat.add_zero,Array.length_toList,bh] at lT;let vs':Array Value:=(a.eval p.2).cells.zipIdx.foldl (fun cs (p:Value×Nat)=>cs.setIfInBounds (off+p.2) p.1) vs
    have cP:vs'.toList=vs.toList.take off++(a.eval p.2).cells.toList++vs.toList.drop (off+J x.parts):=by
     rw[<-lT];simp only[vs'];rw[<-Array.foldl_toList,Array.toList_zipIdx]
    have oR:Xy g (Xmf cs x.parts off) vs'.toList:=by
     rw[cP];exact X4D (X4D (X3G hs off) hps) (X5d hs _)
    obtain⟨us,k1,k2⟩:=XbV (vs:=vs') hm2 gh oR hf;refine⟨us,?_,k2⟩;simp only[map_cons,Instr.fill,<-fm,hp];rw[NI (by simp[bh,sP];omega)];exact k1
def Xe1 (P:Program) (t:TypeId) (i:Nat):Option (Nat×Nat):=
 match P.underlying t with
 |some (.struct fs)=>(match fs[i]? with|some q=>(match P.info? q.type with|some y=>some (q.offset,y.size)|none=>none)|none=>none)
 |some (.array _ e)=>(match P.info? e with|some y=>some (i*y.size,y.size)|none=>none)
 |_=>none
def XlC (P:Program) (t:TypeId):Bool:=
 match P.underlying t with
 |some (.struct fs)=>fs.toList.all fun f=>(P.info? f.type).isSome
 |some (.array _ e)=>(P.info? e).isSome
 |_=>false
def Xxb (fs:List Field) (w:World) (h:∀f∈fs,(P.info? f.type).isSome=true):
  (fs.mapM fun f=>do pure (f.offset,<-sizeOf f.type):Sem (List (Nat×Nat))).run P w= .ok (fs.map fun f=>(f.offset,P.cellsOf f.type)) w:=by
 induction fs with
 |nil=>simp
 |cons f fs ih=>
  obtain⟨i,hi⟩:=Option.isSome_iff_exists.1 (h f (by simp));simp_all [sizeOf,typeInfo,Program.cellsOf]
theorem XoA {f f':Nat->Option (Nat×Nat)} (h:∀i,f i=f' i) (cs:Array Value) (l:List (Nat×Value)):Instr.fill f cs l=Instr.fill f' cs l:=by
 have:f=f':=funext h;rw[this]
def Xve {t:TypeId}{parts:Array (Nat×Operand)}{pl:List (Nat×Operand)}{ps:List (Nat×AVal)}{out:List AVal} (aT:parts.toList=pl) (hps:evL S pl=ps)
  (hz:X5i P t=some zs) (h1:X1Q zs=true) (ht:XlC P t=true) (hout:X4z (Xe1 P t) (dvL zs) ps=some out)
  (hd:Nat.blt d S.n=true) (hg:XL ops S gd)
  (h:Walk P ops draw K rest ((J l,⟨some d,.build t parts,ty,pos,ah,gd⟩,⟨XH ops gd++X3d pl ps,some (d,.agg out),[],[],[]⟩)::l) (S.set d (.agg out))):
  Walk P ops draw K (⟨some d,.build t parts,ty,pos,ah,gd⟩::rest) l S:=by
 have hkeys:ps.map (·.1)=pl.map (·.1):=by
  rw[<-hps];clear hps aT h;induction pl<;>simp_all [evL]
 refine Yq h hg (Uk rfl fun E S g a w hs hq hl=> ?_) ⟨?_,TV,TV,hd⟩
 ·obtain⟨z,ng,qI⟩:=Xgg hz;obtain⟨us,k1,k2⟩:=XbV (vs:=z.cells) hkeys hq (by grind [XaF]) hout;refine⟨.agg us,?_,by grind [AVal.sat]⟩;have sK:(parts.map fun p=>(p.1,a.eval p.2)).toList=pl.map fun p=>(p.1,a.eval p.2):=by simp[aT]
  unfold XlC at ht;cases hu:P.underlying t with
  |none=>grind
  |some de=>
   rw[hu] at ht;cases de with
   |struct fs=>
    simp only[all_eq_true] at ht;have k9:=Xxb (P:=P) fs.toList w ht;have gH:(fs.mapM fun f=>do pure (f.offset,<-sizeOf f.type):Sem (Array (Nat×Nat))).run P w= .ok (fs.map fun f=>(f.offset,P.cellsOf f.type)) w:=by
     have e:(fs.mapM fun f=>do pure (f.offset,<-sizeOf f.type):Sem (Array (Nat×Nat)))=(toArray<$>(fs.toList.mapM fun f=>do pure (f.offset,<-sizeOf f.type))):=by
      rw[Array.mapM_eq_mapM_toList]
     rw[e,Sem.run_map,k9,Result.andThen_ok];congr 1
     grind
    have hf:Instr.fill (fun x=>(fs.map fun f=>(f.offset,P.cellsOf f.type))[x]?) z.cells (parts.map fun p=>(p.1,a.eval p.2)).toList=some us:=by
     grind [XoA,Xe1,Program.cellsOf]
    simp_all [execOp,Instr.build,run_underlying]
   |array n e=>
    simp only at ht;obtain⟨y,hy⟩:=Option.isSome_iff_exists.1 ht;have hf:Instr.fill (fun i=>some (i*y.size,y.size)) z.cells (parts.map fun p=>(p.1,a.eval p.2)).toList=some us:=by
     grind [XoA,Xe1]
    simp_all [execOp,Instr.build,run_underlying,sizeOf,typeInfo]
   |_=>simp at ht
 ·rw[X5n];rw[<-hps];clear hkeys hps aT hout h;induction pl<;>grind [X3d,evL]
def Xc9 (γ:Nat):∀l:List D,X0y γ (l.map .d)=false
 |[]=>rfl
 |x::l=>by simp[X0y,AVal.ment,Xc9 γ l]
def X7r:∀{ds:List D}{vs:List Value},Xy g (ds.map .d) vs->J vs=J ds/\∀(i:Nat) (d:D),ds[i]? =some d->∃u,vs[i]? =some u/\d.rep g.M u:=by
 intro ds vs h;refine⟨by simpa using V6 h,fun i d hd=> ?_⟩;obtain⟨u,h1,h2⟩:=X07 h i (.d d) (by simp[hd])
 grind [AVal.sat]
def X7O {b:Nat}:∀(xs:List (List D)) (o:Nat),(∀x∈xs,J x=sz)->
  (∀(i:Nat) (d:D),xs.flatten[i]? =some d->∃u,M ⟨b,o+i,none⟩=some u/\d.rep M u)->X0N M sz xs b o
 |[],_,_,_=>by simp only[X0N]
 |r::rs,o,hl,h=>by
  have hr:=hl r (by simp);simp only[X0N];refine⟨hr,X7t _ _ _ fun i d hd=> ?_,X7O rs (o+sz) (fun x hx=>hl x (by simp[hx])) fun i d hd=> ?_⟩
  ·refine h i d ?_;have hi:i<J r:=(GS.1 hd).1;simp[getElem?_append,hi];simpa [hi] using hd
  ·have:=h (sz+i) d (by simp[getElem?_append,<-hr];exact hd)
   rwa [show o+(sz+i)=o+sz+i by omega] at this
theorem X2m:∀(xs:List (List D)),(∀x∈xs,J x=sz)->J xs.flatten=J xs*sz
 :=by intro x;induction x<;>grind
def Xcu (hm:∀a v,M a=some v->w.cell? a=some v) {sz:Nat}:∀(xs:List (List D)) (b o:Nat),X0N M sz xs b o->
  ∃vs:List Value,J vs=J xs*sz/\(∀(j:Nat) (v:Value),vs[j]? =some v->w.cell? ⟨b,o+j,none⟩=some v)/\
   (∀(j:Nat) (d:D) (v:Value),xs.flatten[j]? =some d->vs[j]? =some v->d.rep M v):=by
 intro xs b o h;have hl:∀x∈xs,J x=sz:=fun x hx=>by
  obtain⟨i,hi⟩:=getElem?_of_mem hx;exact(X6o xs b o i x h hi).1
 have hcells:X09 M xs.flatten b o:=by
  clear hl;induction xs generalizing o<;>simp_all [X09,X0N,Xsg]
 obtain⟨vs,k1,k2,k3⟩:=Xem hm _ _ _ hcells
 grind [X2m]
def Gh.lay (g:Gh) (b:Nat) (vs:Array Value):Gh:=
 {az:=g.az,hd:=g.hd,aI:=g.aI,M:=fun p=>if p.block=b/\p.spot=none then vs[p.off]? else g.M p}
def Xcy (hi:Inv E L g w) (vs:Array Value):YN g.M (g.lay w.heap.size vs).M:=by
 intro p v h;have:=block_lt_of_cell (hi.mem p v h)
 grind [Gh.lay]
def X3R (hM:YN g.M g'.M) (hb:g'.az=g.az) (hh:g'.hd=g.hd) (oT:g'.aI=g.aI) {x:AVal}{u:Value} (h:x.sat g u):x.sat g' u:=by grind [AVal.sat_mono,Gh.keeps_of]
theorem Xti (hM:YN g.M g'.M) (hb:g'.az=g.az) (hh:g'.hd=g.hd) (oT:g'.aI=g.aI) {xs:List AVal}{us:List Value} (h:Xy g xs us):Xy g' xs us:=by grind [X22,Gh.keeps_of]
def Xe5 (hM:YN g.M g'.M) (hb:g'.az=g.az) (hh:g'.hd=g.hd) (oT:g'.aI=g.aI) {w w':World}{γ:Nat}{x:AObj} (bg:∀b,Xw g x γ b->w'.heap[b]? =w.heap[b]?)
  (h:Ud g w γ x):Ud g' w' γ x:=by grind [X8s,Xti]
def Xft (hi:Inv E L g w) (vs:Array Value) (e:TypeId) (fr:Nat×Nat):
  Inv E L (g.lay w.heap.size vs) (w.alloc (.cells vs e fr)):=by
 have hle:=Xcy hi vs;refine⟨fun γ=>Xe5 (g':=g.lay w.heap.size vs) hle rfl rfl rfl (fun b hb=>X4V w _ b (X4H hi hb)) (hi.obj γ),fun γ γ' b h h'=> ?_,fun a v h=> ?_,fun γ b h a v ha=> ?_,fun γ b h=> ?_,hi.ext.trans hle,fun a v h=> ?_,fun b hb hA=> ?_,?_,hi.os,hi.out,fun k hk=>(hi.kp k hk).trans' (Gh.keeps_of rfl rfl rfl)⟩
 ·rw[X5l (g:=g) (g':=g.lay w.heap.size vs) rfl rfl rfl] at h h';exact hi.inj γ γ' b h h'
 ·have h':(if a.block=w.heap.size/\a.spot=none then vs[a.off]? else g.M a)=some v:=h;split at h'
  ·rename_i hc;obtain⟨b,o,s⟩:=a
   grind [cell_of_row,heap_alloc_new]
  ·have hc:=hi.mem a v h'
   grind [World.cell?,X4V]
 ·rw[X5l (g:=g) (g':=g.lay w.heap.size vs) rfl rfl rfl] at h;have h':(if a.block=w.heap.size/\a.spot=none then vs[a.off]? else g.M a)=some v:=ha;split at h'
  ·rename_i hc;have:=X4H hi h;omega
  ·exact hi.sep γ b h a v h'
 ·rw[X5l (g:=g) (g':=g.lay w.heap.size vs) rfl rfl rfl] at h;exact hi.new γ b h
 ·have h':(if a.block=w.heap.size/\a.spot=none then vs[a.off]? else g.M a)=some v:=h;split at h'
  ·rename_i hc;have:=hi.size;omega
  ·exact hi.lim a v h'
 ·have:=hi.size;rw[X4V w _ b (by omega)];exact hi.frame b hb hA
 ·have:=hi.size;simp;omega
theorem Xih (hi:Inv E L g w):Inv E L g w.drew:=
 ⟨fun γ=>by
  have:=hi.obj γ;revert this;cases L γ<;>exact id,hi.inj,hi.mem,hi.sep,hi.new,hi.ext,hi.lim,hi.frame,hi.size,hi.os,hi.out,hi.kp⟩
def X78:List AVal->Option (List D)
 |[]=>some []
 | .d x::r=>(match X78 r with|some y=>some (x::y)|none=>none)
 |_=>none
def X5b (sz:Nat):Nat->List AVal->Option (List (List D))
 |0,[]=>some []
 |n+1,l=>(match X78 (l.take sz),X5b sz n (l.drop sz) with|some r,some q=>bif Nat.beq (J r) sz then some (r::q) else none|_,_=>none)
 |0,_::_=>none
def XoV:∀{l:List AVal}{r:List D},X78 l=some r->r.map .d=l
 |[],r,h=>by grind [X78]
 |x::l,r,h=>by
  cases x<;>simp only[X78] at h<;>try (simp at h;done)
  rename_i y;cases hu:X78 l with
  |none=>simp[hu] at h
  |some q=>simp[hu] at h;subst h;simp[XoV hu]
def Xok:∀{n:Nat}{l:List AVal}{xs:List (List D)},X5b sz n l=some xs->xs.flatten.map .d=l/\J xs=n/\∀x∈xs,J x=sz
 |0,[],xs,h=>by grind [X5b]
 |0,_::_,xs,h=>by simp[X5b] at h
 |n+1,l,xs,h=>by
  simp only[X5b] at h;cases hu:X78 (l.take sz) with
  |none=>simp[hu] at h
  |some r=>
   cases hq:X5b sz n (l.drop sz) with
   |none=>simp[hu,hq] at h
   |some q=>
    rw[hu,hq] at h;simp only at h;cases hb:Nat.beq (J r) sz with
    |false=>simp[hb] at h
    |true=>
     simp[hb] at h;subst h;obtain⟨k1,k2,k3⟩:=Xok hq;refine⟨?_,by simp[k2],?_⟩
     ·simp only[flatten_cons,map_append,XoV hu,k1,take_append_drop]
     ·intro x hx;rcases mem_cons.1 hx with rfl|hx
      ·simpa using hb
      ·exact k3 x hx
def X1w (P:Program) (t:TypeId) (sz bytes:Nat):Bool:=
 match P.underlying t with
 |some (.slice e)=>(match P.info? e with|some i=>Nat.beq i.size sz&&Nat.beq i.bytes bytes&&(match i.zero with|some z=>Nat.beq z.cells.size sz&&X1Q z.cells.toList|none=>false)|none=>false)
 |_=>false
def elB (P:Program) (t:TypeId):Nat:=
 match P.underlying t with
 |some (.slice e)=>(match P.info? e with|some i=>i.bytes|none=>0)
 |_=>0
def X6x {t:TypeId} (h:X1w P t sz bytes=true):
  ∃e i z,P.underlying t=some (.slice e)/\P.info? e=some i/\i.size=sz/\i.bytes=bytes/\i.zero=some z/\z.cells.size=sz/\X1Q z.cells.toList=true:=by
 grind [X1w,Nat.eq_of_beq_eq_true]
def X4r (P:Program) (t:TypeId):Bool:=match P.underlying t with|some (.slice _)=>true|some .string=>true|_=>false
def Xfp {t:TypeId} (h:X4r P t=true):(∃e,P.underlying t=some (.slice e))\/P.underlying t=some .string:=by
 grind [X4r]
def XaW (need old:Nat) (e:TypeId) (t:Nat) (h:need<2^63):need<=(Question.appendCap need old e).cut t/\(Question.appendCap need old e).cut t<=maxLen:=by
 simp only[Question.cut,maxLen];have:t%(2^63-need)<2^63-need:=Nat.mod_lt _ (by omega);omega
def Src (P:Program) (w:World) (sz:Nat) (x:Value) (m:Nat) (news:Array Value):Prop:=
 (∀w':World,w'.heap=w.heap->(Builtin.lenOf x).run P w'= .ok m w'/\(Builtin.firstCells sz m x).run P w'= .ok news w')/\news.size=m*sz
def Xap {T T2 ty e:TypeId}{i:TypeInfo}{x:Value}
  (hT:P.underlying T=some (.slice e)) (hi:P.info? e=some i) (h2:(∃e,P.underlying T2=some (.slice e))\/P.underlying T2=some .string)
  (hsrc:Src P w i.size x m news) (hroom:n+m<=cap):
  (Builtin.append_ #[T,T2] ty #[.slice base n cap,x]).run P w=
   match base with
   |some a=>((storeCells (a.add (n*i.size)) news.toList).run P w).andThen fun _ w=> .ok (.slice base (n+m) cap) w
   |none=> .ok (.slice base (n+m) cap) w:=by
 have hs:=hsrc.1 w rfl;rcases h2 with ⟨e2,h2⟩|h2<;>cases base<;>
 simp[Builtin.append_,run_underlying hT,sizeOf,typeInfo,hi,run_underlying h2,hs.1,hs.2,hroom]
def Xb7 {T T2 ty e:TypeId}{i:TypeInfo}{z:Value}{x:Value}{olds:Array Value}
  (hT:P.underlying T=some (.slice e)) (hi:P.info? e=some i) (hz:i.zero=some z) (h2:(∃e,P.underlying T2=some (.slice e))\/P.underlying T2=some .string)
  (hbytes:i.bytes≠0)
  (hsrc:Src P w i.size x m news) (hold:∀w':World,w'.heap=w.heap->(Builtin.firstCells i.size n (.slice base n cap)).run P w'= .ok olds w') (hroom:¬n+m<=cap)
  (hcap:Builtin.nextslicecap (n+m) cap*i.bytes<=2^48):
  let newCap:=(Question.appendCap (n+m) cap e).cut (w.tape w.drawn (.appendCap (n+m) cap e))
  (Builtin.append_ #[T,T2] ty #[.slice base n cap,x]).run P w=
   .ok (.slice (some ⟨w.heap.size,0,none⟩) (n+m) newCap) (w.drew.alloc (.cells (olds++news++Builtin.zeroCells z.cells (newCap-(n+m))) e)):=by
 have hs:=hsrc.1 w rfl;have hs':=hsrc.1 w.drew rfl;have ho:=hold w.drew rfl;rcases h2 with ⟨e2,h2⟩|h2<;>
 simp[Builtin.append_,run_underlying hT,sizeOf,typeInfo,hi,run_underlying h2,hs.1,hroom,hbytes,Nat.not_lt.2 hcap,Question.forced,ho,hs'.2,zeroValue,hz,newRow]
def Gh.rehd (g:Gh) (γ:Nat) (v:Value):Gh:={az:=g.az,hd:=fun k=>if k=γ then v else g.hd k,aI:=g.aI,M:=g.M}
def XyH {a a':Option Addr}{m' c c':Nat} (h1:g.hd γ= .slice a m c) (h2:Value.slice a' m' c'= .slice a m c\/m<m') (k:Nat):g.keeps (g.rehd γ (.slice a' m' c')) k:=by
 refine⟨rfl,?_,fun _ _ _ _ _ _=>rfl⟩
 grind [Gh.rehd]
theorem X79 (z:Array Value) (n:Nat):(Builtin.zeroCells z n).size=n*z.size:=by simp[Builtin.zeroCells]
theorem Xdq {xs ys:List D} (h:Xy g (xs.map .d) us) (h':Xy g (ys.map .d) vs):Xy g ((xs++ys).map .d) (us++vs):=by
 grind [X4D]
def Xmj {a:Act} (hs:Vr E S g a w) {γ sz bytes m:Nat}{xs ys:List (List D)} (hL:S.obj γ= .row sz xs)
  {T T2 ty:TypeId} (hT:X1w P T sz bytes=true) (h2:X4r P T2=true) (hb0:bytes≠0) {x:Value}{news:Array Value} (hsrc:Src P w sz x m news)
  (hm:m=J ys) (hy:∀y∈ys,J y=sz) (hnews:Xy g (ys.flatten.map .d) news.toList) (hroom:(J xs+m)*bytes<=2^47):
  ∃v g' w',(Builtin.append_ #[T,T2] ty #[g.hd γ,x]).run P w= .ok v w'/\(AVal.own γ (J xs+m)).sat g' v/\
   Inv E (Xs .dead ((γ,.row sz (xs++ys))::S.L)) g' w'/\∀t,(S.get t).sat g' (a.tmps.getD t undef):=by
 obtain⟨e,i,z,hu,hi,hsz,gI,hz,hzs,cE⟩:=X6x hT;have fF:=Xfp h2;have ho:=hs.1.obj γ;rw[hL] at ho;obtain⟨hlen,ho⟩:=ho;have ke:=X2m xs hlen;have sL:=X2m ys hy;have hlen':∀r∈xs++ys,J r=sz:=fun r hr=>(mem_append.1 hr).elim (hlen r) (hy r);have lU:news.size=m*sz:=hsrc.2
 have fin:∀(a0:Option Addr) (c0:Nat) (b cap':Nat) (vs':Array Value) (e':TypeId) (fr:Nat×Nat) (w':World),
   g.hd γ= .slice a0 (J xs) c0->
   (Value.slice (some ⟨b,0,none⟩) (J xs+m) cap'= .slice a0 (J xs) c0\/J xs<J xs+m)->
   (∀k,k<w.heap.size->¬Xw g (S.obj γ) γ k->w'.heap[k]? =w.heap[k]?)->w.heap.size<=w'.heap.size->w'.os=w.os->w'.output=w.output->
   w'.heap[b]? =some (.cells vs' e' fr)->X4A fr vs'.size->J xs+m<=cap'->cap'<=maxLen->cap'*sz<=vs'.size->
   Xy g ((xs++ys).flatten.map .d) (vs'.toList.take (J (xs++ys)*sz))->(Xw g (S.obj γ) γ b\/w.heap.size<=b)->
   let g':=g.rehd γ (.slice (some ⟨b,0,none⟩) (J xs+m) cap')
   (AVal.own γ (J xs+m)).sat g' (.slice (some ⟨b,0,none⟩) (J xs+m) cap')/\
   Inv E (Xs .dead ((γ,.row sz (xs++ys))::S.L)) g' w'/\∀t,(S.get t).sat g' (a.tmps.getD t undef):=by
  intro a0 c0 b cap' vs' e' fr w' cN hgrow bg hsize hos hout hb oU hcap eF hcs bf hlv g';have hk:∀k,g.keeps g' k:=XyH cN hgrow;have hM:YN g.M g'.M:=YN.refl _;refine⟨?_,?_,fun t=>AVal.sat_mono hM _ _ (fun k _=>hk k) (hs.2.2.2 t)⟩
  ·simp only[AVal.sat];exact⟨rfl,some ⟨b,0,none⟩,J xs+m,cap',by simp[g',Gh.rehd],Nat.le_refl _,fun _=>rfl⟩
  ·refine Inv.upd hs.1 γ _ (YK _ _ _ _) (fun k b8=>YC _ _ _ (Ne.symm b8)) bg hsize hos hout rfl (fun k b8=>⟨rfl,by grind [Gh.rehd],rfl⟩)
    (fun k cs us _ _ h=>X22 hM _ _ (fun k _=>hk k) h) ?_ (fun k aG=> ?_) (fun _=>hk γ)
   ·refine⟨hlen',.inr ⟨b,cap',vs',e',fr,by grind [Gh.rehd],by grind,eF,hb,oU,hcs,X22 hM _ _ (fun k _=>hk k) bf⟩⟩
   ·simp only[Xw,g',Gh.rehd,if_true] at aG
    grind [Xw,U0]
 have gi:∀cap,J xs+m>cap->Builtin.nextslicecap (J xs+m) cap*i.bytes<=2^48:=by
  intro cap hc;have h1:=nextslicecap_le (need:=J xs+m) (old:=cap) hc;have h2:Builtin.nextslicecap (J xs+m) cap*i.bytes<=2*(J xs+m)*i.bytes:=Nat.mul_le_mul_right _ h1
  grind
 have dy:J xs+m<2^63:=by
  have:J xs+m<=(J xs+m)*bytes:=Nat.le_mul_of_pos_right _ (by omega);omega
 rcases ho with ⟨eE,rfl⟩|⟨b,cap,vs,e',fr,h1,dr,h3,h4,h5,h6,h7⟩
 ·by_cases hm0:m=0
  ·-- nothing to nothing
   have hys:ys=[]:=by grind
   subst hys;have hr:=Xap (P:=P) (w:=w) (T:=T) (T2:=T2) (ty:=ty) (base:=none) (n:=0) (cap:=0) (x:=x) (news:=news) (m:=m) hu hi fF (by rw[hsz];exact hsrc) (by omega);refine⟨_,g,w,by rw[eE];exact hr,?_,?_,hs.2.2.2⟩
   ·simp only[AVal.sat];exact⟨rfl,none,0,0,eE,by simp[hm0],fun _=>by simp[hm0]⟩
   ·have e1:Xs .dead ((γ,.row sz ([]++[]))::S.L)=S.obj:=by
     grind [YC,Xs,St.obj]
    rw[e1];exact hs.1
  ·have hr:=Xb7 (P:=P) (w:=w) (T:=T) (T2:=T2) (ty:=ty) (base:=none) (n:=0) (cap:=0) (x:=x) (olds:= #[]) (news:=news) (m:=m) hu hi hz fF (by rw[gI];exact hb0) (by rw[hsz];exact hsrc)
    (fun w' _=>by simp[Builtin.firstCells]) (by omega) (by grind)
   obtain⟨c1,c2⟩:=XaW (0+m) 0 e (w.tape w.drawn (.appendCap (0+m) 0 e)) (by simpa using dy);revert hr c1 c2;generalize (Question.appendCap (0+m) 0 e).cut (w.tape w.drawn (.appendCap (0+m) 0 e))=nc;intro hr c1 c2
   have:=fin none 0 w.heap.size nc (#[]++news++Builtin.zeroCells z.cells (nc-(0+m))) e (0,0) _ (by simpa using eE) (.inr (by simp;omega))
    (fun k hk _=>X4V w.drew _ k hk) (X7q w.drew _) rfl rfl (heap_alloc_new w.drew _) (X6J _) (by simpa using c1) c2
    (by simp[X79,lU,hzs,<-Nat.add_mul];grind)
    (by
     grind) (.inr (Nat.le_refl _))
   grind
 ·have oV:∀w':World,w'.heap=w.heap->(Builtin.firstCells i.size (J xs) (.slice (some ⟨b,0,none⟩) (J xs) cap)).run P w'= .ok (vs.toList.take (J xs*sz)).toArray w':=by
   intro w' hw';have hl:=V6 h7;have:=run_loadCells_list (P:=P) w' ⟨b,0,none⟩ (vs.toList.take (J xs*sz)) (fun j v hv=>by
    grind [Vq,cell_of_row])
   grind [Builtin.firstCells]
  have iQ:J (vs.toList.take (J xs*sz))=J xs*sz:=by grind [V6,LM]
  have qJ:(vs.toList.take (J xs*sz)).toArray.toList=vs.toList.take (J xs*sz):=rfl;by_cases hc:J xs+m<=cap
  ·have hr:=Xap (P:=P) (w:=w) (T:=T) (T2:=T2) (ty:=ty) (base:=some ⟨b,0,none⟩) (n:=J xs) (cap:=cap) (x:=x) (news:=news) (m:=m) hu hi fF (by rw[hsz];exact hsrc) hc;have qK:J xs*sz+news.size<=vs.size:=by
    rw[lU,<-Nat.add_mul];exact Nat.le_trans (Nat.mul_le_mul_right _ hc) h6
   obtain⟨vs',k1,k2⟩:=X6W (P:=P) b e' fr vs.size h5 news.toList (J xs*sz) 0 vs w h4 rfl (by simpa using qK) (fun u sQ=>by
    obtain⟨j,hj,rfl⟩:=getElem_of_mem sQ;have hjl:j<J ys.flatten:=by grind
    obtain⟨_,cQ⟩:=X7r hnews;obtain⟨u,iE,fG⟩:=cQ j _ (getElem?_eq_getElem hjl)
    grind [D.rep_one])
   simp only[Nat.add_zero,Array.length_toList] at k2;simp only at hr;rw[show (⟨b,0,none⟩:Addr).add (J xs*i.size)=⟨b,J xs*sz,none⟩ by grind [Vq]] at hr;simp only[k1,Result.andThen_ok] at hr;have cP:vs'.size=vs.size:=by
    have:=CG length k2;simp at this;omega
   have hlv:Xw g (S.obj γ) γ b:=by rw[hL];exact⟨_,_,_,h1,rfl⟩
   have:=fin (some ⟨b,0,none⟩) cap b cap vs' e' fr (w.setRow b vs') h1 (by grind)
    (fun k hk hne=>setRow_other w b k vs' (fun e=>hne (by rw[e];exact hlv))) (by simp) rfl rfl (setRow_heap w b vs _ e' fr h4) (by rw[cP];exact h5) hc h3 (by rw[cP];exact h6)
    (by
     grind [Nat.add_mul,Xdq]) (.inl hlv)
   grind
  ·have hr:=Xb7 (P:=P) (w:=w) (T:=T) (T2:=T2) (ty:=ty) (base:=some ⟨b,0,none⟩) (n:=J xs) (cap:=cap) (x:=x) (olds:=(vs.toList.take (J xs*sz)).toArray) (news:=news) (m:=m) hu hi hz fF (by rw[gI];exact hb0)
    (by rw[hsz];exact hsrc) oV hc (gi cap (by omega))
   obtain⟨c1,c2⟩:=XaW (J xs+m) cap e (w.tape w.drawn (.appendCap (J xs+m) cap e)) dy;revert hr c1 c2;generalize (Question.appendCap (J xs+m) cap e).cut (w.tape w.drawn (.appendCap (J xs+m) cap e))=nc;intro hr c1 c2
   have:=fin (some ⟨b,0,none⟩) cap w.heap.size nc ((vs.toList.take (J xs*sz)).toArray++news++Builtin.zeroCells z.cells (nc-(J xs+m))) e (0,0) _ h1 (.inr (by omega))
    (fun k hk _=>X4V w.drew _ k hk) (X7q w.drew _) rfl rfl (heap_alloc_new w.drew _) (X6J _) c1 c2
    (by
     have:((vs.toList.take (J xs*sz)).toArray++news++Builtin.zeroCells z.cells (nc-(J xs+m))).size=nc*sz:=by
      rw[Array.size_append,Array.size_append,X79,lU,hzs,size_toArray,iQ,<-Nat.add_mul,<-Nat.add_mul];congr 1;omega
     omega)
    (by
     grind [Nat.add_mul,Xdq]) (.inr (Nat.le_refl _))
   grind
def X9T (hi:Inv E L g w) {sz:Nat}{ys:List (List D)}{x:Value} (h:(D.sl sz ys).rep g.M x):
  ∃news,Src P w sz x (J ys) news/\Xy g (ys.flatten.map .d) news.toList/\(ys=[]\/∀y∈ys,J y=sz):=by
 simp only[D.rep] at h;obtain⟨a,cap,rfl,h2,h3,h4⟩:=h;rcases h4 with rfl|⟨b,o,rfl,hr⟩
 ·refine⟨#[],⟨fun w' _=>⟨by simp[Builtin.lenOf],?_⟩,by simp⟩,by simp[Xy],.inl rfl⟩;cases a<;>simp_all [Builtin.firstCells,loadCells,loadCellsFrom]
 ·obtain⟨vs,k1,k2,k3⟩:=Xcu hi.mem ys b o hr;have hl:∀y∈ys,J y=sz:=fun y hy=>by
   obtain⟨i,hi⟩:=getElem?_of_mem hy;exact(X6o ys b o i y hr hi).1
  refine⟨vs.toArray,⟨fun w' hw'=>⟨by simp[Builtin.lenOf],?_⟩,by simp[k1]⟩,?_,.inr hl⟩<;>grind [run_loadCells_list,Vq,World.cell?,Builtin.firstCells,X4k,X2m,AVal.sat]
theorem X41 (h:(AVal.own γ n).sat g v) {sz:Nat}{xs:List (List D)}{w:World} (ho:Ud g w γ (.row sz xs)) (hn:n=J xs):v=g.hd γ:=by
 simp only[AVal.sat] at h;obtain⟨_,a,m,c,h1,h2,h3⟩:=h;have:g.hd γ= .slice a n c:=by
  rcases ho.2 with ⟨e,rfl⟩|⟨b,cap,vs,e',fr,e,_⟩<;>grind
 grind
theorem X7o {ρ:Operand->Value}{T T2:TypeId}{o:Oper} (ho:o.op= .call ⟨.builtin .append,#[x,y],#[T,T2]⟩)
  (h:(Builtin.append_ #[T,T2] o.type #[ρ x,ρ y]).run P w= .ok v w'):(execOp ρ o).run P w= .ok (.value v) w':=by
 simp[execOp,ho,resolve,invoke,builtin,h]
def Xyr {T T2:TypeId}{ys:List (List D)} (hx:S.ev x= .own γ n) (hL:S.obj γ= .row sz xs) (hy:S.ev y= .d (.sl sz ys)) (hn:n=J xs)
  (hB:elB P T=bytes) (hT:X1w P T sz bytes=true) (bN:X4r P T2=true) (hb0:Nat.beq bytes 0=false) (hroom:(J xs+J ys)*bytes<=140737488355328)
  (hd:Nat.blt d S.n=true) (hg:XL ops S gd)
  (h:Walk P ops draw K rest ((J l,⟨some d,.call ⟨.builtin .append,#[x,y],#[T,T2]⟩,ty,pos,ah,gd⟩,⟨XH ops gd++[(x,.own γ n),(y,.d (.sl sz ys))],some (d,.own γ (J xs+J ys)),[(γ,.row sz xs)],[(γ,.row sz (xs++ys))],[]⟩)::l)
   ((S.set d (.own γ (J xs+J ys))).own γ (.row sz (xs++ys)))):
  Walk P ops draw K (⟨some d,.call ⟨.builtin .append,#[x,y],#[T,T2]⟩,ty,pos,ah,gd⟩::rest) l S:=
 Yq h hg (X3H rfl fun E S g a w hs hq hl iR=>by
  have ho:=hs.1.obj γ;rw[hl.1] at ho;have hv:=X41 hq.1 ho hn;have kf:(D.sl sz ys).rep g.M (a.eval y):=by grind [AVal.sat,VK]
  obtain⟨news,k1,k2,k3⟩:=X9T (P:=P) hs.1 kf;have cF:∀r∈ys,J r=sz:=by grind
  obtain⟨v,g',w',r1,r2,r3,r4⟩:=Xmj hs hl.1 (ty:=ty) hT bN (X5L hb0) k1 rfl cF k2 (by simpa using hroom)
  grind [X7o]) ⟨⟨hx,hy,TV⟩,⟨hL,TV⟩,TV,hd⟩
def XvT {T:TypeId} (hx:S.ev x= .d (.sl sz xs)) (hT:cy P T=true)
  (hd:Nat.blt d S.n=true) (hg:XL ops S gd)
  (h:Walk P ops draw K rest ((J l,⟨some d,.call ⟨.builtin .len,#[x],#[T]⟩,ty,pos,ah,gd⟩,⟨XH ops gd++[(x,.d (.sl sz xs))],some (d,ai (J xs)),[],[],[]⟩)::l) (S.set d (ai (J xs)))):
  Walk P ops draw K (⟨some d,.call ⟨.builtin .len,#[x],#[T]⟩,ty,pos,ah,gd⟩::rest) l S:=
 Yq h hg (Uk rfl fun E S g a w hs hq hl=>by
  obtain⟨e,h1⟩:=X5R hT;have:=hq.1;simp only[AVal.sat,D.rep] at this;obtain⟨b,cap,hv,_⟩:=this;refine⟨.int .i64 (J xs),?_,X0k rfl⟩;simp[execOp,resolve,invoke,builtin,hv,Builtin.len_,run_underlying h1,goInt]) ⟨⟨hx,TV⟩,TV,TV,hd⟩
def XtL {T:TypeId} (hx:S.ev x= .own γ n) (hL:S.obj γ= .row sz xs) (hn:n=J xs) (hT:cy P T=true)
  (hd:Nat.blt d S.n=true) (hg:XL ops S gd)
  (h:Walk P ops draw K rest ((J l,⟨some d,.call ⟨.builtin .len,#[x],#[T]⟩,ty,pos,ah,gd⟩,⟨XH ops gd++[(x,.own γ n)],some (d,ai (J xs)),[(γ,.row sz xs)],[],[]⟩)::l) (S.set d (ai (J xs)))):
  Walk P ops draw K (⟨some d,.call ⟨.builtin .len,#[x],#[T]⟩,ty,pos,ah,gd⟩::rest) l S:=
 Yq h hg (Uk rfl fun E S g a w hs hq hl=>by
  obtain⟨e,h1⟩:=X5R hT;have ho:=hs.1.obj γ;rw[hl.1] at ho;have hv:=X41 hq.1 ho hn;have gW:∃b c,a.eval x= .slice b (J xs) c:=by
   rw[hv];rcases ho.2 with ⟨e,rfl⟩|⟨b,cap,vs,e',fr,e,_⟩<;>simp_all
  obtain⟨b,c,gW⟩:=gW;refine⟨.int .i64 (J xs),?_,X0k rfl⟩;simp[execOp,resolve,invoke,builtin,gW,Builtin.len_,run_underlying h1,goInt]) ⟨⟨hx,TV⟩,⟨hL,TV⟩,TV,hd⟩
def Xa0 (P:Program) (t:TypeId):Bool:=match P.underlying t with|some .string=>true|_=>false
def Xg4 {t:TypeId} (h:Xa0 P t=true):P.underlying t=some .string:=by
 grind [Xa0]
def Xsl {T:TypeId}{s:ByteArray} (hx:S.ev x=aZ s) (hT:Xa0 P T=true)
  (hd:Nat.blt d S.n=true) (hg:XL ops S gd)
  (h:Walk P ops draw K rest ((J l,⟨some d,.call ⟨.builtin .len,#[x],#[T]⟩,ty,pos,ah,gd⟩,⟨XH ops gd++[(x,aZ s)],some (d,ai s.size),[],[],[]⟩)::l) (S.set d (ai s.size))):
  Walk P ops draw K (⟨some d,.call ⟨.builtin .len,#[x],#[T]⟩,ty,pos,ah,gd⟩::rest) l S:=
 Yq h hg (Uk rfl fun E S g a w hs hq hl=>by
  refine⟨.int .i64 s.size,?_,X0k rfl⟩;simp[execOp,resolve,invoke,builtin,Uy hq.1,Builtin.len_,run_underlying (Xg4 hT),goInt]) ⟨⟨hx,TV⟩,TV,TV,hd⟩
def Xyt {i:Operand}{T:TypeId}{k:Nat}{kd:IntKind}{n:Int}{r:List D} (hx:S.ev x= .d (.sl sz xs)) (hi:S.ev i= .d (.v (.int kd n))) (hk:n=(k:Nat)) (hr:xs[k]? =some r)
  (hT:UT P T sz=true) (hd:Nat.blt d S.n=true) (hg:XL ops S gd)
  (h:Walk P ops draw K rest ((J l,⟨some d,.indexAddr T x i,ty,pos,ah,gd⟩,⟨XH ops gd++[(x,.d (.sl sz xs)),(i,.d (.v (.int kd n)))],some (d,.dptr r),[],[],[]⟩)::l) (S.set d (.dptr r))):
  Walk P ops draw K (⟨some d,.indexAddr T x i,ty,pos,ah,gd⟩::rest) l S:=
 Yq h hg (Uk rfl fun E S g a w hs hq hl=>by
  obtain⟨e,h1,h2,h3⟩:=X29 hT;have hlt:k<J xs:=(GS.1 hr).1;have hx':=hq.1;simp only[AVal.sat,D.rep] at hx';obtain⟨b,cap,hv,_,_,hrows⟩:=hx';rcases hrows with rfl|⟨b',o,rfl,hrows⟩
  ·simp at hlt
  ·obtain⟨q1,q2⟩:=X6o xs b' o k r hrows hr;refine⟨.pointer (some ⟨b',o+k*sz,none⟩),?_,by grind [AVal.sat]⟩;have hb:(0:Int)<=n/\n<(J xs:Int):=by omega
   have hn:n.toNat=k:=by omega
   have:=run_indexAt_slice (P:=P) w T ⟨b',o,none⟩ (J xs) cap kd n (by rw[h3];exact h1);rw[PI hb,h3,h2 w,Result.andThen_ok,Vq,hn] at this;simp only[execOp,hv,Uy hq.2.1,Sem.run_bind,this];rfl) ⟨⟨hx,hi,TV⟩,TV,TV,hd⟩
def VA (g:Gh) (w:World) (Li:List (Nat×AObj)):Env:=
 {W:=w,M:=g.M,A:=fun b=> ∃γ,Xw g (Xs .dead Li γ) γ b,g0:=g}
def Con (P:Program) (f:FuncId) (Li:List (Nat×AObj)) (args:List AVal) (Lo:List (Nat×AObj)) (res:AVal):Prop:=
 ∀(g:Gh) (w:World) (vs:List Value),Inv (VA g w Li) (Xs .dead Li) g w->Xy g args vs->
  Calls P f vs.toArray w fun e w'=> ∃v g',e= .returned v/\res.sat g' v/\Inv {VA g w Li with g0:=g'} (Xs .dead Lo) g' w'/\∀γ,Yg γ Li=true->g.keeps g' γ
theorem Inv.free {g0:Gh} (hi:Inv E L g w) (h:∀γ,γ<100->g0.keeps g γ):Inv {E with g0:=g0} L g w:=
 ⟨hi.obj,hi.inj,hi.mem,hi.sep,hi.new,hi.ext,hi.lim,hi.frame,hi.size,hi.os,hi.out,h⟩
def Inv.sub (hi:Inv E L g w) (h:∀γ,L' γ=L γ\/L' γ= .dead):Inv E L' g w:=by
 have hl:∀γ b,Xw g (L' γ) γ b->Xw g (L γ) γ b:=by
  grind [Xw]
 refine⟨fun γ=> ?_,fun γ γ' b k k'=>hi.inj γ γ' b (hl _ _ k) (hl _ _ k'),hi.mem,fun γ b k=>hi.sep γ b (hl _ _ k),fun γ b k=>hi.new γ b (hl _ _ k),hi.ext,hi.lim,hi.frame,hi.size,hi.os,hi.out,hi.kp⟩;rcases h γ with e|e
 ·rw[e];exact hi.obj γ
 ·rw[e];trivial
def X9x:Nat->List AVal->List (Nat×AVal)
 |_,[]=>[]
 |i,x::r=>(i,x)::X9x (i+1) r
theorem Xcd:∀(l:List AVal) (i t:Nat),Xs .any (X9x i l) t=if i<=t then (l[t-i]?).getD .any else .any
 |[],i,t=>by simp[X9x,Xs]
 |x::r,i,t=>by
  simp only[X9x,Xs];by_cases h:i=t
  ·subst h;simp
  ·have hb:Nat.beq i t=false:=by
    cases hb:Nat.beq i t with
    |false=>rfl
    |true=>exact absurd (Nat.eq_of_beq_eq_true hb) h
   rw[hb,cond_false,Xcd r (i+1) t];by_cases h1:i<=t
   ·rw[PI (by omega),PI h1,show t-i=(t-(i+1))+1 by omega,getElem?_cons_succ]
   ·rw[NI (by omega),NI h1]
def X2U (n:Nat) (args:List AVal) (Li:List (Nat×AObj)):St:=⟨n,X9x 0 args,Li⟩
def X5s (P:Program) (S:St) (rv:ResultVar) (x:AVal):Prop:=
 match rv with
 | .tmp t=>S.get t=x
 | .cell t ty=> ∃γ o cs,S.get t= .ptr γ o/\S.obj γ= .box cs/\
   ((X1u P ty false 1=true/\cs[o]? =some x)\/∃sz ys,X1u P ty true sz=true/\(cs.drop o).take sz=ys/\Nat.beq (J ys) sz=true/\x= .agg ys)
def XaX (P:Program) (S:St):List ResultVar->List AVal->Prop
 |[],[]=>True
 |r::rs,x::xs=>X5s P S r x/\XaX P S rs xs
 |_,_=>False
def X6M:List AVal->AVal
 |[x]=>x
 |xs=> .tup xs
def X8I (tmps:Array Value):ResultVar->Sem Value
 | .tmp t=>pure (tmps.getD t undef)
 | .cell t ty=>do loadVar ty (<-asAddr (tmps.getD t undef))
theorem XtO (fn:Func) (tmps:Array Value):results fn tmps=(do
  let vs <-fn.results.mapM (X8I tmps)
  pure (if h:vs.size=1 then vs[0] else .tuple vs)):=rfl
def Xzf {a:Act} (hs:Vr E S g a w) {rv:ResultVar}{x:AVal} (h:X5s P S rv x):
  ∃v,(X8I a.tmps rv).run P w= .ok v w/\x.sat g v:=by
 cases rv with
 |tmp t=>exact⟨_,rfl,by grind [Vr,X5s]⟩
 |cell t ty=>
  obtain⟨γ,o,cs,h1,h2,h3⟩:=h;have hp:=hs.2.2.2 t;rw[h1] at hp;simp only[AVal.sat] at hp;have ho:=hs.1.obj γ;rw[h2] at ho;obtain⟨vs,e,fr,k1,k2,k3,k4⟩:=ho;rcases h3 with ⟨ht,hy⟩|⟨sz,ys,ht,hy,hlen,rfl⟩
  ·grind [X07,cell_of_row,X8I,asAddr,X8P]
  ·have hsub:=X3G (X5d k3 o) sz;rw[hy] at hsub;have bh:=V6 hsub;have bM:J ys=sz:=Nat.eq_of_beq_eq_true hlen;have:=Xa1 (P:=P) (p:=⟨g.az γ,o,none⟩) (w:=w) (vs:=(vs.toList.drop o).take sz) (t:=ty) (by grind) (fun j v hv=>by
    grind [Vq,cell_of_row])
   grind [X8I,asAddr,AVal.sat]
def XhW {a:Act} (hs:Vr E S g a w):∀(rs:List ResultVar) (xs:List AVal),XaX P S rs xs->
  ∃vs:List Value,(rs.mapM (X8I a.tmps):Sem (List Value)).run P w= .ok vs w/\Xy g xs vs
 |[],[],_=>⟨[],by simp,by simp only[Xy]⟩
 |[],_::_,h=>h.elim
 |_::_,[],h=>h.elim
 |r::rs,x::xs,h=>by
  obtain⟨v,k1,k2⟩:=Xzf hs h.1;obtain⟨vs,k3,k4⟩:=XhW hs rs xs h.2;refine⟨v::vs,?_,by simp only[Xy];exact⟨k2,k4⟩⟩;rw[mapM_cons];simp only[Sem.run_bind,k1,k3,Result.andThen_ok,Sem.run_pure]
def Xce {a:Act} (hs:Vr E S g a w) {fn:Func}{rs:List ResultVar}{xs:List AVal} (hr:fn.results.toList=rs) (h:XaX P S rs xs):
  ∃v,(results fn a.tmps).run P w= .ok v w/\(X6M xs).sat g v:=by
 obtain⟨vs,k1,k2⟩:=XhW hs rs xs h;have e:(fn.results.mapM (X8I a.tmps):Sem (Array Value)).run P w= .ok vs.toArray w:=by
  simp_all [Array.mapM_eq_mapM_toList]
 have hl:=V6 k2;rw[XtO,Sem.run_bind,e];simp only[Result.andThen_ok,Sem.run_pure];refine⟨_,rfl,?_⟩;cases vs with
 |nil=>
  grind [X6M,AVal.sat]
 |cons v vs=>
  cases vs with
  |nil=>
   match xs,hl,k2 with
   |[x],_,k2=>
    grind [X6M,Xy]
  |cons v' vs=>
   match xs,hl,k2 with
   |x::y::xs,_,k2=>
    grind [X6M,AVal.sat]
def X90 (Lo:List (Nat×AObj)) (T:St):Prop:=∀γ,Xs .dead Lo γ=T.obj γ\/Xs .dead Lo γ= .dead
def X5 (T:St):X90 [] T:=fun γ=> .inr rfl
variable{Lo:List (Nat×AObj)}
def Xm (h:Vn T Lo):X90 Lo T:=by
 intro γ;rcases XeW AObj.dead Lo γ with e|⟨p,hp,e⟩
 ·exact .inr e
 ·by_cases hk:Yg γ Lo=true
  ·clear hp e p;induction Lo<;>grind [Yg,Nat.eq_of_beq_eq_true,Xs,Vn]
  ·right;have:∀(l:List (Nat×AObj)),¬Yg γ l=true->Xs .dead l γ= .dead:=by
    intro l hl;induction l<;>grind [Yg,Xs]
   exact this Lo hk
def Vw (P:Program) (rs:List ResultVar) (Lo:List (Nat×AObj)) (xs:List AVal) (T:St):Prop:=
 ∃U,T.le U/\XaX P U rs xs/\X90 Lo U
def X5y:List (Nat×AObj)->Bool
 |[]=>true
 |p::r=>Nat.blt p.1 100&&X5y r
def XaA:∀(l:List (Nat×AObj)) (γ:Nat),X5y l=true->Yg γ l=true->γ<100
 |[],_,_,h=>by simp[Yg] at h
 |p::r,γ,h,hk=>by
  simp only[X5y,Bool.and_eq_true] at h;simp only[Yg,Bool.or_eq_true] at hk;rcases hk with e|e
  ·simp_all
  ·exact XaA r γ h.2 e
variable{Li:List (Nat×AObj)}
def VQ {f:FuncId}{fn:Func}{c:Code}{rs:List ResultVar}{args xs:List AVal} (hf:P.funcs[f]? =some fn) (hb:fn.body=some c) (hn:fn.ntmps=n) (hr:fn.results.toList=rs)
  (hle:Nat.ble (J args) n=true) (aS:X5y Li=true)
  (h:∀E,AWP P E c (X2U n args Li) (XeK (Vw P rs Lo xs))):Con P f Li args Lo (X6M xs):=by
 intro g w vs hi hs;have hl:=V6 hs;refine calls_of_wp hf hb ?_;have hstart:holds (VA g w Li) (X2U n args Li) {tmps:=vs.toArray++Array.replicate (fn.ntmps-vs.toArray.size) undef,defers:=[]} w:=by
  refine⟨g,hi,rfl,?_,fun t=> ?_⟩
  ·simp_all [X2U]
  ·show AVal.sat g (Xs _ _ _) _;simp only[X2U];rw[Xcd];simp only[Nat.zero_le,if_true,Nat.sub_zero];cases hx:args[t]? with
   |none=>simp[AVal.sat]
   |some x=>
    obtain⟨u,hu,gG⟩:=X07 hs t x hx;have hlt:t<J vs:=(GS.1 hu).1;have:(vs.toArray++Array.replicate (fn.ntmps-vs.toArray.size) undef).getD t undef=u:=by
     simp_all [Array.getElem?_append_left]
    rw[this];exact gG
 refine wp_mono ((h (VA g w Li)).run _ w hstart) ?_;rintro e a' w' ⟨T,hq,ht⟩;have fin:Vw P rs Lo xs T->a'.defers=[]/\∃v,(results fn a'.tmps).run P w'= .ok v w'/\∃v' g',Ending.returned v= .returned v'/\(X6M xs).sat g' v'/\Inv {VA g w Li with g0:=g'} (Xs .dead Lo) g' w'/\∀γ,Yg γ Li=true->g.keeps g' γ:=by
  rintro⟨U,hU,hres,hsub⟩;obtain⟨g',hg'⟩:=hU _ _ _ ht;obtain⟨v,r1,r2⟩:=Xce hg' hr hres;exact⟨hg'.2.1,v,r1,v,g',rfl,r2,(hg'.1.sub hsub).free (fun γ _=>Gh.keeps_refl _ _),fun γ b6=>hg'.1.kp γ (XaA Li γ aS b6)⟩
 cases e with
 |normal=>exact fin hq
 |ret=>exact fin hq
 |_=>exact hq.elim
mutual
def AVal.within (Lo:List (Nat×AObj)):AVal->Bool
 | .ptr k _=>Yg k Lo
 | .own k _=>Yg k Lo
 | .rptr k _ _=>Yg k Lo
 | .inn k _=>Yg k Lo
 | .bsl k _=>Yg k Lo
 | .rs k _ _ _=>Yg k Lo
 | .mptr k _ _=>Yg k Lo
 | .cut k _ _ _=>Yg k Lo
 | .agg cs=>X6y Lo cs
 | .tup cs=>X6y Lo cs
 | .fn _ cs=>X6y Lo cs
 | .any=>true
 | .d _=>true
 | .dptr _=>true
 | .dx _ _=>true
 | .bq _ _=>true
def X6y (Lo:List (Nat×AObj)):List AVal->Bool
 |[]=>true
 |x::r=>x.within Lo&&X6y Lo r
end
mutual
theorem AVal.within_spec:∀(x:AVal),x.within Lo=true->x.ment γ=true->Yg γ Lo=true
 | .ptr k o,h,hm=>by grind [AVal.ment,Nat.eq_of_beq_eq_true,AVal.within]
 | .own k o,h,hm=>by grind [AVal.ment,Nat.eq_of_beq_eq_true,AVal.within]
 | .rptr k _ o,h,hm=>by grind [AVal.ment,Nat.eq_of_beq_eq_true,AVal.within]
 | .bsl k _,h,hm=>by grind [AVal.ment,Nat.eq_of_beq_eq_true,AVal.within]
 | .rs k _ _ _,h,hm=>by grind [AVal.ment,Nat.eq_of_beq_eq_true,AVal.within]
 | .inn k _,h,hm=>by grind [AVal.ment,Nat.eq_of_beq_eq_true,AVal.within]
 | .mptr k _ _,h,hm=>by grind [AVal.ment,Nat.eq_of_beq_eq_true,AVal.within]
 | .cut k _ _ _,h,hm=>by grind [AVal.ment,Nat.eq_of_beq_eq_true,AVal.within]
 | .agg cs,h,hm=>X9o cs (by grind [AVal.within]) (by grind [AVal.ment])
 | .tup cs,h,hm=>X9o cs (by grind [AVal.within]) (by grind [AVal.ment])
 | .fn _ cs,h,hm=>X9o cs (by grind [AVal.within]) (by grind [AVal.ment])
 | .any,_,hm=>by grind [AVal.ment]
 | .d _,_,hm=>by grind [AVal.ment]
 | .dptr _,_,hm=>by grind [AVal.ment]
 | .dx _ _,_,hm=>by grind [AVal.ment]
 | .bq _ _,_,hm=>by grind [AVal.ment]
theorem X9o:∀(xs:List AVal),X6y Lo xs=true->X0y γ xs=true->Yg γ Lo=true
 |[],_,hm=>by simp[X0y] at hm
 |x::r,h,hm=>by
  simp only[X6y,Bool.and_eq_true] at h;simp only[X0y,Bool.or_eq_true] at hm;exact hm.elim (AVal.within_spec x h.1) (X9o r h.2)
end
def X4n (Lo:List (Nat×AObj)):List (Nat×AObj)->Bool
 |[]=>true
 |p::r=>X6y Lo p.2.says&&X4n Lo r
def XjP:∀(l:List (Nat×AObj)),X4n Lo l=true->∀(k:Nat) (x:AObj),(k,x)∈l->X6y Lo x.says=true
 |[],_,_,_,h=>by simp at h
 |p::r,h,k,x,hm=>by
  simp only[X4n,Bool.and_eq_true] at h;rcases mem_cons.1 hm with e|hm
  ·cases e;exact h.1
  ·exact XjP r h.2 k x hm
def X4j (Li Lo:List (Nat×AObj)):Bool:=
 match Li with
 |[]=>true
 |p::r=>Yg p.1 Lo&&X4j r Lo
theorem XnZ:∀(Li:List (Nat×AObj)),X4j Li Lo=true->Yg γ Li=true->Yg γ Lo=true
 |[],_,h=>by simp[Yg] at h
 |p::r,h,hk=>by
  simp only[X4j,Bool.and_eq_true] at h;simp only[Yg,Bool.or_eq_true] at hk;rcases hk with e|e
  ·rw[<-Nat.eq_of_beq_eq_true e];exact h.1
  ·exact XnZ r h.2 e
def VU (Li:List (Nat×AObj)):List (Nat×AObj)->List Nat
 |[]=>[]
 |p::r=>bif Yg p.1 Li then VU Li r else p.1::VU Li r
theorem XaL:∀(Lo:List (Nat×AObj)),Yg γ Lo=true->Yg γ Li=false->γ∈VU Li Lo
 |[],h,_=>by simp[Yg] at h
 |p::r,h,hk=>by
  simp only[Yg,Bool.or_eq_true] at h;simp only[VU];rcases h with e|e
  ·have:=Nat.eq_of_beq_eq_true e;subst this;simp[hk]
  ·cases Yg p.1 Li with
   |true=>exact XaL r e hk
   |false=>exact mem_cons_of_mem _ (XaL r e hk)
def X3v:List Nat->List (Nat×AObj)
 |[]=>[]
 |k::r=>(k,.dead)::X3v r
theorem XgP {α:Type} (z:α) (γ:Nat):∀(l:List (Nat×α)),Yg γ l=false->Xs z l γ=z
 |[],_=>rfl
 |(k,x)::r,h=>by
  simp only[Yg,Bool.or_eq_false_iff] at h;simp only[Xs,h.1,cond_false];exact XgP z γ r h.2
theorem Xgf {α:Type} (z:α) (γ:Nat):∀(l:List (Nat×α)),Yg γ l=true->(γ,Xs z l γ)∈l
 |[],h=>by simp[Yg] at h
 |(k,x)::r,h=>by
  by_cases hk:k=γ
  ·subst hk;rw[YK];simp
  ·rw[YC z x r hk];simp only[Yg,Bool.or_eq_true] at h;exact mem_cons_of_mem _ (Xgf z γ r (h.resolve_left fun e=>hk (Nat.eq_of_beq_eq_true e)))
def Gh.join (g g':Gh) (Lo:List (Nat×AObj)):Gh:=
 {az:=fun k=>if Yg k Lo then g'.az k else g.az k,hd:=fun k=>if Yg k Lo then g'.hd k else g.hd k,aI:=fun k=>if Yg k Lo then g'.aI k else g.aI k,M:=g'.M}
def XfW (hi:Inv E S.obj g w) {Li Lo:List (Nat×AObj)} (bB:Vn S Li) (hin:X4j Li Lo=true) (dw:X4n Lo Lo=true)
  (hnew:X33 S (VU Li Lo)) (av:Vn S (X3v (VU Li Lo))) (hc:Inv {VA g w Li with g0:=g'} (Xs .dead Lo) g' w') (hk:∀γ,Yg γ Li=true->g.keeps g' γ):
  Inv E (Xs .dead (Lo++S.L)) (g.join g' Lo) w'/\(∀x u,x.within Lo=true->AVal.sat g' x u->AVal.sat (g.join g' Lo) x u)/\(∀t u,AVal.sat g (S.get t) u->AVal.sat (g.join g' Lo) (S.get t) u):=by
 rw[X8e] at hnew;rw[X6v] at av;have sM:X90 Li S:=Xm bB;have hM:YN g.M g'.M:=hc.ext;have hA:∀b,(VA g w Li).A b->∃γ,Yg γ Li=true/\Xw g (S.obj γ) γ b:=by
  grind [XgP,VA,Xw,X90]
 have eG:∀k,Xs .dead (Lo++S.L) k=if Yg k Lo then Xs .dead Lo k else S.obj k:=fun k=>X7m _ _ _ _
 have lq:∀k,Yg k Lo=true->g'.keeps (g.join g' Lo) k:=fun k h=>Gh.keeps_of (by simp[Gh.join,h]) (by simp[Gh.join,h]) (by simp[Gh.join,h]);have sR:∀k,(Yg k Lo=true->Yg k Li=true)->g.keeps (g.join g' Lo) k:=by
  grind [Gh.keeps_of,Gh.join,Gh.keeps]
 have oW:∀x u,x.within Lo=true->AVal.sat g' x u->AVal.sat (g.join g' Lo) x u:=
  fun x u hx h=>AVal.sat_mono (g:=g') (g':=g.join g' Lo) (YN.refl _) x u (fun γ hm=>lq γ (AVal.within_spec x hx hm)) h
 have sS:∀k x,(∀γ∈VU Li Lo,AVal.ment γ x=false)->AVal.ment k x=true->g.keeps (g.join g' Lo) k:=by
  grind [XaL]
 have nh:∀k xs,(∀γ∈VU Li Lo,X0y γ xs=false)->X0y k xs=true->g.keeps (g.join g' Lo) k:=by
  grind [XaL]
 have jt:∀k b,Yg k Lo=true->(Xw (g.join g' Lo) (Xs .dead (Lo++S.L) k) k b↔Xw g' (Xs .dead Lo k) k b):=by
  intro k b h;rw[eG,PI h]
  grind [X5l,Gh.join]
 have ju:∀k b,Yg k Lo=false->(Xw (g.join g' Lo) (Xs .dead (Lo++S.L) k) k b↔Xw g (S.obj k) k b):=by
  intro k b h;rw[eG,NI (by simp[h])]
  grind [X5l,Gh.join]
 have oX:∀k b,Yg k Lo=false->Xw g (S.obj k) k b->¬(VA g w Li).A b:=by
  intro k b aG hb nk;obtain⟨γ,h1,h2⟩:=hA b nk;have:=hi.inj _ _ _ hb h2
  grind [XnZ]
 have bg:∀k b,Yg k Lo=false->Xw g (S.obj k) k b->w'.heap[b]? =w.heap[b]? :=fun k b aG hb=>
  hc.frame b (X4H hi hb) (oX k b aG hb)
 refine⟨⟨fun k=> ?_,fun k k' b h h'=> ?_,hc.mem,fun k b h a v ha=> ?_,fun k b h=> ?_,hi.ext.trans hM,fun a v ha=> ?_,fun b hb nk=> ?_,Nat.le_trans hi.size hc.size,hc.os.trans hi.os,hc.out.trans hi.out,fun k gV=> ?_⟩,oW,fun t u h=> ?_⟩
 ·cases aG:Yg k Lo with
  |true=>
   rw[eG,PI aG];have hmem:=Xgf AObj.dead k Lo aG;refine X8s (g:=g') (g':=g.join g' Lo) (YN.refl _) (by simp[Gh.join,aG]) (by simp[Gh.join,aG]) (by simp[Gh.join,aG]) (fun _ _=>rfl) (fun cs us e h=> ?_) (hc.obj k);have hwi:=XjP Lo dw k _ hmem
   grind [X22,X9o,Gh.join,YN]
  |false=>
   rw[eG,NI (by simp[aG])];refine X8s (g:=g) (g':=g.join g' Lo) hM (by simp[Gh.join,aG]) (by simp[Gh.join,aG]) (by simp[Gh.join,aG]) (fun b hb=>bg k b aG hb) (fun cs us e h=> ?_) (hi.obj k);refine X22 (g:=g) (g':=g.join g' Lo) hM _ _ (fun γ hm=>nh γ cs (fun γ' oE=> ?_) hm) h;have:=Xdx (hnew γ' oE) k
   grind [AObj.ment]
 ·cases aG:Yg k Lo with
  |true=>
   rw[jt k _ aG] at h;cases gE:Yg k' Lo with
   |true=>rw[jt k' _ gE] at h';exact hc.inj _ _ _ h h'
   |false=>
    rw[ju k' _ gE] at h';exfalso;rcases hc.new k b h with h1|h1<;>grind [X4H,VA]
  |false=>
   rw[ju k _ aG] at h;cases gE:Yg k' Lo with
   |false=>rw[ju k' _ gE] at h';exact hi.inj _ _ _ h h'
   |true=>
    rw[jt k' _ gE] at h';exfalso;rcases hc.new k' b h' with h1|h1<;>grind [X4H,VA]
 ·cases aG:Yg k Lo with
  |true=>rw[jt k _ aG] at h;exact hc.sep k b h a v ha
  |false=>
   rw[ju k _ aG] at h;intro e;rcases hc.lim a v ha with ⟨v',h1⟩|h1|h1
   ·exact hi.sep k b h a v' h1 e
   ·grind [X4H,VA]
   grind
 ·cases aG:Yg k Lo with
  |true=>
   rw[jt k _ aG] at h;rcases hc.new k b h with h1|h1
   ·have h1:w.heap.size<=b:=h1;have:=hi.size;exact .inl (by omega)
   ·obtain⟨γ,_,h2⟩:=hA b h1;exact hi.new γ b h2
  |false=>rw[ju k _ aG] at h;exact hi.new k b h
 ·rcases hc.lim a v ha with ⟨v',h1⟩|h1|h1
  ·exact hi.lim a v' h1
  ·have h1:w.heap.size<=a.block:=h1;have:=hi.size;omega
  ·obtain⟨γ,_,h2⟩:=hA _ h1;exact .inr (hi.new γ _ h2)
 ·have hs:=hi.size;rw[hc.frame b (by grind [VA]) (fun qL=>by
   obtain⟨γ,_,h2⟩:=hA b qL;exact(hi.new γ b h2).elim (fun h=>by omega) nk)]
  exact hi.frame b hb nk
 ·refine(hi.kp k gV).trans' (sR k fun aG=> ?_);cases kg:Yg k Li with
  |true=>rfl
  |false=>
   have:=hnew k (XaL Lo aG kg)
   grind [St.free,Nat.ble_eq]
 grind [AVal.sat_mono,Xon,Gh.join]
end
end Go.Fw
