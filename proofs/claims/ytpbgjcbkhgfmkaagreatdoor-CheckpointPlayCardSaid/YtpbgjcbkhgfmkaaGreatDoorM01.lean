/- A small separation calculus over the model: immutable data, owned boxes and rows. First part: data, abstract values, the invariant. -/
import Derived.Calls
import Derived.Orders
import Derived.Laws.Entries
import Derived.Laws.Rows
import Derived.RowKit3
import Derived.Scope
import Derived.IntWalk
import Derived.Laws.Slices
import Derived.Laws.AppendOwn
namespace Go.Fw
open Go List
theorem TV:True:=trivial
theorem NI {c:Prop} {h:Decidable c} (k:¬c) {α:Sort _} {x y:α}:ite c x y=y:=if_neg k
theorem PI {c:Prop} {h:Decidable c} (k:c) {α:Sort _} {x y:α}:ite c x y=x:=if_pos k
theorem CG {α β:Sort _} {x y:α} (f:α->β) (h:x=y):f x=f y:=congrArg f h
theorem LA {α:Type _} {x y:List α}:(x++y).length=x.length+y.length:=length_append
theorem LM {α β:Type _} {x:List α} (f:α->β):(x.map f).length=x.length:=length_map f
variable{bytes cap f i id j m n o off sz γ:Nat}{agg draw:Bool}{P:Program}{ops:Array Oper}{Q:Exit->Act->World->Prop}{a b:Int}{ah:Array Edge}{d:Option Nat}{gd:Option (Nat×Bool)}{k:IntKind}{new:List Nat}{op:Op}{pos:String}{h hv r u v:Value}{c x y z:Operand}{base:Option Addr}{news:Array Value}{us vs zs:List Value}{p:Prop}{w w':World}
theorem LT {α:Type _}  {x:List α}:(x.take i).length=min i x.length:=length_take
theorem LD {α:Type _}  {x:List α}:(x.drop i).length=x.length-i:=length_drop
theorem LC {α:Type _} {a:α} {x:List α}:(a::x).length=x.length+1:=length_cons
theorem AS {α:Type _} (x y z:List α):x++y++z=x++(y++z):=append_assoc x y z
theorem GS {α:Type _} {x:List α}  {a:α}:x[i]?=some a↔∃h:i<x.length,x[i]=a:=List.getElem?_eq_some_iff
theorem DT [h:Decidable p]:p->decide p=true:=decide_eq_true
theorem DF [h:Decidable p]:¬p->decide p=false:=decide_eq_false
abbrev Mem:=Addr->Option Value
inductive D where
 |v (x:Value)
 |sl (sz:Nat) (xs:List (List D))
mutual
def D.rep (M:Mem):D->Value->Prop
 | .v x,u=>u=x/\x.oneCell'=true
 | .sl sz xs,u=> ∃(a:Option Addr) (cap:Nat),u= .slice a xs.length cap/\xs.length<=cap/\cap<=maxLen/\
   (xs=[]\/∃b o,a=some ⟨b,o,none⟩/\X0s M sz xs b o)
def VU (M:Mem):List D->Nat->Nat->Prop
 |[],_,_=>True
 |d::ds,b,o=>(∃u,M ⟨b,o,none⟩=some u/\D.rep M d u)/\VU M ds b (o+1)
def X0s (M:Mem) (sz:Nat):List (List D)->Nat->Nat->Prop
 |[],_,_=>True
 |r::rs,b,o=>r.length=sz/\VU M r b o/\X0s M sz rs b (o+sz)
end
def YH (M M':Mem):Prop:=∀a v,M a=some v->M' a=some v
theorem YH.refl (M:Mem):YH M M:=fun _ _ h=>h
theorem YH.trans {A B C:Mem} (h:YH A B) (k:YH B C):YH A C:=fun _ _ x=>k _ _ (h _ _ x)
variable{M M':Mem}
mutual
theorem D.rep_mono (h:YH M M'):∀(d:D) (u:Value),d.rep M u->d.rep M' u
 | .v x,u,hr=>by simpa only[D.rep] using hr
 | .sl sz xs,u,hr=>by
  simp only[D.rep] at hr |-;obtain⟨a,cap,h1,h2,h3,h4⟩:=hr;refine⟨a,cap,h1,h2,h3,?_⟩;rcases h4 with h4|⟨b,o,h5,h6⟩
  ·exact .inl h4
  ·exact .inr ⟨b,o,h5,Xj9 h sz xs b o h6⟩
theorem Xei (h:YH M M'):∀(ds:List D) (b o:Nat),VU M ds b o->VU M' ds b o
 |[],_,_,_=>by simp only[VU]
 |d::ds,b,o,hr=>by
  simp only[VU] at hr |-;obtain⟨⟨u,h1,h2⟩,h3⟩:=hr;exact⟨⟨u,h _ _ h1,D.rep_mono h d u h2⟩,Xei h ds b (o+1) h3⟩
theorem Xj9 (h:YH M M') (sz:Nat):∀(xs:List (List D)) (b o:Nat),X0s M sz xs b o->X0s M' sz xs b o
 |[],_,_,_=>by simp only[X0s]
 |r::rs,b,o,hr=>by
  simp only[X0s] at hr |-;exact⟨hr.1,Xei h r b o hr.2.1,Xj9 h sz rs b (o+sz) hr.2.2⟩
end
theorem Xae:∀(ds:List D) (b o i:Nat) (d:D),VU M ds b o->ds[i]? =some d->∃u,M ⟨b,o+i,none⟩=some u/\d.rep M u
 :=by intro x;induction x<;>grind [VU]
theorem X6K:∀(ds:List D) (b o:Nat),(∀i d,ds[i]? =some d->∃u,M ⟨b,o+i,none⟩=some u/\d.rep M u)->VU M ds b o
 |[],_,_,_=>by simp only[VU]
 |e::ds,b,o,h=>by
  simp only[VU];refine⟨by simpa using h 0 e (by simp),X6K ds b (o+1) fun i d hd=> ?_⟩;have:=h (i+1) d (by simpa using hd)
  rwa [show o+(i+1)=o+1+i by omega] at this
variable{ds:List D}
theorem XpL {b:Nat} (h:VU M ds b o) (k:Nat):VU M (ds.drop k) b (o+k):=by
 grind [X6K,Xae]
theorem Xw4 {b:Nat} (h:VU M ds b o) (k:Nat):VU M (ds.take k) b o:=by
 grind [X6K,Xae]
theorem Xsb {es:List D}{b:Nat} (h:VU M ds b o) (h':VU M es b (o+ds.length)):VU M (ds++es) b o:=by
 grind [X6K,Xae]
theorem X63:∀(xs:List (List D)) (b o i:Nat) (r:List D),X0s M sz xs b o->xs[i]? =some r->r.length=sz/\VU M r b (o+i*sz)
 |[],_,_,_,_,_,h=>by simp at h
 |e::xs,b,o,0,r,hr,h=>by
  grind [X0s]
 |e::xs,b,o,i+1,r,hr,h=>by
  simp only[X0s] at hr;have:=X63 xs b (o+sz) i r hr.2.2 (by simpa using h)
  rwa [show o+sz+i*sz=o+(i+1)*sz by rw[Nat.add_mul];omega] at this
theorem X9s:∀(xs:List (List D)) (b o:Nat),(∀i r,xs[i]? =some r->r.length=sz/\VU M r b (o+i*sz))->X0s M sz xs b o
 |[],_,_,_=>by simp only[X0s]
 |e::xs,b,o,h=>by
  simp only[X0s];have h0:=h 0 e (by simp);refine⟨h0.1,by simpa using h0.2,X9s xs b (o+sz) fun i r hr=> ?_⟩;have:=h (i+1) r (by simpa using hr)
  rwa [show o+(i+1)*sz=o+sz+i*sz by rw[Nat.add_mul];omega] at this
variable{xs:List (List D)}
theorem Xcv {b:Nat} (h:X0s M sz xs b o) (k:Nat):X0s M sz (xs.drop k) b (o+k*sz):=by
 refine X9s _ _ _ fun i r hr=> ?_;rw[getElem?_drop] at hr;have:=X63 xs b o (k+i) r h hr
 grind
theorem X9T {b:Nat} (h:X0s M sz xs b o) (k:Nat):X0s M sz (xs.take k) b o:=by
 refine X9s _ _ _ fun i r hr=> ?_
 grind [X63]
inductive AVal where
 |any
 |d (x:D)
 |ptr (γ o:Nat)
 |own (γ n:Nat)
 |rptr (γ n o:Nat)
 |inn (γ i:Nat)
 |bsl (γ n:Nat)
 |rs (γ o n c:Nat)
 |mptr (γ n i:Nat)
 |cut (γ n k sz:Nat)
 |dptr (row:List D)
 |dx (sz:Nat) (xs:List (List D))
 |bq (p q:Prop)
 |agg (cs:List AVal)
 |tup (vs:List AVal)
 |fn (f:FuncId) (caps:List AVal)
structure Gh where
 az:Nat->Nat
 hd:Nat->Value
 aG:Nat->Nat->Value
 M:Mem
mutual
def AVal.sat (g:Gh):AVal->Value->Prop
 | .any,_=>True
 | .d x,u=>x.rep g.M u
 | .ptr γ o,u=>u= .pointer (some ⟨g.az γ,o,none⟩)
 | .own γ n,u=>u.oneCell'=true/\∃a m c,g.hd γ= .slice a m c/\n<=m/\(n=m->u= .slice a m c)
 | .rptr γ n o,u=>u.oneCell'=true/\∃a m c,g.hd γ= .slice a m c/\n<=m/\(n=m->∃b,a=some b/\u= .pointer (some ⟨b.block,o,none⟩))
 | .bsl γ n,u=>u= .slice (some ⟨g.az γ,0,none⟩) n n
 | .rs γ o n c,u=>u= .slice (some ⟨g.az γ,o,none⟩) n c
 | .inn γ i,u=>u.oneCell'=true/\u=g.aG γ i/\∃a m c,g.hd γ= .slice a m c/\i<m
 | .mptr γ n i,u=>u.oneCell'=true/\∃a m c,g.hd γ= .slice a m c/\n<=m/\(n=m->∃b,a=some b/\u= .pointer (some ⟨b.block,i,none⟩))
 | .cut γ n k sz,u=>u.oneCell'=true/\∃a m c,g.hd γ= .slice a m c/\n<=m/\(n=m->u= .slice (if c=k then a else a.map fun p=>p.add (k*sz)) (n-k) (c-k))
 | .dptr row,u=> ∃b o,u= .pointer (some ⟨b,o,none⟩)/\VU g.M row b o
 | .dx sz xs,u=> ∃a,u= .slice a xs.length xs.length/\(D.sl sz xs).rep g.M u
 | .bq p q,u=> ∃b:Bool,u= .bool b/\(b=true->p)/\(b=false->q)
 | .agg cs,u=> ∃vs,u= .agg vs/\Xx g cs vs.toList
 | .tup cs,u=> ∃vs,u= .tuple vs/\Xx g cs vs.toList
 | .fn f cs,u=> ∃vs,u= .func (.func f) #[] vs/\Xx g cs vs.toList
def Xx (g:Gh):List AVal->List Value->Prop
 |[],[]=>True
 |x::xs,u::us=>x.sat g u/\Xx g xs us
 |_,_=>False
end
mutual
def AVal.ment (γ:Nat):AVal->Bool
 | .ptr k _=>Nat.beq k γ
 | .own k _=>Nat.beq k γ
 | .rptr k _ _=>Nat.beq k γ
 | .inn k _=>Nat.beq k γ
 | .bsl k _=>Nat.beq k γ
 | .rs k _ _ _=>Nat.beq k γ
 | .mptr k _ _=>Nat.beq k γ
 | .cut k _ _ _=>Nat.beq k γ
 | .agg cs=>X0l γ cs
 | .tup cs=>X0l γ cs
 | .fn _ cs=>X0l γ cs
 | .any=>false
 | .d _=>false
 | .dptr _=>false
 | .dx _ _=>false
 | .bq _ _=>false
def X0l (γ:Nat):List AVal->Bool
 |[]=>false
 |x::xs=>x.ment γ||X0l γ xs
end
def Gh.keeps (g g':Gh) (γ:Nat):Prop:=
 g'.az γ=g.az γ/\(g'.hd γ=g.hd γ\/∃a m c a' m' c',g.hd γ= .slice a m c/\g'.hd γ= .slice a' m' c'/\m<m')/\
  ∀i a m c,g.hd γ= .slice a m c->i<m->g'.aG γ i=g.aG γ i
theorem Gh.keeps_refl (g:Gh) (γ:Nat):g.keeps g γ:=⟨rfl,.inl rfl,fun _ _ _ _ _ _=>rfl⟩
variable{g g':Gh}
theorem Gh.keeps_of (h1:g'.az γ=g.az γ) (h2:g'.hd γ=g.hd γ) (h3:g'.aG γ=g.aG γ):g.keeps g' γ:=⟨h1,.inl h2,fun i _ _ _ _ _=>by rw[h3]⟩
variable{mF:Gh}
theorem Gh.keeps_trans (h:g.keeps g' γ) (k:g'.keeps mF γ):g.keeps mF γ:=by
 refine⟨k.1.trans h.1,?_,fun i a m c ha hi=> ?_⟩
 ·grind [Gh.keeps]
 ·refine Eq.trans ?_ (h.2.2 i a m c ha hi);rcases h.2.1 with e|⟨a',m',c',a'',m'',c'',e1,e2,e3⟩
  ·grind [Gh.keeps]
  ·rw[ha] at e1;cases e1;exact k.2.2 i _ _ _ e2 (by omega)
mutual
theorem AVal.sat_mono (h:YH g.M g'.M):∀(x:AVal) (u:Value),(∀γ,x.ment γ=true->g.keeps g' γ)->x.sat g u->x.sat g' u
 | .any,_,_,_=>by simp only[AVal.sat]
 | .d x,u,_,hs=>by simp only[AVal.sat] at hs |-;exact D.rep_mono h x u hs
 | .ptr γ o,u,hk,hs=>by
  simp only[AVal.sat] at hs |-;rw[(hk γ (by simp[AVal.ment])).1];exact hs
 | .own γ n,u,hk,hs=>by
  simp only[AVal.sat] at hs |-;obtain⟨h1,a,m,c,h2,h3,h4⟩:=hs;refine⟨h1,?_⟩;rcases (hk γ (by simp[AVal.ment])).2.1 with e|⟨a0,m0,c0,a',m',c',e1,e2,e3⟩
  ·exact⟨a,m,c,e.trans h2,h3,h4⟩
  ·rw[h2] at e1;cases e1;exact⟨a',m',c',e2,by omega,fun e=>by omega⟩
 | .rptr γ n o,u,hk,hs=>by
  simp only[AVal.sat] at hs |-;obtain⟨h1,a,m,c,h2,h3,h4⟩:=hs;refine⟨h1,?_⟩;rcases (hk γ (by simp[AVal.ment])).2.1 with e|⟨a0,m0,c0,a',m',c',e1,e2,e3⟩
  ·exact⟨a,m,c,e.trans h2,h3,h4⟩
  ·rw[h2] at e1;cases e1;exact⟨a',m',c',e2,by omega,fun e=>by omega⟩
 | .bsl γ n,u,hk,hs=>by
  simp only[AVal.sat] at hs |-;rw[(hk γ (by simp[AVal.ment])).1];exact hs
 | .rs γ o n c,u,hk,hs=>by
  simp only[AVal.sat] at hs |-;rw[(hk γ (by simp[AVal.ment])).1];exact hs
 | .inn γ i,u,hk,hs=>by
  simp only[AVal.sat] at hs |-;obtain⟨h1,h2,a,m,c,h3,h4⟩:=hs;have hkk:=hk γ (by simp[AVal.ment]);refine⟨h1,h2.trans (hkk.2.2 i a m c h3 h4).symm,?_⟩;rcases hkk.2.1 with e|⟨a0,m0,c0,a',m',c',e1,e2,e3⟩
  ·exact⟨a,m,c,e.trans h3,h4⟩
  ·rw[h3] at e1;cases e1;exact⟨a',m',c',e2,by omega⟩
 | .mptr γ n i,u,hk,hs=>by
  simp only[AVal.sat] at hs |-;obtain⟨h1,a,m,c,h2,h3,h4⟩:=hs;refine⟨h1,?_⟩;rcases (hk γ (by simp[AVal.ment])).2.1 with e|⟨a0,m0,c0,a',m',c',e1,e2,e3⟩
  ·exact⟨a,m,c,e.trans h2,h3,h4⟩
  ·rw[h2] at e1;cases e1;exact⟨a',m',c',e2,by omega,fun e=>by omega⟩
 | .cut γ n k sz,u,hk,hs=>by
  simp only[AVal.sat] at hs |-;obtain⟨h1,a,m,c,h2,h3,h4⟩:=hs;refine⟨h1,?_⟩;rcases (hk γ (by simp[AVal.ment])).2.1 with e|⟨a0,m0,c0,a',m',c',e1,e2,e3⟩
  ·exact⟨a,m,c,e.trans h2,h3,h4⟩
  ·rw[h2] at e1;cases e1;exact⟨a',m',c',e2,by omega,fun e=>by omega⟩
 | .dptr row,u,_,hs=>by
  simp only[AVal.sat] at hs |-;obtain⟨b,o,h1,h2⟩:=hs;exact⟨b,o,h1,Xei h _ _ _ h2⟩
 | .bq p q,u,_,hs=>by simp only[AVal.sat] at hs |-;exact hs
 | .dx sz xs,u,_,hs=>by
  simp only[AVal.sat] at hs |-;obtain⟨a,h1,h2⟩:=hs;exact⟨a,h1,D.rep_mono h _ _ h2⟩
 | .agg cs,u,hk,hs=>by
  simp only[AVal.sat] at hs |-;obtain⟨vs,h1,h2⟩:=hs;exact⟨vs,h1,X1R h cs _ (fun γ hm=>hk γ (by simpa only[AVal.ment] using hm)) h2⟩
 | .tup cs,u,hk,hs=>by
  simp only[AVal.sat] at hs |-;obtain⟨vs,h1,h2⟩:=hs;exact⟨vs,h1,X1R h cs _ (fun γ hm=>hk γ (by simpa only[AVal.ment] using hm)) h2⟩
 | .fn f cs,u,hk,hs=>by
  simp only[AVal.sat] at hs |-;obtain⟨vs,h1,h2⟩:=hs;exact⟨vs,h1,X1R h cs _ (fun γ hm=>hk γ (by simpa only[AVal.ment] using hm)) h2⟩
theorem X1R (h:YH g.M g'.M):∀(xs:List AVal) (us:List Value),(∀γ,X0l γ xs=true->g.keeps g' γ)->Xx g xs us->Xx g' xs us
 |[],[],_,_=>by simp only[Xx]
 |[],_::_,_,hs=>by grind [Xx]
 |_::_,[],_,hs=>by grind [Xx]
 |x::xs,u::us,hk,hs=>by
  simp only[Xx] at hs |-;exact⟨AVal.sat_mono h x u (fun γ hm=>hk γ (by simp[X0l,hm])) hs.1,X1R h xs us (fun γ hm=>hk γ (by simp[X0l,hm])) hs.2⟩
end
def AVal.cellish:AVal->Bool
 | .any=>false
 | .agg _=>false
 | .tup _=>false
 |_=>true
theorem D.rep_one {d:D} (h:d.rep M u):u.oneCell'=true:=by
 cases d with
 |v x=>grind [D.rep]
 |sl sz xs=>simp only[D.rep] at h;obtain⟨a,cap,rfl,_⟩:=h;rfl
theorem AVal.sat_one {x:AVal} (hc:x.cellish=true) (h:x.sat g u):u.oneCell'=true:=by
 cases x with
 |any=>grind [AVal.cellish]
 |agg _=>grind [AVal.cellish]
 |tup _=>grind [AVal.cellish]
 |d x=>grind [AVal.sat,D.rep_one]
 |ptr γ o=>simp only[AVal.sat] at h;rw[h];rfl
 |own γ n=>grind [AVal.sat]
 |rptr γ n o=>grind [AVal.sat]
 |inn γ i=>grind [AVal.sat]
 |bsl γ n=>simp only[AVal.sat] at h;rw[h];rfl
 |rs γ o n c=>simp only[AVal.sat] at h;rw[h];rfl
 |mptr γ n i=>grind [AVal.sat]
 |cut γ n k sz=>grind [AVal.sat]
 |dptr row=>simp only[AVal.sat] at h;obtain⟨b,o,rfl,_⟩:=h;rfl
 |dx sz xs=>simp only[AVal.sat] at h;obtain⟨a,rfl,_⟩:=h;rfl
 |bq p q=>simp only[AVal.sat] at h;obtain⟨b,rfl,_⟩:=h;rfl
 |fn f cs=>simp only[AVal.sat] at h;obtain⟨vs,rfl,_⟩:=h;rfl
theorem US:∀{xs:List AVal}{us:List Value},Xx g xs us->us.length=xs.length
 |[],[],_=>rfl
 |[],_::_,h=>by simp only[Xx] at h
 |_::_,[],h=>by simp only[Xx] at h
 |x::xs,u::us,h=>by simp only[Xx] at h;simp[US h.2]
theorem VQ:∀{xs:List AVal}{us:List Value},Xx g xs us->∀(i:Nat) (x:AVal),xs[i]? =some x->∃u,us[i]? =some u/\x.sat g u
 |[],[],_,_,_,h=>by simp at h
 |[],_::_,h,_,_,_=>by simp only[Xx] at h
 |_::_,[],h,_,_,_=>by simp only[Xx] at h
 |x::xs,u::us,h,0,y,hy=>by grind [Xx]
 |x::xs,u::us,h,i+1,y,hy=>by
  simp only[Xx] at h;simpa using VQ h.2 i y (by simpa using hy)
theorem X3B:∀{xs:List AVal}{us:List Value},us.length=xs.length->(∀(i:Nat) (x:AVal) (u:Value),xs[i]? =some x->us[i]? =some u->x.sat g u)->Xx g xs us
 |[],[],_,_=>by simp only[Xx]
 |[],_::_,h,_=>by simp at h
 |_::_,[],h,_=>by simp at h
 |x::xs,u::us,h,hs=>by
  simp only[Xx];exact⟨hs 0 x u (by simp) (by simp),X3B (by simpa using h) fun i y v hy hv=>hs (i+1) y v (by simpa using hy) (by simpa using hv)⟩
theorem X4g {xs:List AVal} (h:Xx g xs us) (k:Nat):Xx g (xs.drop k) (us.drop k):=by
 grind [US,X3B,VQ]
theorem X3g {xs:List AVal} (h:Xx g xs us) (k:Nat):Xx g (xs.take k) (us.take k):=by
 grind [US,X3B,VQ]
variable{ys:List AVal}
theorem X4f {xs:List AVal} (h:Xx g xs us) (h':Xx g ys vs):Xx g (xs++ys) (us++vs):=by
 grind [US,X3B,VQ]
inductive NC where
 |d (x:D)
 |r (b6:Nat) (rows:List (List D))
def KK:Nat:=9223372036854775808
abbrev Hd:=Value×Nat×List (List D)
def XcB:List NC->List (Nat×List (List D))
 |[]=>[]
 | .d _::r=>XcB r
 | .r z rows::r=>(z,rows)::XcB r
def Xbq (us:Nat->Value):Nat->List (Nat×List (List D))->List Hd
 |_,[]=>[]
 |j,p::r=>(us j,p.1,p.2)::Xbq us (j+1) r
def X4v (us:Nat->Value) (xs:List (List NC)):List Hd:=Xbq us KK (XcB xs.flatten)
def X0G:List NC->List D->List Hd->Prop
 |[],[],[]=>True
 | .d x::cs,y::ds,hs=>y=x/\X0G cs ds hs
 | .r z rows::cs,y::ds,h::hs=>y= .v h.1/\h.2=(z,rows)/\X0G cs ds hs
 |_,_,_=>False
inductive AObj where
 |dead
 |box (cs:List AVal)
 |row (sz:Nat) (xs:List (List D))
 |froz (sz:Nat) (xs:List (List D))
 |mat (sz:Nat) (rows:List (List (List D)))
 |iter (s:ByteArray) (pos:Nat)
 |imap (es:List (Int×Int))
 |nest (sz:Nat) (xs:List (List NC))
 |bag (hs:List Hd)
 |raw (cs:List (Option D)) (ho:Option (Nat×AVal))
 |wrow (sz:Nat) (xs:List (List D))
def oA:Option D->AVal
 |some d=> .d d
 |none=> .any
def Yi (cs:List (Option D)):Option (Nat×AVal)->List AVal
 |none=>cs.map oA
 |some h=>(cs.map oA).set h.1 h.2
def hoL:Option (Nat×AVal)->List AVal
 |none=>[]
 |some h=>[h.2]
theorem Xoc (γ:Nat) (c:Option D):(oA c).ment γ=false:=by cases c<;>rfl
theorem XfX (hM:YH g.M g'.M) {cs:List (Option D)}{ho:Option (Nat×AVal)}{us:List Value} (b8:∀vs,Xx g (hoL ho) vs->Xx g' (hoL ho) vs) (h:Xx g (Yi cs ho) us):Xx g' (Yi cs ho) us:=by
 refine X3B (US h) fun i x u hx hu=> ?_;obtain⟨u',h1,h2⟩:=VQ h i x hx;rw[h1] at hu;cases hu;have plain:(∃c,x=oA c)->x.sat g' u:=by
  grind [AVal.sat_mono,Xoc]
 cases ho with
 |none=>
  grind [Yi]
 |some q=>
  simp only[Yi] at hx;rw[getElem?_set] at hx;split at hx
  ·split at hx
   ·cases hx;have:=b8 [u] (by grind [hoL,Xx])
    grind [hoL,Xx]
   ·cases hx
  grind
def AObj.says:AObj->List AVal
 | .box cs=>cs
 | .raw _ ho=>hoL ho
 |_=>[]
def AObj.ment (γ:Nat) (x:AObj):Bool:=X0l γ x.says
def X4J (fr:Nat×Nat) (n:Nat):Prop:=∀i,i<n+1->¬(fr.1<=i/\i<fr.2)
def UK (g:Gh) (w:World) (h:Value) (sz:Nat) (xs:List (List D)):Prop:=
 (∀x∈xs,x.length=sz)/\
  ((h= .slice none 0 0/\xs=[])\/
  ∃b cap vs e fr,h= .slice (some ⟨b,0,none⟩) xs.length cap/\xs.length<=cap/\cap<=maxLen/\
   w.heap[b]? =some (.cells vs e fr)/\X4J fr vs.size/\cap*sz<=vs.size/\
   Xx g (xs.flatten.map .d) (vs.toList.take (xs.length*sz)))
def Xqi (fr:Nat×Nat) (n:Nat):Prop:=∀i,i<n->¬(fr.1<=i/\i<fr.2)
def X62 (g:Gh) (w:World) (h:Value) (sz:Nat) (xs:List (List D)):Prop:=
 (∀x∈xs,x.length=sz)/\
  ((h= .slice none 0 0/\xs=[])\/
  ∃b cap vs e fr,h= .slice (some ⟨b,0,none⟩) xs.length cap/\xs.length<=cap/\cap<=maxLen/\
   w.heap[b]? =some (.cells vs e fr)/\Xqi fr vs.size/\cap*sz<=vs.size/\
   Xx g (xs.flatten.map .d) (vs.toList.take (xs.length*sz)))
def YV (h:Value) (b:Nat):Prop:=∃a n c,h= .slice (some a) n c/\a.block=b
def Xfz (g:Gh) (w:World) (γ sz:Nat) (rows:List (List (List D))):Prop:=
 ((g.hd γ= .slice none 0 0/\rows=[])\/
 ∃b cap vs e fr,g.hd γ= .slice (some ⟨b,0,none⟩) rows.length cap/\rows.length<=cap/\cap<=maxLen/\
  w.heap[b]? =some (.cells vs e fr)/\X4J fr vs.size/\cap<=vs.size/\(∀i,i<rows.length->vs[i]? =some (g.aG γ i))/\
  ∀i,i<rows.length->¬YV (g.aG γ i) b)/\
 (∀i r,rows[i]? =some r->UK g w (g.aG γ i) sz r)/\
 ∀i j b,i<rows.length->j<rows.length->YV (g.aG γ i) b->YV (g.aG γ j) b->i=j
def XuJ (ms:Array MapEntry) (es:List (Int×Int)):Prop:=ms.toList.map (fun e=>(e.key,e.val))=es.map fun p=>(Value.int .i64 p.1,Value.int .i64 p.2)
def X1G (g:Gh) (w:World) (hs:List Hd):Prop:=
 (∀h∈hs,UK g w h.1 h.2.1 h.2.2)/\hs.Pairwise fun h k=> ∀b,YV h.1 b->¬YV k.1 b
def XcV (g:Gh) (w:World) (γ sz:Nat) (xs:List (List NC)):Prop:=
 (∃rows,rows.length=xs.length/\X0G xs.flatten rows.flatten (X4v (g.aG γ) xs)/\UK g w (g.hd γ) sz rows)/\
 X1G g w (X4v (g.aG γ) xs)/\∀h∈X4v (g.aG γ) xs,∀b,YV h.1 b->¬YV (g.hd γ) b
def Ub (g:Gh) (w:World) (γ:Nat):AObj->Prop
 | .dead=>True
 | .box cs=> ∃vs e fr,w.heap[g.az γ]? =some (.cells vs e fr)/\X4J fr vs.size/\Xx g cs vs.toList/\∀c∈cs,c.cellish=true
 | .row sz xs=>UK g w (g.hd γ) sz xs
 | .froz sz xs=>(D.sl sz xs).rep g.M (g.hd γ)
 | .mat sz rows=>Xfz g w γ sz rows
 | .iter s pos=>w.heap[g.az γ]? =some (.stringIter s pos)
 | .imap es=>(g.hd γ= .slice none 1 1/\g.aG γ 0= .map (some (g.az γ)))/\∃ms clock,w.heap[g.az γ]? =some (.map ms clock)/\XuJ ms es
 | .nest sz xs=>XcV g w γ sz xs
 | .bag hs=>X1G g w hs
 | .raw cs ho=> ∃vs e fr,w.heap[g.az γ]? =some (.cells vs e fr)/\X4J fr vs.size/\Xx g (Yi cs ho) vs.toList
 | .wrow sz xs=>X62 g w (g.hd γ) sz xs
def Xw (g:Gh):AObj->Nat->Nat->Prop
 | .dead,_,_=>False
 | .froz _ _,_,_=>False
 | .box _,γ,b=>g.az γ=b
 | .iter _ _,γ,b=>g.az γ=b
 | .imap _,γ,b=>g.az γ=b
 | .row _ _,γ,b=>YV (g.hd γ) b
 | .mat _ rows,γ,b=>YV (g.hd γ) b\/∃i,i<rows.length/\YV (g.aG γ i) b
 | .nest _ xs,γ,b=>YV (g.hd γ) b\/∃h∈X4v (g.aG γ) xs,YV h.1 b
 | .bag hs,_,b=> ∃h∈hs,YV h.1 b
 | .raw _ _,γ,b=>g.az γ=b
 | .wrow _ _,γ,b=>YV (g.hd γ) b
theorem X55 (hb:g'.az γ=g.az γ) (hh:g'.hd γ=g.hd γ) (hi:g'.aG γ=g.aG γ) (x:AObj) (b:Nat):Xw g' x γ b↔Xw g x γ b:=by
 cases x<;>simp only[Xw,hb,hh,hi]
theorem Xcj (γ:Nat):∀l:List D,X0l γ (l.map .d)=false
 |[]=>rfl
 |x::l=>by simp[X0l,AVal.ment,Xcj γ l]
theorem X4z (hM:YH g.M g'.M) {h:Value}{sz:Nat}{xs:List (List D)} (b9:∀b,YV h b->w'.heap[b]? =w.heap[b]?) (hr:UK g w h sz xs):UK g' w' h sz xs:=by
 refine⟨hr.1,?_⟩;rcases hr.2 with h'|⟨b,cap,vs,e,fr,h1,h2,h3,h4,h5,h6,h7⟩
 ·exact .inl h'
 ·refine .inr ⟨b,cap,vs,e,fr,h1,h2,h3,?_,h5,h6,X1R hM _ _ (fun γ hm=>by grind [Xcj]) h7⟩
  grind [YV]
theorem Xpu (hM:YH g.M g'.M) {h:Value}{sz:Nat}{xs:List (List D)} (b9:∀b,YV h b->w'.heap[b]? =w.heap[b]?) (hr:X62 g w h sz xs):X62 g' w' h sz xs:=by
 refine⟨hr.1,?_⟩;rcases hr.2 with h'|⟨b,cap,vs,e,fr,h1,h2,h3,h4,h5,h6,h7⟩
 ·exact .inl h'
 ·refine .inr ⟨b,cap,vs,e,fr,h1,h2,h3,?_,h5,h6,X1R hM _ _ (fun γ hm=>by grind [Xcj]) h7⟩
  grind [YV]
theorem Xg5 (hM:YH g.M g'.M) {hs:List Hd} (b9:∀b,(∃h∈hs,YV h.1 b)->w'.heap[b]? =w.heap[b]?) (h:X1G g w hs):X1G g' w' hs:=
 ⟨fun k hk=>X4z hM (fun b hb=>b9 b ⟨k,hk,hb⟩) (h.1 k hk),h.2⟩
theorem X8k (hM:YH g.M g'.M) (hb:g'.az γ=g.az γ) (hh:g'.hd γ=g.hd γ) (hi:g'.aG γ=g.aG γ) {x:AObj}
  (b9:∀b,Xw g x γ b->w'.heap[b]? =w.heap[b]?) (b8:∀cs us,x.says=cs->Xx g cs us->Xx g' cs us) (h:Ub g w γ x):Ub g' w' γ x:=by
 cases x with
 |dead=>trivial
 |froz sz xs=>grind [Ub,D.rep_mono]
 |iter s p=>
  grind [Ub,Xw]
 |imap es=>
  grind [Ub,Xw]
 |box cs=>
  grind [Ub,Xw,AObj.says]
 |row sz xs=>
  grind [Ub,X4z,Xw]
 |wrow sz xs=>
  grind [Ub,Xpu,Xw]
 |bag hs=>exact Xg5 hM b9 h
 |raw cs ho=>
  grind [XfX,Ub,Xw,AObj.says]
 |nest sz xs=>
  simp only[Ub,XcV] at h |-;rw[hh,hi]
  grind [X4z,X1G,Xw]
 |mat sz rows=>
  simp only[Ub,Xfz] at h |-;rw[hh,hi];refine⟨?_,fun i r hr=>X4z hM (fun b hb'=>b9 b (.inr ⟨i,(GS.1 hr).1,hb'⟩)) (h.2.1 i r hr),h.2.2⟩;rcases h.1 with h'|⟨b,cap,vs,e,fr,h1,h2,h3,h4,h5,h6,h7⟩
  ·exact .inl h'
  ·refine .inr ⟨b,cap,vs,e,fr,h1,h2,h3,?_,h5,h6,h7⟩
   grind [Xw,YV]
structure Env where
 W:World
 M:Mem
 A:Nat->Prop
 g0:Gh
 ds:List Deferred:=[]
structure Inv (E:Env) (L:Nat->AObj) (g:Gh) (w:World):Prop where
 obj:∀γ,Ub g w γ (L γ)
 inj:∀γ γ' b,Xw g (L γ) γ b->Xw g (L γ') γ' b->γ=γ'
 mem:∀a v,g.M a=some v->w.cell? a=some v
 sep:∀γ b,Xw g (L γ) γ b->∀a v,g.M a=some v->a.block≠b
 new:∀γ b,Xw g (L γ) γ b->E.W.heap.size<=b\/E.A b
 ext:YH E.M g.M
 lim:∀a v,g.M a=some v->(∃v',E.M a=some v')\/E.W.heap.size<=a.block\/E.A a.block
 frame:∀b,b<E.W.heap.size->¬E.A b->w.heap[b]? =E.W.heap[b]?
 size:E.W.heap.size<=w.heap.size
 os:w.os=E.W.os
 out:w.output=E.W.output
 kp:∀γ,γ<100->E.g0.keeps g γ
def Xp {α:Type} (z:α):List (Nat×α)->Nat->α
 |[],_=>z
 |(k,x)::r,t=>bif Nat.beq k t then x else Xp z r t
theorem YE {α:Type} (z:α) (k:Nat) (x:α) (r:List (Nat×α)):Xp z ((k,x)::r) k=x:=by simp[Xp]
theorem Yz {α:Type} (z:α) {k t:Nat} (x:α) (r:List (Nat×α)) (h:k≠t):Xp z ((k,x)::r) t=Xp z r t:=by
 grind [Nat.eq_of_beq_eq_true,Xp]
structure St where
 n:Nat
 τ:List (Nat×AVal)
 L:List (Nat×AObj)
def St.get (S:St) (t:Nat):AVal:=Xp .any S.τ t
def St.obj (S:St) (γ:Nat):AObj:=Xp .dead S.L γ
def Vi (E:Env) (S:St) (g:Gh) (a:Act) (w:World):Prop:=
 Inv E S.obj g w/\a.defers=E.ds/\a.tmps.size=S.n/\∀t,(S.get t).sat g (a.tmps.getD t undef)
def holds (E:Env) (S:St) (a:Act) (w:World):Prop:=∃g,Vi E S g a w
def St.ev (S:St):Operand->AVal
 | .tmp t=>S.get t
 | .const v=>bif v.oneCell' then .d (.v v) else .any
 | .global _=> .any
 | .func f=> .fn f []
variable{E:Env}{S:St}
theorem X9c {a:Act} (h:Vi E S g a w) (x:Operand):(S.ev x).sat g (a.eval x):=by
 cases x with
 |tmp t=>exact h.2.2.2 t
 |const v=>
  show(bif v.oneCell' then AVal.d (.v v) else AVal.any).sat g v
  grind [AVal.sat,D.rep]
 |global g=>grind [St.ev,AVal.sat]
 |func f=>exact⟨#[],rfl,by simp[Xx]⟩
theorem XxM:True:=by
 have:= @World.frozen?.match_1.congr_eq_1.{1};have:= @World.frozen?.match_1.congr_eq_2.{1};trivial
set_option linter.unusedVariables false
structure Cert where
 reads:List (Operand×AVal)
 dst:Option (Nat×AVal)
 fe:List (Nat×AObj)
 fJ:List (Nat×AObj)
 new:List Nat
def St.set (S:St) (d:Nat) (y:AVal):St:=⟨S.n,(d,y)::S.τ,S.L⟩
def St.own (S:St) (γ:Nat) (o:AObj):St:=⟨S.n,S.τ,(γ,o)::S.L⟩
def St.cat (S:St) (Lo:List (Nat×AObj)):St:=⟨S.n,S.τ,Lo++S.L⟩
def St.skip (S:St) (d:Option Nat):St:=⟨S.n,(d.map fun t=>(t,AVal.tup [])).toList++S.τ,S.L⟩
def X7A (γ:Nat):List (Nat×AVal)->Bool
 |[]=>true
 |p::r=> !p.2.ment γ&&X7A γ r
def X7Z (γ:Nat):List (Nat×AObj)->Bool
 |[]=>true
 |p::r=> !p.2.ment γ&&X7Z γ r
def St.free (S:St) (γ:Nat):Bool:=Nat.ble 100 γ&&(X7A γ S.τ&&X7Z γ S.L)
theorem X80 (γ:Nat):∀l,X7A γ l=true↔∀p∈l,p.2.ment γ=false
 :=by intro x;induction x<;>simp_all [X7A]
theorem Xbs (γ:Nat):∀l,X7Z γ l=true↔∀p∈l,p.2.ment γ=false
 :=by intro x;induction x<;>simp_all [X7Z]
def Cert.app (c:Cert) (S:St):St:={n:=S.n,τ:=c.dst.toList++S.τ,L:=c.fJ++S.L}
def X1N (S:St):List (Operand×AVal)->Prop
 |[]=>True
 |p::r=>S.ev p.1=p.2/\X1N S r
def Vq (S:St):List (Nat×AObj)->Prop
 |[]=>True
 |p::r=>S.obj p.1=p.2/\Vq S r
def X2R (S:St):List Nat->Prop
 |[]=>True
 |γ::r=>S.free γ=true/\X2R S r
def X4S (S:St):Option (Nat×AVal)->Prop
 |none=>True
 |some p=>Nat.blt p.1 S.n=true
def Cert.ok (c:Cert) (S:St):Prop:=X1N S c.reads/\Vq S c.fe/\X2R S c.new/\X4S S c.dst
theorem X5a (S:St):∀l,X1N S l↔∀p∈l,S.ev p.1=p.2
 :=by intro x;induction x<;>simp_all [X1N]
theorem X6d (S:St):∀l,Vq S l↔∀p∈l,S.obj p.1=p.2
 :=by intro x;induction x<;>simp_all [Vq]
theorem X7s (S:St):∀l,X2R S l↔∀γ∈l,S.free γ=true
 :=by intro x;induction x<;>simp_all [X2R]
def Ya {α:Type} (k:Nat):List (Nat×α)->Bool
 |[]=>false
 |p::r=>Nat.beq p.1 k||Ya k r
theorem X9l {α:Type} (k:Nat):∀l:List (Nat×α),Ya k l=true↔∃p∈l,p.1=k
 :=by intro x;induction x<;>simp_all [Ya]
def X6s {α β:Type} (l:List (Nat×α)):List (Nat×β)->Bool
 |[]=>true
 |p::r=> !Ya p.1 l&&X6s l r
theorem Xgb {α β:Type} (l:List (Nat×α)):∀m:List (Nat×β),X6s l m=true↔∀p∈m,∀q∈l,q.1≠p.1
 |[]=>by simp[X6s]
 |p::r=>by
  simp only[X6s,Bool.and_eq_true,Bool.not_eq_true',Xgb l r,mem_cons,forall_eq_or_imp];refine and_congr_left fun _=> ?_;rw[<-Bool.not_eq_true,X9l];exact⟨fun h q hq e=>h ⟨q,hq,e⟩,fun h ⟨q,hq,e⟩=>h q hq e⟩
theorem X5d {a b:Nat} (h:Nat.beq a b=false):a≠b:=by
 intro e;subst e;simp at h
def X79 (d:Nat):List (Operand×AVal)->Bool
 |[]=>true
 |(.tmp t,_)::r=> !Nat.beq t d&&X79 d r
 |_::r=>X79 d r
theorem Xf7 (d:Nat):∀l,X79 d l=true->∀p∈l,p.1≠.tmp d
 |[],_,_,h=>by simp at h
 |(x,_)::r,h,q,hq=>by
  have hr:X79 d r=true:=by
   cases x<;>simp[X79] at h<;>first|exact h.2|exact h
  rcases mem_cons.1 hq with rfl|hq
  ·cases x with
   |tmp t=>simp only[X79,Bool.and_eq_true,Bool.not_eq_true'] at h;intro e;cases e;exact X5d h.1 rfl
   |_=>simp
  ·exact Xf7 d r hr q hq
def X8s (x:Option (Nat×AVal)) (c:Cert):Bool:=
 match x with
 |none=>true
 |some p=>X79 p.1 c.reads&&(match c.dst with|none=>true|some q=> !Nat.beq p.1 q.1)
def X8W (c:Cert):List Nat->Bool
 |[]=>true
 |γ::r=>(X7A γ c.dst.toList&&X7Z γ c.fJ)&&X8W c r
theorem XnZ (c:Cert):∀l,X8W c l=true↔∀γ∈l,X7A γ c.dst.toList=true/\X7Z γ c.fJ=true
 :=by intro x;induction x<;>simp_all [X8W]
def X4a (c d:Cert):Bool:=
 X8s c.dst d&&X8s d.dst c&&X6s c.fJ d.fe&&X6s c.fJ d.fJ&&X6s d.fJ c.fe&&X8W d c.new&&X8W c d.new
structure St.Eqv (S T:St):Prop where
 n:S.n=T.n
 get:∀t,S.get t=T.get t
 obj:∀γ,S.obj γ=T.obj γ
 memT:∀p,p∈S.τ↔p∈T.τ
 memL:∀p,p∈S.L↔p∈T.L
theorem St.Eqv.refl (S:St):S.Eqv S:=⟨rfl,fun _=>rfl,fun _=>rfl,fun _=>Iff.rfl,fun _=>Iff.rfl⟩
variable{T:St}
theorem St.Eqv.symm (h:S.Eqv T):T.Eqv S:=⟨h.n.symm,fun t=>(h.get t).symm,fun t=>(h.obj t).symm,fun p=>(h.memT p).symm,fun p=>(h.memL p).symm⟩
variable{U:St}
theorem St.Eqv.trans (h:S.Eqv T) (k:T.Eqv U):S.Eqv U:=
 ⟨h.n.trans k.n,fun t=>(h.get t).trans (k.get t),fun t=>(h.obj t).trans (k.obj t),fun p=>(h.memT p).trans (k.memT p),fun p=>(h.memL p).trans (k.memL p)⟩
theorem St.Eqv.ev (h:S.Eqv T) (x:Operand):S.ev x=T.ev x:=by
 cases x<;>first|rfl|exact h.get _
theorem St.Eqv.free (h:S.Eqv T) (γ:Nat):S.free γ=T.free γ:=by
 rw[Bool.eq_iff_iff];simp only[St.free,Bool.and_eq_true,X80,Xbs];exact and_congr_right fun _=>and_congr ⟨fun k p hp=>k p ((h.memT p).2 hp),fun k p hp=>k p ((h.memT p).1 hp)⟩ ⟨fun k p hp=>k p ((h.memL p).2 hp),fun k p hp=>k p ((h.memL p).1 hp)⟩
theorem St.Eqv.holds (h:S.Eqv T) {E:Env}{a:Act}{w:World} (hs:holds E S a w):holds E T a w:=by
 obtain⟨g,h1,h2,h3,h4⟩:=hs;have:S.obj=T.obj:=funext h.obj;exact⟨g,this ▸ h1,h2,h.n ▸ h3,fun t=>by rw[<-h.get];exact h4 t⟩
theorem Cert.ok_eqv {c:Cert} (h:S.Eqv T) (hc:c.ok S):c.ok T:=by
 obtain⟨h1,h2,h3,h4⟩:=hc;rw[X5a] at h1;rw[X6d] at h2;rw[X7s] at h3;refine⟨(X5a _ _).2 fun p hp=>(h.ev _).symm.trans (h1 p hp),(X6d _ _).2 fun p hp=>(h.obj _).symm.trans (h2 p hp),(X7s _ _).2 fun γ aQ=>(h.free γ).symm.trans (h3 γ aQ),?_⟩;cases hd:c.dst with
 |none=>trivial
 |some p=>rw[hd] at h4;simp only[X4S] at h4 |-;rw[<-h.n];exact h4
theorem X72 {α:Type} (z:α) (l m:List (Nat×α)) (k:Nat):Xp z (l++m) k=if Ya k l then Xp z l k else Xp z m k:=by
 induction l<;>grind [Ya,Xp]
theorem St.Eqv.app (h:S.Eqv T) (c:Cert):(c.app S).Eqv (c.app T):=by
 refine⟨h.n,fun t=> ?_,fun γ=> ?_,fun p=> ?_,fun p=> ?_⟩
 ·show Xp _ _ _=Xp _ _ _;simp only[Cert.app,X72];split
  ·rfl
  ·exact h.get t
 ·show Xp _ _ _=Xp _ _ _;simp only[Cert.app,X72];split
  ·rfl
  ·exact h.obj γ
 ·simp only[Cert.app,mem_append,h.memT]
 ·simp only[Cert.app,mem_append,h.memL]
theorem XrV {c d:Cert} (hi:X4a c d=true) (S:St):(d.app (c.app S)).Eqv (c.app (d.app S)):=by
 simp only[X4a,Bool.and_eq_true] at hi;obtain⟨⟨⟨⟨⟨⟨h1,h2⟩,h3⟩,h4⟩,h5⟩,h6⟩,h7⟩:=hi;rw[Xgb] at h4;have hd:∀t,Ya t c.dst.toList=true->Ya t d.dst.toList=true->False:=by
  grind [X9l,X8s,Ya]
 refine⟨rfl,fun t=> ?_,fun γ=> ?_,fun p=> ?_,fun p=> ?_⟩
 ·grind [Cert.app,X72,St.get]
 ·grind [Cert.app,X72,X9l,St.obj]
 ·grind [Cert.app]
 grind [Cert.app]
theorem XkG {c:Cert} (h:∀p,c.dst=some p->x≠.tmp p.1):(c.app S).ev x=S.ev x:=by
 cases x with
 |tmp t=>
  show Xp _ _ _=Xp _ _ _
  grind [Cert.app,X72,X9l]
 |_=>rfl
theorem XlJ {c:Cert} (h:∀p∈c.fJ,p.1≠γ):(c.app S).obj γ=S.obj γ:=by
 grind [Cert.app,X72,X9l,St.obj]
theorem XuV {c d:Cert} (hi:X4a c d=true) {S:St} (hc:c.ok S) (hd:d.ok (c.app S)):d.ok S/\c.ok (d.app S):=by
 have hi':=hi;simp only[X4a,Bool.and_eq_true] at hi;obtain⟨⟨⟨⟨⟨⟨h1,h2⟩,h3⟩,h4⟩,h5⟩,h6⟩,h7⟩:=hi;rw[Xgb] at h3 h4 h5;rw[XnZ] at h6 h7;obtain⟨c1,c2,c3,c4⟩:=hc;obtain⟨d1,d2,d3,d4⟩:=hd;rw[X5a] at c1 d1;rw[X6d] at c2 d2;rw[X7s] at c3 d3
 refine⟨⟨(X5a _ _).2 fun p hp=> ?_,(X6d _ _).2 fun p hp=> ?_,(X7s _ _).2 fun γ aQ=> ?_,?_⟩,
  (X5a _ _).2 fun p hp=> ?_,(X6d _ _).2 fun p hp=> ?_,(X7s _ _).2 fun γ aQ=> ?_,?_⟩
 ·grind [XkG,X8s,Xf7]
 ·grind [XlJ]
 ·have:=d3 γ aQ;simp only[St.free,Cert.app,Bool.and_eq_true,X80,Xbs,mem_append] at this |-
  grind
 ·exact d4
 ·grind [XkG,X8s,Xf7]
 ·grind [XlJ]
 ·grind [St.free,Cert.app,X80,Xbs]
 ·exact c4
def X7g (P:Program) (ops:Array Oper) (o:Oper) (c:Cert):Prop:=
 ∀(E:Env) (S:St) (a:Act) (w:World),holds E S a w->c.ok S->
  ∀(Q:Exit->Act->World->Prop) (K:Act->World->Prop),(∀a' w',holds E (c.app S) a' w'->K a' w')->
   if Region.wanted o (yielded ops a.tmps) then o.wp P a w K Q else K (a.put o.dst undef) w
abbrev XW:=List (Nat×Oper×Cert)
def X7I (P:Program) (ops:Array Oper) (E:Env) (Q:Exit->Act->World->Prop) (o:Oper) (c:Cert):Prop:=
 ∀(S:St) (a:Act) (w:World),holds E S a w->c.ok S->
  ∀(K:Act->World->Prop),(∀a' w',holds E (c.app S) a' w'->K a' w')->
   if Region.wanted o (yielded ops a.tmps) then o.wp P a w K Q else K (a.put o.dst undef) w
theorem X7g.q {o:Oper}{c:Cert} (h:X7g P ops o c) (E:Env) (Q:Exit->Act->World->Prop):X7I P ops E Q o c:=fun S a w hs hok K=>h E S a w hs hok Q K
def X0q (V:Oper->Cert->Prop):XW->St->St->Prop
 |[],S,T=>S.Eqv T
 |x::r,S,T=>V x.2.1 x.2.2/\x.2.2.ok S/\X0q V r (x.2.2.app S) T
abbrev XeF (P:Program) (ops:Array Oper):XW->St->St->Prop:=X0q (X7g P ops)
variable{V:Oper->Cert->Prop}
theorem X0q.mono {W:Oper->Cert->Prop} (hV:∀o c,V o c->W o c):∀{l:XW}{S T:St},X0q V l S T->X0q W l S T
 |[],_,_,h=>h
 |_::_,_,_,h=>⟨hV _ _ h.1,h.2.1,X0q.mono hV h.2.2⟩
theorem X0q.eqv:∀{l:XW}{S S' T:St},S.Eqv S'->X0q V l S T->X0q V l S' T
 |[],_,_,_,h,hc=>h.symm.trans hc
 |x::r,_,_,_,h,hc=>⟨hc.1,Cert.ok_eqv h hc.2.1,X0q.eqv (h.app _) hc.2.2⟩
theorem X0q.app:∀{l m:XW}{S T U:St},X0q V l S T->X0q V m T U->X0q V (l++m) S U
 |[],[],S,T,U,h,k=>h.trans k
 |[],x::m,S,T,U,h,k=>⟨k.1,Cert.ok_eqv h.symm k.2.1,X0q.eqv (h.symm.app _) k.2.2⟩
 |_::_,_,_,_,_,h,k=>⟨h.1,h.2.1,X0q.app h.2.2 k⟩
theorem X0q.front {V:Oper->Cert->Prop}{k:Nat×Oper×Cert}{l₂:XW}{T:St}:∀{l₁:XW}{S:St},
  (∀x∈l₁,X4a x.2.2 k.2.2=true)->X0q V (l₁++k::l₂) S T->X0q V (k::(l₁++l₂)) S T
 |[],_,_,h=>h
 |x::l₁,S,hi,h=>by
  obtain⟨hx,jF,hr⟩:=h;have hr':=X0q.front (l₁:=l₁) (fun y hy=>hi y (by simp[hy])) hr;obtain⟨hk,mG,cT⟩:=hr';have qb:=XuV (hi x (by simp)) jF mG;exact⟨hk,qb.1,hx,qb.2,X0q.eqv (XrV (hi x (by simp)) S) cT⟩
def X5i (ops:Array Oper):Nat->Nat->Nat->Bool
 |0,_,_=>false
 |n+1,i,x=>((ops[i]?).map fun o=>o.after.toList.any fun e=>Region.binds .any e&&(Nat.beq e.on x||X5i ops n e.on x)).getD false
def XbO (ops:Array Oper) (k:Nat×Oper×Cert):XW->Bool
 |[]=>true
 |x::r=>(X4a x.2.2 k.2.2||X5i ops ops.size k.1 x.1)&&XbO ops k r
def XeT (k:Nat×Oper×Cert):Bool:=k.2.1.after.toList.all fun e=> !Region.binds .any e||Nat.blt e.on k.1
def X6J (ops:Array Oper):XW->Bool
 |[]=>true
 |k::r=>XbO ops k r&&XeT k&&X6J ops r
theorem XtA (ops:Array Oper) (k:Nat×Oper×Cert):∀l,XbO ops k l=true↔∀x∈l,X4a x.2.2 k.2.2=true\/X5i ops ops.size k.1 x.1=true
 :=by intro x;induction x<;>simp_all [XbO]
theorem Xkc {listed:Array Bool}
  (bE:∀j o,ops[j]? =some o->listed.getD j false=true->∀e∈o.after,Region.binds .any e=true->listed.getD e.on false=true):
  ∀(n i x:Nat) (o:Oper),ops[i]? =some o->(∀e∈o.after,Region.binds .any e=true->listed.getD e.on false=true)->X5i ops n i x=true->listed.getD x false=true
 |0,_,_,_,_,_,h=>by simp[X5i] at h
 |n+1,i,x,o,ho,he,h=>by
  simp only[X5i,ho,Option.map_some,Option.getD_some,any_eq_true,Bool.and_eq_true,Bool.or_eq_true] at h;obtain⟨e,hm,hb,hx⟩:=h;have hl:=he e (by simpa using hm) hb;rcases hx with hx|hx
  ·rw[<-Nat.eq_of_beq_eq_true hx];exact hl
  ·cases ho':ops[e.on]? with
   |none=>cases n<;>simp[X5i,ho'] at hx
   |some o'=>exact Xkc bE n e.on x o' ho' (fun e' h1 h2=>bE _ _ ho' hl e' h1 h2) hx
structure Rest (ops:Array Oper) (l:XW) (listed:Array Bool):Prop where
 at_:∀x∈l,ops[x.1]? =some x.2.1
 inc:l.Pairwise fun x y=>x.1<y.1
 all:∀i,listed.getD i true=false↔∃x∈l,x.1=i
 closed:∀j o,ops[j]? =some o->listed.getD j false=true->∀e∈o.after,Region.binds .any e=true->listed.getD e.on false=true
 size:listed.size=ops.size
 pairs:∀x∈l,∀y∈l,x.1<y.1->X4a x.2.2 y.2.2=true\/X5i ops ops.size y.1 x.1=true
 aj:∀x∈l,∀e∈x.2.1.after,Region.binds .any e=true->e.on<x.1
theorem XuA (hQ:∀a w,holds E T a w->Q .normal a w):
  ∀(fuel:Nat) (l:XW) (listed:Array Bool) (S:St) (a:Act) (w:World),l.length=fuel->Rest ops l listed->X0q (X7I P ops E Q) l S T->holds E S a w->
   wpAny P .any ops Q fuel listed a w:=by
 intro fuel;induction fuel with
 |zero=>
  intro l listed S a w hl hr hc hs;have hl':l=[]:=by grind
  subst hl';refine⟨?_,hQ _ _ (St.Eqv.holds hc hs)⟩;rw[eq_nil_iff_forall_not_mem];intro i hi;rw[mem_ready] at hi;obtain⟨x,hx,_⟩:=(hr.all i).1 hi.1;simp at hx
 |succ fuel ih=>
  intro l listed S a w hl hr hc hs;refine⟨fun dK=> ?_,fun i hi=> ?_⟩
  ·exfalso;cases l with
   |nil=>simp at hl
   |cons x r=>
    have hx:x.1∈Region.ready .any ops listed:=by
     rw[mem_ready];refine⟨(hr.all x.1).2 ⟨x,by simp,rfl⟩,x.2.1,hr.at_ x (by simp),fun e he hb=> ?_⟩;have hlt:=hr.aj x (by simp) e he hb;cases hle:listed.getD e.on true with
     |false=>
      obtain⟨y,hy,jG⟩:=(hr.all e.on).1 hle;rcases mem_cons.1 hy with rfl|hy
      ·omega
      ·have:=(pairwise_cons.1 hr.inc).1 y hy;omega
     |true=>
      have hi:e.on<ops.size:=by
       have:=hr.at_ x (by simp)
       grind
      have hi':e.on<listed.size:=by rw[hr.size];exact hi
      simpa [hi'] using hle
    grind
  ·rw[mem_ready] at hi;obtain⟨fK,o,ho,hall⟩:=hi;obtain⟨k,hk,rfl⟩:=(hr.all _).1 fK;have mG:=hr.at_ k hk;rw[ho] at mG;cases mG;obtain⟨l₁,l₂,rfl⟩:=append_of_mem hk;have kJ:=hr.inc;rw[pairwise_append] at kJ;have hlt:∀x∈l₁,x.1<k.1:=fun x hx=>kJ.2.2 x hx k (by simp);have qc:∀x∈l₁,X4a x.2.2 k.2.2=true:=by
    intro x hx;rcases hr.pairs x (by simp[hx]) k (by simp) (hlt x hx) with h|h
    ·exact h
    ·have h1:=Xkc hr.closed _ _ _ _ ho hall h;have h2:=(hr.all x.1).2 ⟨x,by simp[hx],rfl⟩
     grind
   obtain⟨hv,hok,cT⟩:=X0q.front qc hc;have u6:k.1<listed.size:=by grind
   have hrl:Rest ops (l₁++l₂) (listed.setIfInBounds k.1 true):=by
    refine⟨fun x hx=>hr.at_ x (by grind),?_,fun i=> ?_,fun j o' hj hl' e he hb=> ?_,by simp[hr.size],?_,?_⟩
    ·grind
    ·by_cases hik:i=k.1
     ·subst hik;constructor
      ·simp
      grind [pairwise_cons]
     ·rw[getD_set_ne true (Ne.symm hik),hr.all];constructor
      ·rintro⟨x,hx,rfl⟩
       grind
      ·rintro⟨x,hx,rfl⟩
       grind
    ·by_cases dB:j=k.1
     ·grind [getD_set_true]
     ·rw[getD_set_ne false (Ne.symm dB)] at hl';exact getD_set_true (hr.closed j o' hj hl' e he hb)
    ·intro x hx y hy hxy;refine hr.pairs x ?_ y ?_ hxy<;>grind
    ·intro x hx;exact hr.aj x (by grind)
   have hlen:(l₁++l₂).length=fuel:=by simp at hl |-;omega
   unfold wpOp;simp only[ho];have gS:=hv S a w hs hok (wpAny P .any ops Q fuel (listed.setIfInBounds k.1 true)) (fun a' w' h'=>ih _ _ _ _ _ hlen hrl cT h')
   grind
theorem XlE (hQ:∀a w,holds E T a w->Q .normal a w):
  ∀(l:XW) (S:St) (a:Act) (w:World),(∀x∈l,ops[x.1]? =some x.2.1)->XeF P ops l S T->holds E S a w->wpOps P ops Q (l.map (·.1)) a w
 |[],S,a,w,_,hc,hs=>hQ _ _ (St.Eqv.holds hc hs)
 |x::r,S,a,w,ha,hc,hs=>by
  obtain⟨hv,hok,hr⟩:=hc;rw[map_cons,wpOps_cons];unfold wpOp;simp only[ha x (by simp)];have gS:=hv E S a w hs hok Q (wpOps P ops Q (r.map (·.1))) (fun a' w' h'=>XlE hQ r _ _ _ (fun y hy=>ha y (by simp[hy])) hr h');split
  ·rename_i hw;rw[PI hw] at gS;exact .inl gS
  ·rename_i hw;rw[NI hw] at gS;exact gS
inductive Walk (P:Program) (ops:Array Oper) (draw:Bool) (K:XW->St->Prop):List Oper->XW->St->Prop
 |done {l:XW}{S:St}:(draw=true->X6J ops l=true)->K l S->Walk P ops draw K [] l S
 |step {o:Oper}{rest:List Oper}{l:XW}{S:St} (c:Cert):X7g P ops o c->c.ok S->
   Walk P ops draw K rest ((l.length,o,c)::l) (c.app S)->Walk P ops draw K (o::rest) l S
variable{K:XW->St->Prop}
theorem Walk.chain {rest:List Oper}{l:XW} (h:Walk P ops draw K rest l S):
  ∃(m:XW) (T:St),(draw=true->X6J ops (m.reverse++l)=true)/\K (m.reverse++l) T/\XeF P ops m S T/\m.map (·.2.1)=rest/\m.map (·.1)=range' l.length m.length:=by
 induction h with
 |done hok hK=>exact⟨[],_,by simpa using hok,by simpa using hK,St.Eqv.refl _,rfl,rfl⟩
 |step c hv hok _ ih=>
  rename_i o rest l S _;obtain⟨m,T,h1,h2,h3,h4,h5⟩:=ih;refine⟨(l.length,o,c)::m,T,fun hd=> ?_,by simpa using h2,⟨hv,hok,h3⟩,by simp[h4],?_⟩<;>simp_all [range'_succ]
theorem Xiw:∀(l:XW),X6J ops l=true->(l.Pairwise fun y x=>X4a x.2.2 y.2.2=true\/X5i ops ops.size y.1 x.1=true)/\∀x∈l,XeT x=true
 |[],_=>by simp
 |k::r,h=>by
  simp only[X6J,Bool.and_eq_true,XtA] at h;obtain⟨⟨h1,h2⟩,h3⟩:=h;have ih:=Xiw r h3;exact⟨pairwise_cons.2 ⟨fun x hx=>h1 x hx,ih.1⟩,fun x hx=>(mem_cons.1 hx).elim (fun e=>e ▸ h2) (ih.2 x)⟩
theorem XsO {a:Act} (h:holds E S a w):holds E S a {w with drawn:=w.drawn+1}:=by
 obtain⟨g,hi,h2⟩:=h;exact⟨g,⟨fun γ=>by
  have:=hi.obj γ;revert this;cases S.obj γ<;>exact id,hi.inj,hi.mem,hi.sep,hi.new,hi.ext,hi.lim,hi.frame,hi.size,hi.os,hi.out,hi.kp⟩,h2⟩
theorem XjR {m:XW} (h4:m.map (·.2.1)=ops.toList) (h5:m.map (·.1)=range' 0 m.length):∀x∈m,ops[x.1]? =some x.2.1:=by
 intro x hx;obtain⟨i,hi,rfl⟩:=getElem_of_mem hx;have e1:(m[i]).1=i:=by
  have:=CG (fun l=>l[i]?) h5;simpa [hi] using this
 have e2:=CG (fun l=>l[i]?) h4
 grind
theorem Xjz {m:XW} (hm:P.follows .mixedOrders=true)
  (h1:X6J ops m.reverse=true) (hQ:∀a w,holds E T a w->Q .normal a w) (h3:X0q (X7I P ops E Q) m S T) (h4:m.map (·.2.1)=ops.toList) (h5:m.map (·.1)=range' 0 m.length) {a:Act}{w:World} (hs:holds E S a w):
  (Code.region id ops true).wp P Q a w:=by
 have hlen:m.length=ops.size:=by have:=CG length h4;simpa using this
 have aY:=XjR h4 h5;refine wp_region_any hm ?_;have nN:=Xiw _ h1;refine XuA hQ ops.size m _ S a _ hlen ?_ h3 (XsO hs);have kJ:m.Pairwise fun x y=>x.1<y.1:=by
  grind [pairwise_lt_range']
 refine⟨aY,kJ,fun i=> ?_,fun j o hj hl=> ?_,by simp,?_,?_⟩
 ·constructor
  ·intro hi;have hlt:i<ops.size:=by
    grind
   have:i∈m.map (·.1):=by grind
   simpa using this
  ·rintro⟨x,hx,rfl⟩;have:=(Array.getElem?_eq_some_iff.1 (aY x hx)).1;simp[this]
 ·exfalso;have:=(Array.getElem?_eq_some_iff.1 hj).1;simp[this] at hl
 ·intro x hx y hy hxy;have hp:=pairwise_reverse.1 nN.1;obtain⟨i,hi,rfl⟩:=getElem_of_mem hx;obtain⟨j,hj,rfl⟩:=getElem_of_mem hy
  grind [pairwise_iff_getElem]
 ·intro x hx e he hb;have:=nN.2 x (by simpa using hx);simp only[XeT,all_eq_true] at this;have:=this e (by simpa using he);simp_all
theorem XwC 
  (hm:draw=true->P.follows .mixedOrders=true)
  (h:Walk P ops draw K ops.toList [] S) (hQ:∀l T,K l T->∀a w,holds E T a w->Q .normal a w) {a:Act}{w:World} (hs:holds E S a w):
  (Code.region id ops draw).wp P Q a w:=by
 obtain⟨m,T,h1,h2,h3,h4,h5⟩:=h.chain;cases draw with
 |false=>
  refine wp_region ?_;have hlen:m.length=ops.size:=by have:=CG length h4;simpa using this
  have:=XlE (P:=P) (Q:=Q) (hQ _ T h2) m S a w (XjR h4 h5) h3 hs
  grind [range_eq_range']
 |true=>exact Xjz (hm rfl) (by simpa using h1 rfl) (hQ _ T h2) (h3.mono fun o c hv=>hv.q E Q) h4 h5 hs
theorem Gh.keeps.trans' (h:g.keeps g' γ) (k:g'.keeps mF γ):g.keeps mF γ:=Gh.keeps_trans h k
theorem X9B (hr:UK g w h sz xs) {b:Nat} (hb:YV h b):b<w.heap.size:=by
 grind [UK,YV]
theorem Xw0 (hr:X62 g w h sz xs) {b:Nat} (hb:YV h b):b<w.heap.size:=by
 grind [X62,YV]
variable{L:Nat->AObj}
theorem X4E (hi:Inv E L g w) {γ b:Nat} (h:Xw g (L γ) γ b):b<w.heap.size:=by
 have ho:=hi.obj γ;cases hL:L γ with
 |dead=>grind [Xw]
 |froz sz xs=>grind [Xw]
 |box cs=>
  grind [Xw,Ub]
 |iter s p=>
  grind [Xw,Ub]
 |imap es=>
  grind [Xw,Ub]
 |row sz xs=>
  rw[hL] at h ho;exact X9B ho h
 |wrow sz xs=>
  rw[hL] at h ho;exact Xw0 ho h
 |raw cs hole=>
  grind [Xw,Ub]
 |bag hs=>
  rw[hL] at h ho;obtain⟨k,hk,hb⟩:=h;exact X9B (ho.1 k hk) hb
 |nest sz xs=>
  rw[hL] at h ho;obtain⟨⟨rows,_,_,h1⟩,h2,_⟩:=ho
  grind [Xw,UK,X1G,YV]
 |mat sz rows=>
  rw[hL] at h ho;obtain⟨h1,h2,h3⟩:=ho;rcases h with h|⟨i,hi',hb⟩
  ·grind [YV]
  ·exact X9B (h2 i _ (getElem?_eq_getElem hi')) hb
variable{L':Nat->AObj}
theorem Inv.updX (hi:Inv E L g w) (γ:Nat) (obj':AObj)
  (hL:L' γ=obj') (hL':∀k,k≠γ->L' k=L k)
  (b9:∀b,b<w.heap.size->¬Xw g (L γ) γ b->w'.heap[b]? =w.heap[b]?)
  (hsize:w.heap.size<=w'.heap.size) (hos:w'.os=w.os) (hout:w'.output=w.output)
  (hM:g'.M=g.M) (hk:∀k,k≠γ->g'.az k=g.az k/\g'.hd k=g.hd k/\g'.aG k=g.aG k)
  (b8:∀k cs us,k≠γ->(L k).says=cs->Xx g cs us->Xx g' cs us)
  (gw:Ub g' w' γ obj')
  (eJ:∀b,Xw g' obj' γ b->Xw g (L γ) γ b\/w.heap.size<=b\/((∀k,k≠γ->¬Xw g (L k) k b)/\(∀a v,g.M a=some v->a.block≠b)/\(E.W.heap.size<=b\/E.A b))) (hkp:γ<100->g.keeps g' γ):Inv E L' g' w':=by
 have hlv:∀k b,k≠γ->(Xw g' (L' k) k b↔Xw g (L k) k b):=by
  grind [X55]
 have hold:∀k b,k≠γ->Xw g (L k) k b->w'.heap[b]? =w.heap[b]? :=by
  intro k b aX hb;refine b9 b (X4E hi hb) fun h=>aX (hi.inj _ _ _ hb h)
 refine⟨fun k=> ?_,fun k k' b h h'=> ?_,fun a v h=> ?_,fun k b h a v hm=> ?_,fun k b h=> ?_,hM ▸ hi.ext,hM ▸ hi.lim,fun b hb hA=> ?_,Nat.le_trans hi.size hsize,hos.trans hi.os,hout.trans hi.out,fun k gx=> ?_⟩
 ·by_cases aX:k=γ
  ·grind
  ·rw[hL' k aX];exact X8k (by grind [YH.refl]) (hk k aX).1 (hk k aX).2.1 (hk k aX).2.2 (fun b hb=>hold k b aX hb) (fun cs us e h=>b8 k cs us aX e h) (hi.obj k)
 ·by_cases h1:k=γ<;>by_cases h2:k'=γ
  ·rw[h1,h2]
  ·subst h1;rw[hL] at h;rw[hlv k' _ h2] at h';rcases eJ b h with h3|h3|h3
   ·exact hi.inj _ _ _ h3 h'
   ·grind [X4E]
   grind
  ·subst h2;rw[hL] at h';rw[hlv k _ h1] at h;rcases eJ b h' with h3|h3|h3
   ·exact hi.inj _ _ _ h h3
   ·grind [X4E]
   grind
  ·rw[hlv k _ h1] at h;rw[hlv k' _ h2] at h';exact hi.inj _ _ _ h h'
 ·rw[hM] at h;have hc:=hi.mem a v h;have hlt:=block_lt_of_cell hc;have:=b9 a.block hlt (fun hlv=>hi.sep _ _ hlv a v h rfl)
  grind [World.cell?]
 ·rw[hM] at hm;by_cases h1:k=γ
  ·subst h1;rw[hL] at h;rcases eJ b h with h3|h3|h3
   ·exact hi.sep _ _ h3 a v hm
   ·have:=block_lt_of_cell (hi.mem a v hm);omega
   grind
  ·rw[hlv k _ h1] at h;exact hi.sep _ _ h a v hm
 ·by_cases h1:k=γ
  ·subst h1;rw[hL] at h;rcases eJ b h with h3|h3|h3
   ·exact hi.new _ _ h3
   ·have:=hi.size;exact .inl (by omega)
   ·exact h3.2.2
  ·rw[hlv k _ h1] at h;exact hi.new _ _ h
 ·have:=hi.size;rw[b9 b (by omega) (fun hlv=>(hi.new _ _ hlv).elim (fun h=>by omega) hA)];exact hi.frame b hb hA
 ·by_cases aX:k=γ
  ·subst aX;exact(hi.kp k gx).trans' (hkp gx)
  ·exact(hi.kp k gx).trans' (Gh.keeps_of (hk k aX).1 (hk k aX).2.1 (hk k aX).2.2)
theorem Inv.upd (hi:Inv E L g w) (γ:Nat) (obj':AObj)
  (hL:L' γ=obj') (hL':∀k,k≠γ->L' k=L k)
  (b9:∀b,b<w.heap.size->¬Xw g (L γ) γ b->w'.heap[b]? =w.heap[b]?)
  (hsize:w.heap.size<=w'.heap.size) (hos:w'.os=w.os) (hout:w'.output=w.output)
  (hM:g'.M=g.M) (hk:∀k,k≠γ->g'.az k=g.az k/\g'.hd k=g.hd k/\g'.aG k=g.aG k)
  (b8:∀k cs us,k≠γ->(L k).says=cs->Xx g cs us->Xx g' cs us)
  (gw:Ub g' w' γ obj')
  (eJ:∀b,Xw g' obj' γ b->Xw g (L γ) γ b\/w.heap.size<=b) (hkp:γ<100->g.keeps g' γ):Inv E L' g' w':=by grind [Inv.updX]
structure AWP (P:Program) (E:Env) (c:Code) (S:St) (Q:Exit->St->Prop):Prop where
 run:∀a w,holds E S a w->c.wp P (fun e a' w'=> ∃T,Q e T/\holds E T a' w') a w
def X3j (next:St->Prop) (Q:Exit->St->Prop):Exit->St->Prop
 | .normal,T=>next T
 |e,T=>Q e T
def Xnd (id:Nat) (Q:Exit->St->Prop):Exit->St->Prop
 | .exit k,T=>bif Nat.beq k id then Q .normal T else Q (.exit k) T
 |e,T=>Q e T
def Xfb (R:St->Prop):Exit->St->Prop
 | .normal,T=>R T
 | .ret,T=>R T
 |_,_=>False
section
variable {P:Program}{E:Env}{S:St}{Q:Exit->St->Prop}
theorem Xoe (h:Q .normal S):AWP P E .skip S Q:=⟨fun a w hs=>wp_skip ⟨S,h,hs⟩⟩
theorem X2 (h:Q .ret S):AWP P E .ret S Q:=⟨fun a w hs=>wp_ret ⟨S,h,hs⟩⟩
theorem Xu9 (h:Q (.exit id) S):AWP P E (.exit id) S Q:=⟨fun a w hs=>wp_exit ⟨S,h,hs⟩⟩
theorem X8n {x y:Code} (h:AWP P E x S (X3j (fun T=>AWP P E y T Q) Q)):AWP P E (.seq x y) S Q:=by
 refine⟨fun a w hs=> ?_⟩;refine wp_seq (wp_mono (h.run a w hs) ?_);rintro e a' w' ⟨T,hq,ht⟩;cases e<;>first|exact hq.run a' w' ht|exact⟨T,hq,ht⟩
theorem XfC {c:Code} (h:AWP P E c S (Xnd id Q)):AWP P E (.block id c) S Q:=by
 refine⟨fun a w hs=> ?_⟩;refine wp_block (wp_mono (h.run a w hs) ?_);rintro e a' w' ⟨T,hq,ht⟩;cases e with
 |exit k=>
  simp only[Xnd] at hq;simp only[Exit.inBlock];by_cases hk:k=id
  ·subst hk;simp at hq
   grind
  grind [Nat.eq_of_beq_eq_true]
 |_=>exact⟨T,hq,ht⟩
theorem X20 {x y:Code}{b:Bool} (hc:S.ev c= .d (.v (.bool b))) (ht:b=true->AWP P E x S Q) (hf:b=false->AWP P E y S Q):
  AWP P E (.cond c x y) S Q:=by
 refine⟨fun a w hs=> ?_⟩;obtain⟨g,hg⟩:=hs;have he:=X9c hg c;rw[hc] at he;simp only[AVal.sat,D.rep] at he;exact wp_cond_split he.1 (fun h=>(ht h).run a w ⟨g,hg⟩) (fun h=>(hf h).run a w ⟨g,hg⟩)
theorem XsF {x y:Code}{b:Bool} (hc:S.ev c= .d (.v (.bool b))) (hb:b=true) (ht:AWP P E x S Q):AWP P E (.cond c x y) S Q:=by simp_all [X20]
theorem Xtx {x y:Code}{b:Bool} (hc:S.ev c= .d (.v (.bool b))) (hb:b=false) (hf:AWP P E y S Q):AWP P E (.cond c x y) S Q:=by simp_all [X20]
theorem X6m {x y:Code}{q:Prop} (hc:S.ev c= .bq p q) (ht:p->AWP P E x S Q) (hf:q->AWP P E y S Q):
  AWP P E (.cond c x y) S Q:=by
 refine⟨fun a w hs=> ?_⟩;obtain⟨g,hg⟩:=hs;have he:=X9c hg c;rw[hc] at he;simp only[AVal.sat] at he;obtain⟨b,hb,hp,hq⟩:=he;exact wp_cond_split hb (fun h=>(ht (hp h)).run a w ⟨g,hg⟩) (fun h=>(hf (hq h)).run a w ⟨g,hg⟩)
theorem Xvp (hm:P.follows .mixedOrders=true)
  (h:Walk P ops draw (fun _=>Q .normal) ops.toList [] S):AWP P E (.region id ops draw) S Q:=
 ⟨fun a w hs=>XwC (fun _=>hm) h (fun _ T hT a' w' h'=>⟨T,hT,h'⟩) hs⟩
def St.le (S T:St):Prop:=∀E a w,holds E S a w->holds E T a w
theorem St.le_refl (S:St):S.le S:=fun _ _ _ h=>h
theorem St.le_trans {S:St} (h:S.le T) (k:T.le U):S.le U:=fun E a w x=>k E a w (h E a w x)
theorem X8 {c:Code} (h:S.le T) (k:AWP P E c T Q):AWP P E c S Q:=⟨fun a w hs=>k.run a w (h E a w hs)⟩
theorem XbF {c:Code}{Q':Exit->St->Prop} (h:AWP P E c S Q) (hq:∀e T,Q e T->Q' e T):AWP P E c S Q':=
 ⟨fun a w hs=>wp_mono (h.run a w hs) fun e a' w' ⟨T,h1,h2⟩=>⟨T,hq e T h1,h2⟩⟩
theorem Xk0 {x y:Code} (U:St) (h:AWP P E x S (X3j (fun T=>T.le U) Q)) (k:AWP P E y U Q):AWP P E (.seq x y) S Q:=by
 refine X8n (XbF h ?_);intro e T hq;cases e<;>first|exact X8 hq k|exact hq
theorem XnX {c:Code}{ι:Type} (st:ι->St) (m:ι->Nat) (i₀:ι) (h₀:S.le (st i₀))
  (hr:∀i,AWP P E c (st i) (X3j (fun T=> ∃j,m j<m i/\T.le (st j)) Q)):AWP P E (.loop c) S Q:=by
 refine⟨fun a w hs b k cs=> ?_⟩
 have key:∀n i a w,m i=n->holds E (st i) a w->
   ∃e a' w',(∃T,Q e T/\holds E T a' w')/\Arrives P (lone (b.at a (.code c:: .inLoop c::k)) cs w) b k cs e a' w':=by
  intro n;induction n using Nat.strongRecOn with
  |_ n ih=>
   intro i a w hn hh;obtain⟨e,a₁,w₁,⟨T,hq,ht⟩,eF⟩:=(hr i).run a w hh b (.inLoop c::k) cs;cases e with
   |normal=>
    obtain⟨j,hj,hle⟩:=hq;obtain⟨e₂,a₂,w₂,hq₂,harr₂⟩:=ih (m j) (hn ▸ hj) j a₁ w₁ rfl (hle E a₁ w₁ ht);exact⟨e₂,a₂,w₂,hq₂,.of_steps (Steps.trans eF (.one step_inLoop)) harr₂⟩
   |exit id=>exact⟨_,a₁,w₁,⟨T,hq,ht⟩,.pass (x:= .inLoop c) rfl (fun _ _=> .inl (by simp)) eF⟩
   |goto l=>exact⟨_,a₁,w₁,⟨T,hq,ht⟩,.pass (x:= .inLoop c) rfl (fun _ _=> .inl (by simp)) eF⟩
   |ret=>exact⟨_,a₁,w₁,⟨T,hq,ht⟩,.pass (x:= .inLoop c) rfl (fun _ _=> .inl (by simp)) eF⟩
   |panic ch=>exact⟨_,a₁,w₁,⟨T,hq,ht⟩,.pass (x:= .inLoop c) rfl (fun _ _=> .inl (by simp)) eF⟩
   |outgrown=>exact⟨_,a₁,w₁,⟨T,hq,ht⟩,.pass (x:= .inLoop c) rfl (fun _ _=> .inl (by simp)) eF⟩
 obtain⟨e,a',w',hq,eF⟩:=key _ i₀ a w rfl (h₀ E a w hs);exact⟨e,a',w',hq,.of_steps (.one step_loop) eF⟩
theorem Xn {c:Code}{ι:Type} (I:ι->Prop) (st:ι->St) (m:ι->Nat) (i₀:ι) (hI:I i₀) (h₀:S.le (st i₀))
  (hr:∀i,I i->AWP P E c (st i) (X3j (fun T=> ∃j,I j/\m j<m i/\T.le (st j)) Q)):AWP P E (.loop c) S Q:=by
 refine XnX (ι:={i:ι//I i}) (fun i=>st i.1) (fun i=>m i.1) ⟨i₀,hI⟩ h₀ fun i=> ?_;refine XbF (hr i.1 i.2) fun e T hq=> ?_;cases e with
 |normal=>obtain⟨j,h1,h2,h3⟩:=hq;exact⟨⟨j,h1⟩,h2,h3⟩
 |_=>exact hq
end
abbrev ab (b:Bool):AVal:= .d (.v (.bool b))
abbrev ai (n:Int):AVal:= .d (.v (.int .i64 n))
abbrev au8 (n:Int):AVal:= .d (.v (.int .u8 n))
abbrev aZ (s:ByteArray):AVal:= .d (.v (.string s))
abbrev aq:AVal:= .d (.v (.slice none 0 0))
def VD (g:Gh) (a:Act):List (Operand×AVal)->Prop
 |[]=>True
 |p::r=>p.2.sat g (a.eval p.1)/\VD g a r
theorem X1q {a:Act} (h:Vi E S g a w):∀l,X1N S l->VD g a l
 |[],_=>trivial
 |p::r,hr=>⟨by grind [X9c,X1N],X1q h r hr.2⟩
def X7t (P:Program) (o:Oper) (c:Cert):Prop:=
 ∀E S a w g,Vi E S g a w->c.ok S->∀(Q:Exit->Act->World->Prop) (K:Act->World->Prop),(∀a' w',holds E (c.app S) a' w'->K a' w')->o.wp P a w K Q
def X43 (ops:Array Oper) (j:Nat):Nat:=((ops[j]?).bind (·.dst)).getD 0
def XF (ops:Array Oper):Option (Nat×Bool)->List (Operand×AVal)
 |none=>[]
 |some (j,b)=>[(.tmp (X43 ops j),ab b)]
def XH (ops:Array Oper) (S:St):Option (Nat×Bool)->Prop
 |none=>True
 |some (j,b)=>((ops[j]?).bind (·.dst)).isSome=true/\S.get (X43 ops j)=ab b
def Xjo (ops:Array Oper) (S:St):Option (Nat×Bool)->Prop
 |none=>False
 |some (j,true)=>((ops[j]?).bind (·.dst)).isSome=true/\S.get (X43 ops j)=ab false
 |some (j,false)=>((ops[j]?).bind (·.dst)).isSome=true/\S.get (X43 ops j)=ab true
theorem XwA {b:Bool} (h:Xjo ops S (some (j,b))):((ops[j]?).bind (·.dst)).isSome=true/\S.get (X43 ops j)=ab (!b):=by
 cases b<;>exact h
theorem Xjv {a:Act}{b:Bool} (h:Vi E S g a w)
  (hd:((ops[j]?).bind (·.dst)).isSome=true) (hb:S.get (X43 ops j)=ab b):yielded ops a.tmps j=some b:=by
 obtain⟨t,ht⟩:=Option.isSome_iff_exists.1 hd;have fZ:X43 ops j=t:=by simp[X43,ht]
 have hs:=h.2.2.2 t;rw[<-fZ,hb,fZ] at hs;simp only[AVal.sat,D.rep] at hs;have hs:=hs.1;unfold yielded;rw[ht];simp only[Option.bind_some];cases hq:a.tmps[t]? <;>simp_all [undef]
variable{cs:List AVal}{fe:List (Nat×AObj)}{reads:List (Operand×AVal)}{row:List D}
section
variable {P:Program}{ops:Array Oper}{draw:Bool}{K:XW->St->Prop}{rest:List Oper}{l:XW}{S:St}
theorem XpY {o:Oper} (c:Cert) (hv:X7t P o c) (hg:XH ops S o.guard) (hc:c.ok S)
  (h:Walk P ops draw K rest ((l.length,o,{c with reads:=XF ops o.guard++c.reads})::l) (c.app S)):Walk P ops draw K (o::rest) l S:=by
 refine .step {c with reads:=XF ops o.guard++c.reads} (fun E S' a w hs hok Q K' hK=> ?_) ?_ h
 ·obtain⟨g,hs⟩:=hs;have u7:c.ok S':=by
   refine⟨?_,hok.2⟩;have:=hok.1;rw[X5a] at this |-;exact fun p hp=>this p (by simp[hp])
  have hw:Region.wanted o (yielded ops a.tmps)=true:=by
   unfold Region.wanted;cases hgd:o.guard with
   |none=>rfl
   |some jb=>
    obtain⟨j,b⟩:=jb;rw[hgd] at hg;have h1:=hok.1;rw[hgd] at h1;simp[Xjv hs hg.1 h1.1]
  grind [X7t,Cert.app]
 ·refine⟨?_,hc.2⟩;have:=hc.1;rw[X5a] at this |-;intro p hp;rcases mem_append.1 hp with h'|h'
  ·cases hgd:o.guard<;>simp_all [XF,St.ev,XH]
  ·exact this p h'
theorem Yj {o:Oper}{rd:List (Operand×AVal)}{dst:Option (Nat×AVal)}{fJ:List (Nat×AObj)}
  (h:Walk P ops draw K rest ((l.length,o,⟨XF ops o.guard++rd,dst,fe,fJ,new⟩)::l) (Cert.app ⟨rd,dst,fe,fJ,new⟩ S)) (hg:XH ops S o.guard) (hv:X7t P o ⟨rd,dst,fe,fJ,new⟩) (hc:Cert.ok ⟨rd,dst,fe,fJ,new⟩ S):Walk P ops draw K (o::rest) l S:=
 XpY _ hv hg hc h
theorem X2a {L':List (Nat×AObj)}{a:Act}{x:AVal}{d:Nat}
  (hi:Inv E (Xp .dead L') g' w') (hd:a.defers=E.ds) (hn:a.tmps.size=S.n) (hs:∀t,(S.get t).sat g' (a.tmps.getD t undef)) (hx:x.sat g' v)
  (hlt:Nat.blt d S.n=true):holds E ⟨S.n,(d,x)::S.τ,L'⟩ (a.put (some d) v) w':=by
 have hlt':d<a.tmps.size:=by simp_all
 refine⟨g',hi,hd,by simp[Act.put,hn],fun t=> ?_⟩;by_cases h:t=d
 ·subst h;show AVal.sat g' (Xp _ _ _) _;simp_all [YE,Act.put]
 ·show AVal.sat g' (Xp _ _ _) _;rw[Yz _ _ _ (Ne.symm h)];have:(a.put (some d) v).tmps.getD t undef=a.tmps.getD t undef:=by
   simp_all [Act.put,Ne.symm]
  rw[this];exact hs t
theorem Xjp:(AVal.tup []).sat g undef:=by
 simp only[AVal.sat];exact⟨#[],rfl,by simp only[Xx]⟩
theorem XnV {ty:TypeId}
  (hg:Xjo ops S gd) (hd:X4S S (d.map fun t=>(t,AVal.tup [])))
  (h:Walk P ops draw K rest ((l.length,⟨d,op,ty,pos,ah,gd⟩,⟨XF ops (gd.map fun p=>(p.1,!p.2)),d.map fun t=>(t,.tup []),[],[],[]⟩)::l)
   (S.skip d)):
  Walk P ops draw K (⟨d,op,ty,pos,ah,gd⟩::rest) l S:=by
 cases gd with
 |none=>exact hg.elim
 |some jb=>
  obtain⟨j,b⟩:=jb;have hg:=XwA hg;refine .step ⟨XF ops (some (j,!b)),d.map fun t=>(t,.tup []),[],[],[]⟩ (fun E S' a w hs hok Q K' hK=> ?_) ⟨⟨hg.2,TV⟩,TV,TV,hd⟩ h;obtain⟨g,hs⟩:=hs;have hy:=Xjv (b:= !b) hs hg.1 hok.1.1;have hw:Region.wanted ⟨d,op,ty,pos,ah,some (j,b)⟩ (yielded ops a.tmps)=false:=by
   grind [Region.wanted]
  rw[hw];simp only[Bool.false_eq_true,if_false];refine hK _ _ ?_;cases d with
  |none=>exact⟨g,hs⟩
  |some d=>exact X2a hs.1 hs.2.1 hs.2.2.1 hs.2.2.2 Xjp hok.2.2.2
theorem X3 {ty:TypeId}{t:Nat}{b:Bool} (hgd:gd=some (j,b))
  (hj:(ops[j]?).bind (·.dst)=some t) (ht:S.get t= .tup []) (hd:X4S S (d.map fun t=>(t,AVal.tup [])))
  (h:Walk P ops draw K rest ((l.length,⟨d,op,ty,pos,ah,gd⟩,⟨[(.tmp t,.tup [])],d.map fun t=>(t,.tup []),[],[],[]⟩)::l) (S.skip d)):
  Walk P ops draw K (⟨d,op,ty,pos,ah,gd⟩::rest) l S:=by
 subst hgd;refine .step ⟨[(.tmp t,.tup [])],d.map fun t=>(t,.tup []),[],[],[]⟩ (fun E S' a w hs hok Q K' hK=> ?_) ⟨⟨ht,TV⟩,TV,TV,hd⟩ h;obtain⟨g,hs⟩:=hs;have hv:=hs.2.2.2 t;have h1:S'.get t= .tup []:=hok.1.1;rw[h1] at hv;simp only[AVal.sat] at hv;obtain⟨vs,hv,_⟩:=hv;have hw:Region.wanted ⟨d,op,ty,pos,ah,some (j,b)⟩ (yielded ops a.tmps)=false:=by
  simp only[Region.wanted,yielded,hj,Option.bind_some];cases hq:a.tmps[t]? <;>simp_all
 rw[hw];simp only[Bool.false_eq_true,if_false];refine hK _ _ ?_;cases d with
 |none=>exact⟨g,hs⟩
 |some d=>exact X2a hs.1 hs.2.1 hs.2.2.1 hs.2.2.2 Xjp hok.2.2.2
theorem Ug {o:Oper}{d:Nat}{x:AVal} (fZ:o.dst=some d)
  (h:∀E S g a w,Vi E S g a w->VD g a reads->Vq S fe->∃v,(execOp a.eval o).run P w= .ok (.value v) w/\x.sat g v):
  X7t P o ⟨reads,some (d,x),fe,[],[]⟩:=by
 intro E S a w g hs hok Q K hK;obtain⟨v,h1,h2⟩:=h E S g a w hs (X1q hs _ hok.1) hok.2.1;unfold Oper.wp;rw[h1,Oper.upon_value,fZ];exact hK _ _ (X2a hs.1 hs.2.1 hs.2.2.1 hs.2.2.2 h2 hok.2.2.2)
variable {d:Nat}{ty:TypeId}{pos:String}{ah:Array Edge}{gd:Option (Nat×Bool)}
theorem Xun {y:AVal} (hx:S.ev x=y) (hd:Nat.blt d S.n=true) (hg:XH ops S gd)
  (h:Walk P ops draw K rest ((l.length,⟨some d,.move x,ty,pos,ah,gd⟩,⟨XF ops gd++[(x,y)],some (d,y),[],[],[]⟩)::l) (S.set d (y))):
  Walk P ops draw K (⟨some d,.move x,ty,pos,ah,gd⟩::rest) l S:=
 Yj h hg (Ug rfl fun E S g a w hs hr _=>⟨_,rfl,hr.1⟩) ⟨⟨hx,TV⟩,TV,TV,hd⟩
theorem Xtr {y:AVal} (hx:S.ev x=y) (hd:Nat.blt d S.n=true) (hg:XH ops S gd)
  (h:Walk P ops draw K rest ((l.length,⟨some d,.assign x,ty,pos,ah,gd⟩,⟨XF ops gd++[(x,y)],some (d,y),[],[],[]⟩)::l) (S.set d (y))):
  Walk P ops draw K (⟨some d,.assign x,ty,pos,ah,gd⟩::rest) l S:=
 Yj h hg (Ug rfl fun E S g a w hs hr _=>⟨_,rfl,hr.1⟩) ⟨⟨hx,TV⟩,TV,TV,hd⟩
theorem Xht {b:Bool} (h:(ab b).sat g v):v= .bool b:=by grind [AVal.sat,D.rep]
theorem Up {x:Value} (h:(AVal.d (.v x)).sat g v):v=x:=by grind [AVal.sat,D.rep]
theorem X02 {x:Value} (h:x.oneCell'=true):(AVal.d (.v x)).sat g x:=by grind [AVal.sat,D.rep]
theorem XpG {b:Bool}{y:AVal} (hc:S.ev c=ab b) (hb:b=true) (hx:S.ev x=y) (hd:Nat.blt d S.n=true) (hg:XH ops S gd)
  (h:Walk P ops draw K rest ((l.length,⟨some d,.pick c x z,ty,pos,ah,gd⟩,⟨XF ops gd++[(c,ab true),(x,y)],some (d,y),[],[],[]⟩)::l) (S.set d (y))):
  Walk P ops draw K (⟨some d,.pick c x z,ty,pos,ah,gd⟩::rest) l S:=
 Yj h hg (Ug rfl fun E S g a w hs hr _=>by
  refine⟨a.eval x,?_,hr.2.1⟩;simp[execOp,Xht hr.1,asBool]) ⟨⟨hb ▸ hc,hx,TV⟩,TV,TV,hd⟩
theorem Xwz {b:Bool}{y:AVal} (hc:S.ev c=ab b) (hb:b=false) (hx:S.ev z=y) (hd:Nat.blt d S.n=true) (hg:XH ops S gd)
  (h:Walk P ops draw K rest ((l.length,⟨some d,.pick c x z,ty,pos,ah,gd⟩,⟨XF ops gd++[(c,ab false),(z,y)],some (d,y),[],[],[]⟩)::l) (S.set d (y))):
  Walk P ops draw K (⟨some d,.pick c x z,ty,pos,ah,gd⟩::rest) l S:=
 Yj h hg (Ug rfl fun E S g a w hs hr _=>by
  refine⟨a.eval z,?_,hr.2.1⟩;simp[execOp,Xht hr.1,asBool]) ⟨⟨hb ▸ hc,hx,TV⟩,TV,TV,hd⟩
theorem V0 {op:BinOp}{xt yt:TypeId} (hx:S.ev x= .d (.v u)) (hy:S.ev y= .d (.v v))
  (hr:∀w,(do eqGuard op xt x y u v;binOp op xt u v:Sem Value).run P w= .ok r w) (h1:r.oneCell'=true) (hd:Nat.blt d S.n=true) (hg:XH ops S gd)
  (h:Walk P ops draw K rest ((l.length,⟨some d,.binOp op xt x y yt,ty,pos,ah,gd⟩,⟨XF ops gd++[(x,.d (.v u)),(y,.d (.v v))],some (d,.d (.v r)),[],[],[]⟩)::l) (S.set d (.d (.v r)))):
  Walk P ops draw K (⟨some d,.binOp op xt x y yt,ty,pos,ah,gd⟩::rest) l S:=
 Yj h hg (Ug rfl fun E S g a w hs hq _=>by
  refine⟨r,?_,X02 h1⟩;have:=hr w;simp only[execOp,Up hq.1,Up hq.2.1,Sem.run_bind,Sem.run_pure] at this |-;rw[this];rfl) ⟨⟨hx,hy,TV⟩,TV,TV,hd⟩
theorem Xnf {t:TypeId} (w:World):(do eqGuard .lss t x y (.int k a) (.int k b);binOp .lss t (.int k a) (.int k b):Sem Value).run P w= .ok (.bool (decide (a<b))) w:=by simp[go_sem]
theorem XvJ {t:TypeId} (w:World):(do eqGuard .leq t x y (.int k a) (.int k b);binOp .leq t (.int k a) (.int k b):Sem Value).run P w= .ok (.bool (decide (a<=b))) w:=by simp[go_sem]
theorem Xxz {t:TypeId} (w:World):(do eqGuard .gtr t x y (.int k a) (.int k b);binOp .gtr t (.int k a) (.int k b):Sem Value).run P w= .ok (.bool (decide (b<a))) w:=by simp[go_sem]
theorem Xpg {t:TypeId} (w:World):(do eqGuard .geq t x y (.int k a) (.int k b);binOp .geq t (.int k a) (.int k b):Sem Value).run P w= .ok (.bool (decide (b<=a))) w:=by simp[go_sem]
theorem XkP {t:TypeId} (w:World):(do eqGuard .eql t x y (.int k a) (.int k b);binOp .eql t (.int k a) (.int k b):Sem Value).run P w= .ok (.bool (decide (a=b))) w:=by
 simp[go_sem];grind
theorem XhS {t:TypeId} (w:World):(do eqGuard .neq t x y (.int k a) (.int k b);binOp .neq t (.int k a) (.int k b):Sem Value).run P w= .ok (.bool (decide (a≠b))) w:=by
 simp[go_sem,bne,Bool.beq_eq_decide_eq]
theorem Xlt {t:TypeId} (w:World):(do eqGuard .add t x y (.int k a) (.int k b);binOp .add t (.int k a) (.int k b):Sem Value).run P w= .ok (.int k (k.wrap (a+b))) w:=by simp[go_sem]
theorem XeU {t:TypeId} (w:World):(do eqGuard .sub t x y (.int k a) (.int k b);binOp .sub t (.int k a) (.int k b):Sem Value).run P w= .ok (.int k (k.wrap (a-b))) w:=by simp[go_sem]
theorem Xn3 {t:TypeId} (w:World):(do eqGuard .mul t x y (.int k a) (.int k b);binOp .mul t (.int k a) (.int k b):Sem Value).run P w= .ok (.int k (k.wrap (a*b))) w:=by simp[go_sem]
def X2i (n:Int):Prop:= -9223372036854775808<=n/\n<=9223372036854775807
theorem XgJ {t:TypeId} (h:X2i (a+b)) (w:World):(do eqGuard .add t x y (.int .i64 a) (.int .i64 b);binOp .add t (.int .i64 a) (.int .i64 b):Sem Value).run P w= .ok (.int .i64 (a+b)) w:=by
 rw[Xlt,IntWalk.i64_in _ h]
theorem X71 {t:TypeId} (h:X2i (a-b)) (w:World):(do eqGuard .sub t x y (.int .i64 a) (.int .i64 b);binOp .sub t (.int .i64 a) (.int .i64 b):Sem Value).run P w= .ok (.int .i64 (a-b)) w:=by
 rw[XeU,IntWalk.i64_in _ h]
theorem XoF {t:TypeId} (h:X2i (a*b)) (w:World):(do eqGuard .mul t x y (.int .i64 a) (.int .i64 b);binOp .mul t (.int .i64 a) (.int .i64 b):Sem Value).run P w= .ok (.int .i64 (a*b)) w:=by
 rw[Xn3,IntWalk.i64_in _ h]
theorem Xl5 {op:UnOp}{xt:TypeId} (hx:S.ev x= .d (.v u))
  (hr:∀w,(Op.unary op u).run P w= .ok r w) (h1:r.oneCell'=true) (hd:Nat.blt d S.n=true) (hg:XH ops S gd)
  (h:Walk P ops draw K rest ((l.length,⟨some d,.unOp op xt x,ty,pos,ah,gd⟩,⟨XF ops gd++[(x,.d (.v u))],some (d,.d (.v r)),[],[],[]⟩)::l) (S.set d (.d (.v r)))):
  Walk P ops draw K (⟨some d,.unOp op xt x,ty,pos,ah,gd⟩::rest) l S:=
 Yj h hg (Ug rfl fun E S g a w hs hq _=>by
  refine⟨r,?_,X02 h1⟩;simp only[execOp,Up hq.1,Sem.run_bind,hr w];rfl) ⟨⟨hx,TV⟩,TV,TV,hd⟩
theorem Xwu {b:Bool} (w:World):(Op.unary .not (.bool b)).run P w= .ok (.bool (!b)) w:=rfl
theorem XmM {src dst:TypeId} (hx:S.ev x= .d (.v u))
  (hr:∀w,(convert src dst u).run P w= .ok r w) (h1:r.oneCell'=true) (hd:Nat.blt d S.n=true) (hg:XH ops S gd)
  (h:Walk P ops draw K rest ((l.length,⟨some d,.convert src dst x,ty,pos,ah,gd⟩,⟨XF ops gd++[(x,.d (.v u))],some (d,.d (.v r)),[],[],[]⟩)::l) (S.set d (.d (.v r)))):
  Walk P ops draw K (⟨some d,.convert src dst x,ty,pos,ah,gd⟩::rest) l S:=
 Yj h hg (Ug rfl fun E S g a w hs hq _=>by
  refine⟨r,?_,X02 h1⟩;simp only[execOp,Up hq.1,Sem.run_bind,hr w];rfl) ⟨⟨hx,TV⟩,TV,TV,hd⟩
def X7V (P:Program) (t:TypeId) (k:IntKind):Bool:=match P.underlying t with|some (.int q)=>decide (q=k)|_=>false
theorem Xcf {src dst:TypeId}{q:IntKind}{n:Int} (hs:(P.underlying src).isSome=true) (hd:X7V P dst q=true) (w:World):
  (convert src dst (.int k n)).run P w= .ok (.int q (q.wrap n)) w:=by
 grind [X7V,Program.intKind,run_convert_int]
def X1g (P:Program) (t:TypeId) (agg:Bool) (sz:Nat):Bool:=
 match P.underlying t,P.info? t with
 |some d,some i=>((match d with| .struct _=>agg| .array _ _=>agg|_=> !agg)&&Nat.beq i.size sz)
 |_,_=>false
def XhX (P:Program) (t:TypeId):Nat:=match P.info? t with|some i=>i.size|none=>0
def XjB (P:Program) (s:TypeId) (f:Nat):Nat:=
 match P.underlying s with
 |some (.struct fs)=>(match fs[f]? with|some q=>q.offset|none=>0)
 |_=>0
def cm (P:Program) (t:TypeId):Bool:=match P.underlying t with|some (.slice _)=>true|_=>false
theorem X5k {t:TypeId} (h:cm P t=true):∃e,P.underlying t=some (.slice e):=by
 grind [cm]
def UF (P:Program) (t:TypeId) (sz:Nat):Bool:=
 match P.underlying t with
 |some (.slice e)=>(match P.info? e with|some i=>Nat.beq i.size sz|none=>false)
 |_=>false
def X9S (P:Program) (s:TypeId) (f off:Nat):Bool:=
 match P.underlying s with
 |some (.struct fs)=>(match fs[f]? with|some q=>Nat.beq q.offset off&&(match P.info? q.type with|some i=> !Nat.beq i.size 0|none=>false)|none=>false)
 |_=>false
theorem X7r {t:TypeId} (h:X1g P t agg sz=true):
  (∀w,(isAgg t).run P w= .ok agg w)/\(∀w,(sizeOf t).run P w= .ok sz w):=by
 unfold X1g at h;cases hu:P.underlying t with
 |none=>simp[hu] at h
 |some de=>
  cases hq:P.info? t with
  |none=>simp[hq] at h
  |some i=>
   rw[hu,hq] at h;simp only[Bool.and_eq_true] at h;have h2:i.size=sz:=Nat.eq_of_beq_eq_true h.2;refine⟨fun w=> ?_,fun w=>by simp_all [sizeOf,typeInfo]⟩;unfold isAgg;rw[Sem.run_bind,run_underlying hu w];have h1:=h.1;cases de<;>cases agg<;>simp_all
theorem X1K {t:TypeId} (h:UF P t sz=true):∃e,P.underlying t=some (.slice e)/\(∀w,(sizeOf e).run P w= .ok sz w)/\P.elem t=e:=by
 unfold UF at h;cases hu:P.underlying t with
 |none=>simp[hu] at h
 |some de=>
  cases de<;>rw[hu] at h<;>simp at h;rename_i e;cases hq:P.info? e<;>simp_all [sizeOf,typeInfo,Program.elem]
theorem X7S {t:TypeId}{p:Addr} (ht:X1g P t false 1=true) (h:w.cell? p=some v):(loadVar t p).run P w= .ok v w:=by
 have:=(X7r ht).1 w;simp_all [loadVar]
theorem X8B {t:TypeId}{p:Addr} (ht:X1g P t true vs.length=true) (h:∀j v,vs[j]? =some v->w.cell? (p.add j)=some v):
  (loadVar t p).run P w= .ok (.agg vs.toArray) w:=by
 have h1:=(X7r ht).1 w;have h2:=(X7r ht).2 w;simp_all [run_loadCells_list,loadVar]
theorem Vf (b o j:Nat):(⟨b,o,none⟩:Addr).add j=⟨b,o+j,none⟩:=Addr.add_lit b o j
theorem Xxm {t:TypeId}{y:AVal} (hx:S.ev x= .ptr γ o) (hL:S.obj γ= .box cs) (hy:cs[o]? =some y)
  (ht:X1g P t false 1=true) (hd:Nat.blt d S.n=true) (hg:XH ops S gd)
  (h:Walk P ops draw K rest ((l.length,⟨some d,.load t x,ty,pos,ah,gd⟩,⟨XF ops gd++[(x,.ptr γ o)],some (d,y),[(γ,.box cs)],[],[]⟩)::l) (S.set d (y))):
  Walk P ops draw K (⟨some d,.load t x,ty,pos,ah,gd⟩::rest) l S:=
 Yj h hg (Ug rfl fun E S g a w hs hq hl=>by
  have ho:=hs.1.obj γ;rw[hl.1] at ho;obtain⟨vs,e,fr,h1,h2,h3,h4⟩:=ho;obtain⟨u,hu,g8⟩:=VQ h3 o y hy;refine⟨u,?_,g8⟩;have hp:a.eval x= .pointer (some ⟨g.az γ,o,none⟩):=by grind [AVal.sat,VD]
  have hc:w.cell? ⟨g.az γ,o,none⟩=some u:=by grind [cell_of_row]
  simp_all [execOp,Instr.loadAt,Instr.sureAddr,X7S]) ⟨⟨hx,TV⟩,⟨hL,TV⟩,TV,hd⟩
theorem Xol {t:TypeId} (hx:S.ev x= .ptr γ o) (hL:S.obj γ= .box cs)
  (hsz:XhX P t=sz) (ht:X1g P t true sz=true) (hy:(cs.drop o).take sz=ys) (hlen:Nat.beq ys.length sz=true) (hd:Nat.blt d S.n=true) (hg:XH ops S gd)
  (h:Walk P ops draw K rest ((l.length,⟨some d,.load t x,ty,pos,ah,gd⟩,⟨XF ops gd++[(x,.ptr γ o)],some (d,.agg ys),[(γ,.box cs)],[],[]⟩)::l) (S.set d (.agg ys))):
  Walk P ops draw K (⟨some d,.load t x,ty,pos,ah,gd⟩::rest) l S:=
 Yj h hg (Ug rfl fun E S g a w hs hq hl=>by
  have ho:=hs.1.obj γ;rw[hl.1] at ho;obtain⟨vs,e,fr,h1,h2,h3,h4⟩:=ho;have hsub:=X3g (X4g h3 o) sz;rw[hy] at hsub;have b7:=US hsub;have bM:ys.length=sz:=Nat.eq_of_beq_eq_true hlen;refine⟨.agg ((vs.toList.drop o).take sz).toArray,?_,by grind [AVal.sat]⟩;have hp:a.eval x= .pointer (some ⟨g.az γ,o,none⟩):=by grind [AVal.sat,VD]
  have:=X8B (P:=P) (p:=⟨g.az γ,o,none⟩) (w:=w) (vs:=(vs.toList.drop o).take sz) (t:=t) (by grind) (fun j v hv=>by
   grind [Vf,cell_of_row])
  simp_all [execOp,Instr.loadAt,Instr.sureAddr]) ⟨⟨hx,TV⟩,⟨hL,TV⟩,TV,hd⟩
theorem Xqb {t:TypeId}{y:D}{r:List D} (hx:S.ev x= .dptr (y::r))
  (ht:X1g P t false 1=true) (hd:Nat.blt d S.n=true) (hg:XH ops S gd)
  (h:Walk P ops draw K rest ((l.length,⟨some d,.load t x,ty,pos,ah,gd⟩,⟨XF ops gd++[(x,.dptr (y::r))],some (d,.d y),[],[],[]⟩)::l) (S.set d (.d y))):
  Walk P ops draw K (⟨some d,.load t x,ty,pos,ah,gd⟩::rest) l S:=
 Yj h hg (Ug rfl fun E S g a w hs hq hl=>by
  have:=hq.1;simp only[AVal.sat] at this;obtain⟨b,o,hp,hr⟩:=this;simp only[VU] at hr;obtain⟨⟨u,hu,g8⟩,_⟩:=hr;refine⟨u,?_,by grind [AVal.sat]⟩;have hc:=hs.1.mem _ _ hu;simp_all [execOp,Instr.loadAt,Instr.sureAddr,X7S]) ⟨⟨hx,TV⟩,TV,TV,hd⟩
theorem XfP (hm:∀a v,M a=some v->w.cell? a=some v):∀(ds:List D) (b o:Nat),VU M ds b o->
  ∃vs:List Value,vs.length=ds.length/\(∀(j:Nat) (v:Value),vs[j]? =some v->w.cell? ⟨b,o+j,none⟩=some v)/\(∀(j:Nat) (d:D) (v:Value),ds[j]? =some d->vs[j]? =some v->d.rep M v)
 |[],_,_,_=>⟨[],rfl,by simp,by simp⟩
 |d::ds,b,o,h=>by
  simp only[VU] at h;obtain⟨⟨u,h1,h2⟩,h3⟩:=h;obtain⟨vs,k1,k2,k3⟩:=XfP hm ds b (o+1) h3;refine⟨u::vs,by simp[k1],fun j v hv=> ?_,fun j d' v hd' hv=> ?_⟩<;>grind
theorem Xrq {t:TypeId} (hx:S.ev x= .dptr row)
  (hsz:XhX P t=sz) (ht:X1g P t true sz=true) (hy:(row.take sz).map .d=ys) (hlen:Nat.beq ys.length sz=true) (hd:Nat.blt d S.n=true) (hg:XH ops S gd)
  (h:Walk P ops draw K rest ((l.length,⟨some d,.load t x,ty,pos,ah,gd⟩,⟨XF ops gd++[(x,.dptr row)],some (d,.agg ys),[],[],[]⟩)::l) (S.set d (.agg ys))):
  Walk P ops draw K (⟨some d,.load t x,ty,pos,ah,gd⟩::rest) l S:=
 Yj h hg (Ug rfl fun E S g a w hs hq hl=>by
  have:=hq.1;simp only[AVal.sat] at this;obtain⟨b,o,hp,hr⟩:=this;obtain⟨vs,k1,k2,k3⟩:=XfP hs.1.mem _ _ _ (Xw4 hr sz);have bM:ys.length=sz:=Nat.eq_of_beq_eq_true hlen;have jH:vs.length=sz:=by grind
  refine⟨.agg vs.toArray,?_,?_⟩
  ·have:=X8B (P:=P) (p:=⟨b,o,none⟩) (w:=w) (vs:=vs) (t:=t) (by rw[jH];exact ht) (fun j v hv=>by grind [Vf]);simp[execOp,hp,Instr.loadAt,Instr.sureAddr,this]
  grind [AVal.sat,X3B]) ⟨⟨hx,TV⟩,TV,TV,hd⟩
theorem Xpo {s:TypeId} (h:X9S P s f off=true):∃fs q i,P.underlying s=some (.struct fs)/\fs[f]? =some q/\q.offset=off/\P.info? q.type=some i/\i.size≠0:=by
 unfold X9S at h;cases hu:P.underlying s with
 |none=>simp[hu] at h
 |some de=>
  cases de<;>rw[hu] at h<;>simp at h;rename_i fs;cases hq:fs[f]? with
  |none=>simp[hq] at h
  |some q=>
   rw[hq] at h;cases hi:P.info? q.type<;>simp_all [X5d]
theorem Xgi {s:TypeId}{b:Nat} (h:X9S P s f off=true) (w:World):(Instr.fieldAt s (.pointer (some ⟨b,o,none⟩)) f).run P w= .ok (.pointer (some ⟨b,o+off,none⟩)) w:=by
 obtain⟨fs,q,i,h1,h2,h3,h4,h5⟩:=Xpo h;simp_all [Instr.fieldAt,run_underlying,Instr.sureAddr,fieldPlace,Vf,sizeOf,typeInfo]
theorem XrZ {s:TypeId} (hx:S.ev x= .ptr γ o) (hoff:XjB P s f=off) (hf:X9S P s f off=true) (hd:Nat.blt d S.n=true) (hg:XH ops S gd)
  (h:Walk P ops draw K rest ((l.length,⟨some d,.fieldAddr s x f,ty,pos,ah,gd⟩,⟨XF ops gd++[(x,.ptr γ o)],some (d,.ptr γ (o+off)),[],[],[]⟩)::l) (S.set d (.ptr γ (o+off)))):
  Walk P ops draw K (⟨some d,.fieldAddr s x f,ty,pos,ah,gd⟩::rest) l S:=
 Yj h hg (Ug rfl fun E S g a w hs hq hl=>by
  have hp:a.eval x= .pointer (some ⟨g.az γ,o,none⟩):=by grind [AVal.sat,VD]
  exact⟨.pointer (some ⟨g.az γ,o+off,none⟩),by simp[execOp,hp,Xgi hf],by simp only[AVal.sat]⟩) ⟨⟨hx,TV⟩,TV,TV,hd⟩
theorem XoO {s:TypeId} (hx:S.ev x= .dptr row) (hoff:XjB P s f=off) (hf:X9S P s f off=true) (hd:Nat.blt d S.n=true) (hg:XH ops S gd)
  (h:Walk P ops draw K rest ((l.length,⟨some d,.fieldAddr s x f,ty,pos,ah,gd⟩,⟨XF ops gd++[(x,.dptr row)],some (d,.dptr (row.drop off)),[],[],[]⟩)::l) (S.set d (.dptr (row.drop off)))):
  Walk P ops draw K (⟨some d,.fieldAddr s x f,ty,pos,ah,gd⟩::rest) l S:=
 Yj h hg (Ug rfl fun E S g a w hs hq hl=>by
  have:=hq.1;simp only[AVal.sat] at this;obtain⟨b,o,hp,hr⟩:=this;exact⟨.pointer (some ⟨b,o+off,none⟩),by simp[execOp,hp,Xgi hf],by simp only[AVal.sat];exact⟨b,o+off,rfl,XpL hr off⟩⟩) ⟨⟨hx,TV⟩,TV,TV,hd⟩
theorem XaK {t:TypeId} (ht:X1g P t agg sz=true) (vs:Array Value) (off:Nat) (w:World):
  (part t vs off).run P w=if agg then .ok (.agg (vs.extract off (off+sz))) w else match vs[off]? with|some v=> .ok v w|none=> .halt (.stuck "part: no such cell") w:=by
 have h1:=(X7r ht).1 w;have h2:=(X7r ht).2 w;cases agg with
 |true=>simp[part,h1,h2]
 |false=>
  simp only[part,Sem.run_bind,h1,Result.andThen_ok,Bool.false_eq_true,if_false];cases vs[off]? <;>rfl
theorem Xqh {vs:List AVal}{y:AVal} (hx:S.ev x= .tup vs) (hy:vs[i]? =some y) (hd:Nat.blt d S.n=true) (hg:XH ops S gd)
  (h:Walk P ops draw K rest ((l.length,⟨some d,.extract x i,ty,pos,ah,gd⟩,⟨XF ops gd++[(x,.tup vs)],some (d,y),[],[],[]⟩)::l) (S.set d (y))):
  Walk P ops draw K (⟨some d,.extract x i,ty,pos,ah,gd⟩::rest) l S:=
 Yj h hg (Ug rfl fun E S g a w hs hq hl=>by
  have:=hq.1;simp only[AVal.sat] at this;obtain⟨us,hp,hr⟩:=this;obtain⟨u,hu,g8⟩:=VQ hr i y hy;simp_all [execOp,Instr.extract]) ⟨⟨hx,TV⟩,TV,TV,hd⟩
end
set_option linter.unusedSimpArgs false
theorem Xe6 {α:Type} (z:α) (l:List (Nat×α)) (t:Nat):Xp z l t=z\/∃p∈l,p.2=Xp z l t:=by
 induction l<;>grind [Xp]
theorem Xlk (h:S.free γ=true) (t:Nat):(S.get t).ment γ=false:=by
 grind [St.free,X80,Xe6,AVal.ment,St.get]
theorem Xc0 (h:S.free γ=true) (k:Nat):(S.obj k).ment γ=false:=by
 simp only[St.free,Bool.and_eq_true,X80,Xbs] at h;have h:=h.2;rcases Xe6 AObj.dead S.L k with e|⟨p,hp,e⟩
 ·show AObj.ment γ (Xp _ _ _)=false;rw[e];rfl
 grind [St.obj]
def Gh.put (g:Gh) (γ:Nat) (b:Nat) (hv:Value):Gh:=
 {az:=fun k=>if k=γ then b else g.az k,hd:=fun k=>if k=γ then hv else g.hd k,aG:=g.aG,M:=g.M}
theorem Xj3 {b:Nat}{k:Nat} (h:k≠γ):g.keeps (g.put γ b hv) k:=by
 grind [Gh.keeps_of,Gh.put]
theorem XxK {b:Nat}{x:AVal} (hm:x.ment γ=false) (h:x.sat g u):x.sat (g.put γ b hv) u:=
 AVal.sat_mono (g:=g) (g':=g.put γ b hv) (YH.refl _) x u (fun k hk=>Xj3 (fun e=>by grind)) h
theorem X7p {b:Nat}{xs:List AVal} (hm:X0l γ xs=false) (h:Xx g xs us):Xx (g.put γ b hv) xs us:=
 X1R (g:=g) (g':=g.put γ b hv) (YH.refl _) xs us (fun k hk=>Xj3 (fun e=>by grind)) h
theorem X86 (hi:Inv E S.obj g w) (γ:Nat) (hf:S.free γ=true) (av:S.obj γ= .dead)
  (obj:AObj) (b:Nat) (hv:Value) {w':World} (b9:∀b,b<w.heap.size->w'.heap[b]? =w.heap[b]?) (hsize:w.heap.size<=w'.heap.size)
  (hos:w'.os=w.os) (hout:w'.output=w.output) (gw:Ub (g.put γ b hv) w' γ obj)
  (eJ:∀k,Xw (g.put γ b hv) obj γ k->w.heap.size<=k):
  Inv E (Xp .dead ((γ,obj)::S.L)) (g.put γ b hv) w':=by
 refine Inv.upd hi γ obj (YE _ _ _ _) (fun k hk=>Yz _ _ _ (Ne.symm hk)) (fun b hb _=>b9 b hb) hsize hos hout rfl
  (fun k hk=>⟨by simp[Gh.put,hk],by simp[Gh.put,hk],rfl⟩) (fun k cs us hk hL hs=>X7p ?_ hs) gw (fun k hk=> .inr (eJ k hk)) (fun hlt=>by grind [St.free,Nat.ble_eq])
 have:=Xc0 hf k
 grind [AObj.ment]
theorem X3V (hf:S.free γ=true) {g:Gh}{a:Act}{b:Nat}{hv:Value} (hs:∀t,(S.get t).sat g (a.tmps.getD t undef)):
  ∀t,(S.get t).sat (g.put γ b hv) (a.tmps.getD t undef):=by simp_all [XxK,Xlk]
theorem X4K (w:World) (o:Obj):∀b,b<w.heap.size->(w.alloc o).heap[b]? =w.heap[b]? :=by simp_all [heap_alloc_old]
theorem X6M (w:World) (o:Obj):w.heap.size<=(w.alloc o).heap.size:=by simp
def X3I (g:Gh) (w:World) (γ:Nat):Gh:=g.put γ w.heap.size undef
theorem X6i (n:Nat):X4J (0,0) n:=fun i hi=>by simp
theorem XfZ (hi:Inv E S.obj g w) (γ:Nat) (hf:S.free γ=true) (av:S.obj γ= .dead) (e:TypeId)
  {cs:List AVal}{vs:Array Value} (hs:Xx g cs vs.toList) (hm:X0l γ cs=false) (hc:∀c∈cs,c.cellish=true):
  Inv E (Xp .dead ((γ,.box cs)::S.L)) (X3I g w γ) (w.alloc (.cells vs e)):=by
 refine X86 hi γ hf av _ _ _ (X4K _ _) (X6M _ _) rfl rfl ?_ (fun k hk=> ?_)
 ·refine⟨vs,e,(0,0),?_,X6i _,X7p hm hs,hc⟩
  grind [Gh.put,heap_alloc_new]
 grind [Xw,Gh.put]
def X2H:List AVal->Bool
 |[]=>true
 |c::r=>c.cellish&&X2H r
theorem X5L:∀l,X2H l=true↔∀c∈l,c.cellish=true
 :=by intro x;induction x<;>simp_all [X2H]
def AVal.parts:AVal->List AVal
 | .agg cs=>cs
 |x=>[x]
theorem X9f {x:AVal} (h:x.sat g v) (hc:X2H x.parts=true):Xx g x.parts v.cells.toList:=by
 rw[X5L] at hc;cases x with
 |agg cs=>simp only[AVal.sat] at h;obtain⟨vs,rfl,h⟩:=h;exact h
 |any=>grind [AVal.parts,AVal.cellish]
 |tup vs=>simp_all [AVal.parts,AVal.cellish]
 |_=>
  all_goals
   have h1:=AVal.sat_one (by exact hc _ (by simp[AVal.parts])) h;have e:v.cells= #[v]:=by cases v<;>simp[Value.oneCell'] at h1<;>rfl
   rw[e];simp only[AVal.parts];exact⟨h,by simp only[Xx]⟩
theorem Xuj {x:AVal} (h:x.sat g v) (hc:X2H x.parts=true):∀(i:Nat) (c:AVal) (u:Value),x.parts[i]? =some c->v.cells.toList[i]? =some u->u.oneCell'=true:=by
 intro i c u qf qg;obtain⟨u',h1,h2⟩:=VQ (X9f h hc) i c qf;rw[h1] at qg;cases qg;exact AVal.sat_one ((X5L _).1 hc c (mem_of_getElem? qf)) h2
variable{obj:AObj}
section
variable {P:Program}{ops:Array Oper}{draw:Bool}{K:XW->St->Prop}{rest:List Oper}{l:XW}{S:St}
variable {d:Nat}{ty:TypeId}{pos:String}{ah:Array Edge}{gd:Option (Nat×Bool)}
theorem X3e {o:Oper}{d:Nat}{x:AVal} (fZ:o.dst=some d)
  (h:∀E S g a w,Vi E S g a w->VD g a reads->Vq S fe->X2R S new->∃v g' w',(execOp a.eval o).run P w= .ok (.value v) w'/\x.sat g' v/\
   Inv E (Xp .dead ((γ,obj)::S.L)) g' w'/\∀t,(S.get t).sat g' (a.tmps.getD t undef)):
  X7t P o ⟨reads,some (d,x),fe,[(γ,obj)],new⟩:=by
 intro E S a w g hs hok Q K hK;obtain⟨v,g',w',h1,h2,h3,h4⟩:=h E S g a w hs (X1q hs _ hok.1) hok.2.1 hok.2.2.1;unfold Oper.wp;rw[h1,Oper.upon_value,fZ];exact hK _ _ (X2a h3 hs.2.1 hs.2.2.1 h4 h2 hok.2.2.2)
theorem Xbx {o:Oper} (fZ:o.dst=none)
  (h:∀E S g a w,Vi E S g a w->VD g a reads->Vq S fe->X2R S new->∃g' w',(execOp a.eval o).run P w= .ok .skip w'/\
   Inv E (Xp .dead ((γ,obj)::S.L)) g' w'/\∀t,(S.get t).sat g' (a.tmps.getD t undef)):
  X7t P o ⟨reads,none,fe,[(γ,obj)],new⟩:=by
 intro E S a w g hs hok Q K hK;obtain⟨g',w',h1,h3,h4⟩:=h E S g a w hs (X1q hs _ hok.1) hok.2.1 hok.2.2.1;unfold Oper.wp;rw[h1,Oper.upon_skip,fZ];exact hK _ _ ⟨g',h3,hs.2.1,hs.2.2.1,h4⟩
def X4O (P:Program) (t:TypeId):Option (List Value):=
 match P.info? t with
 |some i=>(match i.zero with|some z=>some z.cells.toList|none=>none)
 |none=>none
def X1x:List Value->Bool
 |[]=>true
 |v::r=>v.oneCell'&&X1x r
theorem Xxf:∀l,X1x l=true↔∀v∈l,v.oneCell'=true
 :=by intro x;induction x<;>simp_all [X1x]
def dvL:List Value->List AVal
 |[]=>[]
 |v::r=> .d (.v v)::dvL r
theorem X9x:∀{vs:List Value},X1x vs=true->Xx g (dvL vs) vs
 :=by intro x;induction x<;>simp_all [dvL,Xx,X1x,X02]
theorem XnJ (γ:Nat):∀vs:List Value,X0l γ (dvL vs)=false
 |[]=>rfl
 |v::r=>by simp[dvL,X0l,AVal.ment,XnJ γ r]
theorem Xnp:∀vs:List Value,∀c∈dvL vs,c.cellish=true
 |[],_,h=>by simp[dvL] at h
 |v::r,c,h=>by
  simp only[dvL,mem_cons] at h;rcases h with rfl|h
  ·rfl
  ·exact Xnp r c h
theorem Xdy {t:TypeId} (h:X4O P t=some zs):∃z:Value,z.cells.toList=zs/\∀w,(zeroValue t).run P w= .ok z w:=by
 unfold X4O at h;cases hi:P.info? t with
 |none=>grind
 |some i=>
  rw[hi] at h;cases hz:i.zero<;>simp_all [zeroValue,typeInfo]
theorem X5P {t:TypeId} (hz:X4O P t=some zs) (h1:X1x zs=true) (av:S.obj γ= .dead) (hf:S.free γ=true)
  (hd:Nat.blt d S.n=true) (hg:XH ops S gd)
  (h:Walk P ops draw K rest ((l.length,⟨some d,.alloc t,ty,pos,ah,gd⟩,⟨XF ops gd++[],some (d,.ptr γ 0),[(γ,.dead)],[(γ,.box (dvL zs))],[γ]⟩)::l)
   ((S.set d (.ptr γ 0)).own γ (.box (dvL zs)))):
  Walk P ops draw K (⟨some d,.alloc t,ty,pos,ah,gd⟩::rest) l S:=
 Yj h hg (X3e rfl fun E S g a w hs hq hl hn=>by
  obtain⟨z,kW,qh⟩:=Xdy hz;refine⟨.pointer (some ⟨w.heap.size,0,none⟩),X3I g w γ,w.alloc (.cells z.cells t),?_,?_,?_,X3V hn.1 hs.2.2.2⟩
  ·simp[execOp,Instr.alloc,qh,newVar,newRow]
  ·simp[AVal.sat,X3I,Gh.put]
  grind [XfZ,X9x,XnJ,Xnp,Vi,Vq,X2R]) ⟨TV,⟨av,TV⟩,⟨hf,TV⟩,hd⟩
theorem XfI {t:TypeId}{y:AVal} (hx:S.ev x=y) (hc:X2H y.parts=true) (av:S.obj γ= .dead) (hf:S.free γ=true) (hm:X0l γ y.parts=false)
  (hd:Nat.blt d S.n=true) (hg:XH ops S gd)
  (h:Walk P ops draw K rest ((l.length,⟨some d,.box t x,ty,pos,ah,gd⟩,⟨XF ops gd++[(x,y)],some (d,.ptr γ 0),[(γ,.dead)],[(γ,.box y.parts)],[γ]⟩)::l)
   ((S.set d (.ptr γ 0)).own γ (.box y.parts))):
  Walk P ops draw K (⟨some d,.box t x,ty,pos,ah,gd⟩::rest) l S:=
 Yj h hg (X3e rfl fun E S g a w hs hq hl hn=>by
  refine⟨.pointer (some ⟨w.heap.size,0,none⟩),X3I g w γ,w.alloc (.cells (a.eval x).cells t),?_,?_,?_,X3V hn.1 hs.2.2.2⟩
  ·simp[execOp,Instr.box,newVar,newRow]
  ·simp[AVal.sat,X3I,Gh.put]
  grind [XfZ,X9f,X5L,Vi,VD,Vq,X2R]) ⟨⟨hx,TV⟩,⟨av,TV⟩,⟨hf,TV⟩,hd⟩
theorem X6D (b:Nat) (e:TypeId) (fr:Nat×Nat) (n:Nat) (hfr:X4J fr n):∀(us:List Value) (o i:Nat) (vs:Array Value) (w:World),w.heap[b]? =some (.cells vs e fr)->vs.size=n->
  o+i+us.length<=vs.size->(∀u∈us,u.oneCell'=true)->
  ∃vs':Array Value,(storeCells ⟨b,o,none⟩ us i).run P w= .ok () (w.setRow b vs')/\vs'.toList=vs.toList.take (o+i)++us++vs.toList.drop (o+i+us.length)
 |[],o,i,vs,w,h,hn,hl,h1=>⟨vs,by
   have:w.setRow b vs=w:=by
    cases w with
    |mk heap tape drawn os output=>
     simp only[World.setRow];congr 1
     grind
   simp[storeCells,this],by simp⟩
 |u::us,o,i,vs,w,h,hn,hl,h1=>by
  have hlt:o+i<vs.size:=by simp at hl;omega
  have hc:w.cell? ⟨b,o+i,none⟩=some vs[o+i]:=by rw[cell_of_row w _ _ vs e fr h];simp[hlt]
  have hf:w.frozen? ⟨b,o+i,none⟩=false:=by
   simp only[World.frozen?,h];have:=hfr (o+i) (by omega);simpa using this
  have bI:=setCell_eq_setRow w b (o+i) vs e fr u h;have hw':(w.setRow b (vs.setIfInBounds (o+i) u)).heap[b]? =some (.cells (vs.setIfInBounds (o+i) u) e fr):=setRow_heap w b vs _ e fr h;obtain⟨vs',k1,k2⟩:=X6D b e fr n hfr us o (i+1) (vs.setIfInBounds (o+i) u) _ hw' (by simp[hn]) (by simp at hl |-;omega) (fun x hx=>h1 x (by simp[hx]));refine⟨vs',?_,?_⟩
  ·grind [storeCells,Sem.run_bind,Vf,run_store,Result.andThen_ok,setRow_setRow]
  ·rw[k2];apply ext_getElem?;intro k;simp only[getElem?_append,LA,LT,LD,Array.length_toList,Array.size_setIfInBounds,LC,getElem?_take,getElem?_drop,Array.getElem?_toList,Array.getElem?_setIfInBounds,getElem?_cons]
   grind
def X6o (P:Program) (t:TypeId) (sz:Nat):Bool:=match P.info? t with|some i=>Nat.beq i.size sz|none=>false
theorem Xbl {t:TypeId} (h:X6o P t sz=true) (w:World):(sizeOf t).run P w= .ok sz w:=by
 unfold X6o at h;cases hi:P.info? t<;>simp_all [sizeOf,typeInfo]
theorem Xv8 {t:TypeId}{v:Operand}{y:AVal} (hx:S.ev x= .ptr γ o) (hL:S.obj γ= .box cs) (hv:S.ev v=y) (hc:X2H y.parts=true)
  (ht:X6o P t y.parts.length=true) (hb:Nat.ble (o+y.parts.length) cs.length=true) (hg:XH ops S gd)
  (h:Walk P ops draw K rest ((l.length,⟨none,.store t x v,ty,pos,ah,gd⟩,⟨XF ops gd++[(x,.ptr γ o),(v,y)],none,[(γ,.box cs)],[(γ,.box (cs.take o++y.parts++cs.drop (o+y.parts.length)))],[]⟩)::l)
   (S.own γ (.box (cs.take o++y.parts++cs.drop (o+y.parts.length))))):
  Walk P ops draw K (⟨none,.store t x v,ty,pos,ah,gd⟩::rest) l S:=
 Yj h hg (Xbx rfl fun E S g a w hs hq hl hn=>by
  have ho:=hs.1.obj γ;rw[hl.1] at ho;obtain⟨vs,e,fr,h1,h2,h3,h4⟩:=ho;have hp:a.eval x= .pointer (some ⟨g.az γ,o,none⟩):=by grind [AVal.sat,VD]
  have hps:=X9f hq.2.1 hc;have hlen:(a.eval v).cells.toList.length=y.parts.length:=US hps;have hvl:vs.size=cs.length:=by have:=US h3;simpa using this
  have hb':o+y.parts.length<=cs.length:=by simpa using hb
  obtain⟨vs',k1,k2⟩:=X6D (P:=P) (g.az γ) e fr vs.size h2 (a.eval v).cells.toList o 0 vs w h1 rfl (by rw[hlen];omega) (fun u hu=>by
   obtain⟨i,hi,rfl⟩:=getElem_of_mem hu;have hi':i<y.parts.length:=by omega
   exact Xuj hq.2.1 hc i _ _ (getElem?_eq_getElem hi') (getElem?_eq_getElem hi))
  simp only[Nat.add_zero,hlen] at k2;refine⟨g,w.setRow (g.az γ) vs',?_,?_,hs.2.2.2⟩
  ·have hsz:=Xbl ht w;simp_all [execOp,Instr.storeAt,Instr.sureAddr,storeVar]
  ·have lC:vs'.size=vs.size:=by
    have:=CG length k2
    grind
   refine Inv.upd hs.1 γ _ (YE _ _ _ _) (fun k hk=>Yz _ _ _ (Ne.symm hk)) (fun b hb ax=> ?_) (by simp) rfl rfl rfl (fun k hk=>⟨rfl,rfl,rfl⟩) (fun k cs us _ _ h=>h) ?_ (fun b hb=> .inl (by rw[hl.1];exact hb)) (fun _=>Gh.keeps_refl _ _)
   ·grind [setRow_other,Vq,Xw]
   ·refine⟨vs',e,fr,setRow_heap w _ vs _ e fr h1,by rw[lC];exact h2,?_,fun c eg=> ?_⟩<;>grind [X4f,X3g,X4g,X5L]) ⟨⟨hx,hv,TV⟩,⟨hL,TV⟩,TV,TV⟩
def XlH (cs ys:List AVal) (o:Nat):List AVal:=cs.take o++ys++cs.drop (o+ys.length)
def X4d (place:Nat->Option (Nat×Nat)) (cs:List AVal):List (Nat×AVal)->Option (List AVal)
 |[]=>some cs
 |(i,x)::r=>
  match place i with
  |none=>none
  |some (off,sz)=>bif Nat.beq x.parts.length sz&&Nat.ble (off+sz) cs.length&&X2H x.parts then X4d place (XlH cs x.parts off) r else none
theorem Xuu (xs:List Value):∀(k:Nat) (cs:Array Value) (off:Nat),off+k+xs.length<=cs.size->
  ((xs.zipIdx k).foldl (fun cs (p:Value×Nat)=>cs.setIfInBounds (off+p.2) p.1) cs).toList=cs.toList.take (off+k)++xs++cs.toList.drop (off+k+xs.length):=by
 induction xs with
 |nil=>simp
 |cons x xs ih=>
  intro k cs off h;simp only[zipIdx_cons,foldl_cons];rw[ih (k+1) _ off (by simp at h |-;omega)];apply ext_getElem?;intro j;simp only[LC] at h;simp only[getElem?_append,LA,LT,Array.length_toList,Array.size_setIfInBounds,LC,getElem?_take,getElem?_drop,Array.getElem?_toList,Array.getElem?_setIfInBounds,getElem?_cons]
  grind
def evL (S:St):List (Nat×Operand)->List (Nat×AVal)
 |[]=>[]
 |p::r=>(p.1,S.ev p.2)::evL S r
def X39:List (Nat×Operand)->List (Nat×AVal)->List (Operand×AVal)
 |p::r,q::s=>(p.2,q.2)::X39 r s
 |_,_=>[]
theorem XbP {g:Gh}{a:Act}{place:Nat->Option (Nat×Nat)}:∀{parts:List (Nat×Operand)}{ps:List (Nat×AVal)}{cs out:List AVal}{vs:Array Value},
  ps.map (·.1)=parts.map (·.1)->VD g a (X39 parts ps)->Xx g cs vs.toList->X4d place cs ps=some out->
  ∃us:Array Value,Instr.fill place vs (parts.map fun p=>(p.1,a.eval p.2))=some us/\Xx g out us.toList
 |[],[],cs,out,vs,_,_,hs,hf=>by
  simp only[X4d,Option.some.injEq] at hf;subst hf;exact⟨vs,rfl,hs⟩
 |[],_::_,_,_,_,hm,_,_,_=>by simp at hm
 |_::_,[],_,_,_,hm,_,_,_=>by simp at hm
 |p::parts,(i,x)::ps,cs,out,vs,hm,hr,hs,hf=>by
  simp only[map_cons,cons.injEq] at hm;obtain⟨ej,hm2⟩:=hm;simp only[X4d] at hf;cases hp:place i with
  |none=>rw[hp] at hf;simp at hf
  |some os=>
   obtain⟨off,sz⟩:=os;rw[hp] at hf;simp only at hf;cases hb:(Nat.beq x.parts.length sz&&Nat.ble (off+sz) cs.length&&X2H x.parts) with
   |false=>rw[hb] at hf;simp at hf
   |true=>
    rw[hb] at hf;simp only[Bool.and_eq_true] at hb;obtain⟨⟨b1,b2⟩,b3⟩:=hb;have s9:x.parts.length=sz:=by simpa using b1
    have uC:off+sz<=cs.length:=by simpa using b2
    obtain⟨fL,dj⟩:=hr;have hps:=X9f fL b3;have b7:=US hps;have bM:=US hs;simp only[Array.length_toList] at b7 bM;have lD:=Xuu (a.eval p.2).cells.toList 0 vs off (by simp;omega);simp only[Nat.add_zero,Array.length_toList,b7] at lD;let vs':Array Value:=(a.eval p.2).cells.zipIdx.foldl (fun cs (p:Value×Nat)=>cs.setIfInBounds (off+p.2) p.1) vs
    have cL:vs'.toList=vs.toList.take off++(a.eval p.2).cells.toList++vs.toList.drop (off+x.parts.length):=by
     rw[<-lD];simp only[vs'];rw[<-Array.foldl_toList,Array.toList_zipIdx]
    have oc:Xx g (XlH cs x.parts off) vs'.toList:=by
     rw[cL];exact X4f (X4f (X3g hs off) hps) (X4g hs _)
    obtain⟨us,k1,k2⟩:=XbP (vs:=vs') hm2 dj oc hf;refine⟨us,?_,k2⟩;simp only[map_cons,Instr.fill,<-ej,hp];rw[NI (by simp[b7,s9];omega)];exact k1
def XeR (P:Program) (t:TypeId) (i:Nat):Option (Nat×Nat):=
 match P.underlying t with
 |some (.struct fs)=>(match fs[i]? with|some q=>(match P.info? q.type with|some y=>some (q.offset,y.size)|none=>none)|none=>none)
 |some (.array _ e)=>(match P.info? e with|some y=>some (i*y.size,y.size)|none=>none)
 |_=>none
def Xj7 (P:Program) (t:TypeId):Bool:=
 match P.underlying t with
 |some (.struct fs)=>fs.toList.all fun f=>(P.info? f.type).isSome
 |some (.array _ e)=>(P.info? e).isSome
 |_=>false
theorem XrO (fs:List Field) (w:World) (h:∀f∈fs,(P.info? f.type).isSome=true):
  (fs.mapM fun f=>do pure (f.offset,<-sizeOf f.type):Sem (List (Nat×Nat))).run P w= .ok (fs.map fun f=>(f.offset,P.cellsOf f.type)) w:=by
 induction fs with
 |nil=>simp
 |cons f fs ih=>
  obtain⟨i,hi⟩:=Option.isSome_iff_exists.1 (h f (by simp));simp_all [sizeOf,typeInfo,Program.cellsOf]
theorem XkQ {f f':Nat->Option (Nat×Nat)} (h:∀i,f i=f' i) (cs:Array Value) (l:List (Nat×Value)):Instr.fill f cs l=Instr.fill f' cs l:=by
 have:f=f':=funext h;rw[this]
theorem XsX {t:TypeId}{parts:Array (Nat×Operand)}{pl:List (Nat×Operand)}{ps:List (Nat×AVal)}{out:List AVal} (bf:parts.toList=pl) (hps:evL S pl=ps)
  (hz:X4O P t=some zs) (h1:X1x zs=true) (ht:Xj7 P t=true) (hout:X4d (XeR P t) (dvL zs) ps=some out)
  (hd:Nat.blt d S.n=true) (hg:XH ops S gd)
  (h:Walk P ops draw K rest ((l.length,⟨some d,.build t parts,ty,pos,ah,gd⟩,⟨XF ops gd++X39 pl ps,some (d,.agg out),[],[],[]⟩)::l) (S.set d (.agg out))):
  Walk P ops draw K (⟨some d,.build t parts,ty,pos,ah,gd⟩::rest) l S:=by
 have hkeys:ps.map (·.1)=pl.map (·.1):=by
  rw[<-hps];clear hps bf h;induction pl<;>simp_all [evL]
 refine Yj h hg (Ug rfl fun E S g a w hs hq hl=> ?_) ⟨?_,TV,TV,hd⟩
 ·obtain⟨z,kW,qh⟩:=Xdy hz;obtain⟨us,k1,k2⟩:=XbP (vs:=z.cells) hkeys hq (by grind [X9x]) hout;refine⟨.agg us,?_,by grind [AVal.sat]⟩;have rX:(parts.map fun p=>(p.1,a.eval p.2)).toList=pl.map fun p=>(p.1,a.eval p.2):=by simp[bf]
  unfold Xj7 at ht;cases hu:P.underlying t with
  |none=>grind
  |some de=>
   rw[hu] at ht;cases de with
   |struct fs=>
    simp only[all_eq_true] at ht;have mH:=XrO (P:=P) fs.toList w ht;have iC:(fs.mapM fun f=>do pure (f.offset,<-sizeOf f.type):Sem (Array (Nat×Nat))).run P w= .ok (fs.map fun f=>(f.offset,P.cellsOf f.type)) w:=by
     have e:(fs.mapM fun f=>do pure (f.offset,<-sizeOf f.type):Sem (Array (Nat×Nat)))=(toArray<$>(fs.toList.mapM fun f=>do pure (f.offset,<-sizeOf f.type))):=by
      rw[Array.mapM_eq_mapM_toList]
     rw[e,Sem.run_map,mH,Result.andThen_ok];congr 1
     grind
    have hf:Instr.fill (fun x=>(fs.map fun f=>(f.offset,P.cellsOf f.type))[x]?) z.cells (parts.map fun p=>(p.1,a.eval p.2)).toList=some us:=by
     grind [XkQ,XeR,Program.cellsOf]
    simp_all [execOp,Instr.build,run_underlying]
   |array n e=>
    simp only at ht;obtain⟨y,hy⟩:=Option.isSome_iff_exists.1 ht;have hf:Instr.fill (fun i=>some (i*y.size,y.size)) z.cells (parts.map fun p=>(p.1,a.eval p.2)).toList=some us:=by
     grind [XkQ,XeR]
    simp_all [execOp,Instr.build,run_underlying,sizeOf,typeInfo]
   |_=>simp at ht
 ·rw[X5a];rw[<-hps];clear hkeys hps bf hout h;induction pl<;>grind [X39,evL]
end
theorem Xba (γ:Nat):∀l:List D,X0l γ (l.map .d)=false
 |[]=>rfl
 |x::l=>by simp[X0l,AVal.ment,Xba γ l]
theorem X6p:∀{ds:List D}{vs:List Value},Xx g (ds.map .d) vs->vs.length=ds.length/\∀(i:Nat) (d:D),ds[i]? =some d->∃u,vs[i]? =some u/\d.rep g.M u:=by
 intro ds vs h;refine⟨by simpa using US h,fun i d hd=> ?_⟩;obtain⟨u,h1,h2⟩:=VQ h i (.d d) (by simp[hd])
 grind [AVal.sat]
theorem X7K {b:Nat}:∀(xs:List (List D)) (o:Nat),(∀x∈xs,x.length=sz)->
  (∀(i:Nat) (d:D),xs.flatten[i]? =some d->∃u,M ⟨b,o+i,none⟩=some u/\d.rep M u)->X0s M sz xs b o
 |[],_,_,_=>by simp only[X0s]
 |r::rs,o,hl,h=>by
  have hr:=hl r (by simp);simp only[X0s];refine⟨hr,X6K _ _ _ fun i d hd=> ?_,X7K rs (o+sz) (fun x hx=>hl x (by simp[hx])) fun i d hd=> ?_⟩
  ·refine h i d ?_;have hi:i<r.length:=(GS.1 hd).1;simp[getElem?_append,hi];simpa [hi] using hd
  ·have:=h (sz+i) d (by simp[getElem?_append,<-hr];exact hd)
   rwa [show o+(sz+i)=o+sz+i by omega] at this
theorem X25:∀(xs:List (List D)),(∀x∈xs,x.length=sz)->xs.flatten.length=xs.length*sz
 :=by intro x;induction x<;>grind
theorem Xaf (hm:∀a v,M a=some v->w.cell? a=some v) {sz:Nat}:∀(xs:List (List D)) (b o:Nat),X0s M sz xs b o->
  ∃vs:List Value,vs.length=xs.length*sz/\(∀(j:Nat) (v:Value),vs[j]? =some v->w.cell? ⟨b,o+j,none⟩=some v)/\
   (∀(j:Nat) (d:D) (v:Value),xs.flatten[j]? =some d->vs[j]? =some v->d.rep M v):=by
 intro xs b o h;have hl:∀x∈xs,x.length=sz:=fun x hx=>by
  obtain⟨i,hi⟩:=getElem?_of_mem hx;exact(X63 xs b o i x h hi).1
 have hcells:VU M xs.flatten b o:=by
  clear hl;induction xs generalizing o<;>simp_all [VU,X0s,Xsb]
 obtain⟨vs,k1,k2,k3⟩:=XfP hm _ _ _ hcells
 grind [X25]
def Gh.lay (g:Gh) (b:Nat) (vs:Array Value):Gh:=
 {az:=g.az,hd:=g.hd,aG:=g.aG,M:=fun p=>if p.block=b/\p.spot=none then vs[p.off]? else g.M p}
theorem XbM (hi:Inv E L g w) (vs:Array Value):YH g.M (g.lay w.heap.size vs).M:=by
 intro p v h;have:=block_lt_of_cell (hi.mem p v h)
 grind [Gh.lay]
theorem X3H (hM:YH g.M g'.M) (hb:g'.az=g.az) (hh:g'.hd=g.hd) (od:g'.aG=g.aG) {x:AVal}{u:Value} (h:x.sat g u):x.sat g' u:=by grind [AVal.sat_mono,Gh.keeps_of]
theorem XtJ (hM:YH g.M g'.M) (hb:g'.az=g.az) (hh:g'.hd=g.hd) (od:g'.aG=g.aG) {xs:List AVal}{us:List Value} (h:Xx g xs us):Xx g' xs us:=by grind [X1R,Gh.keeps_of]
theorem Xdk (hM:YH g.M g'.M) (hb:g'.az=g.az) (hh:g'.hd=g.hd) (od:g'.aG=g.aG) {w w':World}{γ:Nat}{x:AObj} (b9:∀b,Xw g x γ b->w'.heap[b]? =w.heap[b]?)
  (h:Ub g w γ x):Ub g' w' γ x:=by grind [X8k,XtJ]
theorem XeD (hi:Inv E L g w) (vs:Array Value) (e:TypeId) (fr:Nat×Nat):
  Inv E L (g.lay w.heap.size vs) (w.alloc (.cells vs e fr)):=by
 have hle:=XbM hi vs;refine⟨fun γ=>Xdk (g':=g.lay w.heap.size vs) hle rfl rfl rfl (fun b hb=>X4K w _ b (X4E hi hb)) (hi.obj γ),fun γ γ' b h h'=> ?_,fun a v h=> ?_,fun γ b h a v ha=> ?_,fun γ b h=> ?_,hi.ext.trans hle,fun a v h=> ?_,fun b hb hA=> ?_,?_,hi.os,hi.out,fun k hk=>(hi.kp k hk).trans' (Gh.keeps_of rfl rfl rfl)⟩
 ·rw[X55 (g:=g) (g':=g.lay w.heap.size vs) rfl rfl rfl] at h h';exact hi.inj γ γ' b h h'
 ·have h':(if a.block=w.heap.size/\a.spot=none then vs[a.off]? else g.M a)=some v:=h;split at h'
  ·rename_i hc;obtain⟨b,o,s⟩:=a
   grind [cell_of_row,heap_alloc_new]
  ·have hc:=hi.mem a v h'
   grind [World.cell?,X4K]
 ·rw[X55 (g:=g) (g':=g.lay w.heap.size vs) rfl rfl rfl] at h;have h':(if a.block=w.heap.size/\a.spot=none then vs[a.off]? else g.M a)=some v:=ha;split at h'
  ·rename_i hc;have:=X4E hi h;omega
  ·exact hi.sep γ b h a v h'
 ·rw[X55 (g:=g) (g':=g.lay w.heap.size vs) rfl rfl rfl] at h;exact hi.new γ b h
 ·have h':(if a.block=w.heap.size/\a.spot=none then vs[a.off]? else g.M a)=some v:=h;split at h'
  ·rename_i hc;have:=hi.size;omega
  ·exact hi.lim a v h'
 ·have:=hi.size;rw[X4K w _ b (by omega)];exact hi.frame b hb hA
 ·have:=hi.size;simp;omega
theorem Xh5 (hi:Inv E L g w):Inv E L g w.drew:=
 ⟨fun γ=>by
  have:=hi.obj γ;revert this;cases L γ<;>exact id,hi.inj,hi.mem,hi.sep,hi.new,hi.ext,hi.lim,hi.frame,hi.size,hi.os,hi.out,hi.kp⟩
def X6Z:List AVal->Option (List D)
 |[]=>some []
 | .d x::r=>(match X6Z r with|some y=>some (x::y)|none=>none)
 |_=>none
def X4R (sz:Nat):Nat->List AVal->Option (List (List D))
 |0,[]=>some []
 |n+1,l=>(match X6Z (l.take sz),X4R sz n (l.drop sz) with|some r,some q=>bif Nat.beq r.length sz then some (r::q) else none|_,_=>none)
 |0,_::_=>none
theorem XiJ:∀{l:List AVal}{r:List D},X6Z l=some r->r.map .d=l
 |[],r,h=>by grind [X6Z]
 |x::l,r,h=>by
  cases x<;>simp only[X6Z] at h<;>try (simp at h;done)
  rename_i y;cases hu:X6Z l with
  |none=>simp[hu] at h
  |some q=>simp[hu] at h;subst h;simp[XiJ hu]
theorem XkC:∀{n:Nat}{l:List AVal}{xs:List (List D)},X4R sz n l=some xs->xs.flatten.map .d=l/\xs.length=n/\∀x∈xs,x.length=sz
 |0,[],xs,h=>by grind [X4R]
 |0,_::_,xs,h=>by simp[X4R] at h
 |n+1,l,xs,h=>by
  simp only[X4R] at h;cases hu:X6Z (l.take sz) with
  |none=>simp[hu] at h
  |some r=>
   cases hq:X4R sz n (l.drop sz) with
   |none=>simp[hu,hq] at h
   |some q=>
    rw[hu,hq] at h;simp only at h;cases hb:Nat.beq r.length sz with
    |false=>simp[hb] at h
    |true=>
     simp[hb] at h;subst h;obtain⟨k1,k2,k3⟩:=XkC hq;refine⟨?_,by simp[k2],?_⟩
     ·simp only[flatten_cons,map_append,XiJ hu,k1,take_append_drop]
     ·intro x hx;rcases mem_cons.1 hx with rfl|hx
      ·simpa using hb
      ·exact k3 x hx
def X1b (P:Program) (t:TypeId) (sz bytes:Nat):Bool:=
 match P.underlying t with
 |some (.slice e)=>(match P.info? e with|some i=>Nat.beq i.size sz&&Nat.beq i.bytes bytes&&(match i.zero with|some z=>Nat.beq z.cells.size sz&&X1x z.cells.toList|none=>false)|none=>false)
 |_=>false
def elB (P:Program) (t:TypeId):Nat:=
 match P.underlying t with
 |some (.slice e)=>(match P.info? e with|some i=>i.bytes|none=>0)
 |_=>0
theorem X5j {t:TypeId} (h:X1b P t sz bytes=true):
  ∃e i z,P.underlying t=some (.slice e)/\P.info? e=some i/\i.size=sz/\i.bytes=bytes/\i.zero=some z/\z.cells.size=sz/\X1x z.cells.toList=true:=by
 grind [X1b,Nat.eq_of_beq_eq_true]
def X4b (P:Program) (t:TypeId):Bool:=match P.underlying t with|some (.slice _)=>true|some .string=>true|_=>false
theorem Xf5 {t:TypeId} (h:X4b P t=true):(∃e,P.underlying t=some (.slice e))\/P.underlying t=some .string:=by
 grind [X4b]
theorem X9G (need old:Nat) (e:TypeId) (t:Nat) (h:need<2^63):need<=(Question.appendCap need old e).cut t/\(Question.appendCap need old e).cut t<=maxLen:=by
 simp only[Question.cut,maxLen];have:t%(2^63-need)<2^63-need:=Nat.mod_lt _ (by omega);omega
def Src (P:Program) (w:World) (sz:Nat) (x:Value) (m:Nat) (news:Array Value):Prop:=
 (∀w':World,w'.heap=w.heap->(Builtin.lenOf x).run P w'= .ok m w'/\(Builtin.firstCells sz m x).run P w'= .ok news w')/\news.size=m*sz
theorem X8U {T T2 ty e:TypeId}{i:TypeInfo}{x:Value}
  (hT:P.underlying T=some (.slice e)) (hi:P.info? e=some i) (h2:(∃e,P.underlying T2=some (.slice e))\/P.underlying T2=some .string)
  (hsrc:Src P w i.size x m news) (hroom:n+m<=cap):
  (Builtin.append_ #[T,T2] ty #[.slice base n cap,x]).run P w=
   match base with
   |some a=>((storeCells (a.add (n*i.size)) news.toList).run P w).andThen fun _ w=> .ok (.slice base (n+m) cap) w
   |none=> .ok (.slice base (n+m) cap) w:=by
 have hs:=hsrc.1 w rfl;rcases h2 with ⟨e2,h2⟩|h2<;>cases base<;>
 simp[Builtin.append_,run_underlying hT,sizeOf,typeInfo,hi,run_underlying h2,hs.1,hs.2,hroom]
theorem XcF {T T2 ty e:TypeId}{i:TypeInfo}{z:Value}{x:Value}{olds:Array Value}
  (hT:P.underlying T=some (.slice e)) (hi:P.info? e=some i) (hz:i.zero=some z) (h2:(∃e,P.underlying T2=some (.slice e))\/P.underlying T2=some .string)
  (hbytes:i.bytes≠0)
  (hsrc:Src P w i.size x m news) (hold:∀w':World,w'.heap=w.heap->(Builtin.firstCells i.size n (.slice base n cap)).run P w'= .ok olds w') (hroom:¬n+m<=cap)
  (hcap:Builtin.nextslicecap (n+m) cap*i.bytes<=2^48):
  let newCap:=(Question.appendCap (n+m) cap e).cut (w.tape w.drawn (.appendCap (n+m) cap e))
  (Builtin.append_ #[T,T2] ty #[.slice base n cap,x]).run P w=
   .ok (.slice (some ⟨w.heap.size,0,none⟩) (n+m) newCap) (w.drew.alloc (.cells (olds++news++Builtin.zeroCells z.cells (newCap-(n+m))) e)):=by
 have hs:=hsrc.1 w rfl;have hs':=hsrc.1 w.drew rfl;have ho:=hold w.drew rfl;rcases h2 with ⟨e2,h2⟩|h2<;>
 simp[Builtin.append_,run_underlying hT,sizeOf,typeInfo,hi,run_underlying h2,hs.1,hroom,hbytes,Nat.not_lt.2 hcap,Question.forced,ho,hs'.2,zeroValue,hz,newRow]
def Gh.rehd (g:Gh) (γ:Nat) (v:Value):Gh:={az:=g.az,hd:=fun k=>if k=γ then v else g.hd k,aG:=g.aG,M:=g.M}
theorem XqM {a a':Option Addr}{m' c c':Nat} (h1:g.hd γ= .slice a m c) (h2:Value.slice a' m' c'= .slice a m c\/m<m') (k:Nat):g.keeps (g.rehd γ (.slice a' m' c')) k:=by
 refine⟨rfl,?_,fun _ _ _ _ _ _=>rfl⟩
 grind [Gh.rehd]
theorem X6T (z:Array Value) (n:Nat):(Builtin.zeroCells z n).size=n*z.size:=by simp[Builtin.zeroCells]
theorem Xat {xs ys:List D} (h:Xx g (xs.map .d) us) (h':Xx g (ys.map .d) vs):Xx g ((xs++ys).map .d) (us++vs):=by
 grind [X4f]
theorem Xhu {a:Act} (hs:Vi E S g a w) {γ sz bytes m:Nat}{xs ys:List (List D)} (hL:S.obj γ= .row sz xs)
  {T T2 ty:TypeId} (hT:X1b P T sz bytes=true) (h2:X4b P T2=true) (hb0:bytes≠0) {x:Value}{news:Array Value} (hsrc:Src P w sz x m news)
  (hm:m=ys.length) (hy:∀y∈ys,y.length=sz) (hnews:Xx g (ys.flatten.map .d) news.toList) (hroom:(xs.length+m)*bytes<=2^47):
  ∃v g' w',(Builtin.append_ #[T,T2] ty #[g.hd γ,x]).run P w= .ok v w'/\(AVal.own γ (xs.length+m)).sat g' v/\
   Inv E (Xp .dead ((γ,.row sz (xs++ys))::S.L)) g' w'/\∀t,(S.get t).sat g' (a.tmps.getD t undef):=by
 obtain⟨e,i,z,hu,hi,hsz,fM,hz,hzs,bR⟩:=X5j hT;have eK:=Xf5 h2;have ho:=hs.1.obj γ;rw[hL] at ho;obtain⟨hlen,ho⟩:=ho;have jI:=X25 xs hlen;have rY:=X25 ys hy;have hlen':∀r∈xs++ys,r.length=sz:=fun r hr=>(mem_append.1 hr).elim (hlen r) (hy r);have lE:news.size=m*sz:=hsrc.2
 have fin:∀(a0:Option Addr) (c0:Nat) (b cap':Nat) (vs':Array Value) (e':TypeId) (fr:Nat×Nat) (w':World),
   g.hd γ= .slice a0 xs.length c0->
   (Value.slice (some ⟨b,0,none⟩) (xs.length+m) cap'= .slice a0 xs.length c0\/xs.length<xs.length+m)->
   (∀k,k<w.heap.size->¬Xw g (S.obj γ) γ k->w'.heap[k]? =w.heap[k]?)->w.heap.size<=w'.heap.size->w'.os=w.os->w'.output=w.output->
   w'.heap[b]? =some (.cells vs' e' fr)->X4J fr vs'.size->xs.length+m<=cap'->cap'<=maxLen->cap'*sz<=vs'.size->
   Xx g ((xs++ys).flatten.map .d) (vs'.toList.take ((xs++ys).length*sz))->(Xw g (S.obj γ) γ b\/w.heap.size<=b)->
   let g':=g.rehd γ (.slice (some ⟨b,0,none⟩) (xs.length+m) cap')
   (AVal.own γ (xs.length+m)).sat g' (.slice (some ⟨b,0,none⟩) (xs.length+m) cap')/\
   Inv E (Xp .dead ((γ,.row sz (xs++ys))::S.L)) g' w'/\∀t,(S.get t).sat g' (a.tmps.getD t undef):=by
  intro a0 c0 b cap' vs' e' fr w' cG hgrow b9 hsize hos hout hb oe hcap dL hcs b8 hlv g';have hk:∀k,g.keeps g' k:=XqM cG hgrow;have hM:YH g.M g'.M:=YH.refl _;refine⟨?_,?_,fun t=>AVal.sat_mono hM _ _ (fun k _=>hk k) (hs.2.2.2 t)⟩
  ·simp only[AVal.sat];exact⟨rfl,some ⟨b,0,none⟩,xs.length+m,cap',by simp[g',Gh.rehd],Nat.le_refl _,fun _=>rfl⟩
  ·refine Inv.upd hs.1 γ _ (YE _ _ _ _) (fun k aX=>Yz _ _ _ (Ne.symm aX)) b9 hsize hos hout rfl (fun k aX=>⟨rfl,by grind [Gh.rehd],rfl⟩)
    (fun k cs us _ _ h=>X1R hM _ _ (fun k _=>hk k) h) ?_ (fun k aE=> ?_) (fun _=>hk γ)
   ·refine⟨hlen',.inr ⟨b,cap',vs',e',fr,by grind [Gh.rehd],by grind,dL,hb,oe,hcs,X1R hM _ _ (fun k _=>hk k) b8⟩⟩
   ·simp only[Xw,g',Gh.rehd,if_true] at aE
    grind [Xw,YV]
 have fN:∀cap,xs.length+m>cap->Builtin.nextslicecap (xs.length+m) cap*i.bytes<=2^48:=by
  intro cap hc;have h1:=nextslicecap_le (need:=xs.length+m) (old:=cap) hc;have h2:Builtin.nextslicecap (xs.length+m) cap*i.bytes<=2*(xs.length+m)*i.bytes:=Nat.mul_le_mul_right _ h1
  grind
 have cU:xs.length+m<2^63:=by
  have:xs.length+m<=(xs.length+m)*bytes:=Nat.le_mul_of_pos_right _ (by omega);omega
 rcases ho with ⟨dK,rfl⟩|⟨b,cap,vs,e',fr,h1,ek,h3,h4,h5,h6,h7⟩
 ·by_cases hm0:m=0
  ·-- nothing to nothing
   have hys:ys=[]:=by grind
   subst hys;have hr:=X8U (P:=P) (w:=w) (T:=T) (T2:=T2) (ty:=ty) (base:=none) (n:=0) (cap:=0) (x:=x) (news:=news) (m:=m) hu hi eK (by rw[hsz];exact hsrc) (by omega);refine⟨_,g,w,by rw[dK];exact hr,?_,?_,hs.2.2.2⟩
   ·simp only[AVal.sat];exact⟨rfl,none,0,0,dK,by simp[hm0],fun _=>by simp[hm0]⟩
   ·have e1:Xp .dead ((γ,.row sz ([]++[]))::S.L)=S.obj:=by
     grind [Yz,Xp,St.obj]
    rw[e1];exact hs.1
  ·have hr:=XcF (P:=P) (w:=w) (T:=T) (T2:=T2) (ty:=ty) (base:=none) (n:=0) (cap:=0) (x:=x) (olds:= #[]) (news:=news) (m:=m) hu hi hz eK (by rw[fM];exact hb0) (by rw[hsz];exact hsrc)
    (fun w' _=>by simp[Builtin.firstCells]) (by omega) (by grind)
   obtain⟨c1,c2⟩:=X9G (0+m) 0 e (w.tape w.drawn (.appendCap (0+m) 0 e)) (by simpa using cU);revert hr c1 c2;generalize (Question.appendCap (0+m) 0 e).cut (w.tape w.drawn (.appendCap (0+m) 0 e))=nc;intro hr c1 c2
   have:=fin none 0 w.heap.size nc (#[]++news++Builtin.zeroCells z.cells (nc-(0+m))) e (0,0) _ (by simpa using dK) (.inr (by simp;omega))
    (fun k hk _=>X4K w.drew _ k hk) (X6M w.drew _) rfl rfl (heap_alloc_new w.drew _) (X6i _) (by simpa using c1) c2
    (by simp[X6T,lE,hzs,<-Nat.add_mul];grind)
    (by
     grind) (.inr (Nat.le_refl _))
   grind
 ·have og:∀w':World,w'.heap=w.heap->(Builtin.firstCells i.size xs.length (.slice (some ⟨b,0,none⟩) xs.length cap)).run P w'= .ok (vs.toList.take (xs.length*sz)).toArray w':=by
   intro w' hw';have hl:=US h7;have:=run_loadCells_list (P:=P) w' ⟨b,0,none⟩ (vs.toList.take (xs.length*sz)) (fun j v hv=>by
    grind [Vf,cell_of_row])
   grind [Builtin.firstCells]
  have jd:(vs.toList.take (xs.length*sz)).length=xs.length*sz:=by grind [US,LM]
  have qi:(vs.toList.take (xs.length*sz)).toArray.toList=vs.toList.take (xs.length*sz):=rfl;by_cases hc:xs.length+m<=cap
  ·have hr:=X8U (P:=P) (w:=w) (T:=T) (T2:=T2) (ty:=ty) (base:=some ⟨b,0,none⟩) (n:=xs.length) (cap:=cap) (x:=x) (news:=news) (m:=m) hu hi eK (by rw[hsz];exact hsrc) hc;have qj:xs.length*sz+news.size<=vs.size:=by
    rw[lE,<-Nat.add_mul];exact Nat.le_trans (Nat.mul_le_mul_right _ hc) h6
   obtain⟨vs',k1,k2⟩:=X6D (P:=P) b e' fr vs.size h5 news.toList (xs.length*sz) 0 vs w h4 rfl (by simpa using qj) (fun u sg=>by
    obtain⟨j,hj,rfl⟩:=getElem_of_mem sg;have hjl:j<ys.flatten.length:=by grind
    obtain⟨_,cM⟩:=X6p hnews;obtain⟨u,gT,g9⟩:=cM j _ (getElem?_eq_getElem hjl)
    grind [D.rep_one])
   simp only[Nat.add_zero,Array.length_toList] at k2;simp only at hr;rw[show (⟨b,0,none⟩:Addr).add (xs.length*i.size)=⟨b,xs.length*sz,none⟩ by grind [Vf]] at hr;simp only[k1,Result.andThen_ok] at hr;have cL:vs'.size=vs.size:=by
    have:=CG length k2;simp at this;omega
   have hlv:Xw g (S.obj γ) γ b:=by rw[hL];exact⟨_,_,_,h1,rfl⟩
   have:=fin (some ⟨b,0,none⟩) cap b cap vs' e' fr (w.setRow b vs') h1 (by grind)
    (fun k hk hne=>setRow_other w b k vs' (fun e=>hne (by rw[e];exact hlv))) (by simp) rfl rfl (setRow_heap w b vs _ e' fr h4) (by rw[cL];exact h5) hc h3 (by rw[cL];exact h6)
    (by
     grind [Nat.add_mul,Xat]) (.inl hlv)
   grind
  ·have hr:=XcF (P:=P) (w:=w) (T:=T) (T2:=T2) (ty:=ty) (base:=some ⟨b,0,none⟩) (n:=xs.length) (cap:=cap) (x:=x) (olds:=(vs.toList.take (xs.length*sz)).toArray) (news:=news) (m:=m) hu hi hz eK (by rw[fM];exact hb0)
    (by rw[hsz];exact hsrc) og hc (fN cap (by omega))
   obtain⟨c1,c2⟩:=X9G (xs.length+m) cap e (w.tape w.drawn (.appendCap (xs.length+m) cap e)) cU;revert hr c1 c2;generalize (Question.appendCap (xs.length+m) cap e).cut (w.tape w.drawn (.appendCap (xs.length+m) cap e))=nc;intro hr c1 c2
   have:=fin (some ⟨b,0,none⟩) cap w.heap.size nc ((vs.toList.take (xs.length*sz)).toArray++news++Builtin.zeroCells z.cells (nc-(xs.length+m))) e (0,0) _ h1 (.inr (by omega))
    (fun k hk _=>X4K w.drew _ k hk) (X6M w.drew _) rfl rfl (heap_alloc_new w.drew _) (X6i _) c1 c2
    (by
     have:((vs.toList.take (xs.length*sz)).toArray++news++Builtin.zeroCells z.cells (nc-(xs.length+m))).size=nc*sz:=by
      rw[Array.size_append,Array.size_append,X6T,lE,hzs,size_toArray,jd,<-Nat.add_mul,<-Nat.add_mul];congr 1;omega
     omega)
    (by
     grind [Nat.add_mul,Xat]) (.inr (Nat.le_refl _))
   grind
theorem X97 (hi:Inv E L g w) {sz:Nat}{ys:List (List D)}{x:Value} (h:(D.sl sz ys).rep g.M x):
  ∃news,Src P w sz x ys.length news/\Xx g (ys.flatten.map .d) news.toList/\(ys=[]\/∀y∈ys,y.length=sz):=by
 simp only[D.rep] at h;obtain⟨a,cap,rfl,h2,h3,h4⟩:=h;rcases h4 with rfl|⟨b,o,rfl,hr⟩
 ·refine⟨#[],⟨fun w' _=>⟨by simp[Builtin.lenOf],?_⟩,by simp⟩,by simp[Xx],.inl rfl⟩;cases a<;>simp_all [Builtin.firstCells,loadCells,loadCellsFrom]
 ·obtain⟨vs,k1,k2,k3⟩:=Xaf hi.mem ys b o hr;have hl:∀y∈ys,y.length=sz:=fun y hy=>by
   obtain⟨i,hi⟩:=getElem?_of_mem hy;exact(X63 ys b o i y hr hi).1
  refine⟨vs.toArray,⟨fun w' hw'=>⟨by simp[Builtin.lenOf],?_⟩,by simp[k1]⟩,?_,.inr hl⟩<;>grind [run_loadCells_list,Vf,World.cell?,Builtin.firstCells,X3B,X25,AVal.sat]
section
variable {P:Program}{ops:Array Oper}{draw:Bool}{K:XW->St->Prop}{rest:List Oper}{l:XW}{S:St}
variable {d:Nat}{ty:TypeId}{pos:String}{ah:Array Edge}{gd:Option (Nat×Bool)}
theorem X3Y (h:(AVal.own γ n).sat g v) {sz:Nat}{xs:List (List D)}{w:World} (ho:Ub g w γ (.row sz xs)) (hn:n=xs.length):v=g.hd γ:=by
 simp only[AVal.sat] at h;obtain⟨_,a,m,c,h1,h2,h3⟩:=h;have:g.hd γ= .slice a n c:=by
  rcases ho.2 with ⟨e,rfl⟩|⟨b,cap,vs,e',fr,e,_⟩<;>grind
 grind
theorem X6Y {ρ:Operand->Value}{T T2:TypeId}{o:Oper} (ho:o.op= .call ⟨.builtin .append,#[x,y],#[T,T2]⟩)
  (h:(Builtin.append_ #[T,T2] o.type #[ρ x,ρ y]).run P w= .ok v w'):(execOp ρ o).run P w= .ok (.value v) w':=by
 simp[execOp,ho,resolve,invoke,builtin,h]
theorem Xp3 {T T2:TypeId}{ys:List (List D)} (hx:S.ev x= .own γ n) (hL:S.obj γ= .row sz xs) (hy:S.ev y= .d (.sl sz ys)) (hn:n=xs.length)
  (hB:elB P T=bytes) (hT:X1b P T sz bytes=true) (bN:X4b P T2=true) (hb0:Nat.beq bytes 0=false) (hroom:(xs.length+ys.length)*bytes<=140737488355328)
  (hd:Nat.blt d S.n=true) (hg:XH ops S gd)
  (h:Walk P ops draw K rest ((l.length,⟨some d,.call ⟨.builtin .append,#[x,y],#[T,T2]⟩,ty,pos,ah,gd⟩,⟨XF ops gd++[(x,.own γ n),(y,.d (.sl sz ys))],some (d,.own γ (xs.length+ys.length)),[(γ,.row sz xs)],[(γ,.row sz (xs++ys))],[]⟩)::l)
   ((S.set d (.own γ (xs.length+ys.length))).own γ (.row sz (xs++ys)))):
  Walk P ops draw K (⟨some d,.call ⟨.builtin .append,#[x,y],#[T,T2]⟩,ty,pos,ah,gd⟩::rest) l S:=
 Yj h hg (X3e rfl fun E S g a w hs hq hl gU=>by
  have ho:=hs.1.obj γ;rw[hl.1] at ho;have hv:=X3Y hq.1 ho hn;have jJ:(D.sl sz ys).rep g.M (a.eval y):=by grind [AVal.sat,VD]
  obtain⟨news,k1,k2,k3⟩:=X97 (P:=P) hs.1 jJ;have cy:∀r∈ys,r.length=sz:=by grind
  obtain⟨v,g',w',r1,r2,r3,r4⟩:=Xhu hs hl.1 (ty:=ty) hT bN (X5d hb0) k1 rfl cy k2 (by simpa using hroom)
  grind [X6Y]) ⟨⟨hx,hy,TV⟩,⟨hL,TV⟩,TV,hd⟩
theorem Xwi {T:TypeId} (hx:S.ev x= .d (.sl sz xs)) (hT:cm P T=true)
  (hd:Nat.blt d S.n=true) (hg:XH ops S gd)
  (h:Walk P ops draw K rest ((l.length,⟨some d,.call ⟨.builtin .len,#[x],#[T]⟩,ty,pos,ah,gd⟩,⟨XF ops gd++[(x,.d (.sl sz xs))],some (d,ai xs.length),[],[],[]⟩)::l) (S.set d (ai xs.length))):
  Walk P ops draw K (⟨some d,.call ⟨.builtin .len,#[x],#[T]⟩,ty,pos,ah,gd⟩::rest) l S:=
 Yj h hg (Ug rfl fun E S g a w hs hq hl=>by
  obtain⟨e,h1⟩:=X5k hT;have:=hq.1;simp only[AVal.sat,D.rep] at this;obtain⟨b,cap,hv,_⟩:=this;refine⟨.int .i64 xs.length,?_,X02 rfl⟩;simp[execOp,resolve,invoke,builtin,hv,Builtin.len_,run_underlying h1,goInt]) ⟨⟨hx,TV⟩,TV,TV,hd⟩
theorem XvI {T:TypeId} (hx:S.ev x= .own γ n) (hL:S.obj γ= .row sz xs) (hn:n=xs.length) (hT:cm P T=true)
  (hd:Nat.blt d S.n=true) (hg:XH ops S gd)
  (h:Walk P ops draw K rest ((l.length,⟨some d,.call ⟨.builtin .len,#[x],#[T]⟩,ty,pos,ah,gd⟩,⟨XF ops gd++[(x,.own γ n)],some (d,ai xs.length),[(γ,.row sz xs)],[],[]⟩)::l) (S.set d (ai xs.length))):
  Walk P ops draw K (⟨some d,.call ⟨.builtin .len,#[x],#[T]⟩,ty,pos,ah,gd⟩::rest) l S:=
 Yj h hg (Ug rfl fun E S g a w hs hq hl=>by
  obtain⟨e,h1⟩:=X5k hT;have ho:=hs.1.obj γ;rw[hl.1] at ho;have hv:=X3Y hq.1 ho hn;have dr:∃b c,a.eval x= .slice b xs.length c:=by
   rw[hv];rcases ho.2 with ⟨e,rfl⟩|⟨b,cap,vs,e',fr,e,_⟩<;>simp_all
  obtain⟨b,c,dr⟩:=dr;refine⟨.int .i64 xs.length,?_,X02 rfl⟩;simp[execOp,resolve,invoke,builtin,dr,Builtin.len_,run_underlying h1,goInt]) ⟨⟨hx,TV⟩,⟨hL,TV⟩,TV,hd⟩
def X8V (P:Program) (t:TypeId):Bool:=match P.underlying t with|some .string=>true|_=>false
theorem Xdb {t:TypeId} (h:X8V P t=true):P.underlying t=some .string:=by
 grind [X8V]
theorem Xx3 {T:TypeId}{s:ByteArray} (hx:S.ev x=aZ s) (hT:X8V P T=true)
  (hd:Nat.blt d S.n=true) (hg:XH ops S gd)
  (h:Walk P ops draw K rest ((l.length,⟨some d,.call ⟨.builtin .len,#[x],#[T]⟩,ty,pos,ah,gd⟩,⟨XF ops gd++[(x,aZ s)],some (d,ai s.size),[],[],[]⟩)::l) (S.set d (ai s.size))):
  Walk P ops draw K (⟨some d,.call ⟨.builtin .len,#[x],#[T]⟩,ty,pos,ah,gd⟩::rest) l S:=
 Yj h hg (Ug rfl fun E S g a w hs hq hl=>by
  refine⟨.int .i64 s.size,?_,X02 rfl⟩;simp[execOp,resolve,invoke,builtin,Up hq.1,Builtin.len_,run_underlying (Xdb hT),goInt]) ⟨⟨hx,TV⟩,TV,TV,hd⟩
theorem XoK {i:Operand}{T:TypeId}{k:Nat}{kd:IntKind}{n:Int}{r:List D} (hx:S.ev x= .d (.sl sz xs)) (hi:S.ev i= .d (.v (.int kd n))) (hk:n=(k:Nat)) (hr:xs[k]? =some r)
  (hT:UF P T sz=true) (hd:Nat.blt d S.n=true) (hg:XH ops S gd)
  (h:Walk P ops draw K rest ((l.length,⟨some d,.indexAddr T x i,ty,pos,ah,gd⟩,⟨XF ops gd++[(x,.d (.sl sz xs)),(i,.d (.v (.int kd n)))],some (d,.dptr r),[],[],[]⟩)::l) (S.set d (.dptr r))):
  Walk P ops draw K (⟨some d,.indexAddr T x i,ty,pos,ah,gd⟩::rest) l S:=
 Yj h hg (Ug rfl fun E S g a w hs hq hl=>by
  obtain⟨e,h1,h2,h3⟩:=X1K hT;have hlt:k<xs.length:=(GS.1 hr).1;have hx':=hq.1;simp only[AVal.sat,D.rep] at hx';obtain⟨b,cap,hv,_,_,hrows⟩:=hx';rcases hrows with rfl|⟨b',o,rfl,hrows⟩
  ·simp at hlt
  ·obtain⟨q1,q2⟩:=X63 xs b' o k r hrows hr;refine⟨.pointer (some ⟨b',o+k*sz,none⟩),?_,by grind [AVal.sat]⟩;have hb:(0:Int)<=n/\n<(xs.length:Int):=by omega
   have hn:n.toNat=k:=by omega
   have:=run_indexAt_slice (P:=P) w T ⟨b',o,none⟩ xs.length cap kd n (by rw[h3];exact h1);rw[PI hb,h3,h2 w,Result.andThen_ok,Vf,hn] at this;simp only[execOp,hv,Up hq.2.1,Sem.run_bind,this];rfl) ⟨⟨hx,hi,TV⟩,TV,TV,hd⟩
end
def Vw (g:Gh) (w:World) (Li:List (Nat×AObj)):Env:=
 {W:=w,M:=g.M,A:=fun b=> ∃γ,Xw g (Xp .dead Li γ) γ b,g0:=g}
def Con (P:Program) (f:FuncId) (Li:List (Nat×AObj)) (args:List AVal) (Lo:List (Nat×AObj)) (res:AVal):Prop:=
 ∀(g:Gh) (w:World) (vs:List Value),Inv (Vw g w Li) (Xp .dead Li) g w->Xx g args vs->
  Calls P f vs.toArray w fun e w'=> ∃v g',e= .returned v/\res.sat g' v/\Inv {Vw g w Li with g0:=g'} (Xp .dead Lo) g' w'/\∀γ,Ya γ Li=true->g.keeps g' γ
theorem Inv.free {g0:Gh} (hi:Inv E L g w) (h:∀γ,γ<100->g0.keeps g γ):Inv {E with g0:=g0} L g w:=
 ⟨hi.obj,hi.inj,hi.mem,hi.sep,hi.new,hi.ext,hi.lim,hi.frame,hi.size,hi.os,hi.out,h⟩
theorem Inv.sub (hi:Inv E L g w) (h:∀γ,L' γ=L γ\/L' γ= .dead):Inv E L' g w:=by
 have hl:∀γ b,Xw g (L' γ) γ b->Xw g (L γ) γ b:=by
  grind [Xw]
 refine⟨fun γ=> ?_,fun γ γ' b k k'=>hi.inj γ γ' b (hl _ _ k) (hl _ _ k'),hi.mem,fun γ b k=>hi.sep γ b (hl _ _ k),fun γ b k=>hi.new γ b (hl _ _ k),hi.ext,hi.lim,hi.frame,hi.size,hi.os,hi.out,hi.kp⟩;rcases h γ with e|e
 ·rw[e];exact hi.obj γ
 ·rw[e];trivial
def X9Q:Nat->List AVal->List (Nat×AVal)
 |_,[]=>[]
 |i,x::r=>(i,x)::X9Q (i+1) r
theorem Xbp:∀(l:List AVal) (i t:Nat),Xp .any (X9Q i l) t=if i<=t then (l[t-i]?).getD .any else .any
 |[],i,t=>by simp[X9Q,Xp]
 |x::r,i,t=>by
  simp only[X9Q,Xp];by_cases h:i=t
  ·subst h;simp
  ·have hb:Nat.beq i t=false:=by
    cases hb:Nat.beq i t with
    |false=>rfl
    |true=>exact absurd (Nat.eq_of_beq_eq_true hb) h
   rw[hb,cond_false,Xbp r (i+1) t];by_cases h1:i<=t
   ·rw[PI (by omega),PI h1,show t-i=(t-(i+1))+1 by omega,getElem?_cons_succ]
   ·rw[NI (by omega),NI h1]
def X2G (n:Nat) (args:List AVal) (Li:List (Nat×AObj)):St:=⟨n,X9Q 0 args,Li⟩
def X5h (P:Program) (S:St) (rv:ResultVar) (x:AVal):Prop:=
 match rv with
 | .tmp t=>S.get t=x
 | .cell t ty=> ∃γ o cs,S.get t= .ptr γ o/\S.obj γ= .box cs/\
   ((X1g P ty false 1=true/\cs[o]? =some x)\/∃sz ys,X1g P ty true sz=true/\(cs.drop o).take sz=ys/\Nat.beq ys.length sz=true/\x= .agg ys)
def X8x (P:Program) (S:St):List ResultVar->List AVal->Prop
 |[],[]=>True
 |r::rs,x::xs=>X5h P S r x/\X8x P S rs xs
 |_,_=>False
def X5T:List AVal->AVal
 |[x]=>x
 |xs=> .tup xs
def X8l (tmps:Array Value):ResultVar->Sem Value
 | .tmp t=>pure (tmps.getD t undef)
 | .cell t ty=>do loadVar ty (<-asAddr (tmps.getD t undef))
theorem XnR (fn:Func) (tmps:Array Value):results fn tmps=(do
  let vs <-fn.results.mapM (X8l tmps)
  pure (if h:vs.size=1 then vs[0] else .tuple vs)):=rfl
theorem XtU {a:Act} (hs:Vi E S g a w) {rv:ResultVar}{x:AVal} (h:X5h P S rv x):
  ∃v,(X8l a.tmps rv).run P w= .ok v w/\x.sat g v:=by
 cases rv with
 |tmp t=>exact⟨_,rfl,by grind [Vi,X5h]⟩
 |cell t ty=>
  obtain⟨γ,o,cs,h1,h2,h3⟩:=h;have hp:=hs.2.2.2 t;rw[h1] at hp;simp only[AVal.sat] at hp;have ho:=hs.1.obj γ;rw[h2] at ho;obtain⟨vs,e,fr,k1,k2,k3,k4⟩:=ho;rcases h3 with ⟨ht,hy⟩|⟨sz,ys,ht,hy,hlen,rfl⟩
  ·grind [VQ,cell_of_row,X8l,asAddr,X7S]
  ·have hsub:=X3g (X4g k3 o) sz;rw[hy] at hsub;have b7:=US hsub;have bM:ys.length=sz:=Nat.eq_of_beq_eq_true hlen;have:=X8B (P:=P) (p:=⟨g.az γ,o,none⟩) (w:=w) (vs:=(vs.toList.drop o).take sz) (t:=ty) (by grind) (fun j v hv=>by
    grind [Vf,cell_of_row])
   grind [X8l,asAddr,AVal.sat]
theorem Xna {a:Act} (hs:Vi E S g a w):∀(rs:List ResultVar) (xs:List AVal),X8x P S rs xs->
  ∃vs:List Value,(rs.mapM (X8l a.tmps):Sem (List Value)).run P w= .ok vs w/\Xx g xs vs
 |[],[],_=>⟨[],by simp,by simp only[Xx]⟩
 |[],_::_,h=>h.elim
 |_::_,[],h=>h.elim
 |r::rs,x::xs,h=>by
  obtain⟨v,k1,k2⟩:=XtU hs h.1;obtain⟨vs,k3,k4⟩:=Xna hs rs xs h.2;refine⟨v::vs,?_,by simp only[Xx];exact⟨k2,k4⟩⟩;rw[mapM_cons];simp only[Sem.run_bind,k1,k3,Result.andThen_ok,Sem.run_pure]
theorem Xc6 {a:Act} (hs:Vi E S g a w) {fn:Func}{rs:List ResultVar}{xs:List AVal} (hr:fn.results.toList=rs) (h:X8x P S rs xs):
  ∃v,(results fn a.tmps).run P w= .ok v w/\(X5T xs).sat g v:=by
 obtain⟨vs,k1,k2⟩:=Xna hs rs xs h;have e:(fn.results.mapM (X8l a.tmps):Sem (Array Value)).run P w= .ok vs.toArray w:=by
  simp_all [Array.mapM_eq_mapM_toList]
 have hl:=US k2;rw[XnR,Sem.run_bind,e];simp only[Result.andThen_ok,Sem.run_pure];refine⟨_,rfl,?_⟩;cases vs with
 |nil=>
  grind [X5T,AVal.sat]
 |cons v vs=>
  cases vs with
  |nil=>
   match xs,hl,k2 with
   |[x],_,k2=>
    grind [X5T,Xx]
  |cons v' vs=>
   match xs,hl,k2 with
   |x::y::xs,_,k2=>
    grind [X5T,AVal.sat]
def X7d (Lo:List (Nat×AObj)) (T:St):Prop:=∀γ,Xp .dead Lo γ=T.obj γ\/Xp .dead Lo γ= .dead
theorem X4 (T:St):X7d [] T:=fun γ=> .inr rfl
variable{Lo:List (Nat×AObj)}
theorem Xj (h:Vq T Lo):X7d Lo T:=by
 intro γ;rcases Xe6 AObj.dead Lo γ with e|⟨p,hp,e⟩
 ·exact .inr e
 ·by_cases hk:Ya γ Lo=true
  ·clear hp e p;induction Lo<;>grind [Ya,Nat.eq_of_beq_eq_true,Xp,Vq]
  ·right;have:∀(l:List (Nat×AObj)),¬Ya γ l=true->Xp .dead l γ= .dead:=by
    intro l hl;induction l<;>grind [Ya,Xp]
   exact this Lo hk
def Xa (P:Program) (rs:List ResultVar) (Lo:List (Nat×AObj)) (xs:List AVal) (T:St):Prop:=
 ∃U,T.le U/\X8x P U rs xs/\X7d Lo U
def X5o:List (Nat×AObj)->Bool
 |[]=>true
 |p::r=>Nat.blt p.1 100&&X5o r
theorem X9A:∀(l:List (Nat×AObj)) (γ:Nat),X5o l=true->Ya γ l=true->γ<100
 |[],_,_,h=>by simp[Ya] at h
 |p::r,γ,h,hk=>by
  simp only[X5o,Bool.and_eq_true] at h;simp only[Ya,Bool.or_eq_true] at hk;rcases hk with e|e
  ·simp_all
  ·exact X9A r γ h.2 e
variable{Li:List (Nat×AObj)}
theorem X0I {f:FuncId}{fn:Func}{c:Code}{rs:List ResultVar}{args xs:List AVal} (hf:P.funcs[f]? =some fn) (hb:fn.body=some c) (hn:fn.ntmps=n) (hr:fn.results.toList=rs)
  (hle:Nat.ble args.length n=true) (aN:X5o Li=true)
  (h:∀E,AWP P E c (X2G n args Li) (Xfb (Xa P rs Lo xs))):Con P f Li args Lo (X5T xs):=by
 intro g w vs hi hs;have hl:=US hs;refine calls_of_wp hf hb ?_;have hstart:holds (Vw g w Li) (X2G n args Li) {tmps:=vs.toArray++Array.replicate (fn.ntmps-vs.toArray.size) undef,defers:=[]} w:=by
  refine⟨g,hi,rfl,?_,fun t=> ?_⟩
  ·simp_all [X2G]
  ·show AVal.sat g (Xp _ _ _) _;simp only[X2G];rw[Xbp];simp only[Nat.zero_le,if_true,Nat.sub_zero];cases hx:args[t]? with
   |none=>simp[AVal.sat]
   |some x=>
    obtain⟨u,hu,g8⟩:=VQ hs t x hx;have hlt:t<vs.length:=(GS.1 hu).1;have:(vs.toArray++Array.replicate (fn.ntmps-vs.toArray.size) undef).getD t undef=u:=by
     simp_all [Array.getElem?_append_left]
    rw[this];exact g8
 refine wp_mono ((h (Vw g w Li)).run _ w hstart) ?_;rintro e a' w' ⟨T,hq,ht⟩;have fin:Xa P rs Lo xs T->a'.defers=[]/\∃v,(results fn a'.tmps).run P w'= .ok v w'/\∃v' g',Ending.returned v= .returned v'/\(X5T xs).sat g' v'/\Inv {Vw g w Li with g0:=g'} (Xp .dead Lo) g' w'/\∀γ,Ya γ Li=true->g.keeps g' γ:=by
  rintro⟨U,hU,hres,hsub⟩;obtain⟨g',hg'⟩:=hU _ _ _ ht;obtain⟨v,r1,r2⟩:=Xc6 hg' hr hres;exact⟨hg'.2.1,v,r1,v,g',rfl,r2,(hg'.1.sub hsub).free (fun γ _=>Gh.keeps_refl _ _),fun γ aQ=>hg'.1.kp γ (X9A Li γ aN aQ)⟩
 cases e with
 |normal=>exact fin hq
 |ret=>exact fin hq
 |_=>exact hq.elim
mutual
def AVal.within (Lo:List (Nat×AObj)):AVal->Bool
 | .ptr k _=>Ya k Lo
 | .own k _=>Ya k Lo
 | .rptr k _ _=>Ya k Lo
 | .inn k _=>Ya k Lo
 | .bsl k _=>Ya k Lo
 | .rs k _ _ _=>Ya k Lo
 | .mptr k _ _=>Ya k Lo
 | .cut k _ _ _=>Ya k Lo
 | .agg cs=>X6a Lo cs
 | .tup cs=>X6a Lo cs
 | .fn _ cs=>X6a Lo cs
 | .any=>true
 | .d _=>true
 | .dptr _=>true
 | .dx _ _=>true
 | .bq _ _=>true
def X6a (Lo:List (Nat×AObj)):List AVal->Bool
 |[]=>true
 |x::r=>x.within Lo&&X6a Lo r
end
mutual
theorem AVal.within_spec:∀(x:AVal),x.within Lo=true->x.ment γ=true->Ya γ Lo=true
 | .ptr k o,h,hm=>by grind [AVal.ment,Nat.eq_of_beq_eq_true,AVal.within]
 | .own k o,h,hm=>by grind [AVal.ment,Nat.eq_of_beq_eq_true,AVal.within]
 | .rptr k _ o,h,hm=>by grind [AVal.ment,Nat.eq_of_beq_eq_true,AVal.within]
 | .bsl k _,h,hm=>by grind [AVal.ment,Nat.eq_of_beq_eq_true,AVal.within]
 | .rs k _ _ _,h,hm=>by grind [AVal.ment,Nat.eq_of_beq_eq_true,AVal.within]
 | .inn k _,h,hm=>by grind [AVal.ment,Nat.eq_of_beq_eq_true,AVal.within]
 | .mptr k _ _,h,hm=>by grind [AVal.ment,Nat.eq_of_beq_eq_true,AVal.within]
 | .cut k _ _ _,h,hm=>by grind [AVal.ment,Nat.eq_of_beq_eq_true,AVal.within]
 | .agg cs,h,hm=>X9u cs (by grind [AVal.within]) (by grind [AVal.ment])
 | .tup cs,h,hm=>X9u cs (by grind [AVal.within]) (by grind [AVal.ment])
 | .fn _ cs,h,hm=>X9u cs (by grind [AVal.within]) (by grind [AVal.ment])
 | .any,_,hm=>by grind [AVal.ment]
 | .d _,_,hm=>by grind [AVal.ment]
 | .dptr _,_,hm=>by grind [AVal.ment]
 | .dx _ _,_,hm=>by grind [AVal.ment]
 | .bq _ _,_,hm=>by grind [AVal.ment]
theorem X9u:∀(xs:List AVal),X6a Lo xs=true->X0l γ xs=true->Ya γ Lo=true
 |[],_,hm=>by simp[X0l] at hm
 |x::r,h,hm=>by
  simp only[X6a,Bool.and_eq_true] at h;simp only[X0l,Bool.or_eq_true] at hm;exact hm.elim (AVal.within_spec x h.1) (X9u r h.2)
end
def X4k (Lo:List (Nat×AObj)):List (Nat×AObj)->Bool
 |[]=>true
 |p::r=>X6a Lo p.2.says&&X4k Lo r
theorem Xh3:∀(l:List (Nat×AObj)),X4k Lo l=true->∀(k:Nat) (x:AObj),(k,x)∈l->X6a Lo x.says=true
 |[],_,_,_,h=>by simp at h
 |p::r,h,k,x,hm=>by
  simp only[X4k,Bool.and_eq_true] at h;rcases mem_cons.1 hm with e|hm
  ·cases e;exact h.1
  ·exact Xh3 r h.2 k x hm
def X4A (Li Lo:List (Nat×AObj)):Bool:=
 match Li with
 |[]=>true
 |p::r=>Ya p.1 Lo&&X4A r Lo
theorem Xl6:∀(Li:List (Nat×AObj)),X4A Li Lo=true->Ya γ Li=true->Ya γ Lo=true
 |[],_,h=>by simp[Ya] at h
 |p::r,h,hk=>by
  simp only[X4A,Bool.and_eq_true] at h;simp only[Ya,Bool.or_eq_true] at hk;rcases hk with e|e
  ·rw[<-Nat.eq_of_beq_eq_true e];exact h.1
  ·exact Xl6 r h.2 e
def X0f (Li:List (Nat×AObj)):List (Nat×AObj)->List Nat
 |[]=>[]
 |p::r=>bif Ya p.1 Li then X0f Li r else p.1::X0f Li r
theorem X9N:∀(Lo:List (Nat×AObj)),Ya γ Lo=true->Ya γ Li=false->γ∈X0f Li Lo
 |[],h,_=>by simp[Ya] at h
 |p::r,h,hk=>by
  simp only[Ya,Bool.or_eq_true] at h;simp only[X0f];rcases h with e|e
  ·have:=Nat.eq_of_beq_eq_true e;subst this;simp[hk]
  ·cases Ya p.1 Li with
   |true=>exact X9N r e hk
   |false=>exact mem_cons_of_mem _ (X9N r e hk)
def X48:List Nat->List (Nat×AObj)
 |[]=>[]
 |k::r=>(k,.dead)::X48 r
theorem Xel {α:Type} (z:α) (γ:Nat):∀(l:List (Nat×α)),Ya γ l=false->Xp z l γ=z
 |[],_=>rfl
 |(k,x)::r,h=>by
  simp only[Ya,Bool.or_eq_false_iff] at h;simp only[Xp,h.1,cond_false];exact Xel z γ r h.2
theorem XeN {α:Type} (z:α) (γ:Nat):∀(l:List (Nat×α)),Ya γ l=true->(γ,Xp z l γ)∈l
 |[],h=>by simp[Ya] at h
 |(k,x)::r,h=>by
  by_cases hk:k=γ
  ·subst hk;rw[YE];simp
  ·rw[Yz z x r hk];simp only[Ya,Bool.or_eq_true] at h;exact mem_cons_of_mem _ (XeN z γ r (h.resolve_left fun e=>hk (Nat.eq_of_beq_eq_true e)))
def Gh.join (g g':Gh) (Lo:List (Nat×AObj)):Gh:=
 {az:=fun k=>if Ya k Lo then g'.az k else g.az k,hd:=fun k=>if Ya k Lo then g'.hd k else g.hd k,aG:=fun k=>if Ya k Lo then g'.aG k else g.aG k,M:=g'.M}
theorem Xfg (hi:Inv E S.obj g w) {Li Lo:List (Nat×AObj)} (bH:Vq S Li) (hin:X4A Li Lo=true) (dM:X4k Lo Lo=true)
  (hnew:X2R S (X0f Li Lo)) (av:Vq S (X48 (X0f Li Lo))) (hc:Inv {Vw g w Li with g0:=g'} (Xp .dead Lo) g' w') (hk:∀γ,Ya γ Li=true->g.keeps g' γ):
  Inv E (Xp .dead (Lo++S.L)) (g.join g' Lo) w'/\(∀x u,x.within Lo=true->AVal.sat g' x u->AVal.sat (g.join g' Lo) x u)/\(∀t u,AVal.sat g (S.get t) u->AVal.sat (g.join g' Lo) (S.get t) u):=by
 rw[X7s] at hnew;rw[X6d] at av;have rZ:X7d Li S:=Xj bH;have hM:YH g.M g'.M:=hc.ext;have hA:∀b,(Vw g w Li).A b->∃γ,Ya γ Li=true/\Xw g (S.obj γ) γ b:=by
  grind [Xel,Vw,Xw,X7d]
 have dN:∀k,Xp .dead (Lo++S.L) k=if Ya k Lo then Xp .dead Lo k else S.obj k:=fun k=>X72 _ _ _ _
 have dB:∀k,Ya k Lo=true->g'.keeps (g.join g' Lo) k:=fun k h=>Gh.keeps_of (by simp[Gh.join,h]) (by simp[Gh.join,h]) (by simp[Gh.join,h]);have sj:∀k,(Ya k Lo=true->Ya k Li=true)->g.keeps (g.join g' Lo) k:=by
  grind [Gh.keeps_of,Gh.join,Gh.keeps]
 have oh:∀x u,x.within Lo=true->AVal.sat g' x u->AVal.sat (g.join g' Lo) x u:=
  fun x u hx h=>AVal.sat_mono (g:=g') (g':=g.join g' Lo) (YH.refl _) x u (fun γ hm=>dB γ (AVal.within_spec x hx hm)) h
 have sk:∀k x,(∀γ∈X0f Li Lo,AVal.ment γ x=false)->AVal.ment k x=true->g.keeps (g.join g' Lo) k:=by
  grind [X9N]
 have mI:∀k xs,(∀γ∈X0f Li Lo,X0l γ xs=false)->X0l k xs=true->g.keeps (g.join g' Lo) k:=by
  grind [X9N]
 have je:∀k b,Ya k Lo=true->(Xw (g.join g' Lo) (Xp .dead (Lo++S.L) k) k b↔Xw g' (Xp .dead Lo k) k b):=by
  intro k b h;rw[dN,PI h]
  grind [X55,Gh.join]
 have jf:∀k b,Ya k Lo=false->(Xw (g.join g' Lo) (Xp .dead (Lo++S.L) k) k b↔Xw g (S.obj k) k b):=by
  intro k b h;rw[dN,NI (by simp[h])]
  grind [X55,Gh.join]
 have om:∀k b,Ya k Lo=false->Xw g (S.obj k) k b->¬(Vw g w Li).A b:=by
  intro k b aE hb mJ;obtain⟨γ,h1,h2⟩:=hA b mJ;have:=hi.inj _ _ _ hb h2
  grind [Xl6]
 have b9:∀k b,Ya k Lo=false->Xw g (S.obj k) k b->w'.heap[b]? =w.heap[b]? :=fun k b aE hb=>
  hc.frame b (X4E hi hb) (om k b aE hb)
 refine⟨⟨fun k=> ?_,fun k k' b h h'=> ?_,hc.mem,fun k b h a v ha=> ?_,fun k b h=> ?_,hi.ext.trans hM,fun a v ha=> ?_,fun b hb mJ=> ?_,Nat.le_trans hi.size hc.size,hc.os.trans hi.os,hc.out.trans hi.out,fun k gx=> ?_⟩,oh,fun t u h=> ?_⟩
 ·cases aE:Ya k Lo with
  |true=>
   rw[dN,PI aE];have hmem:=XeN AObj.dead k Lo aE;refine X8k (g:=g') (g':=g.join g' Lo) (YH.refl _) (by simp[Gh.join,aE]) (by simp[Gh.join,aE]) (by simp[Gh.join,aE]) (fun _ _=>rfl) (fun cs us e h=> ?_) (hc.obj k);have hwi:=Xh3 Lo dM k _ hmem
   grind [X1R,X9u,Gh.join,YH]
  |false=>
   rw[dN,NI (by simp[aE])];refine X8k (g:=g) (g':=g.join g' Lo) hM (by simp[Gh.join,aE]) (by simp[Gh.join,aE]) (by simp[Gh.join,aE]) (fun b hb=>b9 k b aE hb) (fun cs us e h=> ?_) (hi.obj k);refine X1R (g:=g) (g':=g.join g' Lo) hM _ _ (fun γ hm=>mI γ cs (fun γ' nO=> ?_) hm) h;have:=Xc0 (hnew γ' nO) k
   grind [AObj.ment]
 ·cases aE:Ya k Lo with
  |true=>
   rw[je k _ aE] at h;cases g6:Ya k' Lo with
   |true=>rw[je k' _ g6] at h';exact hc.inj _ _ _ h h'
   |false=>
    rw[jf k' _ g6] at h';exfalso;rcases hc.new k b h with h1|h1<;>grind [X4E,Vw]
  |false=>
   rw[jf k _ aE] at h;cases g6:Ya k' Lo with
   |false=>rw[jf k' _ g6] at h';exact hi.inj _ _ _ h h'
   |true=>
    rw[je k' _ g6] at h';exfalso;rcases hc.new k' b h' with h1|h1<;>grind [X4E,Vw]
 ·cases aE:Ya k Lo with
  |true=>rw[je k _ aE] at h;exact hc.sep k b h a v ha
  |false=>
   rw[jf k _ aE] at h;intro e;rcases hc.lim a v ha with ⟨v',h1⟩|h1|h1
   ·exact hi.sep k b h a v' h1 e
   ·grind [X4E,Vw]
   grind
 ·cases aE:Ya k Lo with
  |true=>
   rw[je k _ aE] at h;rcases hc.new k b h with h1|h1
   ·have h1:w.heap.size<=b:=h1;have:=hi.size;exact .inl (by omega)
   ·obtain⟨γ,_,h2⟩:=hA b h1;exact hi.new γ b h2
  |false=>rw[jf k _ aE] at h;exact hi.new k b h
 ·rcases hc.lim a v ha with ⟨v',h1⟩|h1|h1
  ·exact hi.lim a v' h1
  ·have h1:w.heap.size<=a.block:=h1;have:=hi.size;omega
  ·obtain⟨γ,_,h2⟩:=hA _ h1;exact .inr (hi.new γ _ h2)
 ·have hs:=hi.size;rw[hc.frame b (by grind [Vw]) (fun ql=>by
   obtain⟨γ,_,h2⟩:=hA b ql;exact(hi.new γ b h2).elim (fun h=>by omega) mJ)]
  exact hi.frame b hb mJ
 ·refine(hi.kp k gx).trans' (sj k fun aE=> ?_);cases jK:Ya k Li with
  |true=>rfl
  |false=>
   have:=hnew k (X9N Lo aE jK)
   grind [St.free,Nat.ble_eq]
 grind [AVal.sat_mono,Xlk,Gh.join]
end Go.Fw
