/- A small separation calculus over the model: immutable data, owned boxes and rows. First part: data, abstract values, the invariant. -/
import Derived.Calls
import Derived.Orders
import Derived.Laws.Entries
import Derived.Laws.Rows
import Derived.RowKit3
namespace Go.Fw
open Go
abbrev Mem:=Addr→Option Value
inductive D where
 |v (x:Value)
 |sl (sz:Nat) (xs:List (List D))
mutual
def D.rep (M:Mem):D→Value→Prop
 | .v x,u=>u=x∧x.oneCell'=true
 | .sl sz xs,u=> ∃(a:Option Addr) (cap:Nat),u= .slice a xs.length cap∧xs.length≤cap∧cap≤maxLen∧
   (xs=[]∨∃b o,a=some ⟨b,o,none⟩∧Vp M sz xs b o)
def UK (M:Mem):List D→Nat→Nat→Prop
 |[],_,_=>True
 |d::ds,b,o=>(∃u,M ⟨b,o,none⟩=some u∧D.rep M d u)∧UK M ds b (o+1)
def Vp (M:Mem) (sz:Nat):List (List D)→Nat→Nat→Prop
 |[],_,_=>True
 |r::rs,b,o=>r.length=sz∧UK M r b o∧Vp M sz rs b (o+sz)
end
def Yj (M M':Mem):Prop:=∀a v,M a=some v→M' a=some v
theorem Yj.refl (M:Mem):Yj M M:=fun _ _ h=>h
theorem Yj.trans {A B C:Mem} (h:Yj A B) (k:Yj B C):Yj A C:=fun _ _ x=>k _ _ (h _ _ x)
mutual
theorem D.rep_mono {M M':Mem} (h:Yj M M'):∀(d:D) (u:Value),d.rep M u→d.rep M' u
 | .v x,u,hr=>by simpa only[D.rep] using hr
 | .sl sz xs,u,hr=>by
  simp only[D.rep] at hr ⊢
  obtain⟨a,cap,h1,h2,h3,h4⟩:=hr
  refine⟨a,cap,h1,h2,h3,?_⟩
  rcases h4 with h4|⟨b,o,h5,h6⟩
  ·exact .inl h4
  ·exact .inr ⟨b,o,h5,Xhz h sz xs b o h6⟩
theorem XcE {M M':Mem} (h:Yj M M'):∀(ds:List D) (b o:Nat),UK M ds b o→UK M' ds b o
 |[],_,_,_=>by simp only[UK]
 |d::ds,b,o,hr=>by
  simp only[UK] at hr ⊢
  obtain⟨⟨u,h1,h2⟩,h3⟩:=hr
  exact⟨⟨u,h _ _ h1,D.rep_mono h d u h2⟩,XcE h ds b (o+1) h3⟩
theorem Xhz {M M':Mem} (h:Yj M M') (sz:Nat):∀(xs:List (List D)) (b o:Nat),Vp M sz xs b o→Vp M' sz xs b o
 |[],_,_,_=>by simp only[Vp]
 |r::rs,b,o,hr=>by
  simp only[Vp] at hr ⊢
  exact⟨hr.1,XcE h r b o hr.2.1,Xhz h sz rs b (o+sz) hr.2.2⟩
end
theorem X5j {M:Mem}:∀(ds:List D) (b o i:Nat) (d:D),UK M ds b o→ds[i]? =some d→∃u,M ⟨b,o+i,none⟩=some u∧d.rep M u
 |[],_,_,_,_,_,h=>by simp at h
 |e::ds,b,o,0,d,hr,h=>by
  simp only[UK] at hr
  simp at h;subst h
  exact hr.1
 |e::ds,b,o,i+1,d,hr,h=>by
  simp only[UK] at hr
  have:=X5j ds b (o+1) i d hr.2 (by simpa using h)
  rwa [show o+1+i=o+(i+1) by omega] at this
theorem X3x {M:Mem}:∀(ds:List D) (b o:Nat),(∀i d,ds[i]? =some d→∃u,M ⟨b,o+i,none⟩=some u∧d.rep M u)→UK M ds b o
 |[],_,_,_=>by simp only[UK]
 |e::ds,b,o,h=>by
  simp only[UK]
  refine⟨by simpa using h 0 e (by simp),X3x ds b (o+1) fun i d hd=> ?_⟩
  have:=h (i+1) d (by simpa using hd)
  rwa [show o+(i+1)=o+1+i by omega] at this
theorem XqQ {M:Mem}{ds:List D}{b o:Nat} (h:UK M ds b o) (k:Nat):UK M (ds.drop k) b (o+k):=by
 refine X3x _ _ _ fun i d hd=> ?_
 rw[List.getElem?_drop] at hd
 have:=X5j ds b o (k+i) d h hd
 rwa [show o+(k+i)=o+k+i by omega] at this
theorem Xlg {M:Mem}{ds:List D}{b o:Nat} (h:UK M ds b o) (k:Nat):UK M (ds.take k) b o:=by
 refine X3x _ _ _ fun i d hd=> ?_
 rw[List.getElem?_take] at hd
 split at hd
 ·exact X5j ds b o i d h hd
 ·simp at hd
theorem Xpp {M:Mem}{ds es:List D}{b o:Nat} (h:UK M ds b o) (h':UK M es b (o+ds.length)):UK M (ds++es) b o:=by
 refine X3x _ _ _ fun i d hd=> ?_
 rw[List.getElem?_append] at hd
 split at hd
 ·exact X5j ds b o i d h hd
 ·have:=X5j es b _ _ d h' hd
  rwa [show o+ds.length+(i-ds.length)=o+i by omega] at this
theorem X3s {M:Mem}{sz:Nat}:∀(xs:List (List D)) (b o i:Nat) (r:List D),Vp M sz xs b o→xs[i]? =some r→r.length=sz∧UK M r b (o+i*sz)
 |[],_,_,_,_,_,h=>by simp at h
 |e::xs,b,o,0,r,hr,h=>by
  simp only[Vp] at hr
  simp at h;subst h
  exact⟨hr.1,by simpa using hr.2.1⟩
 |e::xs,b,o,i+1,r,hr,h=>by
  simp only[Vp] at hr
  have:=X3s xs b (o+sz) i r hr.2.2 (by simpa using h)
  rwa [show o+sz+i*sz=o+(i+1)*sz by rw[Nat.add_mul];omega] at this
theorem X5v {M:Mem}{sz:Nat}:∀(xs:List (List D)) (b o:Nat),(∀i r,xs[i]? =some r→r.length=sz∧UK M r b (o+i*sz))→Vp M sz xs b o
 |[],_,_,_=>by simp only[Vp]
 |e::xs,b,o,h=>by
  simp only[Vp]
  have h0:=h 0 e (by simp)
  refine⟨h0.1,by simpa using h0.2,X5v xs b (o+sz) fun i r hr=> ?_⟩
  have:=h (i+1) r (by simpa using hr)
  rwa [show o+(i+1)*sz=o+sz+i*sz by rw[Nat.add_mul];omega] at this
theorem Xbx {M:Mem}{sz:Nat}{xs:List (List D)}{b o:Nat} (h:Vp M sz xs b o) (k:Nat):Vp M sz (xs.drop k) b (o+k*sz):=by
 refine X5v _ _ _ fun i r hr=> ?_
 rw[List.getElem?_drop] at hr
 have:=X3s xs b o (k+i) r h hr
 rwa [show o+(k+i)*sz=o+k*sz+i*sz by rw[Nat.add_mul];omega] at this
theorem X8F {M:Mem}{sz:Nat}{xs:List (List D)}{b o:Nat} (h:Vp M sz xs b o) (k:Nat):Vp M sz (xs.take k) b o:=by
 refine X5v _ _ _ fun i r hr=> ?_
 rw[List.getElem?_take] at hr
 split at hr
 ·exact X3s xs b o i r h hr
 ·simp at hr
inductive AVal where
 |any
 |d (x:D)
 |ptr (γ o:Nat)
 |own (γ n:Nat)
 |rptr (γ n o:Nat)
 |inn (γ i:Nat)
 |bsl (γ n:Nat)
 |rs (γ o n c:Nat)
 |mptr (γ n i:Nat)
 |cut (γ n k sz:Nat)
 |dptr (row:List D)
 |dx (sz:Nat) (xs:List (List D))
 |bq (p q:Prop)
 |agg (cs:List AVal)
 |tup (vs:List AVal)
 |fn (f:FuncId) (caps:List AVal)
structure Gh where
 blk:Nat→Nat
 hd:Nat→Value
 ihd:Nat→Nat→Value
 M:Mem
mutual
def AVal.sat (g:Gh):AVal→Value→Prop
 | .any,_=>True
 | .d x,u=>x.rep g.M u
 | .ptr γ o,u=>u= .pointer (some ⟨g.blk γ,o,none⟩)
 | .own γ n,u=>u.oneCell'=true∧∃a m c,g.hd γ= .slice a m c∧n≤m∧(n=m→u= .slice a m c)
 | .rptr γ n o,u=>u.oneCell'=true∧∃a m c,g.hd γ= .slice a m c∧n≤m∧(n=m→∃b,a=some b∧u= .pointer (some ⟨b.block,o,none⟩))
 | .bsl γ n,u=>u= .slice (some ⟨g.blk γ,0,none⟩) n n
 | .rs γ o n c,u=>u= .slice (some ⟨g.blk γ,o,none⟩) n c
 | .inn γ i,u=>u.oneCell'=true∧u=g.ihd γ i∧∃a m c,g.hd γ= .slice a m c∧i<m
 | .mptr γ n i,u=>u.oneCell'=true∧∃a m c,g.hd γ= .slice a m c∧n≤m∧(n=m→∃b,a=some b∧u= .pointer (some ⟨b.block,i,none⟩))
 | .cut γ n k sz,u=>u.oneCell'=true∧∃a m c,g.hd γ= .slice a m c∧n≤m∧(n=m→u= .slice (if c=k then a else a.map fun p=>p.add (k*sz)) (n-k) (c-k))
 | .dptr row,u=> ∃b o,u= .pointer (some ⟨b,o,none⟩)∧UK g.M row b o
 | .dx sz xs,u=> ∃a,u= .slice a xs.length xs.length∧(D.sl sz xs).rep g.M u
 | .bq p q,u=> ∃b:Bool,u= .bool b∧(b=true→p)∧(b=false→q)
 | .agg cs,u=> ∃vs,u= .agg vs∧XB g cs vs.toList
 | .tup cs,u=> ∃vs,u= .tuple vs∧XB g cs vs.toList
 | .fn f cs,u=> ∃vs,u= .func (.func f) #[] vs∧XB g cs vs.toList
def XB (g:Gh):List AVal→List Value→Prop
 |[],[]=>True
 |x::xs,u::us=>x.sat g u∧XB g xs us
 |_,_=>False
end
mutual
def AVal.ment (γ:Nat):AVal→Bool
 | .ptr k _=>Nat.beq k γ
 | .own k _=>Nat.beq k γ
 | .rptr k _ _=>Nat.beq k γ
 | .inn k _=>Nat.beq k γ
 | .bsl k _=>Nat.beq k γ
 | .rs k _ _ _=>Nat.beq k γ
 | .mptr k _ _=>Nat.beq k γ
 | .cut k _ _ _=>Nat.beq k γ
 | .agg cs=>Vs γ cs
 | .tup cs=>Vs γ cs
 | .fn _ cs=>Vs γ cs
 | .any=>false
 | .d _=>false
 | .dptr _=>false
 | .dx _ _=>false
 | .bq _ _=>false
def Vs (γ:Nat):List AVal→Bool
 |[]=>false
 |x::xs=>x.ment γ||Vs γ xs
end
def Gh.keeps (g g':Gh) (γ:Nat):Prop:=
 g'.blk γ=g.blk γ∧(g'.hd γ=g.hd γ∨∃a m c a' m' c',g.hd γ= .slice a m c∧g'.hd γ= .slice a' m' c'∧m<m')∧
  ∀i a m c,g.hd γ= .slice a m c→i<m→g'.ihd γ i=g.ihd γ i
theorem Gh.keeps_refl (g:Gh) (γ:Nat):g.keeps g γ:=⟨rfl,.inl rfl,fun _ _ _ _ _ _=>rfl⟩
theorem Gh.keeps_of {g g':Gh}{γ:Nat} (h1:g'.blk γ=g.blk γ) (h2:g'.hd γ=g.hd γ) (h3:g'.ihd γ=g.ihd γ):g.keeps g' γ:=⟨h1,.inl h2,fun i _ _ _ _ _=>by rw[h3]⟩
theorem Gh.keeps_trans {g g' g'':Gh}{γ:Nat} (h:g.keeps g' γ) (k:g'.keeps g'' γ):g.keeps g'' γ:=by
 refine⟨k.1.trans h.1,?_,fun i a m c ha hi=> ?_⟩
 ·rcases h.2.1 with e|⟨a,m,c,a',m',c',e1,e2,e3⟩
  ·rw[←e];exact k.2.1
  ·rcases k.2.1 with e|⟨b,n,d,b',n',d',f1,f2,f3⟩
   ·exact .inr ⟨a,m,c,a',m',c',e1,e.trans e2,e3⟩
   ·rw[e2] at f1;cases f1
    exact .inr ⟨a,m,c,b',n',d',e1,f2,by omega⟩
 ·refine Eq.trans ?_ (h.2.2 i a m c ha hi)
  rcases h.2.1 with e|⟨a',m',c',a'',m'',c'',e1,e2,e3⟩
  ·exact k.2.2 i a m c (e.trans ha) hi
  ·rw[ha] at e1;cases e1
   exact k.2.2 i _ _ _ e2 (by omega)
mutual
theorem AVal.sat_mono {g g':Gh} (h:Yj g.M g'.M):∀(x:AVal) (u:Value),(∀γ,x.ment γ=true→g.keeps g' γ)→x.sat g u→x.sat g' u
 | .any,_,_,_=>by simp only[AVal.sat]
 | .d x,u,_,hs=>by simp only[AVal.sat] at hs ⊢;exact D.rep_mono h x u hs
 | .ptr γ o,u,hk,hs=>by
  simp only[AVal.sat] at hs ⊢
  rw[(hk γ (by simp[AVal.ment])).1];exact hs
 | .own γ n,u,hk,hs=>by
  simp only[AVal.sat] at hs ⊢
  obtain⟨h1,a,m,c,h2,h3,h4⟩:=hs
  refine⟨h1,?_⟩
  rcases (hk γ (by simp[AVal.ment])).2.1 with e|⟨a0,m0,c0,a',m',c',e1,e2,e3⟩
  ·exact⟨a,m,c,e.trans h2,h3,h4⟩
  ·rw[h2] at e1;cases e1
   exact⟨a',m',c',e2,by omega,fun e=>by omega⟩
 | .rptr γ n o,u,hk,hs=>by
  simp only[AVal.sat] at hs ⊢
  obtain⟨h1,a,m,c,h2,h3,h4⟩:=hs
  refine⟨h1,?_⟩
  rcases (hk γ (by simp[AVal.ment])).2.1 with e|⟨a0,m0,c0,a',m',c',e1,e2,e3⟩
  ·exact⟨a,m,c,e.trans h2,h3,h4⟩
  ·rw[h2] at e1;cases e1
   exact⟨a',m',c',e2,by omega,fun e=>by omega⟩
 | .bsl γ n,u,hk,hs=>by
  simp only[AVal.sat] at hs ⊢
  rw[(hk γ (by simp[AVal.ment])).1];exact hs
 | .rs γ o n c,u,hk,hs=>by
  simp only[AVal.sat] at hs ⊢
  rw[(hk γ (by simp[AVal.ment])).1];exact hs
 | .inn γ i,u,hk,hs=>by
  simp only[AVal.sat] at hs ⊢
  obtain⟨h1,h2,a,m,c,h3,h4⟩:=hs
  have hkk:=hk γ (by simp[AVal.ment])
  refine⟨h1,h2.trans (hkk.2.2 i a m c h3 h4).symm,?_⟩
  rcases hkk.2.1 with e|⟨a0,m0,c0,a',m',c',e1,e2,e3⟩
  ·exact⟨a,m,c,e.trans h3,h4⟩
  ·rw[h3] at e1;cases e1
   exact⟨a',m',c',e2,by omega⟩
 | .mptr γ n i,u,hk,hs=>by
  simp only[AVal.sat] at hs ⊢
  obtain⟨h1,a,m,c,h2,h3,h4⟩:=hs
  refine⟨h1,?_⟩
  rcases (hk γ (by simp[AVal.ment])).2.1 with e|⟨a0,m0,c0,a',m',c',e1,e2,e3⟩
  ·exact⟨a,m,c,e.trans h2,h3,h4⟩
  ·rw[h2] at e1;cases e1
   exact⟨a',m',c',e2,by omega,fun e=>by omega⟩
 | .cut γ n k sz,u,hk,hs=>by
  simp only[AVal.sat] at hs ⊢
  obtain⟨h1,a,m,c,h2,h3,h4⟩:=hs
  refine⟨h1,?_⟩
  rcases (hk γ (by simp[AVal.ment])).2.1 with e|⟨a0,m0,c0,a',m',c',e1,e2,e3⟩
  ·exact⟨a,m,c,e.trans h2,h3,h4⟩
  ·rw[h2] at e1;cases e1
   exact⟨a',m',c',e2,by omega,fun e=>by omega⟩
 | .dptr row,u,_,hs=>by
  simp only[AVal.sat] at hs ⊢
  obtain⟨b,o,h1,h2⟩:=hs
  exact⟨b,o,h1,XcE h _ _ _ h2⟩
 | .bq p q,u,_,hs=>by simp only[AVal.sat] at hs ⊢;exact hs
 | .dx sz xs,u,_,hs=>by
  simp only[AVal.sat] at hs ⊢
  obtain⟨a,h1,h2⟩:=hs
  exact⟨a,h1,D.rep_mono h _ _ h2⟩
 | .agg cs,u,hk,hs=>by
  simp only[AVal.sat] at hs ⊢
  obtain⟨vs,h1,h2⟩:=hs
  exact⟨vs,h1,X0r h cs _ (fun γ hm=>hk γ (by simpa only[AVal.ment] using hm)) h2⟩
 | .tup cs,u,hk,hs=>by
  simp only[AVal.sat] at hs ⊢
  obtain⟨vs,h1,h2⟩:=hs
  exact⟨vs,h1,X0r h cs _ (fun γ hm=>hk γ (by simpa only[AVal.ment] using hm)) h2⟩
 | .fn f cs,u,hk,hs=>by
  simp only[AVal.sat] at hs ⊢
  obtain⟨vs,h1,h2⟩:=hs
  exact⟨vs,h1,X0r h cs _ (fun γ hm=>hk γ (by simpa only[AVal.ment] using hm)) h2⟩
theorem X0r {g g':Gh} (h:Yj g.M g'.M):∀(xs:List AVal) (us:List Value),(∀γ,Vs γ xs=true→g.keeps g' γ)→XB g xs us→XB g' xs us
 |[],[],_,_=>by simp only[XB]
 |[],_::_,_,hs=>by simp only[XB] at hs
 |_::_,[],_,hs=>by simp only[XB] at hs
 |x::xs,u::us,hk,hs=>by
  simp only[XB] at hs ⊢
  exact⟨AVal.sat_mono h x u (fun γ hm=>hk γ (by simp[Vs,hm])) hs.1,X0r h xs us (fun γ hm=>hk γ (by simp[Vs,hm])) hs.2⟩
end
def AVal.cellish:AVal→Bool
 | .any=>false
 | .agg _=>false
 | .tup _=>false
 |_=>true
theorem D.rep_one {M:Mem}{d:D}{u:Value} (h:d.rep M u):u.oneCell'=true:=by
 cases d with
 |v x=>simp only[D.rep] at h;rw[h.1];exact h.2
 |sl sz xs=>simp only[D.rep] at h;obtain⟨a,cap,rfl,_⟩:=h;rfl
theorem AVal.sat_one {g:Gh}{x:AVal}{u:Value} (hc:x.cellish=true) (h:x.sat g u):u.oneCell'=true:=by
 cases x with
 |any=>simp[AVal.cellish] at hc
 |agg _=>simp[AVal.cellish] at hc
 |tup _=>simp[AVal.cellish] at hc
 |d x=>simp only[AVal.sat] at h;exact D.rep_one h
 |ptr γ o=>simp only[AVal.sat] at h;rw[h];rfl
 |own γ n=>simp only[AVal.sat] at h;exact h.1
 |rptr γ n o=>simp only[AVal.sat] at h;exact h.1
 |inn γ i=>simp only[AVal.sat] at h;exact h.1
 |bsl γ n=>simp only[AVal.sat] at h;rw[h];rfl
 |rs γ o n c=>simp only[AVal.sat] at h;rw[h];rfl
 |mptr γ n i=>simp only[AVal.sat] at h;exact h.1
 |cut γ n k sz=>simp only[AVal.sat] at h;exact h.1
 |dptr row=>simp only[AVal.sat] at h;obtain⟨b,o,rfl,_⟩:=h;rfl
 |dx sz xs=>simp only[AVal.sat] at h;obtain⟨a,rfl,_⟩:=h;rfl
 |bq p q=>simp only[AVal.sat] at h;obtain⟨b,rfl,_⟩:=h;rfl
 |fn f cs=>simp only[AVal.sat] at h;obtain⟨vs,rfl,_⟩:=h;rfl
theorem Ue {g:Gh}:∀{xs:List AVal}{us:List Value},XB g xs us→us.length=xs.length
 |[],[],_=>rfl
 |[],_::_,h=>by simp only[XB] at h
 |_::_,[],h=>by simp only[XB] at h
 |x::xs,u::us,h=>by simp only[XB] at h;simp[Ue h.2]
theorem UX {g:Gh}:∀{xs:List AVal}{us:List Value},XB g xs us→∀(i:Nat) (x:AVal),xs[i]? =some x→∃u,us[i]? =some u∧x.sat g u
 |[],[],_,_,_,h=>by simp at h
 |[],_::_,h,_,_,_=>by simp only[XB] at h
 |_::_,[],h,_,_,_=>by simp only[XB] at h
 |x::xs,u::us,h,0,y,hy=>by simp only[XB] at h;simp at hy;subst hy;exact⟨u,by simp,h.1⟩
 |x::xs,u::us,h,i+1,y,hy=>by
  simp only[XB] at h
  simpa using UX h.2 i y (by simpa using hy)
theorem X24 {g:Gh}:∀{xs:List AVal}{us:List Value},us.length=xs.length→(∀(i:Nat) (x:AVal) (u:Value),xs[i]? =some x→us[i]? =some u→x.sat g u)→XB g xs us
 |[],[],_,_=>by simp only[XB]
 |[],_::_,h,_=>by simp at h
 |_::_,[],h,_=>by simp at h
 |x::xs,u::us,h,hs=>by
  simp only[XB]
  exact⟨hs 0 x u (by simp) (by simp),X24 (by simpa using h) fun i y v hy hv=>hs (i+1) y v (by simpa using hy) (by simpa using hv)⟩
theorem X3o {g:Gh}{xs:List AVal}{us:List Value} (h:XB g xs us) (k:Nat):XB g (xs.drop k) (us.drop k):=by
 have hl:=Ue h
 refine X24 (by simp[hl]) fun i x u hx hu=> ?_
 rw[List.getElem?_drop] at hx hu
 obtain⟨u',h1,h2⟩:=UX h _ _ hx
 rw[h1] at hu;cases hu;exact h2
theorem X2N {g:Gh}{xs:List AVal}{us:List Value} (h:XB g xs us) (k:Nat):XB g (xs.take k) (us.take k):=by
 have hl:=Ue h
 refine X24 (by simp[hl]) fun i x u hx hu=> ?_
 rw[List.getElem?_take] at hx hu
 split at hx
 ·rename_i hk
  rw[if_pos hk] at hu
  obtain⟨u',h1,h2⟩:=UX h _ _ hx
  rw[h1] at hu;cases hu;exact h2
 ·simp at hx
theorem X1O {g:Gh}{xs ys:List AVal}{us vs:List Value} (h:XB g xs us) (h':XB g ys vs):XB g (xs++ys) (us++vs):=by
 have hl:=Ue h
 have hl':=Ue h'
 refine X24 (by simp[hl,hl']) fun i x u hx hu=> ?_
 rw[List.getElem?_append] at hx hu
 rw[hl] at hu
 split at hx
 ·rename_i hk
  rw[if_pos hk] at hu
  obtain⟨u',h1,h2⟩:=UX h _ _ hx
  rw[h1] at hu;cases hu;exact h2
 ·rename_i hk
  rw[if_neg hk] at hu
  obtain⟨u',h1,h2⟩:=UX h' _ _ hx
  rw[h1] at hu;cases hu;exact h2
inductive NC where
 |d (x:D)
 |r (isz:Nat) (rows:List (List D))
def KK:Nat:=9223372036854775808
abbrev Hd:=Value×Nat×List (List D)
def X7K:List NC→List (Nat×List (List D))
 |[]=>[]
 | .d _::r=>X7K r
 | .r z rows::r=>(z,rows)::X7K r
def X7Q (us:Nat→Value):Nat→List (Nat×List (List D))→List Hd
 |_,[]=>[]
 |j,p::r=>(us j,p.1,p.2)::X7Q us (j+1) r
def X2u (us:Nat→Value) (xs:List (List NC)):List Hd:=X7Q us KK (X7K xs.flatten)
def VE:List NC→List D→List Hd→Prop
 |[],[],[]=>True
 | .d x::cs,y::ds,hs=>y=x∧VE cs ds hs
 | .r z rows::cs,y::ds,h::hs=>y= .v h.1∧h.2=(z,rows)∧VE cs ds hs
 |_,_,_=>False
inductive AObj where
 |dead
 |box (cs:List AVal)
 |row (sz:Nat) (xs:List (List D))
 |froz (sz:Nat) (xs:List (List D))
 |mat (sz:Nat) (rows:List (List (List D)))
 |iter (s:ByteArray) (pos:Nat)
 |imap (es:List (Int×Int))
 |nest (sz:Nat) (xs:List (List NC))
 |bag (hs:List Hd)
 |raw (cs:List (Option D)) (ho:Option (Nat×AVal))
 |wrow (sz:Nat) (xs:List (List D))
def oA:Option D→AVal
 |some d=> .d d
 |none=> .any
def Y6 (cs:List (Option D)):Option (Nat×AVal)→List AVal
 |none=>cs.map oA
 |some h=>(cs.map oA).set h.1 h.2
def hoL:Option (Nat×AVal)→List AVal
 |none=>[]
 |some h=>[h.2]
theorem XoM (γ:Nat) (c:Option D):(oA c).ment γ=false:=by cases c<;>rfl
theorem Xak {g g':Gh} (hM:Yj g.M g'.M) {cs:List (Option D)}{ho:Option (Nat×AVal)}{us:List Value} (hsat:∀vs,XB g (hoL ho) vs→XB g' (hoL ho) vs) (h:XB g (Y6 cs ho) us):XB g' (Y6 cs ho) us:=by
 refine X24 (Ue h) fun i x u hx hu=> ?_
 obtain⟨u',h1,h2⟩:=UX h i x hx
 rw[h1] at hu;cases hu
 have plain:(∃c,x=oA c)→x.sat g' u:=by
  rintro⟨c,rfl⟩
  exact AVal.sat_mono hM _ _ (fun γ hm=>by rw[XoM] at hm;simp at hm) h2
 cases ho with
 |none=>
  simp only[Y6,List.getElem?_map,Option.map_eq_some_iff] at hx
  obtain⟨c,_,rfl⟩:=hx
  exact plain ⟨c,rfl⟩
 |some q=>
  simp only[Y6] at hx
  rw[List.getElem?_set] at hx
  split at hx
  ·split at hx
   ·cases hx
    have:=hsat [u] (by simp only[hoL,XB,and_true];exact h2)
    simp only[hoL,XB,and_true] at this
    exact this
   ·cases hx
  ·simp only[List.getElem?_map,Option.map_eq_some_iff] at hx
   obtain⟨c,_,rfl⟩:=hx
   exact plain ⟨c,rfl⟩
def AObj.says:AObj→List AVal
 | .box cs=>cs
 | .raw _ ho=>hoL ho
 |_=>[]
def AObj.ment (γ:Nat) (x:AObj):Bool:=Vs γ x.says
def X40 (fr:Nat×Nat) (n:Nat):Prop:=∀i,i<n+1→¬(fr.1≤i∧i<fr.2)
def UU (g:Gh) (w:World) (h:Value) (sz:Nat) (xs:List (List D)):Prop:=
 (∀x∈xs,x.length=sz)∧
  ((h= .slice none 0 0∧xs=[])∨
  ∃b cap vs e fr,h= .slice (some ⟨b,0,none⟩) xs.length cap∧xs.length≤cap∧cap≤maxLen∧
   w.heap[b]? =some (.cells vs e fr)∧X40 fr vs.size∧cap*sz≤vs.size∧
   XB g (xs.flatten.map .d) (vs.toList.take (xs.length*sz)))
def X6Y (fr:Nat×Nat) (n:Nat):Prop:=∀i,i<n→¬(fr.1≤i∧i<fr.2)
def X47 (g:Gh) (w:World) (h:Value) (sz:Nat) (xs:List (List D)):Prop:=
 (∀x∈xs,x.length=sz)∧
  ((h= .slice none 0 0∧xs=[])∨
  ∃b cap vs e fr,h= .slice (some ⟨b,0,none⟩) xs.length cap∧xs.length≤cap∧cap≤maxLen∧
   w.heap[b]? =some (.cells vs e fr)∧X6Y fr vs.size∧cap*sz≤vs.size∧
   XB g (xs.flatten.map .d) (vs.toList.take (xs.length*sz)))
def Ux (h:Value) (b:Nat):Prop:=∃a n c,h= .slice (some a) n c∧a.block=b
def Xcz (g:Gh) (w:World) (γ sz:Nat) (rows:List (List (List D))):Prop:=
 ((g.hd γ= .slice none 0 0∧rows=[])∨
 ∃b cap vs e fr,g.hd γ= .slice (some ⟨b,0,none⟩) rows.length cap∧rows.length≤cap∧cap≤maxLen∧
  w.heap[b]? =some (.cells vs e fr)∧X40 fr vs.size∧cap≤vs.size∧(∀i,i<rows.length→vs[i]? =some (g.ihd γ i))∧
  ∀i,i<rows.length→¬Ux (g.ihd γ i) b)∧
 (∀i r,rows[i]? =some r→UU g w (g.ihd γ i) sz r)∧
 ∀i j b,i<rows.length→j<rows.length→Ux (g.ihd γ i) b→Ux (g.ihd γ j) b→i=j
def Xpz (ms:Array MapEntry) (es:List (Int×Int)):Prop:=ms.toList.map (fun e=>(e.key,e.val))=es.map fun p=>(Value.int .i64 p.1,Value.int .i64 p.2)
def X15 (g:Gh) (w:World) (hs:List Hd):Prop:=
 (∀h∈hs,UU g w h.1 h.2.1 h.2.2)∧hs.Pairwise fun h k=> ∀b,Ux h.1 b→¬Ux k.1 b
def X9k (g:Gh) (w:World) (γ sz:Nat) (xs:List (List NC)):Prop:=
 (∃rows,rows.length=xs.length∧VE xs.flatten rows.flatten (X2u (g.ihd γ) xs)∧UU g w (g.hd γ) sz rows)∧
 X15 g w (X2u (g.ihd γ) xs)∧∀h∈X2u (g.ihd γ) xs,∀b,Ux h.1 b→¬Ux (g.hd γ) b
def Ua (g:Gh) (w:World) (γ:Nat):AObj→Prop
 | .dead=>True
 | .box cs=> ∃vs e fr,w.heap[g.blk γ]? =some (.cells vs e fr)∧X40 fr vs.size∧XB g cs vs.toList∧∀c∈cs,c.cellish=true
 | .row sz xs=>UU g w (g.hd γ) sz xs
 | .froz sz xs=>(D.sl sz xs).rep g.M (g.hd γ)
 | .mat sz rows=>Xcz g w γ sz rows
 | .iter s pos=>w.heap[g.blk γ]? =some (.stringIter s pos)
 | .imap es=>(g.hd γ= .slice none 1 1∧g.ihd γ 0= .map (some (g.blk γ)))∧∃ms clock,w.heap[g.blk γ]? =some (.map ms clock)∧Xpz ms es
 | .nest sz xs=>X9k g w γ sz xs
 | .bag hs=>X15 g w hs
 | .raw cs ho=> ∃vs e fr,w.heap[g.blk γ]? =some (.cells vs e fr)∧X40 fr vs.size∧XB g (Y6 cs ho) vs.toList
 | .wrow sz xs=>X47 g w (g.hd γ) sz xs
def XM (g:Gh):AObj→Nat→Nat→Prop
 | .dead,_,_=>False
 | .froz _ _,_,_=>False
 | .box _,γ,b=>g.blk γ=b
 | .iter _ _,γ,b=>g.blk γ=b
 | .imap _,γ,b=>g.blk γ=b
 | .row _ _,γ,b=>Ux (g.hd γ) b
 | .mat _ rows,γ,b=>Ux (g.hd γ) b∨∃i,i<rows.length∧Ux (g.ihd γ i) b
 | .nest _ xs,γ,b=>Ux (g.hd γ) b∨∃h∈X2u (g.ihd γ) xs,Ux h.1 b
 | .bag hs,_,b=> ∃h∈hs,Ux h.1 b
 | .raw _ _,γ,b=>g.blk γ=b
 | .wrow _ _,γ,b=>Ux (g.hd γ) b
theorem X2F {g g':Gh}{γ:Nat} (hb:g'.blk γ=g.blk γ) (hh:g'.hd γ=g.hd γ) (hi:g'.ihd γ=g.ihd γ) (x:AObj) (b:Nat):XM g' x γ b↔XM g x γ b:=by
 cases x<;>simp only[XM,hb,hh,hi]
theorem X85 (γ:Nat):∀l:List D,Vs γ (l.map .d)=false
 |[]=>rfl
 |x::l=>by simp[Vs,AVal.ment,X85 γ l]
theorem X4j {g g':Gh}{w w':World} (hM:Yj g.M g'.M) {h:Value}{sz:Nat}{xs:List (List D)} (hheap:∀b,Ux h b→w'.heap[b]? =w.heap[b]?) (hr:UU g w h sz xs):UU g' w' h sz xs:=by
 refine⟨hr.1,?_⟩
 rcases hr.2 with h'|⟨b,cap,vs,e,fr,h1,h2,h3,h4,h5,h6,h7⟩
 ·exact .inl h'
 ·refine .inr ⟨b,cap,vs,e,fr,h1,h2,h3,?_,h5,h6,X0r hM _ _ (fun γ hm=>by rw[X85] at hm;simp at hm) h7⟩
  rw[hheap b ⟨_,_,_,h1,rfl⟩];exact h4
theorem XoC {g g':Gh}{w w':World} (hM:Yj g.M g'.M) {h:Value}{sz:Nat}{xs:List (List D)} (hheap:∀b,Ux h b→w'.heap[b]? =w.heap[b]?) (hr:X47 g w h sz xs):X47 g' w' h sz xs:=by
 refine⟨hr.1,?_⟩
 rcases hr.2 with h'|⟨b,cap,vs,e,fr,h1,h2,h3,h4,h5,h6,h7⟩
 ·exact .inl h'
 ·refine .inr ⟨b,cap,vs,e,fr,h1,h2,h3,?_,h5,h6,X0r hM _ _ (fun γ hm=>by rw[X85] at hm;simp at hm) h7⟩
  rw[hheap b ⟨_,_,_,h1,rfl⟩];exact h4
theorem X8g {g g':Gh}{w w':World} (hM:Yj g.M g'.M) {hs:List Hd} (hheap:∀b,(∃h∈hs,Ux h.1 b)→w'.heap[b]? =w.heap[b]?) (h:X15 g w hs):X15 g' w' hs:=
 ⟨fun k hk=>X4j hM (fun b hb=>hheap b ⟨k,hk,hb⟩) (h.1 k hk),h.2⟩
theorem X4i {g g':Gh}{w w':World}{γ:Nat} (hM:Yj g.M g'.M) (hb:g'.blk γ=g.blk γ) (hh:g'.hd γ=g.hd γ) (hi:g'.ihd γ=g.ihd γ) {x:AObj}
  (hheap:∀b,XM g x γ b→w'.heap[b]? =w.heap[b]?) (hsat:∀cs us,x.says=cs→XB g cs us→XB g' cs us) (h:Ua g w γ x):Ua g' w' γ x:=by
 cases x with
 |dead=>trivial
 |froz sz xs=>simp only[Ua] at h ⊢;rw[hh];exact D.rep_mono hM _ _ h
 |iter s p=>
  simp only[Ua] at h ⊢
  rw[hb,hheap _ rfl];exact h
 |imap es=>
  simp only[Ua] at h ⊢
  rw[hb,hh,hi,hheap _ rfl];exact h
 |box cs=>
  obtain⟨vs,e,fr,h1,h2,h3,h4⟩:=h
  refine⟨vs,e,fr,?_,h2,hsat cs _ rfl h3,h4⟩
  rw[hb,hheap _ rfl];exact h1
 |row sz xs=>
  simp only[Ua] at h ⊢
  rw[hh];exact X4j hM (fun b hb'=>hheap b hb') h
 |wrow sz xs=>
  simp only[Ua] at h ⊢
  rw[hh];exact XoC hM (fun b hb'=>hheap b hb') h
 |bag hs=>exact X8g hM hheap h
 |raw cs ho=>
  obtain⟨vs,e,fr,h1,h2,h3⟩:=h
  refine⟨vs,e,fr,?_,h2,Xak hM (fun us hu=>hsat _ us rfl hu) h3⟩
  rw[hb,hheap _ rfl];exact h1
 |nest sz xs=>
  simp only[Ua,X9k] at h ⊢
  rw[hh,hi]
  obtain⟨⟨rows,h1,h2,h3⟩,h4,h5⟩:=h
  exact⟨⟨rows,h1,h2,X4j hM (fun b hb'=>hheap b (.inl hb')) h3⟩,X8g hM (fun b hb'=>hheap b (.inr hb')) h4,h5⟩
 |mat sz rows=>
  simp only[Ua,Xcz] at h ⊢
  rw[hh,hi]
  refine⟨?_,fun i r hr=>X4j hM (fun b hb'=>hheap b (.inr ⟨i,(List.getElem?_eq_some_iff.1 hr).1,hb'⟩)) (h.2.1 i r hr),h.2.2⟩
  rcases h.1 with h'|⟨b,cap,vs,e,fr,h1,h2,h3,h4,h5,h6,h7⟩
  ·exact .inl h'
  ·refine .inr ⟨b,cap,vs,e,fr,h1,h2,h3,?_,h5,h6,h7⟩
   rw[hheap b (.inl ⟨_,_,_,h1,rfl⟩)];exact h4
structure Env where
 W:World
 M:Mem
 A:Nat→Prop
 g0:Gh
 ds:List Deferred:=[]
structure Inv (E:Env) (L:Nat→AObj) (g:Gh) (w:World):Prop where
 obj:∀γ,Ua g w γ (L γ)
 inj:∀γ γ' b,XM g (L γ) γ b→XM g (L γ') γ' b→γ=γ'
 mem:∀a v,g.M a=some v→w.cell? a=some v
 sep:∀γ b,XM g (L γ) γ b→∀a v,g.M a=some v→a.block≠b
 new:∀γ b,XM g (L γ) γ b→E.W.heap.size≤b∨E.A b
 ext:Yj E.M g.M
 lim:∀a v,g.M a=some v→(∃v',E.M a=some v')∨E.W.heap.size≤a.block∨E.A a.block
 frame:∀b,b<E.W.heap.size→¬E.A b→w.heap[b]? =E.W.heap[b]?
 size:E.W.heap.size≤w.heap.size
 os:w.os=E.W.os
 out:w.output=E.W.output
 kp:∀γ,γ<100→E.g0.keeps g γ
def Xo {α:Type} (z:α):List (Nat×α)→Nat→α
 |[],_=>z
 |(k,x)::r,t=>bif Nat.beq k t then x else Xo z r t
theorem Yq {α:Type} (z:α) (k:Nat) (x:α) (r:List (Nat×α)):Xo z ((k,x)::r) k=x:=by simp[Xo]
theorem Y9 {α:Type} (z:α) {k t:Nat} (x:α) (r:List (Nat×α)) (h:k≠t):Xo z ((k,x)::r) t=Xo z r t:=by
 have:Nat.beq k t=false:=by
  cases hb:Nat.beq k t with
  |false=>rfl
  |true=>exact absurd (Nat.eq_of_beq_eq_true hb) h
 simp[Xo,this]
structure St where
 n:Nat
 τ:List (Nat×AVal)
 L:List (Nat×AObj)
def St.get (S:St) (t:Nat):AVal:=Xo .any S.τ t
def St.obj (S:St) (γ:Nat):AObj:=Xo .dead S.L γ
def Vl (E:Env) (S:St) (g:Gh) (a:Act) (w:World):Prop:=
 Inv E S.obj g w∧a.defers=E.ds∧a.tmps.size=S.n∧∀t,(S.get t).sat g (a.tmps.getD t undef)
def holds (E:Env) (S:St) (a:Act) (w:World):Prop:=∃g,Vl E S g a w
def St.ev (S:St):Operand→AVal
 | .tmp t=>S.get t
 | .const v=>bif v.oneCell' then .d (.v v) else .any
 | .global _=> .any
 | .func f=> .fn f []
theorem X6D {E:Env}{S:St}{g:Gh}{a:Act}{w:World} (h:Vl E S g a w) (x:Operand):(S.ev x).sat g (a.eval x):=by
 cases x with
 |tmp t=>exact h.2.2.2 t
 |const v=>
  show(bif v.oneCell' then AVal.d (.v v) else AVal.any).sat g v
  cases hv:v.oneCell' with
  |true=>simp[AVal.sat,D.rep,hv]
  |false=>simp[AVal.sat]
 |global g=>simp only[St.ev,AVal.sat]
 |func f=>exact⟨#[],rfl,by simp[XB]⟩
set_option linter.unusedVariables false
structure Cert where
 reads:List (Operand×AVal)
 dst:Option (Nat×AVal)
 lrd:List (Nat×AObj)
 lwr:List (Nat×AObj)
 new:List Nat
def St.set (S:St) (d:Nat) (y:AVal):St:=⟨S.n,(d,y)::S.τ,S.L⟩
def St.own (S:St) (γ:Nat) (o:AObj):St:=⟨S.n,S.τ,(γ,o)::S.L⟩
def St.cat (S:St) (Lo:List (Nat×AObj)):St:=⟨S.n,S.τ,Lo++S.L⟩
def St.skip (S:St) (d:Option Nat):St:=⟨S.n,(d.map fun t=>(t,AVal.tup [])).toList++S.τ,S.L⟩
def X4H (γ:Nat):List (Nat×AVal)→Bool
 |[]=>true
 |p::r=> !p.2.ment γ&&X4H γ r
def X4B (γ:Nat):List (Nat×AObj)→Bool
 |[]=>true
 |p::r=> !p.2.ment γ&&X4B γ r
def St.free (S:St) (γ:Nat):Bool:=Nat.ble 100 γ&&(X4H γ S.τ&&X4B γ S.L)
theorem X4s (γ:Nat):∀l,X4H γ l=true↔∀p∈l,p.2.ment γ=false
 |[]=>by simp[X4H]
 |p::r=>by simp[X4H,X4s γ r]
theorem X5y (γ:Nat):∀l,X4B γ l=true↔∀p∈l,p.2.ment γ=false
 |[]=>by simp[X4B]
 |p::r=>by simp[X4B,X5y γ r]
def Cert.app (c:Cert) (S:St):St:={n:=S.n,τ:=c.dst.toList++S.τ,L:=c.lwr++S.L}
def X13 (S:St):List (Operand×AVal)→Prop
 |[]=>True
 |p::r=>S.ev p.1=p.2∧X13 S r
def UQ (S:St):List (Nat×AObj)→Prop
 |[]=>True
 |p::r=>S.obj p.1=p.2∧UQ S r
def X1X (S:St):List Nat→Prop
 |[]=>True
 |γ::r=>S.free γ=true∧X1X S r
def X3u (S:St):Option (Nat×AVal)→Prop
 |none=>True
 |some p=>Nat.blt p.1 S.n=true
def Cert.ok (c:Cert) (S:St):Prop:=X13 S c.reads∧UQ S c.lrd∧X1X S c.new∧X3u S c.dst
theorem X2V (S:St):∀l,X13 S l↔∀p∈l,S.ev p.1=p.2
 |[]=>by simp[X13]
 |p::r=>by simp[X13,X2V S r]
theorem X3j (S:St):∀l,UQ S l↔∀p∈l,S.obj p.1=p.2
 |[]=>by simp[UQ]
 |p::r=>by simp[UQ,X3j S r]
theorem X4C (S:St):∀l,X1X S l↔∀γ∈l,S.free γ=true
 |[]=>by simp[X1X]
 |p::r=>by simp[X1X,X4C S r]
def XS {α:Type} (k:Nat):List (Nat×α)→Bool
 |[]=>false
 |p::r=>Nat.beq p.1 k||XS k r
theorem X5q {α:Type} (k:Nat):∀l:List (Nat×α),XS k l=true↔∃p∈l,p.1=k
 |[]=>by simp[XS]
 |p::r=>by simp[XS,X5q k r]
def X4q {α β:Type} (l:List (Nat×α)):List (Nat×β)→Bool
 |[]=>true
 |p::r=> !XS p.1 l&&X4q l r
theorem Xap {α β:Type} (l:List (Nat×α)):∀m:List (Nat×β),X4q l m=true↔∀p∈m,∀q∈l,q.1≠p.1
 |[]=>by simp[X4q]
 |p::r=>by
  simp only[X4q,Bool.and_eq_true,Bool.not_eq_true',Xap l r,List.mem_cons,forall_eq_or_imp]
  refine and_congr_left fun _=> ?_
  rw[←Bool.not_eq_true,X5q]
  exact⟨fun h q hq e=>h ⟨q,hq,e⟩,fun h ⟨q,hq,e⟩=>h q hq e⟩
theorem X3N {a b:Nat} (h:Nat.beq a b=false):a≠b:=by
 intro e;subst e;simp at h
def X4M (d:Nat):List (Operand×AVal)→Bool
 |[]=>true
 |(.tmp t,_)::r=> !Nat.beq t d&&X4M d r
 |_::r=>X4M d r
theorem X9Q (d:Nat):∀l,X4M d l=true→∀p∈l,p.1≠.tmp d
 |[],_,_,h=>by simp at h
 |(x,_)::r,h,q,hq=>by
  have hr:X4M d r=true:=by
   cases x<;>simp[X4M] at h<;>first|exact h.2|exact h
  rcases List.mem_cons.1 hq with rfl|hq
  ·cases x with
   |tmp t=>simp only[X4M,Bool.and_eq_true,Bool.not_eq_true'] at h;intro e;cases e;exact X3N h.1 rfl
   |_=>simp
  ·exact X9Q d r hr q hq
def X6J (x:Option (Nat×AVal)) (c:Cert):Bool:=
 match x with
 |none=>true
 |some p=>X4M p.1 c.reads&&(match c.dst with|none=>true|some q=> !Nat.beq p.1 q.1)
def X5d (c:Cert):List Nat→Bool
 |[]=>true
 |γ::r=>(X4H γ c.dst.toList&&X4B γ c.lwr)&&X5d c r
theorem Xhb (c:Cert):∀l,X5d c l=true↔∀γ∈l,X4H γ c.dst.toList=true∧X4B γ c.lwr=true
 |[]=>by simp[X5d]
 |γ::r=>by simp[X5d,Xhb c r]
def X2r (c d:Cert):Bool:=
 X6J c.dst d&&X6J d.dst c&&X4q c.lwr d.lrd&&X4q c.lwr d.lwr&&X4q d.lwr c.lrd&&X5d d c.new&&X5d c d.new
structure St.Eqv (S T:St):Prop where
 n:S.n=T.n
 get:∀t,S.get t=T.get t
 obj:∀γ,S.obj γ=T.obj γ
 memT:∀p,p∈S.τ↔p∈T.τ
 memL:∀p,p∈S.L↔p∈T.L
theorem St.Eqv.refl (S:St):S.Eqv S:=⟨rfl,fun _=>rfl,fun _=>rfl,fun _=>Iff.rfl,fun _=>Iff.rfl⟩
theorem St.Eqv.symm {S T:St} (h:S.Eqv T):T.Eqv S:=⟨h.n.symm,fun t=>(h.get t).symm,fun t=>(h.obj t).symm,fun p=>(h.memT p).symm,fun p=>(h.memL p).symm⟩
theorem St.Eqv.trans {S T U:St} (h:S.Eqv T) (k:T.Eqv U):S.Eqv U:=
 ⟨h.n.trans k.n,fun t=>(h.get t).trans (k.get t),fun t=>(h.obj t).trans (k.obj t),fun p=>(h.memT p).trans (k.memT p),fun p=>(h.memL p).trans (k.memL p)⟩
theorem St.Eqv.ev {S T:St} (h:S.Eqv T) (x:Operand):S.ev x=T.ev x:=by
 cases x<;>first|rfl|exact h.get _
theorem St.Eqv.free {S T:St} (h:S.Eqv T) (γ:Nat):S.free γ=T.free γ:=by
 rw[Bool.eq_iff_iff]
 simp only[St.free,Bool.and_eq_true,X4s,X5y]
 exact and_congr_right fun _=>and_congr ⟨fun k p hp=>k p ((h.memT p).2 hp),fun k p hp=>k p ((h.memT p).1 hp)⟩ ⟨fun k p hp=>k p ((h.memL p).2 hp),fun k p hp=>k p ((h.memL p).1 hp)⟩
theorem St.Eqv.holds {S T:St} (h:S.Eqv T) {E:Env}{a:Act}{w:World} (hs:holds E S a w):holds E T a w:=by
 obtain⟨g,h1,h2,h3,h4⟩:=hs
 have:S.obj=T.obj:=funext h.obj
 exact⟨g,this ▸ h1,h2,h.n ▸ h3,fun t=>by rw[←h.get];exact h4 t⟩
theorem Cert.ok_eqv {c:Cert}{S T:St} (h:S.Eqv T) (hc:c.ok S):c.ok T:=by
 obtain⟨h1,h2,h3,h4⟩:=hc
 rw[X2V] at h1;rw[X3j] at h2;rw[X4C] at h3
 refine⟨(X2V _ _).2 fun p hp=>(h.ev _).symm.trans (h1 p hp),(X3j _ _).2 fun p hp=>(h.obj _).symm.trans (h2 p hp),(X4C _ _).2 fun γ hγ=>(h.free γ).symm.trans (h3 γ hγ),?_⟩
 cases hd:c.dst with
 |none=>trivial
 |some p=>rw[hd] at h4;simp only[X3u] at h4 ⊢;rw[←h.n];exact h4
theorem X4K {α:Type} (z:α) (l m:List (Nat×α)) (k:Nat):Xo z (l++m) k=if XS k l then Xo z l k else Xo z m k:=by
 induction l with
 |nil=>simp[XS]
 |cons p r ih=>
  obtain⟨j,x⟩:=p
  by_cases h:j=k
  ·subst h;simp[Xo,XS]
  ·have hb:Nat.beq j k=false:=by
    cases hb:Nat.beq j k with
    |false=>rfl
    |true=>exact absurd (Nat.eq_of_beq_eq_true hb) h
   simp[Xo,XS,hb,ih]
theorem St.Eqv.app {S T:St} (h:S.Eqv T) (c:Cert):(c.app S).Eqv (c.app T):=by
 refine⟨h.n,fun t=> ?_,fun γ=> ?_,fun p=> ?_,fun p=> ?_⟩
 ·show Xo _ _ _=Xo _ _ _
  simp only[Cert.app,X4K];split
  ·rfl
  ·exact h.get t
 ·show Xo _ _ _=Xo _ _ _
  simp only[Cert.app,X4K];split
  ·rfl
  ·exact h.obj γ
 ·simp only[Cert.app,List.mem_append,h.memT]
 ·simp only[Cert.app,List.mem_append,h.memL]
theorem Xr4 {c d:Cert} (hi:X2r c d=true) (S:St):(d.app (c.app S)).Eqv (c.app (d.app S)):=by
 simp only[X2r,Bool.and_eq_true] at hi
 obtain⟨⟨⟨⟨⟨⟨h1,h2⟩,h3⟩,h4⟩,h5⟩,h6⟩,h7⟩:=hi
 rw[Xap] at h4
 have hd:∀t,XS t c.dst.toList=true→XS t d.dst.toList=true→False:=by
  intro t ht ht'
  rw[X5q] at ht ht'
  obtain⟨p,hp,rfl⟩:=ht
  obtain⟨q,hq,hqp⟩:=ht'
  cases hc:c.dst with
  |none=>simp[hc] at hp
  |some p'=>
   cases hdd:d.dst with
   |none=>simp[hdd] at hq
   |some q'=>
    simp only[hc,Option.toList_some,List.mem_singleton] at hp
    simp only[hdd,Option.toList_some,List.mem_singleton] at hq
    subst hp hq
    simp only[X6J,Bool.and_eq_true,Bool.not_eq_true',hdd,hc] at h1
    have:=h1.2
    rw[←hqp] at this
    simp at this
 refine⟨rfl,fun t=> ?_,fun γ=> ?_,fun p=> ?_,fun p=> ?_⟩
 ·show Xo _ _ _=Xo _ _ _
  simp only[Cert.app,X4K]
  by_cases k1:XS t d.dst.toList=true
  ·by_cases k2:XS t c.dst.toList=true
   ·exact(hd t k2 k1).elim
   ·simp[k1,k2]
  ·by_cases k2:XS t c.dst.toList=true<;>simp[k1,k2]
 ·show Xo _ _ _=Xo _ _ _
  simp only[Cert.app,X4K]
  by_cases k1:XS γ d.lwr=true
  ·by_cases k2:XS γ c.lwr=true
   ·rw[X5q] at k1 k2
    obtain⟨p,hp,rfl⟩:=k1
    obtain⟨q,hq,hqp⟩:=k2
    exact absurd hqp (h4 p hp q hq)
   ·simp[k1,k2]
  ·by_cases k2:XS γ c.lwr=true<;>simp[k1,k2]
 ·simp only[Cert.app,List.mem_append];constructor<;>(rintro(h|h|h)<;>simp[h])
 ·simp only[Cert.app,List.mem_append];constructor<;>(rintro(h|h|h)<;>simp[h])
theorem Xem {c:Cert}{S:St}{x:Operand} (h:∀p,c.dst=some p→x≠.tmp p.1):(c.app S).ev x=S.ev x:=by
 cases x with
 |tmp t=>
  show Xo _ _ _=Xo _ _ _
  simp only[Cert.app,X4K]
  have:XS t c.dst.toList=false:=by
   rw[←Bool.not_eq_true,X5q]
   rintro⟨p,hp,rfl⟩
   exact h p (by simpa using hp) rfl
  simp[this]
 |_=>rfl
theorem Xik {c:Cert}{S:St}{γ:Nat} (h:∀p∈c.lwr,p.1≠γ):(c.app S).obj γ=S.obj γ:=by
 show Xo _ _ _=Xo _ _ _
 simp only[Cert.app,X4K]
 have:XS γ c.lwr=false:=by
  rw[←Bool.not_eq_true,X5q]
  rintro⟨p,hp,e⟩
  exact h p hp e
 simp[this]
theorem Xp4 {c d:Cert} (hi:X2r c d=true) {S:St} (hc:c.ok S) (hd:d.ok (c.app S)):d.ok S∧c.ok (d.app S):=by
 have hi':=hi
 simp only[X2r,Bool.and_eq_true] at hi
 obtain⟨⟨⟨⟨⟨⟨h1,h2⟩,h3⟩,h4⟩,h5⟩,h6⟩,h7⟩:=hi
 rw[Xap] at h3 h4 h5
 rw[Xhb] at h6 h7
 obtain⟨c1,c2,c3,c4⟩:=hc
 obtain⟨d1,d2,d3,d4⟩:=hd
 rw[X2V] at c1 d1;rw[X3j] at c2 d2;rw[X4C] at c3 d3
 refine⟨⟨(X2V _ _).2 fun p hp=> ?_,(X3j _ _).2 fun p hp=> ?_,(X4C _ _).2 fun γ hγ=> ?_,?_⟩,
  (X2V _ _).2 fun p hp=> ?_,(X3j _ _).2 fun p hp=> ?_,(X4C _ _).2 fun γ hγ=> ?_,?_⟩
 ·rw[←d1 p hp]
  refine(Xem fun q hq=> ?_).symm
  rw[hq] at h1
  simp only[X6J,Bool.and_eq_true] at h1
  exact X9Q _ _ h1.1 p hp
 ·rw[←d2 p hp]
  exact(Xik fun q hq=>h3 p hp q hq).symm
 ·have:=d3 γ hγ
  simp only[St.free,Cert.app,Bool.and_eq_true,X4s,X5y,List.mem_append] at this ⊢
  exact⟨this.1,fun p hp=>this.2.1 p (.inr hp),fun p hp=>this.2.2 p (.inr hp)⟩
 ·exact d4
 ·rw[←c1 p hp]
  refine Xem fun q hq=> ?_
  rw[hq] at h2
  simp only[X6J,Bool.and_eq_true] at h2
  exact X9Q _ _ h2.1 p hp
 ·rw[←c2 p hp]
  exact Xik fun q hq=>h5 p hp q hq
 ·have:=c3 γ hγ
  have hm:=h6 γ hγ
  simp only[St.free,Cert.app,Bool.and_eq_true,X4s,X5y,List.mem_append] at this hm ⊢
  exact⟨this.1,fun p hp=>hp.elim (hm.1 p) (this.2.1 p),fun p hp=>hp.elim (hm.2 p) (this.2.2 p)⟩
 ·exact c4
def X4J (P:Program) (ops:Array Oper) (o:Oper) (c:Cert):Prop:=
 ∀(E:Env) (S:St) (a:Act) (w:World),holds E S a w→c.ok S→
  ∀(Q:Exit→Act→World→Prop) (K:Act→World→Prop),(∀a' w',holds E (c.app S) a' w'→K a' w')→
   if Region.wanted o (yielded ops a.tmps) then o.wp P a w K Q else K (a.put o.dst undef) w
abbrev Y4:=List (Nat×Oper×Cert)
def X5Z (P:Program) (ops:Array Oper) (E:Env) (Q:Exit→Act→World→Prop) (o:Oper) (c:Cert):Prop:=
 ∀(S:St) (a:Act) (w:World),holds E S a w→c.ok S→
  ∀(K:Act→World→Prop),(∀a' w',holds E (c.app S) a' w'→K a' w')→
   if Region.wanted o (yielded ops a.tmps) then o.wp P a w K Q else K (a.put o.dst undef) w
theorem X4J.q {P:Program}{ops:Array Oper}{o:Oper}{c:Cert} (h:X4J P ops o c) (E:Env) (Q:Exit→Act→World→Prop):X5Z P ops E Q o c:=fun S a w hs hok K=>h E S a w hs hok Q K
def Vj (V:Oper→Cert→Prop):Y4→St→St→Prop
 |[],S,T=>S.Eqv T
 |x::r,S,T=>V x.2.1 x.2.2∧x.2.2.ok S∧Vj V r (x.2.2.app S) T
abbrev Xbi (P:Program) (ops:Array Oper):Y4→St→St→Prop:=Vj (X4J P ops)
theorem Vj.mono {V W:Oper→Cert→Prop} (hV:∀o c,V o c→W o c):∀{l:Y4}{S T:St},Vj V l S T→Vj W l S T
 |[],_,_,h=>h
 |_::_,_,_,h=>⟨hV _ _ h.1,h.2.1,Vj.mono hV h.2.2⟩
theorem Vj.eqv {V:Oper→Cert→Prop}:∀{l:Y4}{S S' T:St},S.Eqv S'→Vj V l S T→Vj V l S' T
 |[],_,_,_,h,hc=>h.symm.trans hc
 |x::r,_,_,_,h,hc=>⟨hc.1,Cert.ok_eqv h hc.2.1,Vj.eqv (h.app _) hc.2.2⟩
theorem Vj.app {V:Oper→Cert→Prop}:∀{l m:Y4}{S T U:St},Vj V l S T→Vj V m T U→Vj V (l++m) S U
 |[],[],S,T,U,h,k=>h.trans k
 |[],x::m,S,T,U,h,k=>⟨k.1,Cert.ok_eqv h.symm k.2.1,Vj.eqv (h.symm.app _) k.2.2⟩
 |_::_,_,_,_,_,h,k=>⟨h.1,h.2.1,Vj.app h.2.2 k⟩
theorem Vj.front {V:Oper→Cert→Prop}{k:Nat×Oper×Cert}{l₂:Y4}{T:St}:∀{l₁:Y4}{S:St},
  (∀x∈l₁,X2r x.2.2 k.2.2=true)→Vj V (l₁++k::l₂) S T→Vj V (k::(l₁++l₂)) S T
 |[],_,_,h=>h
 |x::l₁,S,hi,h=>by
  obtain⟨hx,hxo,hr⟩:=h
  have hr':=Vj.front (l₁:=l₁) (fun y hy=>hi y (by simp[hy])) hr
  obtain⟨hk,hko,hrest⟩:=hr'
  have hsw:=Xp4 (hi x (by simp)) hxo hko
  exact⟨hk,hsw.1,hx,hsw.2,Vj.eqv (Xr4 (hi x (by simp)) S) hrest⟩
def X3i (ops:Array Oper):Nat→Nat→Nat→Bool
 |0,_,_=>false
 |n+1,i,x=>((ops[i]?).map fun o=>o.after.toList.any fun e=>Region.binds .any e&&(Nat.beq e.on x||X3i ops n e.on x)).getD false
def X6p (ops:Array Oper) (k:Nat×Oper×Cert):Y4→Bool
 |[]=>true
 |x::r=>(X2r x.2.2 k.2.2||X3i ops ops.size k.1 x.1)&&X6p ops k r
def XbG (k:Nat×Oper×Cert):Bool:=k.2.1.after.toList.all fun e=> !Region.binds .any e||Nat.blt e.on k.1
def X4k (ops:Array Oper):Y4→Bool
 |[]=>true
 |k::r=>X6p ops k r&&XbG k&&X4k ops r
theorem XhT (ops:Array Oper) (k:Nat×Oper×Cert):∀l,X6p ops k l=true↔∀x∈l,X2r x.2.2 k.2.2=true∨X3i ops ops.size k.1 x.1=true
 |[]=>by simp[X6p]
 |x::r=>by simp[X6p,XhT ops k r]
theorem Xdj {ops:Array Oper}{listed:Array Bool}
  (hcl:∀j o,ops[j]? =some o→listed.getD j false=true→∀e∈o.after,Region.binds .any e=true→listed.getD e.on false=true):
  ∀(n i x:Nat) (o:Oper),ops[i]? =some o→(∀e∈o.after,Region.binds .any e=true→listed.getD e.on false=true)→X3i ops n i x=true→listed.getD x false=true
 |0,_,_,_,_,_,h=>by simp[X3i] at h
 |n+1,i,x,o,ho,he,h=>by
  simp only[X3i,ho,Option.map_some,Option.getD_some,List.any_eq_true,Bool.and_eq_true,Bool.or_eq_true] at h
  obtain⟨e,hm,hb,hx⟩:=h
  have hl:=he e (by simpa using hm) hb
  rcases hx with hx|hx
  ·rw[←Nat.eq_of_beq_eq_true hx];exact hl
  ·cases ho':ops[e.on]? with
   |none=>cases n<;>simp[X3i,ho'] at hx
   |some o'=>exact Xdj hcl n e.on x o' ho' (fun e' h1 h2=>hcl _ _ ho' hl e' h1 h2) hx
structure Rest (ops:Array Oper) (l:Y4) (listed:Array Bool):Prop where
 at_:∀x∈l,ops[x.1]? =some x.2.1
 inc:l.Pairwise fun x y=>x.1<y.1
 all:∀i,listed.getD i true=false↔∃x∈l,x.1=i
 closed:∀j o,ops[j]? =some o→listed.getD j false=true→∀e∈o.after,Region.binds .any e=true→listed.getD e.on false=true
 size:listed.size=ops.size
 pairs:∀x∈l,∀y∈l,x.1<y.1→X2r x.2.2 y.2.2=true∨X3i ops ops.size y.1 x.1=true
 edges:∀x∈l,∀e∈x.2.1.after,Region.binds .any e=true→e.on<x.1
theorem XnO {P:Program}{ops:Array Oper}{Q:Exit→Act→World→Prop}{E:Env}{T:St} (hQ:∀a w,holds E T a w→Q .normal a w):
  ∀(fuel:Nat) (l:Y4) (listed:Array Bool) (S:St) (a:Act) (w:World),l.length=fuel→Rest ops l listed→Vj (X5Z P ops E Q) l S T→holds E S a w→
   wpAny P .any ops Q fuel listed a w:=by
 intro fuel
 induction fuel with
 |zero=>
  intro l listed S a w hl hr hc hs
  have hl':l=[]:=by cases l with|nil=>rfl|cons=>simp at hl
  subst hl'
  refine⟨?_,hQ _ _ (St.Eqv.holds hc hs)⟩
  rw[List.eq_nil_iff_forall_not_mem]
  intro i hi
  rw[mem_ready] at hi
  obtain⟨x,hx,_⟩:=(hr.all i).1 hi.1
  simp at hx
 |succ fuel ih=>
  intro l listed S a w hl hr hc hs
  refine⟨fun hnil=> ?_,fun i hi=> ?_⟩
  ·exfalso
   cases l with
   |nil=>simp at hl
   |cons x r=>
    have hx:x.1∈Region.ready .any ops listed:=by
     rw[mem_ready]
     refine⟨(hr.all x.1).2 ⟨x,by simp,rfl⟩,x.2.1,hr.at_ x (by simp),fun e he hb=> ?_⟩
     have hlt:=hr.edges x (by simp) e he hb
     cases hle:listed.getD e.on true with
     |false=>
      obtain⟨y,hy,hye⟩:=(hr.all e.on).1 hle
      rcases List.mem_cons.1 hy with rfl|hy
      ·omega
      ·have:=(List.pairwise_cons.1 hr.inc).1 y hy;omega
     |true=>
      have hi:e.on<ops.size:=by
       have:=hr.at_ x (by simp)
       have:=(Array.getElem?_eq_some_iff.1 this).1
       omega
      have hi':e.on<listed.size:=by rw[hr.size];exact hi
      simpa [hi'] using hle
    rw[hnil] at hx;simp at hx
  ·rw[mem_ready] at hi
   obtain⟨hi0,o,ho,hall⟩:=hi
   obtain⟨k,hk,rfl⟩:=(hr.all _).1 hi0
   have hko:=hr.at_ k hk
   rw[ho] at hko;cases hko
   obtain⟨l₁,l₂,rfl⟩:=List.append_of_mem hk
   have hinc:=hr.inc
   rw[List.pairwise_append] at hinc
   have hlt:∀x∈l₁,x.1<k.1:=fun x hx=>hinc.2.2 x hx k (by simp)
   have hind:∀x∈l₁,X2r x.2.2 k.2.2=true:=by
    intro x hx
    rcases hr.pairs x (by simp[hx]) k (by simp) (hlt x hx) with h|h
    ·exact h
    ·have h1:=Xdj hr.closed _ _ _ _ ho hall h
     have h2:=(hr.all x.1).2 ⟨x,by simp[hx],rfl⟩
     exfalso
     have hi:x.1<listed.size:=by
      rw[hr.size];exact(Array.getElem?_eq_some_iff.1 (hr.at_ x (by simp[hx]))).1
     simp[hi] at h1 h2
     rw[h1] at h2;simp at h2
   obtain⟨hv,hok,hrest⟩:=Vj.front hind hc
   have hksz:k.1<listed.size:=by rw[hr.size];exact(Array.getElem?_eq_some_iff.1 ho).1
   have hrl:Rest ops (l₁++l₂) (listed.setIfInBounds k.1 true):=by
    refine⟨fun x hx=>hr.at_ x (by simp at hx ⊢;rcases hx with h|h<;>simp[h]),?_,fun i=> ?_,fun j o' hj hl' e he hb=> ?_,by simp[hr.size],?_,?_⟩
    ·rw[List.pairwise_append]
     exact⟨hinc.1,(List.pairwise_cons.1 hinc.2.1).2,fun x hx y hy=>hinc.2.2 x hx y (by simp[hy])⟩
    ·by_cases hik:i=k.1
     ·subst hik
      constructor
      ·intro h;simp[hksz] at h
      ·rintro⟨x,hx,hxk⟩
       exfalso
       rcases List.mem_append.1 hx with h|h
       ·have:=hlt x h;omega
       ·have:=(List.pairwise_cons.1 hinc.2.1).1 x h;omega
     ·rw[getD_set_ne true (Ne.symm hik),hr.all]
      constructor
      ·rintro⟨x,hx,rfl⟩
       refine⟨x,?_,rfl⟩
       simp at hx ⊢
       rcases hx with h|h|h
       ·exact .inl h
       ·subst h;exact absurd rfl hik
       ·exact .inr h
      ·rintro⟨x,hx,rfl⟩
       refine⟨x,?_,rfl⟩
       simp at hx ⊢
       rcases hx with h|h<;>simp[h]
    ·by_cases hjk:j=k.1
     ·subst hjk
      rw[ho] at hj;cases hj
      exact getD_set_true (hall e he hb)
     ·rw[getD_set_ne false (Ne.symm hjk)] at hl'
      exact getD_set_true (hr.closed j o' hj hl' e he hb)
    ·intro x hx y hy hxy
     refine hr.pairs x ?_ y ?_ hxy
     ·simp at hx ⊢;rcases hx with h|h<;>simp[h]
     ·simp at hy ⊢;rcases hy with h|h<;>simp[h]
    ·intro x hx
     exact hr.edges x (by simp at hx ⊢;rcases hx with h|h<;>simp[h])
   have hlen:(l₁++l₂).length=fuel:=by simp at hl ⊢;omega
   unfold wpOp
   simp only[ho]
   have hvk:=hv S a w hs hok (wpAny P .any ops Q fuel (listed.setIfInBounds k.1 true)) (fun a' w' h'=>ih _ _ _ _ _ hlen hrl hrest h')
   split
   ·rename_i hw;rw[if_pos hw] at hvk;exact .inl hvk
   ·rename_i hw;rw[if_neg hw] at hvk;exact hvk
theorem Xei {P:Program}{ops:Array Oper}{Q:Exit→Act→World→Prop}{E:Env}{T:St} (hQ:∀a w,holds E T a w→Q .normal a w):
  ∀(l:Y4) (S:St) (a:Act) (w:World),(∀x∈l,ops[x.1]? =some x.2.1)→Xbi P ops l S T→holds E S a w→wpOps P ops Q (l.map (·.1)) a w
 |[],S,a,w,_,hc,hs=>hQ _ _ (St.Eqv.holds hc hs)
 |x::r,S,a,w,ha,hc,hs=>by
  obtain⟨hv,hok,hr⟩:=hc
  rw[List.map_cons,wpOps_cons]
  unfold wpOp
  simp only[ha x (by simp)]
  have hvk:=hv E S a w hs hok Q (wpOps P ops Q (r.map (·.1))) (fun a' w' h'=>Xei hQ r _ _ _ (fun y hy=>ha y (by simp[hy])) hr h')
  split
  ·rename_i hw;rw[if_pos hw] at hvk;exact .inl hvk
  ·rename_i hw;rw[if_neg hw] at hvk;exact hvk
inductive Walk (P:Program) (ops:Array Oper) (draw:Bool) (K:Y4→St→Prop):List Oper→Y4→St→Prop
 |done {l:Y4}{S:St}:(draw=true→X4k ops l=true)→K l S→Walk P ops draw K [] l S
 |step {o:Oper}{rest:List Oper}{l:Y4}{S:St} (c:Cert):X4J P ops o c→c.ok S→
   Walk P ops draw K rest ((l.length,o,c)::l) (c.app S)→Walk P ops draw K (o::rest) l S
theorem Walk.chain {P:Program}{ops:Array Oper}{draw:Bool}{K:Y4→St→Prop}{rest:List Oper}{l:Y4}{S:St} (h:Walk P ops draw K rest l S):
  ∃(m:Y4) (T:St),(draw=true→X4k ops (m.reverse++l)=true)∧K (m.reverse++l) T∧Xbi P ops m S T∧m.map (·.2.1)=rest∧m.map (·.1)=List.range' l.length m.length:=by
 induction h with
 |done hok hK=>exact⟨[],_,by simpa using hok,by simpa using hK,St.Eqv.refl _,rfl,rfl⟩
 |step c hv hok _ ih=>
  rename_i o rest l S _
  obtain⟨m,T,h1,h2,h3,h4,h5⟩:=ih
  refine⟨(l.length,o,c)::m,T,fun hd=> ?_,by simpa using h2,⟨hv,hok,h3⟩,by simp[h4],?_⟩
  ·have:=h1 hd
   simpa using this
  ·simp[h5,List.range'_succ]
theorem XeB {ops:Array Oper}:∀(l:Y4),X4k ops l=true→(l.Pairwise fun y x=>X2r x.2.2 y.2.2=true∨X3i ops ops.size y.1 x.1=true)∧∀x∈l,XbG x=true
 |[],_=>by simp
 |k::r,h=>by
  simp only[X4k,Bool.and_eq_true,XhT] at h
  obtain⟨⟨h1,h2⟩,h3⟩:=h
  have ih:=XeB r h3
  exact⟨List.pairwise_cons.2 ⟨fun x hx=>h1 x hx,ih.1⟩,fun x hx=>(List.mem_cons.1 hx).elim (fun e=>e ▸ h2) (ih.2 x)⟩
theorem Xky {E:Env}{S:St}{a:Act}{w:World} (h:holds E S a w):holds E S a {w with drawn:=w.drawn+1}:=by
 obtain⟨g,hi,h2⟩:=h
 exact⟨g,⟨fun γ=>by
  have:=hi.obj γ
  revert this
  cases S.obj γ<;>exact id,hi.inj,hi.mem,hi.sep,hi.new,hi.ext,hi.lim,hi.frame,hi.size,hi.os,hi.out,hi.kp⟩,h2⟩
theorem Xfl {ops:Array Oper}{m:Y4} (h4:m.map (·.2.1)=ops.toList) (h5:m.map (·.1)=List.range' 0 m.length):∀x∈m,ops[x.1]? =some x.2.1:=by
 intro x hx
 obtain⟨i,hi,rfl⟩:=List.getElem_of_mem hx
 have e1:(m[i]).1=i:=by
  have:=congrArg (fun l=>l[i]?) h5
  simpa [hi] using this
 have e2:=congrArg (fun l=>l[i]?) h4
 simp[hi] at e2
 rw[e1];simpa using e2.symm
theorem Xj8 {P:Program}{id:Nat}{ops:Array Oper}{Q:Exit→Act→World→Prop}{E:Env}{S T:St}{m:Y4} (hm:P.follows .mixedOrders=true)
  (h1:X4k ops m.reverse=true) (hQ:∀a w,holds E T a w→Q .normal a w) (h3:Vj (X5Z P ops E Q) m S T) (h4:m.map (·.2.1)=ops.toList) (h5:m.map (·.1)=List.range' 0 m.length) {a:Act}{w:World} (hs:holds E S a w):
  (Code.region id ops true).wp P Q a w:=by
 have hlen:m.length=ops.size:=by have:=congrArg List.length h4;simpa using this
 have hat:=Xfl h4 h5
 refine wp_region_any hm ?_
 have hord:=XeB _ h1
 refine XnO hQ ops.size m _ S a _ hlen ?_ h3 (Xky hs)
 have hinc:m.Pairwise fun x y=>x.1<y.1:=by
  have:(m.map (·.1)).Pairwise (· < ·):=by rw[h5];exact List.pairwise_lt_range'
  exact List.pairwise_map.1 this
 refine⟨hat,hinc,fun i=> ?_,fun j o hj hl=> ?_,by simp,?_,?_⟩
 ·constructor
  ·intro hi
   have hlt:i<ops.size:=by
    rcases Nat.lt_or_ge i ops.size with h|h
    ·exact h
    ·simp[Nat.not_lt.2 h] at hi
   have:i∈m.map (·.1):=by rw[h5];simp[hlen,hlt]
   simpa using this
  ·rintro⟨x,hx,rfl⟩
   have:=(Array.getElem?_eq_some_iff.1 (hat x hx)).1
   simp[this]
 ·exfalso
  have:=(Array.getElem?_eq_some_iff.1 hj).1
  simp[this] at hl
 ·intro x hx y hy hxy
  have hp:=List.pairwise_reverse.1 hord.1
  obtain⟨i,hi,rfl⟩:=List.getElem_of_mem hx
  obtain⟨j,hj,rfl⟩:=List.getElem_of_mem hy
  have e:∀(k:Nat) (hk:k<m.length),(m[k]).1=k:=by
   intro k hk
   have:=congrArg (fun l=>l[k]?) h5
   simpa [hk] using this
  rw[e,e] at hxy
  exact(List.pairwise_iff_getElem.1 hp) i j hi hj hxy
 ·intro x hx e he hb
  have:=hord.2 x (by simpa using hx)
  simp only[XbG,List.all_eq_true] at this
  have:=this e (by simpa using he)
  simp[hb] at this
  simpa using this
theorem Xm9 {P:Program}{id:Nat}{ops:Array Oper}{draw:Bool}{K:Y4→St→Prop}{Q:Exit→Act→World→Prop}{E:Env}{S:St}
  (hm:draw=true→P.follows .mixedOrders=true)
  (h:Walk P ops draw K ops.toList [] S) (hQ:∀l T,K l T→∀a w,holds E T a w→Q .normal a w) {a:Act}{w:World} (hs:holds E S a w):
  (Code.region id ops draw).wp P Q a w:=by
 obtain⟨m,T,h1,h2,h3,h4,h5⟩:=h.chain
 cases draw with
 |false=>
  refine wp_region ?_
  have hlen:m.length=ops.size:=by have:=congrArg List.length h4;simpa using this
  have:=Xei (P:=P) (Q:=Q) (hQ _ T h2) m S a w (Xfl h4 h5) h3 hs
  rwa [h5,hlen,List.length_nil,←List.range_eq_range'] at this
 |true=>exact Xj8 (hm rfl) (by simpa using h1 rfl) (hQ _ T h2) (h3.mono fun o c hv=>hv.q E Q) h4 h5 hs
end Go.Fw
