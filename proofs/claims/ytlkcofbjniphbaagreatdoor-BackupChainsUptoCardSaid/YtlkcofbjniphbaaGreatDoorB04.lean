/- Eighth part: contracts of functions, calls, weakening. -/
import Derived.Laws.BytesString
import Derived.Test.YtlkcofbjniphbaaGreatDoorB03
namespace Go.Fw
open Go
set_option linter.unusedVariables false
set_option linter.unusedSimpArgs false
def V5 (g:Gh) (w:World) (Li:List (Nat×AObj)):Env:=
 {W:=w,M:=g.M,A:=fun b=> ∃γ,XM g (Xo .dead Li γ) γ b,g0:=g}
def Con (P:Program) (f:FuncId) (Li:List (Nat×AObj)) (args:List AVal) (Lo:List (Nat×AObj)) (res:AVal):Prop:=
 ∀(g:Gh) (w:World) (vs:List Value),Inv (V5 g w Li) (Xo .dead Li) g w→XB g args vs→
  Calls P f vs.toArray w fun e w'=> ∃v g',e= .returned v∧res.sat g' v∧Inv {V5 g w Li with g0:=g'} (Xo .dead Lo) g' w'∧∀γ,XS γ Li=true→g.keeps g' γ
theorem Inv.free {E:Env}{L:Nat→AObj}{g g0:Gh}{w:World} (hi:Inv E L g w) (h:∀γ,γ<100→g0.keeps g γ):Inv {E with g0:=g0} L g w:=
 ⟨hi.obj,hi.inj,hi.mem,hi.sep,hi.new,hi.ext,hi.lim,hi.frame,hi.size,hi.os,hi.out,h⟩
theorem Inv.sub {E:Env}{L L':Nat→AObj}{g:Gh}{w:World} (hi:Inv E L g w) (h:∀γ,L' γ=L γ∨L' γ= .dead):Inv E L' g w:=by
 have hl:∀γ b,XM g (L' γ) γ b→XM g (L γ) γ b:=by
  intro γ b hb
  rcases h γ with e|e
  ·rw[←e];exact hb
  ·rw[e] at hb;exact hb.elim
 refine⟨fun γ=> ?_,fun γ γ' b k k'=>hi.inj γ γ' b (hl _ _ k) (hl _ _ k'),hi.mem,fun γ b k=>hi.sep γ b (hl _ _ k),fun γ b k=>hi.new γ b (hl _ _ k),hi.ext,hi.lim,hi.frame,hi.size,hi.os,hi.out,hi.kp⟩
 rcases h γ with e|e
 ·rw[e];exact hi.obj γ
 ·rw[e];trivial
def X6m:Nat→List AVal→List (Nat×AVal)
 |_,[]=>[]
 |i,x::r=>(i,x)::X6m (i+1) r
theorem X9a:∀(l:List AVal) (i t:Nat),Xo .any (X6m i l) t=if i≤t then (l[t-i]?).getD .any else .any
 |[],i,t=>by simp[X6m,Xo]
 |x::r,i,t=>by
  simp only[X6m,Xo]
  by_cases h:i=t
  ·subst h;simp
  ·have hb:Nat.beq i t=false:=by
    cases hb:Nat.beq i t with
    |false=>rfl
    |true=>exact absurd (Nat.eq_of_beq_eq_true hb) h
   rw[hb,cond_false,X9a r (i+1) t]
   by_cases h1:i≤t
   ·rw[if_pos (by omega),if_pos h1,show t-i=(t-(i+1))+1 by omega,List.getElem?_cons_succ]
   ·rw[if_neg (by omega),if_neg h1]
def X20 (n:Nat) (args:List AVal) (Li:List (Nat×AObj)):St:=⟨n,X6m 0 args,Li⟩
def X5A (P:Program) (S:St) (rv:ResultVar) (x:AVal):Prop:=
 match rv with
 | .tmp t=>S.get t=x
 | .cell t ty=> ∃γ o cs,S.get t= .ptr γ o∧S.obj γ= .box cs∧
   ((X0I P ty false 1=true∧cs[o]? =some x)∨∃sz ys,X0I P ty true sz=true∧(cs.drop o).take sz=ys∧Nat.beq ys.length sz=true∧x= .agg ys)
def X5O (P:Program) (S:St):List ResultVar→List AVal→Prop
 |[],[]=>True
 |r::rs,x::xs=>X5A P S r x∧X5O P S rs xs
 |_,_=>False
def X3B:List AVal→AVal
 |[x]=>x
 |xs=> .tup xs
def X5p (tmps:Array Value):ResultVar→Sem Value
 | .tmp t=>pure (tmps.getD t undef)
 | .cell t ty=>do loadVar ty (←asAddr (tmps.getD t undef))
theorem XjL (fn:Func) (tmps:Array Value):results fn tmps=(do
  let vs ←fn.results.mapM (X5p tmps)
  pure (if h:vs.size=1 then vs[0] else .tuple vs)):=rfl
theorem Xov {P:Program}{E:Env}{S:St}{g:Gh}{a:Act}{w:World} (hs:Vl E S g a w) {rv:ResultVar}{x:AVal} (h:X5A P S rv x):
  ∃v,(X5p a.tmps rv).run P w= .ok v w∧x.sat g v:=by
 cases rv with
 |tmp t=>exact⟨_,rfl,by have:=hs.2.2.2 t;rw[h] at this;exact this⟩
 |cell t ty=>
  obtain⟨γ,o,cs,h1,h2,h3⟩:=h
  have hp:=hs.2.2.2 t
  rw[h1] at hp
  simp only[AVal.sat] at hp
  have ho:=hs.1.obj γ
  rw[h2] at ho
  obtain⟨vs,e,fr,k1,k2,k3,k4⟩:=ho
  rcases h3 with ⟨ht,hy⟩|⟨sz,ys,ht,hy,hlen,rfl⟩
  ·obtain⟨u,hu,hsu⟩:=UX k3 o x hy
   have hc:w.cell? ⟨g.blk γ,o,none⟩=some u:=by rw[cell_of_row w _ o vs e fr k1];simpa using hu
   exact⟨u,by simp only[X5p,hp,asAddr,Sem.run_bind,Sem.run_pure,Result.andThen_ok,X6q ht hc],hsu⟩
  ·have hsub:=X2N (X3o k3 o) sz
   rw[hy] at hsub
   have hl1:=Ue hsub
   have hl2:ys.length=sz:=Nat.eq_of_beq_eq_true hlen
   have:=X6b (P:=P) (p:=⟨g.blk γ,o,none⟩) (w:=w) (vs:=(vs.toList.drop o).take sz) (t:=ty) (by rw[hl1,hl2];exact ht) (fun j v hv=>by
    rw[Uw,cell_of_row w _ _ vs e fr k1]
    rw[List.getElem?_take] at hv
    split at hv
    ·rw[List.getElem?_drop] at hv;simpa using hv
    ·simp at hv)
   exact⟨.agg ((vs.toList.drop o).take sz).toArray,by simp only[X5p,hp,asAddr,Sem.run_bind,Sem.run_pure,Result.andThen_ok,this],by simp only[AVal.sat];exact⟨_,rfl,hsub⟩⟩
theorem Xh3 {P:Program}{E:Env}{S:St}{g:Gh}{a:Act}{w:World} (hs:Vl E S g a w):∀(rs:List ResultVar) (xs:List AVal),X5O P S rs xs→
  ∃vs:List Value,(rs.mapM (X5p a.tmps):Sem (List Value)).run P w= .ok vs w∧XB g xs vs
 |[],[],_=>⟨[],by simp,by simp only[XB]⟩
 |[],_::_,h=>h.elim
 |_::_,[],h=>h.elim
 |r::rs,x::xs,h=>by
  obtain⟨v,k1,k2⟩:=Xov hs h.1
  obtain⟨vs,k3,k4⟩:=Xh3 hs rs xs h.2
  refine⟨v::vs,?_,by simp only[XB];exact⟨k2,k4⟩⟩
  rw[List.mapM_cons]
  simp only[Sem.run_bind,k1,k3,Result.andThen_ok,Sem.run_pure]
theorem X9g {P:Program}{E:Env}{S:St}{g:Gh}{a:Act}{w:World} (hs:Vl E S g a w) {fn:Func}{rs:List ResultVar}{xs:List AVal} (hr:fn.results.toList=rs) (h:X5O P S rs xs):
  ∃v,(results fn a.tmps).run P w= .ok v w∧(X3B xs).sat g v:=by
 obtain⟨vs,k1,k2⟩:=Xh3 hs rs xs h
 have e:(fn.results.mapM (X5p a.tmps):Sem (Array Value)).run P w= .ok vs.toArray w:=by
  rw[Array.mapM_eq_mapM_toList,hr,Sem.run_map,k1];rfl
 have hl:=Ue k2
 rw[XjL,Sem.run_bind,e]
 simp only[Result.andThen_ok,Sem.run_pure]
 refine⟨_,rfl,?_⟩
 cases vs with
 |nil=>
  cases xs with
  |nil=>simp only[X3B];rw[dif_neg (by simp)];simp only[AVal.sat];exact⟨_,rfl,k2⟩
  |cons=>simp at hl
 |cons v vs=>
  cases vs with
  |nil=>
   match xs,hl,k2 with
   |[x],_,k2=>
    simp only[X3B];rw[dif_pos (by simp)]
    simp only[XB] at k2;exact k2.1
  |cons v' vs=>
   match xs,hl,k2 with
   |x::y::xs,_,k2=>
    simp only[X3B];rw[dif_neg (by simp)];simp only[AVal.sat];exact⟨_,rfl,k2⟩
def X7E (Lo:List (Nat×AObj)) (T:St):Prop:=∀γ,Xo .dead Lo γ=T.obj γ∨Xo .dead Lo γ= .dead
theorem X2 (T:St):X7E [] T:=fun γ=> .inr rfl
theorem Xn {Lo:List (Nat×AObj)}{T:St} (h:UQ T Lo):X7E Lo T:=by
 intro γ
 rcases XaX AObj.dead Lo γ with e|⟨p,hp,e⟩
 ·exact .inr e
 ·by_cases hk:XS γ Lo=true
  ·clear hp e p
   induction Lo with
   |nil=>simp[XS] at hk
   |cons q r ih=>
    obtain⟨k,x⟩:=q
    by_cases hkγ:k=γ
    ·subst hkγ;rw[Yq];exact .inl h.1.symm
    ·rw[Y9 _ _ _ hkγ]
     simp only[XS,Bool.or_eq_true] at hk
     exact ih h.2 (hk.resolve_left fun e=>hkγ (Nat.eq_of_beq_eq_true e))
  ·right
   have:∀(l:List (Nat×AObj)),¬XS γ l=true→Xo .dead l γ= .dead:=by
    intro l hl
    induction l with
    |nil=>rfl
    |cons q r ih=>
     obtain⟨k,x⟩:=q
     simp only[XS,Bool.or_eq_true,not_or] at hl
     rw[Y9 _ _ _ (fun e=>hl.1 (by simp[e]))]
     exact ih hl.2
   exact this Lo hk
def Xy (P:Program) (rs:List ResultVar) (Lo:List (Nat×AObj)) (xs:List AVal) (T:St):Prop:=
 ∃U,T.le U∧X5O P U rs xs∧X7E Lo U
def X4v:List (Nat×AObj)→Bool
 |[]=>true
 |p::r=>Nat.blt p.1 100&&X4v r
theorem X5L:∀(l:List (Nat×AObj)) (γ:Nat),X4v l=true→XS γ l=true→γ<100
 |[],_,_,h=>by simp[XS] at h
 |p::r,γ,h,hk=>by
  simp only[X4v,Bool.and_eq_true] at h
  simp only[XS,Bool.or_eq_true] at hk
  rcases hk with e|e
  ·rw[←Nat.eq_of_beq_eq_true e];simpa using h.1
  ·exact X5L r γ h.2 e
theorem Xg {P:Program}{f:FuncId}{fn:Func}{c:Code}{n:Nat}{rs:List ResultVar}{Li Lo:List (Nat×AObj)}{args xs:List AVal} (hf:P.funcs[f]? =some fn) (hb:fn.body=some c) (hn:fn.ntmps=n) (hr:fn.results.toList=rs)
  (hle:Nat.ble args.length n=true) (hlow:X4v Li=true)
  (h:∀E,AWP P E c (X20 n args Li) (XoI (Xy P rs Lo xs))):Con P f Li args Lo (X3B xs):=by
 intro g w vs hi hs
 have hl:=Ue hs
 refine calls_of_wp hf hb ?_
 have hstart:holds (V5 g w Li) (X20 n args Li) {tmps:=vs.toArray++Array.replicate (fn.ntmps-vs.toArray.size) undef,defers:=[]} w:=by
  refine⟨g,hi,rfl,?_,fun t=> ?_⟩
  ·have:args.length≤n:=by simpa using hle
   simp[X20,hn,hl];omega
  ·show AVal.sat g (Xo _ _ _) _
   simp only[X20]
   rw[X9a]
   simp only[Nat.zero_le,if_true,Nat.sub_zero]
   cases hx:args[t]? with
   |none=>simp[AVal.sat]
   |some x=>
    obtain⟨u,hu,hsu⟩:=UX hs t x hx
    have hlt:t<vs.length:=(List.getElem?_eq_some_iff.1 hu).1
    have:(vs.toArray++Array.replicate (fn.ntmps-vs.toArray.size) undef).getD t undef=u:=by
     rw[Array.getD_eq_getD_getElem?,Array.getElem?_append_left (by simpa using hlt)]
     simp[hu]
    rw[this];exact hsu
 refine wp_mono ((h (V5 g w Li)).run _ w hstart) ?_
 rintro e a' w' ⟨T,hq,ht⟩
 have fin:Xy P rs Lo xs T→a'.defers=[]∧∃v,(results fn a'.tmps).run P w'= .ok v w'∧∃v' g',Ending.returned v= .returned v'∧(X3B xs).sat g' v'∧Inv {V5 g w Li with g0:=g'} (Xo .dead Lo) g' w'∧∀γ,XS γ Li=true→g.keeps g' γ:=by
  rintro⟨U,hU,hres,hsub⟩
  obtain⟨g',hg'⟩:=hU _ _ _ ht
  obtain⟨v,r1,r2⟩:=X9g hg' hr hres
  exact⟨hg'.2.1,v,r1,v,g',rfl,r2,(hg'.1.sub hsub).free (fun γ _=>Gh.keeps_refl _ _),fun γ hγ=>hg'.1.kp γ (X5L Li γ hlow hγ)⟩
 cases e with
 |normal=>exact fin hq
 |ret=>exact fin hq
 |_=>exact hq.elim
mutual
def AVal.within (Lo:List (Nat×AObj)):AVal→Bool
 | .ptr k _=>XS k Lo
 | .own k _=>XS k Lo
 | .rptr k _ _=>XS k Lo
 | .inn k _=>XS k Lo
 | .bsl k _=>XS k Lo
 | .rs k _ _ _=>XS k Lo
 | .mptr k _ _=>XS k Lo
 | .cut k _ _ _=>XS k Lo
 | .agg cs=>X3L Lo cs
 | .tup cs=>X3L Lo cs
 | .fn _ cs=>X3L Lo cs
 | .any=>true
 | .d _=>true
 | .dptr _=>true
 | .dx _ _=>true
 | .bq _ _=>true
def X3L (Lo:List (Nat×AObj)):List AVal→Bool
 |[]=>true
 |x::r=>x.within Lo&&X3L Lo r
end
mutual
theorem AVal.within_spec {Lo:List (Nat×AObj)}{γ:Nat}:∀(x:AVal),x.within Lo=true→x.ment γ=true→XS γ Lo=true
 | .ptr k o,h,hm=>by simp only[AVal.ment] at hm;rw[←Nat.eq_of_beq_eq_true hm];exact h
 | .own k o,h,hm=>by simp only[AVal.ment] at hm;rw[←Nat.eq_of_beq_eq_true hm];exact h
 | .rptr k _ o,h,hm=>by simp only[AVal.ment] at hm;rw[←Nat.eq_of_beq_eq_true hm];exact h
 | .bsl k _,h,hm=>by simp only[AVal.ment] at hm;rw[←Nat.eq_of_beq_eq_true hm];exact h
 | .rs k _ _ _,h,hm=>by simp only[AVal.ment] at hm;rw[←Nat.eq_of_beq_eq_true hm];exact h
 | .inn k _,h,hm=>by simp only[AVal.ment] at hm;rw[←Nat.eq_of_beq_eq_true hm];exact h
 | .mptr k _ _,h,hm=>by simp only[AVal.ment] at hm;rw[←Nat.eq_of_beq_eq_true hm];exact h
 | .cut k _ _ _,h,hm=>by simp only[AVal.ment] at hm;rw[←Nat.eq_of_beq_eq_true hm];exact h
 | .agg cs,h,hm=>X6S cs (by simpa only[AVal.within] using h) (by simpa only[AVal.ment] using hm)
 | .tup cs,h,hm=>X6S cs (by simpa only[AVal.within] using h) (by simpa only[AVal.ment] using hm)
 | .fn _ cs,h,hm=>X6S cs (by simpa only[AVal.within] using h) (by simpa only[AVal.ment] using hm)
 | .any,_,hm=>by simp[AVal.ment] at hm
 | .d _,_,hm=>by simp[AVal.ment] at hm
 | .dptr _,_,hm=>by simp[AVal.ment] at hm
 | .dx _ _,_,hm=>by simp[AVal.ment] at hm
 | .bq _ _,_,hm=>by simp[AVal.ment] at hm
theorem X6S {Lo:List (Nat×AObj)}{γ:Nat}:∀(xs:List AVal),X3L Lo xs=true→Vs γ xs=true→XS γ Lo=true
 |[],_,hm=>by simp[Vs] at hm
 |x::r,h,hm=>by
  simp only[X3L,Bool.and_eq_true] at h
  simp only[Vs,Bool.or_eq_true] at hm
  exact hm.elim (AVal.within_spec x h.1) (X6S r h.2)
end
def X2E (Lo:List (Nat×AObj)):List (Nat×AObj)→Bool
 |[]=>true
 |p::r=>X3L Lo p.2.says&&X2E Lo r
theorem Xg4 {Lo:List (Nat×AObj)}:∀(l:List (Nat×AObj)),X2E Lo l=true→∀(k:Nat) (x:AObj),(k,x)∈l→X3L Lo x.says=true
 |[],_,_,_,h=>by simp at h
 |p::r,h,k,x,hm=>by
  simp only[X2E,Bool.and_eq_true] at h
  rcases List.mem_cons.1 hm with e|hm
  ·cases e;exact h.1
  ·exact Xg4 r h.2 k x hm
def X2y (Li Lo:List (Nat×AObj)):Bool:=
 match Li with
 |[]=>true
 |p::r=>XS p.1 Lo&&X2y r Lo
theorem XfN {Lo:List (Nat×AObj)}{γ:Nat}:∀(Li:List (Nat×AObj)),X2y Li Lo=true→XS γ Li=true→XS γ Lo=true
 |[],_,h=>by simp[XS] at h
 |p::r,h,hk=>by
  simp only[X2y,Bool.and_eq_true] at h
  simp only[XS,Bool.or_eq_true] at hk
  rcases hk with e|e
  ·rw[←Nat.eq_of_beq_eq_true e];exact h.1
  ·exact XfN r h.2 e
def UL (Li:List (Nat×AObj)):List (Nat×AObj)→List Nat
 |[]=>[]
 |p::r=>bif XS p.1 Li then UL Li r else p.1::UL Li r
theorem X6I {Li:List (Nat×AObj)}{γ:Nat}:∀(Lo:List (Nat×AObj)),XS γ Lo=true→XS γ Li=false→γ∈UL Li Lo
 |[],h,_=>by simp[XS] at h
 |p::r,h,hk=>by
  simp only[XS,Bool.or_eq_true] at h
  simp only[UL]
  rcases h with e|e
  ·have:=Nat.eq_of_beq_eq_true e
   subst this
   simp[hk]
  ·cases XS p.1 Li with
   |true=>exact X6I r e hk
   |false=>exact List.mem_cons_of_mem _ (X6I r e hk)
def X1N:List Nat→List (Nat×AObj)
 |[]=>[]
 |k::r=>(k,.dead)::X1N r
theorem XaR {α:Type} (z:α) (γ:Nat):∀(l:List (Nat×α)),XS γ l=false→Xo z l γ=z
 |[],_=>rfl
 |(k,x)::r,h=>by
  simp only[XS,Bool.or_eq_false_iff] at h
  simp only[Xo,h.1,cond_false]
  exact XaR z γ r h.2
theorem Xaa {α:Type} (z:α) (γ:Nat):∀(l:List (Nat×α)),XS γ l=true→(γ,Xo z l γ)∈l
 |[],h=>by simp[XS] at h
 |(k,x)::r,h=>by
  by_cases hk:k=γ
  ·subst hk;rw[Yq];simp
  ·rw[Y9 z x r hk]
   simp only[XS,Bool.or_eq_true] at h
   exact List.mem_cons_of_mem _ (Xaa z γ r (h.resolve_left fun e=>hk (Nat.eq_of_beq_eq_true e)))
def Gh.join (g g':Gh) (Lo:List (Nat×AObj)):Gh:=
 {blk:=fun k=>if XS k Lo then g'.blk k else g.blk k,hd:=fun k=>if XS k Lo then g'.hd k else g.hd k,ihd:=fun k=>if XS k Lo then g'.ihd k else g.ihd k,M:=g'.M}
theorem Xag {E:Env}{S:St}{g g':Gh}{w w':World} (hi:Inv E S.obj g w) {Li Lo:List (Nat×AObj)} (hLi:UQ S Li) (hin:X2y Li Lo=true) (hbox:X2E Lo Lo=true)
  (hnew:X1X S (UL Li Lo)) (hdead:UQ S (X1N (UL Li Lo))) (hc:Inv {V5 g w Li with g0:=g'} (Xo .dead Lo) g' w') (hk:∀γ,XS γ Li=true→g.keeps g' γ):
  Inv E (Xo .dead (Lo++S.L)) (g.join g' Lo) w'∧(∀x u,x.within Lo=true→AVal.sat g' x u→AVal.sat (g.join g' Lo) x u)∧(∀t u,AVal.sat g (S.get t) u→AVal.sat (g.join g' Lo) (S.get t) u):=by
 rw[X4C] at hnew
 rw[X3j] at hdead
 have hsubLi:X7E Li S:=Xn hLi
 have hM:Yj g.M g'.M:=hc.ext
 have hA:∀b,(V5 g w Li).A b→∃γ,XS γ Li=true∧XM g (S.obj γ) γ b:=by
  rintro b ⟨γ,hγ⟩
  cases hkey:XS γ Li with
  |false=>rw[XaR _ _ _ hkey] at hγ;exact hγ.elim
  |true=>
   rcases hsubLi γ with e|e
   ·rw[e] at hγ;exact⟨γ,hkey,hγ⟩
   ·rw[e] at hγ;exact hγ.elim
 have hlook:∀k,Xo .dead (Lo++S.L) k=if XS k Lo then Xo .dead Lo k else S.obj k:=fun k=>X4K _ _ _ _
 have hjk:∀k,XS k Lo=true→g'.keeps (g.join g' Lo) k:=fun k h=>Gh.keeps_of (by simp[Gh.join,h]) (by simp[Gh.join,h]) (by simp[Gh.join,h])
 have hgk:∀k,(XS k Lo=true→XS k Li=true)→g.keeps (g.join g' Lo) k:=by
  intro k h
  cases hkl:XS k Lo with
  |true=>exact(hk k (h hkl)).trans' (hjk k hkl)
  |false=>exact Gh.keeps_of (by simp[Gh.join,hkl]) (by simp[Gh.join,hkl]) (by simp[Gh.join,hkl])
 have hsatR:∀x u,x.within Lo=true→AVal.sat g' x u→AVal.sat (g.join g' Lo) x u:=
  fun x u hx h=>AVal.sat_mono (g:=g') (g':=g.join g' Lo) (Yj.refl _) x u (fun γ hm=>hjk γ (AVal.within_spec x hx hm)) h
 have hment:∀k x,(∀γ∈UL Li Lo,AVal.ment γ x=false)→AVal.ment k x=true→g.keeps (g.join g' Lo) k:=by
  intro k x hx hm
  refine hgk k fun hkl=> ?_
  cases hli:XS k Li with
  |true=>rfl
  |false=>rw[hx k (X6I Lo hkl hli)] at hm;simp at hm
 have hmentL:∀k xs,(∀γ∈UL Li Lo,Vs γ xs=false)→Vs k xs=true→g.keeps (g.join g' Lo) k:=by
  intro k x hx hm
  refine hgk k fun hkl=> ?_
  cases hli:XS k Li with
  |true=>rfl
  |false=>rw[hx k (X6I Lo hkl hli)] at hm;simp at hm
 have hlv1:∀k b,XS k Lo=true→(XM (g.join g' Lo) (Xo .dead (Lo++S.L) k) k b↔XM g' (Xo .dead Lo k) k b):=by
  intro k b h
  rw[hlook,if_pos h]
  exact X2F (by simp[Gh.join,h]) (by simp[Gh.join,h]) (by simp[Gh.join,h]) _ _
 have hlv2:∀k b,XS k Lo=false→(XM (g.join g' Lo) (Xo .dead (Lo++S.L) k) k b↔XM g (S.obj k) k b):=by
  intro k b h
  rw[hlook,if_neg (by simp[h])]
  exact X2F (by simp[Gh.join,h]) (by simp[Gh.join,h]) (by simp[Gh.join,h]) _ _
 have hnotA:∀k b,XS k Lo=false→XM g (S.obj k) k b→¬(V5 g w Li).A b:=by
  intro k b hkl hb hAb
  obtain⟨γ,h1,h2⟩:=hA b hAb
  have:=hi.inj _ _ _ hb h2
  subst this
  rw[XfN Li hin h1] at hkl;simp at hkl
 have hheap:∀k b,XS k Lo=false→XM g (S.obj k) k b→w'.heap[b]? =w.heap[b]? :=fun k b hkl hb=>
  hc.frame b (X2H hi hb) (hnotA k b hkl hb)
 refine⟨⟨fun k=> ?_,fun k k' b h h'=> ?_,hc.mem,fun k b h a v ha=> ?_,fun k b h=> ?_,hi.ext.trans hM,fun a v ha=> ?_,fun b hb hAb=> ?_,Nat.le_trans hi.size hc.size,hc.os.trans hi.os,hc.out.trans hi.out,fun k hk100=> ?_⟩,hsatR,fun t u h=> ?_⟩
 ·cases hkl:XS k Lo with
  |true=>
   rw[hlook,if_pos hkl]
   have hmem:=Xaa AObj.dead k Lo hkl
   refine X4i (g:=g') (g':=g.join g' Lo) (Yj.refl _) (by simp[Gh.join,hkl]) (by simp[Gh.join,hkl]) (by simp[Gh.join,hkl]) (fun _ _=>rfl) (fun cs us e h=> ?_) (hc.obj k)
   have hwi:=Xg4 Lo hbox k _ hmem
   rw[e] at hwi
   exact X0r (g:=g') (g':=g.join g' Lo) (Yj.refl _) _ _ (fun γ hm=>hjk γ (X6S cs hwi hm)) h
  |false=>
   rw[hlook,if_neg (by simp[hkl])]
   refine X4i (g:=g) (g':=g.join g' Lo) hM (by simp[Gh.join,hkl]) (by simp[Gh.join,hkl]) (by simp[Gh.join,hkl]) (fun b hb=>hheap k b hkl hb) (fun cs us e h=> ?_) (hi.obj k)
   refine X0r (g:=g) (g':=g.join g' Lo) hM _ _ (fun γ hm=>hmentL γ cs (fun γ' hγ'=> ?_) hm) h
   have:=Xbc (hnew γ' hγ') k
   rw[AObj.ment,e] at this;exact this
 ·cases hkl:XS k Lo with
  |true=>
   rw[hlv1 k _ hkl] at h
   cases hkl':XS k' Lo with
   |true=>rw[hlv1 k' _ hkl'] at h';exact hc.inj _ _ _ h h'
   |false=>
    rw[hlv2 k' _ hkl'] at h'
    exfalso
    rcases hc.new k b h with h1|h1
    ·have h1:w.heap.size≤b:=h1
     have:=X2H hi h';omega
    ·exact hnotA k' b hkl' h' h1
  |false=>
   rw[hlv2 k _ hkl] at h
   cases hkl':XS k' Lo with
   |false=>rw[hlv2 k' _ hkl'] at h';exact hi.inj _ _ _ h h'
   |true=>
    rw[hlv1 k' _ hkl'] at h'
    exfalso
    rcases hc.new k' b h' with h1|h1
    ·have h1:w.heap.size≤b:=h1
     have:=X2H hi h;omega
    ·exact hnotA k b hkl h h1
 ·cases hkl:XS k Lo with
  |true=>rw[hlv1 k _ hkl] at h;exact hc.sep k b h a v ha
  |false=>
   rw[hlv2 k _ hkl] at h
   intro e
   rcases hc.lim a v ha with ⟨v',h1⟩|h1|h1
   ·exact hi.sep k b h a v' h1 e
   ·have h1:w.heap.size≤a.block:=h1
    have:=X2H hi h;omega
   ·rw[e] at h1;exact hnotA k b hkl h h1
 ·cases hkl:XS k Lo with
  |true=>
   rw[hlv1 k _ hkl] at h
   rcases hc.new k b h with h1|h1
   ·have h1:w.heap.size≤b:=h1
    have:=hi.size;exact .inl (by omega)
   ·obtain⟨γ,_,h2⟩:=hA b h1
    exact hi.new γ b h2
  |false=>rw[hlv2 k _ hkl] at h;exact hi.new k b h
 ·rcases hc.lim a v ha with ⟨v',h1⟩|h1|h1
  ·exact hi.lim a v' h1
  ·have h1:w.heap.size≤a.block:=h1
   have:=hi.size;exact .inr (.inl (by omega))
  ·obtain⟨γ,_,h2⟩:=hA _ h1
   exact .inr (hi.new γ _ h2)
 ·have hs:=hi.size
  rw[hc.frame b (by show b<w.heap.size;omega) (fun hAb'=>by
   obtain⟨γ,_,h2⟩:=hA b hAb'
   exact(hi.new γ b h2).elim (fun h=>by omega) hAb)]
  exact hi.frame b hb hAb
 ·refine(hi.kp k hk100).trans' (hgk k fun hkl=> ?_)
  cases hli:XS k Li with
  |true=>rfl
  |false=>
   have:=hnew k (X6I Lo hkl hli)
   simp only[St.free,Bool.and_eq_true,Nat.ble_eq] at this;omega
 ·exact AVal.sat_mono (g:=g) (g':=g.join g' Lo) hM _ _ (fun k hm=>hment k _ (fun γ hγ=>Xd5 (hnew γ hγ) t) hm) h
def evA (S:St):List Operand→List AVal
 |[]=>[]
 |x::r=>S.ev x::evA S r
def X27:List Operand→List AVal→List (Operand×AVal)
 |x::r,y::s=>(x,y)::X27 r s
 |_,_=>[]
theorem X6h {g:Gh}{a:Act}:∀{xs:List Operand}{ys:List AVal},ys.length=xs.length→X0N g a (X27 xs ys)→XB g ys (xs.map a.eval)
 |[],[],_,_=>by simp only[List.map_nil,XB]
 |x::xs,y::ys,h,hs=>by
  simp only[List.map_cons,XB]
  exact⟨hs.1,X6h (by simpa using h) hs.2⟩
 |[],_::_,h,_=>by simp at h
 |_::_,[],h,_=>by simp at h
theorem X6j (S:St):∀(xs:List Operand),X13 S (X27 xs (evA S xs))
 |[]=>trivial
 |x::r=>⟨rfl,X6j S r⟩
def AVal.le (x y:AVal):Prop:=∀g u,x.sat g u→y.sat g u
theorem AVal.le_refl (x:AVal):x.le x:=fun _ _ h=>h
theorem AVal.le_nil (sz:Nat):AVal.le ani (.d (.sl sz [])):=fun g u h=>by
 simp only[AVal.sat,D.rep] at h ⊢
 exact⟨none,0,h.1,by simp,by simp,by simp⟩
theorem AVal.le_of_eq {x y:AVal} (h:x=y):x.le y:=h ▸ AVal.le_refl x
def leL:List AVal→List AVal→Prop
 |[],[]=>True
 |x::r,y::s=>x.le y∧leL r s
 |_,_=>False
theorem X5B {g:Gh}:∀{xs ys:List AVal}{us:List Value},leL xs ys→XB g xs us→XB g ys us
 |[],[],_,_,h=>h
 |x::xs,y::ys,u::us,hl,h=>by
  simp only[XB] at h ⊢
  exact⟨hl.1 g u h.1,X5B hl.2 h.2⟩
 |_::_,_::_,[],_,h=>by simp only[XB] at h
 |[],_::_,_,hl,_=>hl.elim
 |_::_,[],_,hl,_=>hl.elim
theorem AVal.le_agg {xs ys:List AVal} (h:leL xs ys):AVal.le (.agg xs) (.agg ys):=fun g u hs=>by
 simp only[AVal.sat] at hs ⊢
 obtain⟨vs,h1,h2⟩:=hs
 exact⟨vs,h1,X5B h h2⟩
def X17 (P:Program) (f:FuncId):Bool:=match P.funcs[f]? with|some fn=> !(fn.name== "runtime.NumGoroutine")&&fn.body.isSome|none=>false
theorem X7n {P:Program}{f:FuncId} (h:X17 P f=true) (args:Array Value) (w:World):(callFunc f args).run P w= .ok (.enter f args) w:=by
 unfold X17 at h
 cases hf:P.funcs[f]? with
 |none=>simp[hf] at h
 |some fn=>
  rw[hf] at h
  simp only[Bool.and_eq_true,Bool.not_eq_true'] at h
  have hb:fn.body.isNone=false:=by
   cases hb:fn.body with
   |none=>have:=h.2;simp[hb] at this
   |some c=>rfl
  simp only[callFunc,Sem.run_bind,run_program,Result.andThen_ok,hf,h.1,hb,Bool.false_eq_true,if_false,Sem.run_pure]
section
variable {P:Program}{ops:Array Oper}{draw:Bool}{K:Y4→St→Prop}{rest:List Oper}{l:Y4}{S:St}
variable {d:Nat}{ty:TypeId}{pos:String}{aft:Array Edge}{gd:Option (Nat×Bool)}
theorem Xpj {f:FuncId}{args:Array Operand}{tys:Array TypeId}{xs:List Operand}{ys zs:List AVal}{Li Lo:List (Nat×AObj)}{res:AVal}
  (hxs:args.toList=xs) (hys:evA S xs=ys) (hle:leL ys zs) (hcon:Con P f Li zs Lo res) (hf:X17 P f=true)
  (hLi:UQ S Li) (hin:X2y Li Lo=true) (hbox:X2E Lo Lo=true) (hres:res.within Lo=true) (hnew:X1X S (UL Li Lo)) (hdead:UQ S (X1N (UL Li Lo)))
  (hd:Nat.blt d S.n=true) (hg:XR ops S gd)
  (h:Walk P ops draw K rest ((l.length,⟨some d,.call ⟨.value (.func f),args,tys⟩,ty,pos,aft,gd⟩,⟨XQ ops gd++X27 xs ys,some (d,res),Li++X1N (UL Li Lo),Lo,UL Li Lo⟩)::l)
   ((S.set d res).cat Lo)):
  Walk P ops draw K (⟨some d,.call ⟨.value (.func f),args,tys⟩,ty,pos,aft,gd⟩::rest) l S:=by
 have hap:∀(A B:List (Nat×AObj)) (T:St),UQ T (A++B)↔UQ T A∧UQ T B:=by
  intro A B T
  simp only[X3j,List.mem_append]
  exact⟨fun h=>⟨fun p hp=>h p (.inl hp),fun p hp=>h p (.inr hp)⟩,fun h p hp=>hp.elim (h.1 p) (h.2 p)⟩
 have hlen:ys.length=xs.length:=by
  rw[←hys];clear hys hxs h hle
  induction xs with
  |nil=>rfl
  |cons x r ih=>simp[evA,ih]
 refine Yh ⟨X27 xs ys,some (d,res),Li++X1N (UL Li Lo),Lo,UL Li Lo⟩ ?_ hg ⟨by rw[←hys];exact X6j S xs,(hap _ _ _).2 ⟨hLi,hdead⟩,hnew,hd⟩ h
 intro E S a w g hs hok Q K hK
 obtain⟨ok1,ok2,ok3,ok4⟩:=hok
 rw[hap] at ok2
 have hsat:=X5B hle (X6h hlen (X0M hs _ ok1))
 have hinv:Inv (V5 g w Li) (Xo .dead Li) g w:=by
  have hsub:=Xn ok2.1
  have hl:∀γ b,XM g (Xo .dead Li γ) γ b→XM g (S.obj γ) γ b:=by
   intro γ b hb
   rcases hsub γ with e|e
   ·rw[←e];exact hb
   ·rw[e] at hb;exact hb.elim
  refine⟨fun γ=> ?_,fun γ γ' b k k'=>hs.1.inj γ γ' b (hl _ _ k) (hl _ _ k'),hs.1.mem,fun γ b k=>hs.1.sep γ b (hl _ _ k),fun γ b k=> .inr ⟨γ,k⟩,Yj.refl _,fun a v ha=> .inl ⟨v,ha⟩,fun _ _ _=>rfl,Nat.le_refl _,rfl,rfl,fun γ _=>Gh.keeps_refl _ _⟩
  rcases hsub γ with e|e
  ·rw[e];exact hs.1.obj γ
  ·rw[e];trivial
 have hcall:=hcon g w (xs.map a.eval) hinv hsat
 have hrun:(execOp a.eval ⟨some d,.call ⟨.value (.func f),args,tys⟩,ty,pos,aft,gd⟩).run P w= .ok (.enter f (xs.map a.eval).toArray) w:=by
  have e1:(#[]++args.map a.eval++ #[]:Array Value)=(xs.map a.eval).toArray:=by
   apply Array.ext';simp[←hxs]
  simp only[execOp,resolve,Act.eval,Deferred.ofValue,Sem.run_bind,Sem.run_pure,Result.andThen_ok,invoke]
  rw[X7n hf]
  congr 2
 unfold Oper.wp
 rw[hrun,Oper.upon_enter]
 refine hcall.mono ?_
 rintro e w' ⟨v,g',rfl,hv,hi',hk⟩
 obtain⟨j1,j2,j3⟩:=Xag hs.1 ok2.1 hin hbox ok3 ok2.2 hi' hk
 exact hK _ _ (X1u j1 hs.2.1 hs.2.2.1 (fun t=>j3 t _ (hs.2.2.2 t)) (j2 _ _ hres hv) ok4)
end
def leT (S:St):List (Nat×AVal)→Prop
 |[]=>True
 |p::r=>(S.get p.1).le p.2∧leT S r
theorem XeI {S:St}{t:Nat}:∀(l:List (Nat×AVal)),leT S l→(Xo .any l t= .any∨(S.get t).le (Xo .any l t))
 |[],_=> .inl rfl
 |(k,x)::r,h=>by
  by_cases hk:k=t
  ·subst hk;rw[Yq];exact .inr h.1
  ·rw[Y9 _ _ _ hk];exact XeI r h.2
theorem Xd {S:St}{n:Nat}{τ:List (Nat×AVal)}{L:List (Nat×AObj)} (hn:S.n=n) (ht:leT S τ) (hL:UQ S L):S.le ⟨n,τ,L⟩:=by
 rintro E a w ⟨g,h1,h2,h3,h4⟩
 refine⟨g,h1.sub (Xn hL),h2,h3.trans hn,fun t=> ?_⟩
 show AVal.sat g (Xo .any τ t) _
 rcases XeI τ ht with e|e
 ·rw[e];simp only[AVal.sat]
 ·exact e g _ (h4 t)
theorem Xr2 {M:Mem}{sz:Nat}{xs:List (List D)}{u:Value} (h:(D.sl sz xs).rep M u):xs.length≤9223372036854775807:=by
 simp only[D.rep] at h
 obtain⟨a,cap,_,h2,h3,_⟩:=h
 unfold maxLen at h3;omega
theorem XeO {P:Program}{E:Env}{c:Code}{S:St}{Q:Exit→St→Prop} (t:Nat) {sz:Nat}{xs:List (List D)} (ht:S.get t= .d (.sl sz xs)) (h:xs.length≤9223372036854775807→AWP P E c S Q):AWP P E c S Q:=by
 refine⟨fun a w hs=> ?_⟩
 obtain⟨g,hg⟩:=hs
 have:=hg.2.2.2 t
 rw[ht] at this
 simp only[AVal.sat] at this
 exact(h (Xr2 this)).run a w ⟨g,hg⟩
theorem X35 {E:Env}{S T:St}{g g':Gh}{a:Act}{w:World} (hs:Vl E S g a w) (hi:Inv E T.obj g' w) (hn:T.n=S.n) (ht:∀t,(T.get t).sat g' (a.tmps.getD t undef)):holds E T a w:=
 ⟨g',hi,hs.2.1,by rw[hs.2.2.1,hn],ht⟩
theorem V3 {S:St} (t γ sz:Nat) (ht:S.get t=ani) (hdead:S.obj γ= .dead) (hf:S.free γ=true):
  S.le ((S.set t (.own γ 0)).own γ (.row sz [])):=by
 rintro E a w ⟨g,hs⟩
 have hi:=X4g hs.1 γ hf hdead (.row sz []) 0 (.slice none 0 0) (w':=w) (fun _ _=>rfl) (Nat.le_refl _) rfl rfl
  ⟨by simp,.inl ⟨by simp[Gh.put],rfl⟩⟩ (fun k hk=>by obtain⟨a,n,c,e,_⟩:=hk;simp[Gh.put] at e)
 refine X35 hs hi rfl fun k=> ?_
 by_cases hk:k=t
 ·subst hk
  show AVal.sat _ (Xo .any ((k,_)::S.τ) k) _
  rw[Yq]
  have:=hs.2.2.2 k
  rw[ht] at this
  rw[Uc this]
  simp only[AVal.sat]
  exact⟨rfl,none,0,0,by simp[Gh.put],Nat.le_refl _,fun _=>rfl⟩
 ·show AVal.sat _ (Xo .any ((t,_)::S.τ) k) _
  rw[Y9 _ _ _ (Ne.symm hk)]
  exact X2v hf hs.2.2.2 k
theorem X3S {S:St} (β j γ sz:Nat) {cs:List AVal} (hb:S.obj β= .box cs) (hj:cs[j]? =some ani) (hdead:S.obj γ= .dead) (hf:S.free γ=true) (hne:Nat.beq γ β=false):
  S.le ((S.own γ (.row sz [])).own β (.box (cs.set j (.own γ 0)))):=by
 rintro E a w ⟨g,hs⟩
 have hi:=X4g hs.1 γ hf hdead (.row sz []) 0 (.slice none 0 0) (w':=w) (fun _ _=>rfl) (Nat.le_refl _) rfl rfl
  ⟨by simp,.inl ⟨by simp[Gh.put],rfl⟩⟩ (fun k hk=>by obtain⟨a,n,c,e,_⟩:=hk;simp[Gh.put] at e)
 have hne':γ≠β:=X3N hne
 have hob:Xo .dead ((γ,.row sz [])::S.L) β= .box cs:=by rw[Y9 _ _ _ hne'];exact hb
 have ho:=hi.obj β
 rw[hob] at ho
 obtain⟨vs,e,fr,h1,h2,h3,h4⟩:=ho
 have hi2:Inv E (Xo .dead ((β,.box (cs.set j (.own γ 0)))::(γ,.row sz [])::S.L)) (g.put γ 0 (.slice none 0 0)) w:=by
  refine Inv.upd hi β _ (Yq _ _ _ _) (fun k hk=>Y9 _ _ _ (Ne.symm hk)) (fun _ _ _=>rfl) (Nat.le_refl _) rfl rfl rfl (fun _ _=>⟨rfl,rfl,rfl⟩) (fun _ _ _ _ _ h=>h) ?_ (fun b hb'=> .inl (by rw[hob];exact hb')) (fun _=>Gh.keeps_refl _ _)
  have hlen:=Ue h3
  refine⟨vs,e,fr,h1,h2,X24 (by simp[hlen]) fun i x u hx hu=> ?_,fun c hc=> ?_⟩
  ·rw[List.getElem?_set] at hx
   split at hx
   ·rename_i hij
    subst hij
    obtain⟨u',k1,k2⟩:=UX h3 j ani hj
    rw[k1] at hu;cases hu
    split at hx
    ·cases hx
     rw[Uc k2]
     simp only[AVal.sat]
     exact⟨rfl,none,0,0,by simp[Gh.put],Nat.le_refl _,fun _=>rfl⟩
    ·simp at hx
   ·obtain⟨u',k1,k2⟩:=UX h3 i x hx
    rw[k1] at hu;cases hu;exact k2
  ·rcases List.mem_or_eq_of_mem_set hc with h|h
   ·exact h4 c h
   ·rw[h];rfl
 exact X35 hs hi2 rfl (X2v hf hs.2.2.2)
theorem X93 {E:Env}{S:St}{g:Gh}{w:World} (hi:Inv E S.obj g w) {γ sz:Nat}{xs:List (List D)} (hL:S.obj γ= .row sz xs):
  ∃M',Yj g.M M'∧Inv E (Xo .dead ((γ,.froz sz xs)::S.L)) {g with M:=M'} w:=by
 have ho:=hi.obj γ
 rw[hL] at ho
 obtain⟨hlen,ho⟩:=ho
 have key:∀(M':Mem),Yj g.M M'→(D.sl sz xs).rep M' (g.hd γ)→(∀a v,M' a=some v→g.M a=some v∨(w.cell? a=some v∧XM g (S.obj γ) γ a.block))→
   Inv E (Xo .dead ((γ,.froz sz xs)::S.L)) {g with M:=M'} w:=by
  intro M' hle hrep hM'
  have hlook:∀k,Xo .dead ((γ,.froz sz xs)::S.L) k=if k=γ then .froz sz xs else S.obj k:=by
   intro k
   by_cases hk:k=γ
   ·subst hk;rw[Yq,if_pos rfl]
   ·rw[Y9 _ _ _ (Ne.symm hk),if_neg hk];rfl
  have hlv:∀k b,XM {g with M:=M'} (Xo .dead ((γ,.froz sz xs)::S.L) k) k b→k≠γ∧XM g (S.obj k) k b:=by
   intro k b h
   rw[hlook] at h
   by_cases hk:k=γ
   ·rw[if_pos hk] at h;exact h.elim
   ·rw[if_neg hk] at h
    refine⟨hk,?_⟩
    rwa [X2F (g:=g) (g':={g with M:=M'}) rfl rfl rfl] at h
  refine⟨fun k=> ?_,fun k k' b h h'=>hi.inj k k' b (hlv _ _ h).2 (hlv _ _ h').2,fun a v h=> ?_,fun k b h a v ha=> ?_,fun k b h=>hi.new k b (hlv _ _ h).2,hi.ext.trans hle,fun a v h=> ?_,hi.frame,hi.size,hi.os,hi.out,fun k hk=>(hi.kp k hk).trans' (Gh.keeps_of rfl rfl rfl)⟩
  ·rw[hlook]
   by_cases hk:k=γ
   ·subst hk;rw[if_pos rfl];exact hrep
   ·rw[if_neg hk];exact X97 (g:=g) (g':={g with M:=M'}) hle rfl rfl rfl (fun _ _=>rfl) (hi.obj k)
  ·rcases hM' a v h with h1|h1
   ·exact hi.mem a v h1
   ·exact h1.1
  ·obtain⟨hk,hb⟩:=hlv k b h
   rcases hM' a v ha with h1|h1
   ·exact hi.sep k b hb a v h1
   ·intro e
    rw[e] at h1
    exact hk (hi.inj _ _ _ hb h1.2)
  ·rcases hM' a v h with h1|h1
   ·exact hi.lim a v h1
   ·exact .inr (hi.new γ _ h1.2)
 rcases ho with ⟨h1,rfl⟩|⟨b,cap,vs,e,fr,h1,h2,h3,h4,h5,h6,h7⟩
 ·refine⟨g.M,Yj.refl _,key g.M (Yj.refl _) ?_ (fun a v h=> .inl h)⟩
  simp only[D.rep]
  exact⟨none,0,h1,by simp,by simp,by simp⟩
 ·have hlv:XM g (S.obj γ) γ b:=by rw[hL];exact⟨_,_,_,h1,rfl⟩
  have hle:Yj g.M (fun p=>if p.block=b∧p.spot=none then vs[p.off]? else g.M p):=by
   intro a v h
   have:=hi.sep γ b hlv a v h
   show(if _ then _ else _)=_
   rw[if_neg (fun hc=>this hc.1)];exact h
  refine⟨_,hle,key _ hle ?_ (fun a v h=> ?_)⟩
  ·simp only[D.rep]
   refine⟨_,cap,h1,h2,h3,.inr ⟨b,0,rfl,X5x xs 0 hlen fun i d hd=> ?_⟩⟩
   obtain⟨hl,hr⟩:=X3U h7
   obtain⟨u,hu,hsu⟩:=hr i d hd
   refine⟨u,?_,D.rep_mono hle _ _ hsu⟩
   show(if _ then _ else _)=_
   rw[if_pos ⟨rfl,rfl⟩,Nat.zero_add]
   rw[List.getElem?_take] at hu
   split at hu
   ·simpa using hu
   ·simp at hu
  ·have h':(if a.block=b∧a.spot=none then vs[a.off]? else g.M a)=some v:=h
   split at h'
   ·rename_i hc
    obtain⟨b',o,s⟩:=a
    simp only at hc
    obtain⟨rfl,rfl⟩:=hc
    right
    exact⟨by rw[cell_of_row w _ _ vs e fr h4];exact h',hlv⟩
   ·exact .inl h'
theorem Yg {S:St} (γ:Nat) {sz:Nat}{xs:List (List D)} (hL:S.obj γ= .row sz xs):S.le (S.own γ (.froz sz xs)):=by
 rintro E a w ⟨g,hs⟩
 obtain⟨M',hle,hi⟩:=X93 hs.1 hL
 exact X35 hs hi rfl fun t=>X26 (g:=g) (g':={g with M:=M'}) hle rfl rfl rfl (hs.2.2.2 t)
theorem X5V {g:Gh}{w:World}{γ sz n:Nat}{xs:List (List D)}{u:Value} (ho:Ua g w γ (.froz sz xs)) (hn:n=xs.length) (h:(AVal.own γ n).sat g u):(AVal.d (.sl sz xs)).sat g u:=by
 simp only[AVal.sat] at h ⊢
 obtain⟨_,a,m,c,h1,h2,h3⟩:=h
 have ho':=ho
 simp only[Ua,D.rep] at ho
 obtain⟨a',cap,k1,_⟩:=ho
 rw[k1] at h1;cases h1
 rw[h3 hn,←k1];exact ho'
theorem Yx {S:St} (t γ:Nat) {n sz:Nat}{xs:List (List D)} (ht:S.get t= .own γ n) (hL:S.obj γ= .froz sz xs) (hn:n=xs.length):S.le (S.set t (.d (.sl sz xs))):=by
 rintro E a w ⟨g,hs⟩
 refine X35 hs hs.1 rfl fun k=> ?_
 by_cases hk:k=t
 ·subst hk
  show AVal.sat _ (Xo .any ((k,_)::S.τ) k) _
  rw[Yq]
  have:=hs.2.2.2 k
  rw[ht] at this
  have ho:=hs.1.obj γ
  rw[hL] at ho
  exact X5V ho hn this
 ·show AVal.sat _ (Xo .any ((t,_)::S.τ) k) _
  rw[Y9 _ _ _ (Ne.symm hk)]
  exact hs.2.2.2 k
theorem X0v {S:St} (β j γ:Nat) {cs:List AVal}{n sz:Nat}{xs:List (List D)} (hb:S.obj β= .box cs) (hj:cs[j]? =some (.own γ n)) (hL:S.obj γ= .froz sz xs) (hn:n=xs.length):
  S.le (S.own β (.box (cs.set j (.d (.sl sz xs))))):=by
 rintro E a w ⟨g,hs⟩
 have ho:=hs.1.obj β
 rw[hb] at ho
 obtain⟨vs,e,fr,h1,h2,h3,h4⟩:=ho
 have hf:=hs.1.obj γ
 rw[hL] at hf
 have hi2:Inv E (Xo .dead ((β,.box (cs.set j (.d (.sl sz xs))))::S.L)) g w:=by
  refine Inv.upd hs.1 β _ (Yq _ _ _ _) (fun k hk=>Y9 _ _ _ (Ne.symm hk)) (fun _ _ _=>rfl) (Nat.le_refl _) rfl rfl rfl (fun _ _=>⟨rfl,rfl,rfl⟩) (fun _ _ _ _ _ h=>h) ?_ (fun b hb'=> .inl (by rw[hb];exact hb')) (fun _=>Gh.keeps_refl _ _)
  have hlen:=Ue h3
  refine⟨vs,e,fr,h1,h2,X24 (by simp[hlen]) fun i x u hx hu=> ?_,fun c hc=> ?_⟩
  ·rw[List.getElem?_set] at hx
   split at hx
   ·rename_i hij
    subst hij
    obtain⟨u',k1,k2⟩:=UX h3 j _ hj
    rw[k1] at hu;cases hu
    split at hx
    ·cases hx;exact X5V hf hn k2
    ·simp at hx
   ·obtain⟨u',k1,k2⟩:=UX h3 i x hx
    rw[k1] at hu;cases hu;exact k2
  ·rcases List.mem_or_eq_of_mem_set hc with h|h
   ·exact h4 c h
   ·rw[h];rfl
 exact X35 hs hi2 rfl hs.2.2.2
end Go.Fw
