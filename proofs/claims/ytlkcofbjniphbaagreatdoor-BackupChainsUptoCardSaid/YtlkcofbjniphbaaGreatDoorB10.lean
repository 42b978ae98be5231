/- Deferred calls: a function whose deferred closure may recover. -/
import Derived.Defers
import Derived.WalkKit
import Derived.ProofKit
import Derived.ChangeSame
import Derived.OpenShut
import Derived.Deep.Slices
import Derived.Deep.Strs
import Derived.Laws.Concat
import Derived.Test.YtlkcofbjniphbaaGreatDoorRows
import Derived.Test.YtlkcofbjniphbaaGreatDoorB09
namespace Go.Fw
open Go
set_option linter.unusedVariables false
set_option linter.unusedSimpArgs false
structure AW (P:Program) (E:Env) (c:Code) (S:St) (R:Exit→Act→World→Prop):Prop where
 run:∀a w,holds E S a w→c.wp P R a w
section
variable {P:Program}{E:Env}{S:St}{R:Exit→Act→World→Prop}
theorem X7L {c:Code} (h:AWP P E c S (fun e T=> ∀a w,holds E T a w→R e a w)):AW P E c S R:=
 ⟨fun a w hs=>wp_mono (h.run a w hs) fun e a' w' ⟨T,h1,h2⟩=>h1 a' w' h2⟩
theorem X2x {x y:Code} (h:AWP P E x S (X2j (fun T=>AW P E y T R) (fun e T=> ∀a w,holds E T a w→R e a w))):AW P E (.seq x y) S R:=by
 refine⟨fun a w hs=>wp_seq (wp_mono (h.run a w hs) ?_)⟩
 rintro e a' w' ⟨T,hq,ht⟩
 cases e<;>first|exact hq.run a' w' ht|exact hq a' w' ht
theorem X8D {c:Code}{T:St} (h:S.le T) (k:AW P E c T R):AW P E c S R:=⟨fun a w hs=>k.run a w (h E a w hs)⟩
end
def X4P (E:Env) (Li Lo:List (Nat×AObj)) (xs:List AVal):Ending→World→Prop:=fun e w'=>
 ∃v g',e= .returned v∧(X3B xs).sat g' v∧Inv {E with g0:=g'} (Xo .dead Lo) g' w'∧∀γ,XS γ Li=true→E.g0.keeps g' γ
theorem X68 {P:Program}{f:FuncId}{fn:Func}{c:Code}{n:Nat}{Li Lo:List (Nat×AObj)}{args xs:List AVal} (hf:P.funcs[f]? =some fn) (hb:fn.body=some c) (hn:fn.ntmps=n)
  (hle:Nat.ble args.length n=true) (h:∀E,E.ds=[]→AW P E c (X20 n args Li) (bodyPostD P fn (X4P E Li Lo xs))):Con P f Li args Lo (X3B xs):=by
 intro g w vs hi hs
 have hl:=Ue hs
 refine calls_of_wp_defers hf hb ?_
 have hstart:holds (V5 g w Li) (X20 n args Li) {tmps:=vs.toArray++Array.replicate (fn.ntmps-vs.toArray.size) undef,defers:=[]} w:=by
  refine⟨g,hi,rfl,?_,fun t=> ?_⟩
  ·have:args.length≤n:=by simpa using hle
   simp[X20,hn,hl];omega
  ·show AVal.sat g (Xo _ _ _) _
   simp only[X20]
   rw[X9a]
   simp only[Nat.zero_le,if_true,Nat.sub_zero]
   cases hx:args[t]? with
   |none=>simp[AVal.sat]
   |some x=>
    obtain⟨u,hu,hsu⟩:=UX hs t x hx
    have hlt:t<vs.length:=(List.getElem?_eq_some_iff.1 hu).1
    have:(vs.toArray++Array.replicate (fn.ntmps-vs.toArray.size) undef).getD t undef=u:=by
     rw[Array.getD_eq_getD_getElem?,Array.getElem?_append_left (by simpa using hlt)]
     simp[hu]
    rw[this];exact hsu
 exact(h (V5 g w Li) rfl).run _ w hstart
section
variable {P:Program}{E:Env}{fn:Func}{rs:List ResultVar}{Li Lo:List (Nat×AObj)}{xs:List AVal}
theorem Xnm {T:St} (hds:E.ds=[]) (hr:fn.results.toList=rs) (hlow:X4v Li=true) (h:Xy P rs Lo xs T) {a:Act}{w:World} (hs:holds E T a w):Leaves P fn a.tmps (X4P E Li Lo xs) a.defers .returning w:=by
 obtain⟨U,hU,hres,hsub⟩:=h
 obtain⟨g',hg'⟩:=hU _ _ _ hs
 obtain⟨v,r1,r2⟩:=X9g hg' hr hres
 rw[hg'.2.1,hds]
 exact⟨v,r1,v,g',rfl,r2,(hg'.1.sub hsub).free (fun γ _=>Gh.keeps_refl _ _),fun γ hγ=>hg'.1.kp γ (X5L Li γ hlow hγ)⟩
abbrev dfr (f:FuncId) (b:Nat):Deferred:={target:= .fn (.func f) #[.pointer (some ⟨b,0,none⟩)],args:= #[]}
theorem XdS {f:FuncId} (hf:X17 P f=true) (b:Nat) (w:World):(invoke (dfr f b).target (dfr f b).args).run P w= .ok (.enter f #[.pointer (some ⟨b,0,none⟩)]) w:=by
 simp only[invoke]
 rw[X7n hf]
 rfl
theorem Xeg {T:St}{f:FuncId}{b:Nat}{R:Ending→World→Prop} (hf:X17 P f=true) (hds:E.ds=[dfr f b]) (hr:fn.results.toList=rs) (hlow:X4v Li=true)
  (hR:∀x w',X4P E Li Lo xs x w'→R x w')
  (hidle:∀p w,CallsD P f #[.pointer (some p)] .returning w fun e u' w'=>e= .returned (.tuple #[])∧u'= .returning∧w'=w) (h:Xy P rs Lo xs T) {a:Act}{w:World} (hs:holds E T a w):Leaves P fn a.tmps R a.defers .returning w:=by
 obtain⟨U,hU,hres,hsub⟩:=h
 obtain⟨g',hg'⟩:=hU _ _ _ hs
 obtain⟨v,r1,r2⟩:=X9g hg' hr hres
 rw[hg'.2.1,hds]
 refine leaves_cons (f:=f) (args:= #[.pointer (some ⟨b,0,none⟩)]) (by simp) (XdS hf b w) ((hidle _ _).mono ?_)
 rintro e u' w' ⟨rfl,rfl,rfl⟩
 exact⟨v,r1,hR _ _ ⟨v,g',rfl,r2,(hg'.1.sub hsub).free (fun γ _=>Gh.keeps_refl _ _),fun γ hγ=>hg'.1.kp γ (X5L Li γ hlow hγ)⟩⟩
end
theorem Xoc {E:Env}{S:St}{g:Gh}{a:Act}{w:World}{γ:Nat}{x0 y:AVal}{u:Value} (hs:Vl E S g a w) (hL:S.obj γ= .box [x0]) (hy:y.sat g u) (hc:y.cellish=true):
  ∃c0,w.cell? ⟨g.blk γ,0,none⟩=some c0∧x0.sat g c0∧w.frozen? ⟨g.blk γ,0,none⟩=false∧Vl E (S.own γ (.box [y])) g a (w.setCell ⟨g.blk γ,0,none⟩ u):=by
 have ho:=hs.1.obj γ
 rw[hL] at ho
 obtain⟨vs,e,fr,h1,h2,h3,h4⟩:=ho
 obtain⟨c0,hc0,hsat⟩:=UX h3 0 x0 rfl
 have hsz:vs.size=1:=by have:=Ue h3;simpa using this
 have hvs:vs= #[c0]:=by
  apply Array.ext'
  match h:vs.toList,hc0 with
  |[c],hc0=>simp only[List.getElem?_cons_zero,Option.some.injEq] at hc0;rw[hc0]
  |[],hc0=>simp at hc0
  |c::d::r,_=>have:=congrArg List.length h;simp[hsz] at this
 subst hvs
 have hb:(w.setCell ⟨g.blk γ,0,none⟩ u).heap[g.blk γ]? =some (.cells #[u] e fr):=by
  simp[World.setCell,Array.getElem?_modify,h1]
 refine⟨c0,by rw[cell_of_row w _ 0 _ e fr h1];rfl,hsat,?_,?_,hs.2.1,hs.2.2.1,hs.2.2.2⟩
 ·have:=h2 0 (by omega)
  unfold World.frozen?
  simp only[h1]
  by_cases h:fr.1≤0
  ·have:¬0<fr.2:=fun k=>this ⟨h,k⟩
   simp[this]
  ·simp[h]
 ·refine Inv.upd hs.1 γ _ (Yq _ _ _ _) (fun k hk=>Y9 _ _ _ (Ne.symm hk)) (fun b hb hnl=> ?_) (by simp[World.setCell]) rfl rfl rfl (fun k hk=>⟨rfl,rfl,rfl⟩) (fun k cs us _ _ h=>h) ?_ (fun b hb=> .inl (by rw[hL];exact hb)) (fun _=>Gh.keeps_refl _ _)
  ·have:g.blk γ≠b:=fun e=>hnl (by rw[hL,←e];rfl)
   simp[World.setCell,Array.getElem?_modify,this]
  ·refine⟨#[u],e,fr,hb,h2,?_,fun c hcm=> ?_⟩
   ·simp only[XB,and_true];exact hy
   ·rw[List.mem_singleton.1 hcm];exact hc
theorem XhL {P:Program}{E:Env}{fn:Func}{Li Lo:List (Nat×AObj)}{T:St}{f:FuncId}{b β t:Nat}{ty:TypeId}{x:PanicEntry}{e e0:Int}{R:Ending→World→Prop} (hf:X17 P f=true) (hds:E.ds=[dfr f b]) (hb:E.g0.blk β=b) (hβ:β<100) (hr:fn.results.toList=[.cell t ty]) (hty:X0I P ty false 1=true) (hlow:X4v Li=true)
  (hR:∀x w',X4P E Li Lo [ai e] x w'→R x w') (hrec:x.recovered=true)
  (hcatch:∀(p:Addr) (e0:Int) (w:World),w.cell? p=some (.int .i64 e0)→w.frozen? p=false→CallsD P f #[.pointer (some p)] (.panicking [{x with recovered:=false}]) w fun y u' w'=>y= .returned (.tuple #[])∧u'= .panicking [{x with recovered:=true}]∧w'=w.setCell p (.int .i64 e))
  (hg:T.get t= .ptr β 0) (hL:T.obj β= .box [ai e0]) (hLo:∀γ,Xo .dead Lo γ= .dead) {a:Act}{w:World} (hs:holds E T a w):Leaves P fn a.tmps R a.defers (.panicking [{x with recovered:=false}]) w:=by
 obtain⟨g,hs⟩:=hs
 obtain⟨c0,k1,k2,k3,k4⟩:=Xoc (y:=ai e) (u:= .int .i64 e) hs hL (VB rfl) rfl
 have hbk:g.blk β=b:=((hs.1.kp β hβ).1).trans hb
 have hc0:c0= .int .i64 e0:=Uc k2
 subst hc0
 rw[hbk] at k1 k3 k4
 rw[hs.2.1,hds]
 refine leaves_cons (f:=f) (args:= #[.pointer (some ⟨b,0,none⟩)]) (by simp) (XdS hf b w) ((hcatch _ _ _ k1 k3).mono ?_)
 rintro y u' w' ⟨rfl,rfl,rfl⟩
 have hres:X5O P (T.own β (.box [ai e])) [.cell t ty] [ai e]:=⟨⟨β,0,_,hg,Yq _ _ _ _,.inl ⟨hty,rfl⟩⟩,trivial⟩
 obtain⟨v,r1,r2⟩:=X9g k4 hr hres
 exact⟨v,r1,hR _ _ ⟨v,g,rfl,r2,(k4.1.sub fun γ=> .inr (hLo γ)).free (fun γ _=>Gh.keeps_refl _ _),fun γ hγ=>k4.1.kp γ (X5L Li γ hlow hγ)⟩⟩
theorem Xk1 {a b k:Nat} (h1:k≠a) (h2:k≠b):swp a b k=k:=by
 simp only[swp]
 have e1:Nat.beq k a=false:=by cases h:Nat.beq k a with|false=>rfl|true=>exact absurd (Nat.eq_of_beq_eq_true h) h1
 have e2:Nat.beq k b=false:=by cases h:Nat.beq k b with|false=>rfl|true=>exact absurd (Nat.eq_of_beq_eq_true h) h2
 simp[e1,e2]
theorem X8d {P:Program}{E:Env}{S:St}{R:Exit→Act→World→Prop}{id:Nat}{ops:Array Oper}{y:Code} (k:Nat) {t:Tmp}{f:FuncId}{Li Lo:List (Nat×AObj)}{xs:List AVal} (β β':Nat) {ty:TypeId}{pos:String}{aft:Array Edge}
  (ho:ops[k]? =some ⟨none,.defer ⟨.value (.tmp t),#[],#[]⟩,ty,pos,aft,none⟩) (hsz:ops.size=k+1) (hds:E.ds=[]) (hβ:β≥100) (hLi:∀γ,XS γ Li=true→γ<100∧γ≠β')
  (h:Walk P ops false (fun _ T=>T.ev (.tmp t)= .fn f [.ptr β 0]∧∀E' b,E'.ds=[dfr f b]→E'.g0.blk β'=b→(∀x w',X4P E' Li Lo xs x w'→X4P E Li Lo xs x w')→AW P E' y ⟨T.n,X48 (swp β β') T.τ,X09 (swp β β') T.L⟩ R) (ops.toList.take k) [] S):AW P E (.seq (.region id ops false) y) S R:=by
 refine⟨fun a w hs=>wp_seq ?_⟩
 refine wp_region ?_
 obtain⟨m,T,-,⟨hT,hrest⟩,h3,h4,h5⟩:=h.chain
 have hlen:m.length=k:=by have:=congrArg List.length h4;simp only[List.length_map,List.length_take,Array.length_toList] at this;omega
 have hat:∀x∈m,ops[x.1]? =some x.2.1:=by
  intro x hx
  obtain⟨i,hi,rfl⟩:=List.getElem_of_mem hx
  have e1:(m[i]).1=i:=by
   have:=congrArg (fun l=>l[i]?) h5
   simpa [hi] using this
  have e2:=congrArg (fun l=>l[i]?) h4
  simp only[List.getElem?_map,List.getElem?_eq_getElem hi,Option.map_some,List.getElem?_take,if_pos (show i<k by omega)] at e2
  rw[e1];simpa using e2.symm
 have hfin:∀a w,holds E T a w→wpOps P ops (fun| .normal,a,w=>y.wp P R a w|e,a,w=>R e a w) [k] a w:=by
  rintro a w ⟨g,hg⟩
  rw[wpOps_cons]
  unfold wpOp
  simp only[ho]
  rw[if_pos (show Region.wanted _ _=true from rfl)]
  have hv:=X6D hg (.tmp t)
  rw[hT] at hv
  simp only[AVal.sat] at hv
  obtain⟨vs,hv,hvs⟩:=hv
  have hvs':vs= #[.pointer (some ⟨g.blk β,0,none⟩)]:=by
   apply Array.ext'
   match hq:vs.toList,hvs with
   |[v],hvs=>simp only[XB,AVal.sat,and_true] at hvs;rw[hvs]
   |[],hvs=>simp[XB] at hvs
   |_::_::_,hvs=>simp[XB] at hvs
  subst hvs'
  left
  unfold Oper.wp
  have hrun:(execOp a.eval ⟨none,.defer ⟨.value (.tmp t),#[],#[]⟩,ty,pos,aft,none⟩).run P w= .ok (.defer (dfr f (g.blk β))) w:=by
   simp[execOp,resolve,hv,Deferred.ofValue]
  rw[hrun,Oper.upon_defer]
  show Code.wp P y R _ _
  refine(hrest {E with ds:=[dfr f (g.blk β)],g0:=g.pull (swp β β')} (g.blk β) rfl ?_ ?_).run _ _ ?_
  ·show g.blk (swp β β' β')=g.blk β
   have:swp β β' β'=β:=by
    have:=X38 β β' β
    rwa [show swp β β' β=β' from by simp[swp]] at this
   rw[this]
  ·rintro x w' ⟨v,g',e1,e2,e3,e4⟩
   refine⟨v,g',e1,e2,⟨e3.obj,e3.inj,e3.mem,e3.sep,e3.new,e3.ext,e3.lim,e3.frame,e3.size,e3.os,e3.out,e3.kp⟩,fun γ hγ=> ?_⟩
   obtain⟨q1,q2⟩:=hLi γ hγ
   have e:=e4 γ hγ
   have hid:swp β β' γ=γ:=Xk1 (by omega) q2
   exact(hg.1.kp γ q1).trans' ((Gh.keeps_of (g':=g.pull (swp β β')) (by simp only[Gh.pull,hid]) (by simp only[Gh.pull,hid]) (by simp only[Gh.pull,hid])).trans' e)
  ·have hpp:(g.pull (swp β β')).pull (swp β β')=g:=by simp only[Gh.pull,X38]
   have hi:Inv {E with g0:=(g.pull (swp β β')).pull (swp β β')} (Xo .dead T.L) ((g.pull (swp β β')).pull (swp β β')) w:=by
    rw[hpp]
    exact hg.1.free fun _ _=>Gh.keeps_refl _ _
   have hi2:=(X7N (E:=E) (g0:=g.pull (swp β β')) (X38 β β') (X38 β β')).2 hi
   refine⟨g.pull (swp β β'),⟨hi2.obj,hi2.inj,hi2.mem,hi2.sep,hi2.new,hi2.ext,hi2.lim,hi2.frame,hi2.size,hi2.os,hi2.out,hi2.kp⟩,?_,hg.2.2.1,fun t'=> ?_⟩
   ·show _::a.defers=_
    rw[hg.2.1,hds]
   ·show AVal.sat _ (Xo .any (X48 (swp β β') T.τ) t') _
    rw[XbX,X7v,hpp]
    exact hg.2.2.2 t'
 obtain⟨g,hs⟩:=hs
 have:=X9w (P:=P) (Q:=fun| .normal,a,w=>y.wp P R a w|e,a,w=>R e a w) [k] hfin m S a w hat h3 ⟨g,hs⟩
 rw[h5,hlen,List.length_nil] at this
 have e:List.range' 0 k++[k]=List.range ops.size:=by
  rw[hsz,List.range_succ,List.range_eq_range']
 rw[e] at this
 exact this
def X3a (W W':World):Prop:=W'.os=W.os∧W'.output=W.output∧W.heap.size≤W'.heap.size∧∀b,b<W.heap.size→W'.heap[b]? =W.heap[b]?
def g0 (M:Mem):Gh:=⟨fun _=>0,fun _=> .slice none 0 0,fun _ _=> .slice none 0 0,M⟩
theorem XaU {P:Program}{f:FuncId}{aZ:List AVal}{res:AVal}{args:Array Value}{W:World} (hc:Con P f [] aZ [] res) (M:Mem) (hM:∀a v,M a=some v→W.cell? a=some v)
  (hs:XB (g0 M) aZ args.toList):Calls P f args W fun e W'=> ∃v g',e= .returned v∧res.sat g' v∧X3a W W':=by
 have hi:Inv (V5 (g0 M) W []) (Xo .dead []) (g0 M) W:=by
  refine⟨fun _=>trivial,fun _ _ _ h=>h.elim,hM,fun _ _ h=>h.elim,fun _ _ h=>h.elim,Yj.refl _,fun a v h=> .inl ⟨v,h⟩,fun _ _ _=>rfl,Nat.le_refl _,rfl,rfl,fun γ _=>Gh.keeps_refl _ _⟩
 refine(hc (g0 M) W args.toList hi hs).mono ?_
 rintro e W' ⟨v,g',rfl,hv,hi',_⟩
 exact⟨v,g',rfl,hv,hi'.os,hi'.out,hi'.size,fun b hb=>hi'.frame b hb fun⟨γ,h⟩=>h.elim⟩
theorem X3a.but {W W':World} (h:X3a W W') (may:MemPlace→Prop):W.keptBut W' may:=by
 refine⟨h.1,h.2.1,fun i hi=> ?_⟩
 have e:=h.2.2.2 i hi
 have:=(World.keptBut_refl W may).2.2 i hi
 rw[e];exact this
theorem X3a.frozen {W W':World} (h:X3a W W') {a:Addr} (ha:a.block<W.heap.size):W'.frozen? a=W.frozen? a:=by
 unfold World.frozen?
 rw[h.2.2.2 _ ha]
section
open Go.ChangeShapes Go.WideShapes Go.ChangeAt Go.RowKit
variable {H:Type}{enc:TypeId×Value→H}{P:Program}
theorem X3a.same {W W':World} (h:X3a W W') {p:MemPlace} (hp:p.block<W.heap.size):W.sameAt W' p:=by
 cases p with
 |cell b off=>
  show W'.cell? _=W.cell? _
  have:=h.2.2.2 b hp
  simp only[World.cell?,this]
 |map b=>exact h.2.2.2 b hp
theorem Xfp {W W':World} (h:X3a W W') {base:Nat}{spare:Nat→Bool}{held:Bool}:∀{ts:List TypeId}{vs:List Value}{ds:List (DataW H)}{ps:List MemPlace},DataW.TrodAll enc P W base spare held ts vs ds ps→DataW.TrodAll enc P W' base spare held ts vs ds ps
 |[],[],[],_,k=>k
 |_::_,_::_,_::_,_,⟨p,q,⟨n,h1⟩,h2,e⟩=>
  ⟨p,q,⟨n,DataW.trod_carry n _ _ _ h1 fun x hx=>h.same (DataW.trod_lt n _ _ _ h1 x hx)⟩,Xfp h h2,e⟩
theorem Xcp {f:Func}{s:ChangeSpec}{apart fresh handsOn again:Bool}{W W':World}{args:Array Value}{ds gs:List (DataW H)}{before:List MemPlace}{tb:TypeId}{T:TypeId→Prop}
  (hW:DataW.Whole enc P f.params.toList s.vars apart W args.toList ds gs before) (hv:s.vars=[])
  (h1:(s.fn H (ds++gs)).results=[.lit (.bool true)]) (h2:(s.fn H (ds++gs)).args=ds) (h3:(s.fn H (ds++gs)).vars=gs)
  (hrt:f.resultTypes= #[tb]) (htb:P.underlying tb=some .bool) (hk:X3a W W') (K:Kids P T) (hz:∀t e,T t→P.underlying t=some (.slice e)→0<P.cellsOf e) (hT:∀t∈f.params.toList,T t):
  s.post enc P f apart fresh handsOn again W args (.bool true) W':=by
 have hlt:=hW.lt
 have hW':=hW
 obtain⟨p,q,hA,hV,hpq,hfr,hnd⟩:=hW
 have hV':∀sp:Nat→Bool,DataW.TrodVars enc P W' sp s.vars (s.fn H (ds++gs)).vars q:=by
  intro sp
  rw[h3]
  rw[hv] at hV ⊢
  obtain⟨e1,e2⟩:=trodVars_none hV
  subst e1 e2
  rfl
 have hres:∀(b:Nat) (sp:Nat→Bool) (hd:Bool),DataW.TrodAll enc P W' b sp hd f.resultTypes.toList ((Value.bool true).resultList f.resultTypes.size) (s.fn H (ds++gs)).results []:=by
  intro b sp hd
  rw[h1,hrt]
  exact trodAll_mk1 (shut_bool htb true)
 have hargs:∀sp:Nat→Bool,(∀x∈before,sp x.block=true)→DataW.TrodAll enc P W' 0 sp true f.params.toList args.toList (s.fn H (ds++gs)).args p:=by
  intro sp hsp
  rw[h2]
  exact DataW.TrodAll.respare K hz hT (Xfp hk hA) fun x hx=>hsp x (by rw[hpq];exact List.mem_append_left _ hx)
 have hold:∀x∈before,(fun b=>decide (b<W.heap.size)) x.block=true:=fun x hx=>by simpa using hlt x hx
 refine⟨ds,gs,before,[],p,q,hW',hres _ _ _,hargs _ hold,hV' _,hk.but _,fun _=> ?_⟩
 refine⟨ok_one hrt rfl (okWide_bool_mk htb true),_,_,([]++p)++q,⟨[]++p,q,trodAll_append (hargs _ (fun _ _=>rfl)) (hres _ _ _),hV' _,rfl,?_,?_⟩,?_⟩
 ·intro b off hp
  have hm:MemPlace.cell b off∈before:=by rw[hpq];simpa using hp
  rw[hk.frozen (a:=⟨b,off,none⟩) (hlt _ hm)]
  exact hfr b off hm
 ·intro ha
  have:=hnd ha
  rw[hpq] at this
  simpa using this
 ·intro x hx _
  rw[hpq]
  simpa using hx
end
open Go Go.ChangeShapes Go.WideShapes Go.Deep
def Uu (M:Mem):List D→List Value→Prop
 |[],[]=>True
 |d::ds,v::vs=>d.rep M v∧Uu M ds vs
 |_,_=>False
theorem X8j {M:Mem}:∀{ds es:List D}{us vs:List Value},Uu M ds us→Uu M es vs→Uu M (ds++es) (us++vs)
 |[],_,[],_,_,h=>h
 |[],_,_::_,_,h,_=>by simp only[Uu] at h
 |_::_,_,[],_,h,_=>by simp only[Uu] at h
 |d::ds,es,u::us,vs,h,k=>by
  simp only[Uu,List.cons_append] at h ⊢
  exact⟨h.1,X8j h.2 k⟩
theorem X8L {M:Mem}:∀{ds:List D}{us:List Value},Uu M ds us→us.length=ds.length
 |[],[],_=>rfl
 |[],_::_,h=>by simp only[Uu] at h
 |_::_,[],h=>by simp only[Uu] at h
 |d::ds,u::us,h=>by simp only[Uu] at h;simp[X8L h.2]
theorem X7Y {M:Mem}:∀{ds:List D}{us:List Value},Uu M ds us→∀(i:Nat) (d:D),ds[i]? =some d→∃u,us[i]? =some u∧d.rep M u
 |[],[],_,_,_,h=>by simp at h
 |[],_::_,h,_,_,_=>by simp only[Uu] at h
 |_::_,[],h,_,_,_=>by simp only[Uu] at h
 |d::ds,u::us,h,0,e,he=>by simp only[Uu] at h;simp at he;subst he;exact⟨u,by simp,h.1⟩
 |d::ds,u::us,h,i+1,e,he=>by
  simp only[Uu] at h
  simpa using X7Y h.2 i e (by simpa using he)
theorem X8G {M:Mem}{g:Gh} (hM:g.M=M):∀{ds:List D}{us:List Value},Uu M ds us→XB g (ds.map .d) us
 |[],[],_=>by simp only[List.map_nil,XB]
 |[],_::_,h=>by simp only[Uu] at h
 |_::_,[],h=>by simp only[Uu] at h
 |d::ds,u::us,h=>by
  simp only[Uu] at h
  simp only[List.map_cons,XB,AVal.sat]
  exact⟨hM ▸ h.1,X8G hM h.2⟩
theorem X84 {α:Type}{p:Nat→α→Prop}:∀n,(∀i,i<n→∃r,p i r)→∃l:List α,l.length=n∧∀(i:Nat) (r:α),l[i]? =some r→p i r
 |0,_=>⟨[],rfl,fun i r h=>by simp at h⟩
 |n+1,h=>by
  obtain⟨l,h1,h2⟩:=X84 n (fun i hi=>h i (by omega))
  obtain⟨r,hr⟩:=h n (by omega)
  refine⟨l++[r],by simp[h1],fun i x hx=> ?_⟩
  rw[List.getElem?_append] at hx
  split at hx
  ·exact h2 i x hx
  ·rename_i hi
   have:i=n:=by
    rcases Nat.lt_or_ge (i-l.length) 1 with hj|hj
    ·omega
    ·simp[show i-l.length≠0 by omega] at hx
   subst this
   simp[h1] at hx
   subst hx;exact hr
section
variable {H:Type}{enc:TypeId×Value→H}{P:Program}{W:World}
structure Opens {α:Type} (enc:TypeId×Value→H) (P:Program) (W:World) (t:TypeId) (p:α→Prop) (f:α→List D):Prop where
 op:∀n cs x,DataW.trod enc P W 0 (fun _=>true) true n t cs=some x→∃r,p r∧Uu W.cell? (f r) cs
theorem Opens.to {α β:Type}{t:TypeId}{p:α→Prop}{f:α→List D} (h:Opens enc P W t p f) {q:β→Prop}{g:β→List D} (φ:α→β) (hφ:∀a,p a→q (φ a)∧f a=g (φ a)):Opens enc P W t q g:=by
 refine⟨fun n cs x hx=> ?_⟩
 obtain⟨r,h1,h2⟩:=h.op n cs x hx
 exact⟨φ r,(hφ r h1).1,(hφ r h1).2 ▸ h2⟩
theorem Xh8 {t:TypeId}{k:IntKind} (ht:P.underlying t=some (.int k)):Opens enc P W t (fun n:Int=>(Lit.int k n).wf=true) (fun n=>[.v (.int k n)]):=by
 refine⟨fun n cs x hx=> ?_⟩
 obtain⟨n',rfl,_,hw⟩:=DataW.trod_int ht hx
 refine⟨n',hw,?_⟩
 simp[Uu,D.rep,Value.oneCell']
theorem X0O {t:TypeId} (ht:P.underlying t=some (.int .i64)):Opens enc P W t (fun n:Int=> -9223372036854775808≤n∧n≤9223372036854775807) (fun n=>[.v (.int .i64 n)]):=
 (Xh8 ht).to id fun a ha=>⟨bounds_i64 ha,rfl⟩
structure OpensF {α:Type} (enc:TypeId×Value→H) (P:Program) (W:World) (N:Nat) (fs:List Field) (off:Nat) (p:α→Prop) (f:α→List D):Prop where
 op:∀cs:List Value,cs.length=N→(∀q∈fs,∃n x,DataW.trod enc P W 0 (fun _=>true) true n q.type ((cs.drop q.offset).take (P.cellsOf q.type))=some x)→∃r,p r∧Uu W.cell? (f r) (cs.drop off)
theorem X71 {N:Nat}:OpensF enc P W N [] N (fun _:Unit=>True) (fun _=>[]):=by
 refine⟨fun cs hN _=>⟨(),trivial,?_⟩⟩
 rw[List.drop_of_length_le (by omega)];trivial
theorem VW {α β:Type}{N:Nat}{q:Field}{fs:List Field}{off s:Nat}{p:α→Prop}{f:α→List D}{p':β→Prop}{f':β→List D} (hoff:q.offset=off) (hs:P.cellsOf q.type=s)
  (h:Opens enc P W q.type p f) (k:OpensF enc P W N fs (off+s) p' f'):OpensF enc P W N (q::fs) off (fun r:α×β=>p r.1∧p' r.2) (fun r=>f r.1++f' r.2):=by
 refine⟨fun cs hN hall=> ?_⟩
 obtain⟨n,x,hx⟩:=hall q (by simp)
 rw[hoff,hs] at hx
 obtain⟨r,h1,h2⟩:=h.op _ _ _ hx
 obtain⟨r',h3,h4⟩:=k.op cs hN fun q' hq'=>hall q' (by simp[hq'])
 refine⟨(r,r'),⟨h1,h3⟩,?_⟩
 have:=X8j h2 h4
 rwa [←List.drop_drop,List.take_append_drop] at this
theorem X6g {α:Type}{t:TypeId}{fs:Array Field}{N:Nat}{p:α→Prop}{f:α→List D} (ht:P.underlying t=some (.struct fs)) (hN:P.cellsOf t=N) (h:OpensF enc P W N fs.toList 0 p f):Opens enc P W t p f:=by
 refine⟨fun n cs x hx=> ?_⟩
 obtain⟨xs,n',_,_,hl,hlen,hf⟩:=DataW.trod_struct ht hx
 have:=h.op cs (hl.trans hN) fun q hq=>by
  obtain⟨i,hi⟩:=List.getElem?_of_mem hq
  have h1:=hf i q (by simpa using hi)
  have hlt:=(List.getElem?_eq_some_iff.1 hi).1
  simp only[Array.length_toList] at hlt
  exact⟨n',_,h1.trans (List.getElem?_eq_getElem (by omega))⟩
 simpa using this
theorem X7J {t:TypeId}{k:IntKind}{r:Reach}{b0:Nat}{v:Value}{d:DataW H}{ps:List MemPlace} (ht:P.underlying t=some (.int k))
  (hval:Value.okWide P W r b0 t v) (hd:DataW.Trod enc P W 0 (fun _=>true) true t v d ps):∃n:Int,(Lit.int k n).wf=true∧(AVal.d (.v (.int k n))).sat (g0 W.cell?) v:=by
 obtain⟨n,rfl,_,_,hw⟩:=open_int ht hval hd
 exact⟨n,hw,by simp[AVal.sat,D.rep,Value.oneCell']⟩
end
section
variable {H:Type}{enc:TypeId×Value→H}{P:Program}{W:World}
theorem XqM (s:ByteArray):Xb s.data.toList=s:=by
 cases s;simp[Xb]
theorem X6d {t:TypeId} (ht:P.underlying t=some .string):Opens enc P W t (fun s:List UInt8=>s.length≤9223372036854775807) (fun s=>[.v (.string (Xb s))]):=by
 refine⟨fun n cs x hx=> ?_⟩
 obtain⟨s,rfl,_,hl⟩:=DataW.trod_string ht hx
 refine⟨s.data.toList,by simpa [maxLen] using hl,?_⟩
 simp only[Uu,D.rep,XqM]
 exact⟨⟨trivial,rfl⟩,trivial⟩
structure OpensN {α:Type} (enc:TypeId×Value→H) (P:Program) (W:World) (n:Nat) (t:TypeId) (p:α→Prop) (f:α→List D):Prop where
 op:∀cs x,DataW.trod enc P W 0 (fun _=>true) true n t cs=some x→∃r,p r∧Uu W.cell? (f r) cs
theorem Opens.at {α:Type}{t:TypeId}{p:α→Prop}{f:α→List D} (h:Opens enc P W t p f) (n:Nat):OpensN enc P W n t p f:=⟨h.op n⟩
theorem X6f {α:Type}{t:TypeId}{p:α→Prop}{f:α→List D} (h:∀n,OpensN enc P W n t p f):Opens enc P W t p f:=⟨fun n=>(h n).op⟩
theorem OpensN.to {α β:Type}{n:Nat}{t:TypeId}{p:α→Prop}{f:α→List D} (h:OpensN enc P W n t p f) {q:β→Prop}{g:β→List D} (φ:α→β) (hφ:∀a,p a→q (φ a)∧f a=g (φ a)):OpensN enc P W n t q g:=by
 refine⟨fun cs x hx=> ?_⟩
 obtain⟨r,h1,h2⟩:=h.op cs x hx
 exact⟨φ r,(hφ r h1).1,(hφ r h1).2 ▸ h2⟩
theorem X6P {α:Type}{n:Nat}{t e:TypeId}{sz:Nat}{p:α→Prop}{f:α→List D} (ht:P.underlying t=some (.slice e)) (hz:P.cellsOf e=sz) (h0:0<sz) (ho:∀m,n=m+1→OpensN enc P W m e p f):
  OpensN enc P W n t (fun l:List α=>(∀r∈l,p r)∧l.length≤9223372036854775807) (fun l=>[.sl sz (l.map f)]):=by
 refine⟨fun cs x hx=> ?_⟩
 rcases DataW.trod_slice ht hx with ⟨rfl,_⟩|⟨a,len,cap,elems,rest,n',hn,rfl,_,_,hl,hm,hlen,hel,_,_⟩
 ·refine⟨[],⟨by simp,by simp⟩,?_⟩
  simp only[Uu,D.rep,List.map_nil]
  exact⟨⟨none,0,rfl,Nat.le_refl _,Nat.zero_le _,.inl trivial⟩,trivial⟩
 have hel':∀i,i<len→∃r,p r∧(f r).length=sz∧∀j d,(f r)[j]? =some d→∃u,W.cell? ((a.add (i*sz)).add j)=some u∧d.rep W.cell? u:=by
  intro i hi
  have h0:=hel i hi
  rw[List.getElem?_eq_getElem (by omega)] at h0
  obtain⟨cs',h1,h2⟩:=Option.bind_eq_some_iff.1 h0
  obtain⟨r,h3,h4⟩:=(ho n' hn).op _ _ h2
  obtain⟨_,h5,h6⟩:=World.cells?_some h1
  rw[hz] at h5 h6
  refine⟨r,h3,by rw[←X8L h4,h5],fun j d hd=> ?_⟩
  obtain⟨u,h7,h8⟩:=X7Y h4 j d hd
  have hj:j<sz:=by
   have:=(List.getElem?_eq_some_iff.1 h7).1
   omega
  exact⟨u,(h6 j hj).trans h7,h8⟩
 obtain⟨l,h1,h2⟩:=X84 len hel'
 refine⟨l,⟨fun r hr=> ?_,by rw[h1];have hm':cap≤9223372036854775807:=hm;omega⟩,?_⟩
 ·obtain⟨i,hi⟩:=List.getElem?_of_mem hr
  exact(h2 i r hi).1
 simp only[Uu,D.rep]
 refine⟨⟨some a,cap,by rw[List.length_map,h1],by rw[List.length_map,h1];exact hl,hm,?_⟩,trivial⟩
 by_cases h00:len=0
 ·exact .inl (by rw[List.eq_nil_of_length_eq_zero (h1.trans h00)];rfl)
 right
 obtain⟨b,o,sp⟩:=a
 have hsp:sp=none:=by
  obtain⟨r,hr⟩:∃r,l[0]? =some r:=⟨_,List.getElem?_eq_getElem (by omega)⟩
  obtain⟨_,hlen,hcell⟩:=h2 0 r hr
  obtain⟨d,hd⟩:∃d,(f r)[0]? =some d:=⟨_,List.getElem?_eq_getElem (by omega)⟩
  obtain⟨u,hu,_⟩:=hcell 0 d hd
  simpa [Addr.add] using World.cell?_spot hu
 subst hsp
 refine⟨b,o,rfl,X5v _ _ _ fun i r hr=> ?_⟩
 obtain⟨x,hx,rfl⟩:∃x,l[i]? =some x∧f x=r:=by simpa using hr
 obtain⟨_,hlen,hcell⟩:=h2 i x hx
 refine⟨hlen,X3x _ _ _ fun j d hd=> ?_⟩
 obtain⟨u,hu,hd⟩:=hcell j d hd
 rw[Uw,Uw] at hu
 exact⟨u,hu,hd⟩
structure OpensFN {α:Type} (enc:TypeId×Value→H) (P:Program) (W:World) (n:Nat) (N:Nat) (fs:List Field) (off:Nat) (p:α→Prop) (f:α→List D):Prop where
 op:∀cs:List Value,cs.length=N→(∀q∈fs,∃x,DataW.trod enc P W 0 (fun _=>true) true n q.type ((cs.drop q.offset).take (P.cellsOf q.type))=some x)→∃r,p r∧Uu W.cell? (f r) (cs.drop off)
theorem Xpb {n N:Nat}:OpensFN enc P W n N [] N (fun _:Unit=>True) (fun _=>[]):=by
 refine⟨fun cs hN _=>⟨(),trivial,?_⟩⟩
 rw[List.drop_of_length_le (by omega)];trivial
theorem X6A {α β:Type}{n N:Nat}{q:Field}{fs:List Field}{off s:Nat}{p:α→Prop}{f:α→List D}{p':β→Prop}{f':β→List D} (hoff:q.offset=off) (hs:P.cellsOf q.type=s)
  (h:OpensN enc P W n q.type p f) (k:OpensFN enc P W n N fs (off+s) p' f'):OpensFN enc P W n N (q::fs) off (fun r:α×β=>p r.1∧p' r.2) (fun r=>f r.1++f' r.2):=by
 refine⟨fun cs hN hall=> ?_⟩
 obtain⟨x,hx⟩:=hall q (by simp)
 rw[hoff,hs] at hx
 obtain⟨r,h1,h2⟩:=h.op _ _ hx
 obtain⟨r',h3,h4⟩:=k.op cs hN fun q' hq'=>hall q' (by simp[hq'])
 refine⟨(r,r'),⟨h1,h3⟩,?_⟩
 have:=X8j h2 h4
 rwa [←List.drop_drop,List.take_append_drop] at this
theorem Xn4 {α:Type}{n:Nat}{t:TypeId}{fs:Array Field}{N:Nat}{p:α→Prop}{f:α→List D} (ht:P.underlying t=some (.struct fs)) (hN:P.cellsOf t=N) (h:∀m,n=m+1→OpensFN enc P W m N fs.toList 0 p f):OpensN enc P W n t p f:=by
 refine⟨fun cs x hx=> ?_⟩
 obtain⟨xs,n',hn,_,hl,hlen,hf⟩:=DataW.trod_struct ht hx
 have:=(h n' hn).op cs (hl.trans hN) fun q hq=>by
  obtain⟨i,hi⟩:=List.getElem?_of_mem hq
  have h1:=hf i q (by simpa using hi)
  have hlt:=(List.getElem?_eq_some_iff.1 hi).1
  simp only[Array.length_toList] at hlt
  exact⟨_,h1.trans (List.getElem?_eq_getElem (by omega))⟩
 simpa using this
end
section
variable {P:Program}{t:TypeId}{x y:Operand}{a b:List UInt8}
theorem Xr3 (h:a.length+b.length≤9223372036854775807) (w:World):(do eqGuard .add t x y (.string (Xb a)) (.string (Xb b));binOp .add t (.string (Xb a)) (.string (Xb b)):Sem Value).run P w= .ok (.string (Xb (a++b))) w:=by
 have h1:=run_string_add_sum (P:=P) w (Xb a) (Xb b) (by simpa [Xb,ByteArray.size] using h)
 have h2:Xb a++Xb b=Xb (a++b):=by unfold Xb;rw[ByteArray.mk_append_mk]
 rw[h2] at h1
 simp[go_sem,binOp,h1]
end
open Go Go.ChangeShapes Go.WideShapes Go.Deep Go.Proofs.YtlkcofbjniphbaaGreatDoor.Rows
section
variable {H:Type}{enc:TypeId×Value→H}{P:Program}{W:World}
theorem Xhe (d:DataW H):1≤uptoBulk d:=by
 cases d with
 |lit l=>cases l<;>simp[uptoBulk]
 |nil=>simp[uptoBulk]
 |ptr d=>simp[uptoBulk]
 |slice elems spare=>simp[uptoBulk]
 |agg parts=>simp[uptoBulk]
 |iface t d=>simp[uptoBulk]
 |map entries=>simp[uptoBulk]
 |held h=>simp[uptoBulk]
structure OpensM {α:Type} (enc:TypeId×Value→H) (P:Program) (W:World) (t:TypeId) (p:α→Prop) (μ:α→Nat) (f:α→List D):Prop where
 op:∀n cs x,DataW.trod enc P W 0 (fun _=>true) true n t cs=some x→∃r,p r∧μ r≤uptoBulk x.1∧Uu W.cell? (f r) cs
theorem Opens.one {α:Type}{t:TypeId}{p:α→Prop}{f:α→List D} (h:Opens enc P W t p f):OpensM enc P W t p (fun _=>1) f:=by
 refine⟨fun n cs x hx=> ?_⟩
 obtain⟨r,h1,h2⟩:=h.op n cs x hx
 exact⟨r,h1,Xhe _,h2⟩
theorem OpensM.to {α β:Type}{t:TypeId}{p:α→Prop}{μ:α→Nat}{f:α→List D} (h:OpensM enc P W t p μ f) {q:β→Prop}{ν:β→Nat}{g:β→List D} (φ:α→β) (hφ:∀a,p a→q (φ a)∧ν (φ a)≤μ a∧f a=g (φ a)):OpensM enc P W t q ν g:=by
 refine⟨fun n cs x hx=> ?_⟩
 obtain⟨r,h1,h2,h3⟩:=h.op n cs x hx
 obtain⟨k1,k2,k3⟩:=hφ r h1
 exact⟨φ r,k1,Nat.le_trans k2 h2,k3 ▸ h3⟩
end
end Go.Fw
