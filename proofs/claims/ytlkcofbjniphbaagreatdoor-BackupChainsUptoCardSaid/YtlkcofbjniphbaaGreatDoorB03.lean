/- Fifth part: rules for operations that make or write memory. -/
import Derived.Laws.AppendOwn
import Derived.Test.YtlkcofbjniphbaaGreatDoorB02
namespace Go.Fw
open Go
set_option linter.unusedVariables false
set_option linter.unusedSimpArgs false
theorem XaX {α:Type} (z:α) (l:List (Nat×α)) (t:Nat):Xo z l t=z∨∃p∈l,p.2=Xo z l t:=by
 induction l with
 |nil=>exact .inl rfl
 |cons p r ih=>
  obtain⟨k,x⟩:=p
  simp only[Xo]
  cases hb:Nat.beq k t with
  |true=>exact .inr ⟨(k,x),by simp,rfl⟩
  |false=>
   simp only[cond_false]
   rcases ih with h|⟨q,hq,he⟩
   ·exact .inl h
   ·exact .inr ⟨q,by simp[hq],he⟩
theorem Xd5 {S:St}{γ:Nat} (h:S.free γ=true) (t:Nat):(S.get t).ment γ=false:=by
 simp only[St.free,Bool.and_eq_true,X4s,X5y] at h
 have h:=h.2
 rcases XaX AVal.any S.τ t with e|⟨p,hp,e⟩
 ·show AVal.ment γ (Xo _ _ _)=false
  rw[e];rfl
 ·show AVal.ment γ (Xo _ _ _)=false
  rw[←e];exact h.1 p hp
theorem Xbc {S:St}{γ:Nat} (h:S.free γ=true) (k:Nat):(S.obj k).ment γ=false:=by
 simp only[St.free,Bool.and_eq_true,X4s,X5y] at h
 have h:=h.2
 rcases XaX AObj.dead S.L k with e|⟨p,hp,e⟩
 ·show AObj.ment γ (Xo _ _ _)=false
  rw[e];rfl
 ·show AObj.ment γ (Xo _ _ _)=false
  rw[←e];exact h.2 p hp
def Gh.put (g:Gh) (γ:Nat) (b:Nat) (hv:Value):Gh:=
 {blk:=fun k=>if k=γ then b else g.blk k,hd:=fun k=>if k=γ then hv else g.hd k,ihd:=g.ihd,M:=g.M}
theorem XgW {g:Gh}{γ b:Nat}{hv:Value}{k:Nat} (h:k≠γ):g.keeps (g.put γ b hv) k:=by
 exact Gh.keeps_of (by simp[Gh.put,h]) (by simp[Gh.put,h]) rfl
theorem Xkq {g:Gh}{γ b:Nat}{hv:Value}{x:AVal}{u:Value} (hm:x.ment γ=false) (h:x.sat g u):x.sat (g.put γ b hv) u:=
 AVal.sat_mono (g:=g) (g':=g.put γ b hv) (Yj.refl _) x u (fun k hk=>XgW (fun e=>by rw[e,hm] at hk;simp at hk)) h
theorem X5M {g:Gh}{γ b:Nat}{hv:Value}{xs:List AVal}{us:List Value} (hm:Vs γ xs=false) (h:XB g xs us):XB (g.put γ b hv) xs us:=
 X0r (g:=g) (g':=g.put γ b hv) (Yj.refl _) xs us (fun k hk=>XgW (fun e=>by rw[e,hm] at hk;simp at hk)) h
theorem X4g {E:Env}{S:St}{g:Gh}{w:World} (hi:Inv E S.obj g w) (γ:Nat) (hf:S.free γ=true) (hdead:S.obj γ= .dead)
  (obj:AObj) (b:Nat) (hv:Value) {w':World} (hheap:∀b,b<w.heap.size→w'.heap[b]? =w.heap[b]?) (hsize:w.heap.size≤w'.heap.size)
  (hos:w'.os=w.os) (hout:w'.output=w.output) (hobj:Ua (g.put γ b hv) w' γ obj)
  (hlive:∀k,XM (g.put γ b hv) obj γ k→w.heap.size≤k):
  Inv E (Xo .dead ((γ,obj)::S.L)) (g.put γ b hv) w':=by
 refine Inv.upd hi γ obj (Yq _ _ _ _) (fun k hk=>Y9 _ _ _ (Ne.symm hk)) (fun b hb _=>hheap b hb) hsize hos hout rfl
  (fun k hk=>⟨by simp[Gh.put,hk],by simp[Gh.put,hk],rfl⟩) (fun k cs us hk hL hs=>X5M ?_ hs) hobj (fun k hk=> .inr (hlive k hk)) (fun hlt=>by simp only[St.free,Bool.and_eq_true,Nat.ble_eq] at hf;omega)
 have:=Xbc hf k
 rw[AObj.ment,hL] at this
 exact this
theorem X2v {S:St}{γ:Nat} (hf:S.free γ=true) {g:Gh}{a:Act}{b:Nat}{hv:Value} (hs:∀t,(S.get t).sat g (a.tmps.getD t undef)):
  ∀t,(S.get t).sat (g.put γ b hv) (a.tmps.getD t undef):=fun t=>Xkq (Xd5 hf t) (hs t)
theorem X1R (w:World) (o:Obj):∀b,b<w.heap.size→(w.alloc o).heap[b]? =w.heap[b]? :=fun b hb=>heap_alloc_old w o b hb
theorem X37 (w:World) (o:Obj):w.heap.size≤(w.alloc o).heap.size:=by simp
def X1L (g:Gh) (w:World) (γ:Nat):Gh:=g.put γ w.heap.size undef
theorem X5w (n:Nat):X40 (0,0) n:=fun i hi=>by simp
theorem Xbp {E:Env}{S:St}{g:Gh}{w:World} (hi:Inv E S.obj g w) (γ:Nat) (hf:S.free γ=true) (hdead:S.obj γ= .dead) (e:TypeId)
  {cs:List AVal}{vs:Array Value} (hs:XB g cs vs.toList) (hm:Vs γ cs=false) (hc:∀c∈cs,c.cellish=true):
  Inv E (Xo .dead ((γ,.box cs)::S.L)) (X1L g w γ) (w.alloc (.cells vs e)):=by
 refine X4g hi γ hf hdead _ _ _ (X1R _ _) (X37 _ _) rfl rfl ?_ (fun k hk=> ?_)
 ·refine⟨vs,e,(0,0),?_,X5w _,X5M hm hs,hc⟩
  simp only[X1L,Gh.put,if_true]
  exact heap_alloc_new w _
 ·simp only[XM,Gh.put,if_true] at hk;omega
def X0S:List AVal→Bool
 |[]=>true
 |c::r=>c.cellish&&X0S r
theorem X33:∀l,X0S l=true↔∀c∈l,c.cellish=true
 |[]=>by simp[X0S]
 |c::r=>by simp[X0S,X33 r]
def AVal.parts:AVal→List AVal
 | .agg cs=>cs
 |x=>[x]
theorem X5K {g:Gh}{x:AVal}{v:Value} (h:x.sat g v) (hc:X0S x.parts=true):XB g x.parts v.cells.toList:=by
 rw[X33] at hc
 cases x with
 |agg cs=>simp only[AVal.sat] at h;obtain⟨vs,rfl,h⟩:=h;exact h
 |any=>have:=hc .any (by simp[AVal.parts]);simp[AVal.cellish] at this
 |tup vs=>have:=hc (.tup vs) (by simp[AVal.parts]);simp[AVal.cellish] at this
 |_=>
  all_goals
   have h1:=AVal.sat_one (by exact hc _ (by simp[AVal.parts])) h
   have e:v.cells= #[v]:=by cases v<;>simp[Value.oneCell'] at h1<;>rfl
   rw[e]
   simp only[AVal.parts]
   exact⟨h,by simp only[XB]⟩
theorem Xjp {g:Gh}{x:AVal}{v:Value} (h:x.sat g v) (hc:X0S x.parts=true):∀(i:Nat) (c:AVal) (u:Value),x.parts[i]? =some c→v.cells.toList[i]? =some u→u.oneCell'=true:=by
 intro i c u hci hui
 obtain⟨u',h1,h2⟩:=UX (X5K h hc) i c hci
 rw[h1] at hui;cases hui
 exact AVal.sat_one ((X33 _).1 hc c (List.mem_of_getElem? hci)) h2
section
variable {P:Program}{ops:Array Oper}{draw:Bool}{K:Y4→St→Prop}{rest:List Oper}{l:Y4}{S:St}
variable {d:Nat}{ty:TypeId}{pos:String}{aft:Array Edge}{gd:Option (Nat×Bool)}
theorem X1c {o:Oper}{reads:List (Operand×AVal)}{d:Nat}{x:AVal}{lrd:List (Nat×AObj)}{γ:Nat}{obj:AObj}{new:List Nat} (hdst:o.dst=some d)
  (h:∀E S g a w,Vl E S g a w→X0N g a reads→UQ S lrd→X1X S new→∃v g' w',(execOp a.eval o).run P w= .ok (.value v) w'∧x.sat g' v∧
   Inv E (Xo .dead ((γ,obj)::S.L)) g' w'∧∀t,(S.get t).sat g' (a.tmps.getD t undef)):
  X8U P o ⟨reads,some (d,x),lrd,[(γ,obj)],new⟩:=by
 intro E S a w g hs hok Q K hK
 obtain⟨v,g',w',h1,h2,h3,h4⟩:=h E S g a w hs (X0M hs _ hok.1) hok.2.1 hok.2.2.1
 unfold Oper.wp
 rw[h1,Oper.upon_value,hdst]
 exact hK _ _ (X1u h3 hs.2.1 hs.2.2.1 h4 h2 hok.2.2.2)
theorem X9p {o:Oper}{reads:List (Operand×AVal)}{lrd:List (Nat×AObj)}{γ:Nat}{obj:AObj}{new:List Nat} (hdst:o.dst=none)
  (h:∀E S g a w,Vl E S g a w→X0N g a reads→UQ S lrd→X1X S new→∃g' w',(execOp a.eval o).run P w= .ok .skip w'∧
   Inv E (Xo .dead ((γ,obj)::S.L)) g' w'∧∀t,(S.get t).sat g' (a.tmps.getD t undef)):
  X8U P o ⟨reads,none,lrd,[(γ,obj)],new⟩:=by
 intro E S a w g hs hok Q K hK
 obtain⟨g',w',h1,h3,h4⟩:=h E S g a w hs (X0M hs _ hok.1) hok.2.1 hok.2.2.1
 unfold Oper.wp
 rw[h1,Oper.upon_skip,hdst]
 exact hK _ _ ⟨g',h3,hs.2.1,hs.2.2.1,h4⟩
def St.next (S:St):Nat:=S.L.foldl (fun m p=>bif Nat.ble m p.1 then p.1+1 else m) 100
def X3q (P:Program) (t:TypeId):Option (List Value):=
 match P.info? t with
 |some i=>(match i.zero with|some z=>some z.cells.toList|none=>none)
 |none=>none
def VZ:List Value→Bool
 |[]=>true
 |v::r=>v.oneCell'&&VZ r
theorem Xd9:∀l,VZ l=true↔∀v∈l,v.oneCell'=true
 |[]=>by simp[VZ]
 |v::r=>by simp[VZ,Xd9 r]
def dvL:List Value→List AVal
 |[]=>[]
 |v::r=> .d (.v v)::dvL r
theorem X5F {g:Gh}:∀{vs:List Value},VZ vs=true→XB g (dvL vs) vs
 |[],_=>by simp only[dvL,XB]
 |v::r,h=>by
  simp only[VZ,Bool.and_eq_true] at h
  simp only[dvL,XB]
  exact⟨VB h.1,X5F h.2⟩
theorem Xgh (γ:Nat):∀vs:List Value,Vs γ (dvL vs)=false
 |[]=>rfl
 |v::r=>by simp[dvL,Vs,AVal.ment,Xgh γ r]
theorem XcQ:∀vs:List Value,∀c∈dvL vs,c.cellish=true
 |[],_,h=>by simp[dvL] at h
 |v::r,c,h=>by
  simp only[dvL,List.mem_cons] at h
  rcases h with rfl|h
  ·rfl
  ·exact XcQ r c h
theorem XaG {t:TypeId}{zs:List Value} (h:X3q P t=some zs):∃z:Value,z.cells.toList=zs∧∀w,(zeroValue t).run P w= .ok z w:=by
 unfold X3q at h
 cases hi:P.info? t with
 |none=>rw[hi] at h;simp at h
 |some i=>
  rw[hi] at h
  cases hz:i.zero with
  |none=>simp[hz] at h
  |some z=>simp[hz] at h;exact⟨z,h,fun w=>by simp[zeroValue,typeInfo,hi,hz]⟩
theorem UB {t:TypeId}{γ:Nat}{zs:List Value} (hz:X3q P t=some zs) (h1:VZ zs=true) (hdead:S.obj γ= .dead) (hf:S.free γ=true)
  (hd:Nat.blt d S.n=true) (hg:XR ops S gd)
  (h:Walk P ops draw K rest ((l.length,⟨some d,.alloc t,ty,pos,aft,gd⟩,⟨XQ ops gd++[],some (d,.ptr γ 0),[(γ,.dead)],[(γ,.box (dvL zs))],[γ]⟩)::l)
   ((S.set d (.ptr γ 0)).own γ (.box (dvL zs)))):
  Walk P ops draw K (⟨some d,.alloc t,ty,pos,aft,gd⟩::rest) l S:=
 Yh ⟨[],some (d,.ptr γ 0),[(γ,.dead)],[(γ,.box (dvL zs))],[γ]⟩ (X1c rfl fun E S g a w hs hq hl hn=>by
  obtain⟨z,hzc,hzr⟩:=XaG hz
  refine⟨.pointer (some ⟨w.heap.size,0,none⟩),X1L g w γ,w.alloc (.cells z.cells t),?_,?_,?_,X2v hn.1 hs.2.2.2⟩
  ·simp[execOp,Instr.alloc,hzr,newVar,newRow]
  ·simp[AVal.sat,X1L,Gh.put]
  ·exact Xbp hs.1 γ hn.1 hl.1 t (by rw[hzc];exact X5F h1) (Xgh _ _) (XcQ _)) hg ⟨trivial,⟨hdead,trivial⟩,⟨hf,trivial⟩,hd⟩ h
theorem YA {t:TypeId}{γ:Nat}{x:Operand}{y:AVal} (hx:S.ev x=y) (hc:X0S y.parts=true) (hdead:S.obj γ= .dead) (hf:S.free γ=true) (hm:Vs γ y.parts=false)
  (hd:Nat.blt d S.n=true) (hg:XR ops S gd)
  (h:Walk P ops draw K rest ((l.length,⟨some d,.box t x,ty,pos,aft,gd⟩,⟨XQ ops gd++[(x,y)],some (d,.ptr γ 0),[(γ,.dead)],[(γ,.box y.parts)],[γ]⟩)::l)
   ((S.set d (.ptr γ 0)).own γ (.box y.parts))):
  Walk P ops draw K (⟨some d,.box t x,ty,pos,aft,gd⟩::rest) l S:=
 Yh ⟨[(x,y)],some (d,.ptr γ 0),[(γ,.dead)],[(γ,.box y.parts)],[γ]⟩ (X1c rfl fun E S g a w hs hq hl hn=>by
  refine⟨.pointer (some ⟨w.heap.size,0,none⟩),X1L g w γ,w.alloc (.cells (a.eval x).cells t),?_,?_,?_,X2v hn.1 hs.2.2.2⟩
  ·simp[execOp,Instr.box,newVar,newRow]
  ·simp[AVal.sat,X1L,Gh.put]
  ·exact Xbp hs.1 γ hn.1 hl.1 t (X5K hq.1 hc) hm ((X33 _).1 hc)) hg ⟨⟨hx,trivial⟩,⟨hdead,trivial⟩,⟨hf,trivial⟩,hd⟩ h
theorem X6T (b:Nat) (e:TypeId) (fr:Nat×Nat) (n:Nat) (hfr:X40 fr n):∀(us:List Value) (o i:Nat) (vs:Array Value) (w:World),w.heap[b]? =some (.cells vs e fr)→vs.size=n→
  o+i+us.length≤vs.size→(∀u∈us,u.oneCell'=true)→
  ∃vs':Array Value,(storeCells ⟨b,o,none⟩ us i).run P w= .ok () (w.setRow b vs')∧vs'.toList=vs.toList.take (o+i)++us++vs.toList.drop (o+i+us.length)
 |[],o,i,vs,w,h,hn,hl,h1=>⟨vs,by
   have:w.setRow b vs=w:=by
    cases w with
    |mk heap tape drawn os output=>
     simp only[World.setRow]
     congr 1
     apply Array.ext_getElem?
     intro k
     simp only[Array.getElem?_modify]
     split
     ·rename_i hk;subst hk;simp at h;simp[h]
     ·rfl
   simp[storeCells,this],by simp⟩
 |u::us,o,i,vs,w,h,hn,hl,h1=>by
  have hlt:o+i<vs.size:=by simp at hl;omega
  have hc:w.cell? ⟨b,o+i,none⟩=some vs[o+i]:=by rw[cell_of_row w _ _ vs e fr h];simp[hlt]
  have hf:w.frozen? ⟨b,o+i,none⟩=false:=by
   simp only[World.frozen?,h]
   have:=hfr (o+i) (by omega)
   simpa using this
  have hset:=setCell_eq_setRow w b (o+i) vs e fr u h
  have hw':(w.setRow b (vs.setIfInBounds (o+i) u)).heap[b]? =some (.cells (vs.setIfInBounds (o+i) u) e fr):=setRow_heap w b vs _ e fr h
  obtain⟨vs',k1,k2⟩:=X6T b e fr n hfr us o (i+1) (vs.setIfInBounds (o+i) u) _ hw' (by simp[hn]) (by simp at hl ⊢;omega) (fun x hx=>h1 x (by simp[hx]))
  refine⟨vs',?_,?_⟩
  ·simp only[storeCells,Sem.run_bind,Uw,run_store P w _ u .plain (h1 u (by simp)),hc,hf,hset,Bool.false_eq_true,if_false,Result.andThen_ok,k1,setRow_setRow]
  ·rw[k2]
   apply List.ext_getElem?
   intro k
   simp only[List.getElem?_append,List.length_append,List.length_take,List.length_drop,Array.length_toList,Array.size_setIfInBounds,List.length_cons,List.getElem?_take,List.getElem?_drop,Array.getElem?_toList,Array.getElem?_setIfInBounds,List.getElem?_cons]
   have hm1:min (o+(i+1)) vs.size=o+i+1:=by simp at hl;omega
   have hm2:min (o+i) vs.size=o+i:=by omega
   rw[hm1,hm2]
   by_cases c1:k<o+i
   ·simp[c1,show k<o+i+1 by omega,show k<o+i+1+us.length by omega,show k<o+i+(us.length+1) by omega,show k<o+(i+1) by omega,show o+i≠k by omega]
   ·by_cases c2:k=o+i
    ·subst c2
     simp[show o+i<o+(i+1) by omega,hlt]
     omega
    ·by_cases c3:k<o+i+(us.length+1)
     ·simp[c1,c3,show ¬k<o+i+1 by omega,show k<o+i+1+us.length by omega,show k-(o+i)≠0 by omega,show k-(o+i+1)=k-(o+i)-1 by omega]
     ·simp[c3,show ¬k<o+i+1+us.length by omega,
       show o+(i+1)+us.length+(k-(o+i+1+us.length))=o+i+(us.length+1)+(k-(o+i+(us.length+1))) by omega]
      intro hh;exfalso;omega
def X59 (P:Program) (t:TypeId) (sz:Nat):Bool:=match P.info? t with|some i=>Nat.beq i.size sz|none=>false
theorem Xbv {t:TypeId}{sz:Nat} (h:X59 P t sz=true) (w:World):(sizeOf t).run P w= .ok sz w:=by
 unfold X59 at h
 cases hi:P.info? t with
 |none=>simp[hi] at h
 |some i=>rw[hi] at h;have:i.size=sz:=by simpa using h
          simp[sizeOf,typeInfo,hi,this]
theorem V6 {t:TypeId}{x v:Operand}{γ o:Nat}{cs:List AVal}{y:AVal} (hx:S.ev x= .ptr γ o) (hL:S.obj γ= .box cs) (hv:S.ev v=y) (hc:X0S y.parts=true)
  (ht:X59 P t y.parts.length=true) (hb:Nat.ble (o+y.parts.length) cs.length=true) (hg:XR ops S gd)
  (h:Walk P ops draw K rest ((l.length,⟨none,.store t x v,ty,pos,aft,gd⟩,⟨XQ ops gd++[(x,.ptr γ o),(v,y)],none,[(γ,.box cs)],[(γ,.box (cs.take o++y.parts++cs.drop (o+y.parts.length)))],[]⟩)::l)
   (S.own γ (.box (cs.take o++y.parts++cs.drop (o+y.parts.length))))):
  Walk P ops draw K (⟨none,.store t x v,ty,pos,aft,gd⟩::rest) l S:=
 Yh ⟨[(x,.ptr γ o),(v,y)],none,[(γ,.box cs)],[(γ,.box (cs.take o++y.parts++cs.drop (o+y.parts.length)))],[]⟩ (X9p rfl fun E S g a w hs hq hl hn=>by
  have ho:=hs.1.obj γ
  rw[hl.1] at ho
  obtain⟨vs,e,fr,h1,h2,h3,h4⟩:=ho
  have hp:a.eval x= .pointer (some ⟨g.blk γ,o,none⟩):=by have:=hq.1;simpa only[AVal.sat] using this
  have hps:=X5K hq.2.1 hc
  have hlen:(a.eval v).cells.toList.length=y.parts.length:=Ue hps
  have hvl:vs.size=cs.length:=by have:=Ue h3;simpa using this
  have hb':o+y.parts.length≤cs.length:=by simpa using hb
  obtain⟨vs',k1,k2⟩:=X6T (P:=P) (g.blk γ) e fr vs.size h2 (a.eval v).cells.toList o 0 vs w h1 rfl (by rw[hlen];omega) (fun u hu=>by
   obtain⟨i,hi,rfl⟩:=List.getElem_of_mem hu
   have hi':i<y.parts.length:=by rw[←hlen];exact hi
   exact Xjp hq.2.1 hc i _ _ (List.getElem?_eq_getElem hi') (List.getElem?_eq_getElem hi))
  simp only[Nat.add_zero,hlen] at k2
  refine⟨g,w.setRow (g.blk γ) vs',?_,?_,hs.2.2.2⟩
  ·have hsz:=Xbv ht w
   simp only[Array.length_toList] at hlen
   simp[execOp,hp,Instr.storeAt,Instr.sureAddr,storeVar,hsz,hlen,k1]
  ·have hsz':vs'.size=vs.size:=by
    have:=congrArg List.length k2
    simp[hlen] at this
    simp at hlen
    omega
   refine Inv.upd hs.1 γ _ (Yq _ _ _ _) (fun k hk=>Y9 _ _ _ (Ne.symm hk)) (fun b hb hnl=> ?_) (by simp) rfl rfl rfl (fun k hk=>⟨rfl,rfl,rfl⟩) (fun k cs us _ _ h=>h) ?_ (fun b hb=> .inl (by rw[hl.1];exact hb)) (fun _=>Gh.keeps_refl _ _)
   ·refine setRow_other w _ b vs' (fun e=>hnl ?_)
    rw[hl.1,e];rfl
   ·refine⟨vs',e,fr,setRow_heap w _ vs _ e fr h1,by rw[hsz'];exact h2,?_,fun c hcm=> ?_⟩
    ·rw[k2]
     exact X1O (X1O (X2N h3 o) hps) (X3o h3 _)
    ·simp only[List.mem_append] at hcm
     rcases hcm with (h'|h')|h'
     ·exact h4 c (List.mem_of_mem_take h')
     ·exact(X33 _).1 hc c h'
     ·exact h4 c (List.mem_of_mem_drop h')) hg ⟨⟨hx,hv,trivial⟩,⟨hL,trivial⟩,trivial,trivial⟩ h
def Xip (cs ys:List AVal) (o:Nat):List AVal:=cs.take o++ys++cs.drop (o+ys.length)
def X28 (place:Nat→Option (Nat×Nat)) (cs:List AVal):List (Nat×AVal)→Option (List AVal)
 |[]=>some cs
 |(i,x)::r=>
  match place i with
  |none=>none
  |some (off,sz)=>bif Nat.beq x.parts.length sz&&Nat.ble (off+sz) cs.length&&X0S x.parts then X28 place (Xip cs x.parts off) r else none
theorem XjE (xs:List Value):∀(k:Nat) (cs:Array Value) (off:Nat),off+k+xs.length≤cs.size→
  ((xs.zipIdx k).foldl (fun cs (p:Value×Nat)=>cs.setIfInBounds (off+p.2) p.1) cs).toList=cs.toList.take (off+k)++xs++cs.toList.drop (off+k+xs.length):=by
 induction xs with
 |nil=>intro k cs off h;simp
 |cons x xs ih=>
  intro k cs off h
  simp only[List.zipIdx_cons,List.foldl_cons]
  rw[ih (k+1) _ off (by simp at h ⊢;omega)]
  apply List.ext_getElem?
  intro j
  simp only[List.length_cons] at h
  simp only[List.getElem?_append,List.length_append,List.length_take,Array.length_toList,Array.size_setIfInBounds,List.length_cons,List.getElem?_take,List.getElem?_drop,Array.getElem?_toList,Array.getElem?_setIfInBounds,List.getElem?_cons]
  have hm1:min (off+(k+1)) cs.size=off+k+1:=by omega
  have hm2:min (off+k) cs.size=off+k:=by omega
  rw[hm1,hm2]
  by_cases c1:j<off+k
  ·simp[c1,show j<off+k+1 by omega,show j<off+k+1+xs.length by omega,show j<off+k+(xs.length+1) by omega,show j<off+(k+1) by omega,show off+k≠j by omega]
  ·by_cases c2:j=off+k
   ·subst c2
    simp[show off+k<off+(k+1) by omega,show off+k<cs.size by omega]
    omega
   ·by_cases c3:j<off+k+(xs.length+1)
    ·simp[c1,c3,show ¬j<off+k+1 by omega,show j<off+k+1+xs.length by omega,show j-(off+k)≠0 by omega,show j-(off+k+1)=j-(off+k)-1 by omega]
    ·simp[c3,show ¬j<off+k+1+xs.length by omega,
      show off+(k+1)+xs.length+(j-(off+k+1+xs.length))=off+k+(xs.length+1)+(j-(off+k+(xs.length+1))) by omega]
     intro hh;exfalso;omega
def evL (S:St):List (Nat×Operand)→List (Nat×AVal)
 |[]=>[]
 |p::r=>(p.1,S.ev p.2)::evL S r
def X06:List (Nat×Operand)→List (Nat×AVal)→List (Operand×AVal)
 |p::r,q::s=>(p.2,q.2)::X06 r s
 |_,_=>[]
theorem X7l {g:Gh}{a:Act}{place:Nat→Option (Nat×Nat)}:∀{parts:List (Nat×Operand)}{ps:List (Nat×AVal)}{cs out:List AVal}{vs:Array Value},
  ps.map (·.1)=parts.map (·.1)→X0N g a (X06 parts ps)→XB g cs vs.toList→X28 place cs ps=some out→
  ∃us:Array Value,Instr.fill place vs (parts.map fun p=>(p.1,a.eval p.2))=some us∧XB g out us.toList
 |[],[],cs,out,vs,_,_,hs,hf=>by
  simp only[X28,Option.some.injEq] at hf;subst hf
  exact⟨vs,rfl,hs⟩
 |[],_::_,_,_,_,hm,_,_,_=>by simp at hm
 |_::_,[],_,_,_,hm,_,_,_=>by simp at hm
 |p::parts,(i,x)::ps,cs,out,vs,hm,hr,hs,hf=>by
  simp only[List.map_cons,List.cons.injEq] at hm
  obtain⟨hm1,hm2⟩:=hm
  simp only[X28] at hf
  cases hp:place i with
  |none=>rw[hp] at hf;simp at hf
  |some os=>
   obtain⟨off,sz⟩:=os
   rw[hp] at hf
   simp only at hf
   cases hb:(Nat.beq x.parts.length sz&&Nat.ble (off+sz) cs.length&&X0S x.parts) with
   |false=>rw[hb] at hf;simp at hf
   |true=>
    rw[hb] at hf
    simp only[Bool.and_eq_true] at hb
    obtain⟨⟨b1,b2⟩,b3⟩:=hb
    have b1':x.parts.length=sz:=by simpa using b1
    have b2':off+sz≤cs.length:=by simpa using b2
    obtain⟨hr1,hr2⟩:=hr
    have hps:=X5K hr1 b3
    have hl1:=Ue hps
    have hl2:=Ue hs
    simp only[Array.length_toList] at hl1 hl2
    have hfold:=XjE (a.eval p.2).cells.toList 0 vs off (by simp;omega)
    simp only[Nat.add_zero,Array.length_toList,hl1] at hfold
    let vs':Array Value:=(a.eval p.2).cells.zipIdx.foldl (fun cs (p:Value×Nat)=>cs.setIfInBounds (off+p.2) p.1) vs
    have hvs':vs'.toList=vs.toList.take off++(a.eval p.2).cells.toList++vs.toList.drop (off+x.parts.length):=by
     rw[←hfold]
     simp only[vs']
     rw[←Array.foldl_toList,Array.toList_zipIdx]
    have hsat':XB g (Xip cs x.parts off) vs'.toList:=by
     rw[hvs']
     exact X1O (X1O (X2N hs off) hps) (X3o hs _)
    obtain⟨us,k1,k2⟩:=X7l (vs:=vs') hm2 hr2 hsat' hf
    refine⟨us,?_,k2⟩
    simp only[List.map_cons,Instr.fill,←hm1,hp]
    rw[if_neg (by simp[hl1,b1'];omega)]
    exact k1
def Xao (P:Program) (t:TypeId) (i:Nat):Option (Nat×Nat):=
 match P.underlying t with
 |some (.struct fs)=>(match fs[i]? with|some q=>(match P.info? q.type with|some y=>some (q.offset,y.size)|none=>none)|none=>none)
 |some (.array _ e)=>(match P.info? e with|some y=>some (i*y.size,y.size)|none=>none)
 |_=>none
def Xia (P:Program) (t:TypeId):Bool:=
 match P.underlying t with
 |some (.struct fs)=>fs.toList.all fun f=>(P.info? f.type).isSome
 |some (.array _ e)=>(P.info? e).isSome
 |_=>false
theorem XnE (fs:List Field) (w:World) (h:∀f∈fs,(P.info? f.type).isSome=true):
  (fs.mapM fun f=>do pure (f.offset,←sizeOf f.type):Sem (List (Nat×Nat))).run P w= .ok (fs.map fun f=>(f.offset,P.cellsOf f.type)) w:=by
 induction fs with
 |nil=>simp
 |cons f fs ih=>
  obtain⟨i,hi⟩:=Option.isSome_iff_exists.1 (h f (by simp))
  have ih:=ih (fun x hx=>h x (by simp[hx]))
  have hsz:(sizeOf f.type).run P w= .ok i.size w:=by simp[sizeOf,typeInfo,hi]
  rw[List.mapM_cons]
  simp only[Sem.run_bind,hsz,Result.andThen_ok,Sem.run_pure,ih,List.map_cons]
  simp[Program.cellsOf,hi]
theorem Xfo {f f':Nat→Option (Nat×Nat)} (h:∀i,f i=f' i) (cs:Array Value) (l:List (Nat×Value)):Instr.fill f cs l=Instr.fill f' cs l:=by
 have:f=f':=funext h
 rw[this]
theorem Xe7 {t:TypeId}{parts:Array (Nat×Operand)}{pl:List (Nat×Operand)}{zs:List Value}{ps:List (Nat×AVal)}{out:List AVal} (hpl:parts.toList=pl) (hps:evL S pl=ps)
  (hz:X3q P t=some zs) (h1:VZ zs=true) (ht:Xia P t=true) (hout:X28 (Xao P t) (dvL zs) ps=some out)
  (hd:Nat.blt d S.n=true) (hg:XR ops S gd)
  (h:Walk P ops draw K rest ((l.length,⟨some d,.build t parts,ty,pos,aft,gd⟩,⟨XQ ops gd++X06 pl ps,some (d,.agg out),[],[],[]⟩)::l) (S.set d (.agg out))):
  Walk P ops draw K (⟨some d,.build t parts,ty,pos,aft,gd⟩::rest) l S:=by
 have hkeys:ps.map (·.1)=pl.map (·.1):=by
  rw[←hps];clear hps hpl h;induction pl with
  |nil=>rfl
  |cons p r ih=>simp[evL,ih]
 refine Yh ⟨X06 pl ps,some (d,.agg out),[],[],[]⟩ (U6 rfl fun E S g a w hs hq hl=> ?_) hg ⟨?_,trivial,trivial,hd⟩ h
 ·obtain⟨z,hzc,hzr⟩:=XaG hz
  obtain⟨us,k1,k2⟩:=X7l (vs:=z.cells) hkeys hq (by rw[hzc];exact X5F h1) hout
  refine⟨.agg us,?_,by simp only[AVal.sat];exact⟨us,rfl,k2⟩⟩
  have hparts:(parts.map fun p=>(p.1,a.eval p.2)).toList=pl.map fun p=>(p.1,a.eval p.2):=by simp[hpl]
  unfold Xia at ht
  cases hu:P.underlying t with
  |none=>rw[hu] at ht;simp at ht
  |some de=>
   rw[hu] at ht
   cases de with
   |struct fs=>
    simp only[List.all_eq_true] at ht
    have hrp:=XnE (P:=P) fs.toList w ht
    have hpm:(fs.mapM fun f=>do pure (f.offset,←sizeOf f.type):Sem (Array (Nat×Nat))).run P w= .ok (fs.map fun f=>(f.offset,P.cellsOf f.type)) w:=by
     have e:(fs.mapM fun f=>do pure (f.offset,←sizeOf f.type):Sem (Array (Nat×Nat)))=(List.toArray<$>(fs.toList.mapM fun f=>do pure (f.offset,←sizeOf f.type))):=by
      rw[Array.mapM_eq_mapM_toList]
     rw[e,Sem.run_map,hrp,Result.andThen_ok]
     congr 1
     apply Array.ext'
     simp
    have hf:Instr.fill (fun x=>(fs.map fun f=>(f.offset,P.cellsOf f.type))[x]?) z.cells (parts.map fun p=>(p.1,a.eval p.2)).toList=some us:=by
     rw[hparts,←k1]
     refine Xfo (fun i=> ?_) _ _
     simp only[Xao,hu,Array.getElem?_map]
     cases hfi:fs[i]? with
     |none=>rfl
     |some q=>
      obtain⟨y,hy⟩:=Option.isSome_iff_exists.1 (ht q (by simpa using Array.mem_of_getElem? hfi))
      simp[hy,Program.cellsOf]
    simp only[execOp,Instr.build,Sem.run_bind,hzr,Result.andThen_ok,run_underlying hu,hpm,hf,Sem.run_pure]
   |array n e=>
    simp only at ht
    obtain⟨y,hy⟩:=Option.isSome_iff_exists.1 ht
    have hf:Instr.fill (fun i=>some (i*y.size,y.size)) z.cells (parts.map fun p=>(p.1,a.eval p.2)).toList=some us:=by
     rw[hparts,←k1]
     refine Xfo (fun i=> ?_) _ _
     simp only[Xao,hu,hy]
    simp only[execOp,Instr.build,Sem.run_bind,hzr,Result.andThen_ok,run_underlying hu,sizeOf,typeInfo,run_program,hy,hf,Sem.run_pure]
   |_=>simp at ht
 ·rw[X2V]
  rw[←hps]
  clear hkeys hps hpl hout h
  induction pl with
  |nil=>simp[X06,evL]
  |cons p r ih=>simp only[evL,X06,List.mem_cons];exact fun q hq=>hq.elim (fun e=>by rw[e]) (ih q)
end
theorem X7F (γ:Nat):∀l:List D,Vs γ (l.map .d)=false
 |[]=>rfl
 |x::l=>by simp[Vs,AVal.ment,X7F γ l]
theorem X3U {g:Gh}:∀{ds:List D}{vs:List Value},XB g (ds.map .d) vs→vs.length=ds.length∧∀(i:Nat) (d:D),ds[i]? =some d→∃u,vs[i]? =some u∧d.rep g.M u:=by
 intro ds vs h
 refine⟨by simpa using Ue h,fun i d hd=> ?_⟩
 obtain⟨u,h1,h2⟩:=UX h i (.d d) (by simp[hd])
 exact⟨u,h1,by simpa only[AVal.sat] using h2⟩
theorem X5x {M:Mem}{sz b:Nat}:∀(xs:List (List D)) (o:Nat),(∀x∈xs,x.length=sz)→
  (∀(i:Nat) (d:D),xs.flatten[i]? =some d→∃u,M ⟨b,o+i,none⟩=some u∧d.rep M u)→Vp M sz xs b o
 |[],_,_,_=>by simp only[Vp]
 |r::rs,o,hl,h=>by
  have hr:=hl r (by simp)
  simp only[Vp]
  refine⟨hr,X3x _ _ _ fun i d hd=> ?_,X5x rs (o+sz) (fun x hx=>hl x (by simp[hx])) fun i d hd=> ?_⟩
  ·refine h i d ?_
   have hi:i<r.length:=(List.getElem?_eq_some_iff.1 hd).1
   simp[List.getElem?_append,hi];simpa [hi] using hd
  ·have:=h (sz+i) d (by simp[List.getElem?_append,←hr];exact hd)
   rwa [show o+(sz+i)=o+sz+i by omega] at this
theorem X0A {sz:Nat}:∀(xs:List (List D)),(∀x∈xs,x.length=sz)→xs.flatten.length=xs.length*sz
 |[],_=>by simp
 |r::rs,h=>by
  have:=X0A rs (fun x hx=>h x (by simp[hx]))
  simp[this,h r (by simp),Nat.add_mul];omega
theorem Xca {M:Mem}{w:World} (hm:∀a v,M a=some v→w.cell? a=some v) {sz:Nat}:∀(xs:List (List D)) (b o:Nat),Vp M sz xs b o→
  ∃vs:List Value,vs.length=xs.length*sz∧(∀(j:Nat) (v:Value),vs[j]? =some v→w.cell? ⟨b,o+j,none⟩=some v)∧
   (∀(j:Nat) (d:D) (v:Value),xs.flatten[j]? =some d→vs[j]? =some v→d.rep M v):=by
 intro xs b o h
 have hl:∀x∈xs,x.length=sz:=fun x hx=>by
  obtain⟨i,hi⟩:=List.getElem?_of_mem hx
  exact(X3s xs b o i x h hi).1
 have hcells:UK M xs.flatten b o:=by
  clear hl
  induction xs generalizing o with
  |nil=>simp[UK]
  |cons r rs ih=>
   simp only[Vp] at h
   simp only[List.flatten_cons]
   exact Xpp h.2.1 (by rw[h.1];exact ih _ h.2.2)
 obtain⟨vs,k1,k2,k3⟩:=XbC hm _ _ _ hcells
 exact⟨vs,by rw[k1,X0A xs hl],k2,k3⟩
def Gh.lay (g:Gh) (b:Nat) (vs:Array Value):Gh:=
 {blk:=g.blk,hd:=g.hd,ihd:=g.ihd,M:=fun p=>if p.block=b∧p.spot=none then vs[p.off]? else g.M p}
theorem X7e {E:Env}{L:Nat→AObj}{g:Gh}{w:World} (hi:Inv E L g w) (vs:Array Value):Yj g.M (g.lay w.heap.size vs).M:=by
 intro p v h
 have:=block_lt_of_cell (hi.mem p v h)
 show(if _ then _ else _)=_
 rw[if_neg (by omega)];exact h
theorem X26 {g g':Gh} (hM:Yj g.M g'.M) (hb:g'.blk=g.blk) (hh:g'.hd=g.hd) (hih:g'.ihd=g.ihd) {x:AVal}{u:Value} (h:x.sat g u):x.sat g' u:=
 AVal.sat_mono hM x u (fun k _=>Gh.keeps_of (by rw[hb]) (by rw[hh]) (by rw[hih])) h
theorem Xlm {g g':Gh} (hM:Yj g.M g'.M) (hb:g'.blk=g.blk) (hh:g'.hd=g.hd) (hih:g'.ihd=g.ihd) {xs:List AVal}{us:List Value} (h:XB g xs us):XB g' xs us:=
 X0r hM xs us (fun k _=>Gh.keeps_of (by rw[hb]) (by rw[hh]) (by rw[hih])) h
theorem X97 {g g':Gh} (hM:Yj g.M g'.M) (hb:g'.blk=g.blk) (hh:g'.hd=g.hd) (hih:g'.ihd=g.ihd) {w w':World}{γ:Nat}{x:AObj} (hheap:∀b,XM g x γ b→w'.heap[b]? =w.heap[b]?)
  (h:Ua g w γ x):Ua g' w' γ x:=
 X4i hM (by rw[hb]) (by rw[hh]) (by rw[hih]) hheap (fun cs us _ h=>Xlm hM hb hh hih h) h
theorem X9v {E:Env}{L:Nat→AObj}{g:Gh}{w:World} (hi:Inv E L g w) (vs:Array Value) (e:TypeId) (fr:Nat×Nat):
  Inv E L (g.lay w.heap.size vs) (w.alloc (.cells vs e fr)):=by
 have hle:=X7e hi vs
 refine⟨fun γ=>X97 (g':=g.lay w.heap.size vs) hle rfl rfl rfl (fun b hb=>X1R w _ b (X2H hi hb)) (hi.obj γ),fun γ γ' b h h'=> ?_,fun a v h=> ?_,fun γ b h a v ha=> ?_,fun γ b h=> ?_,hi.ext.trans hle,fun a v h=> ?_,fun b hb hA=> ?_,?_,hi.os,hi.out,fun k hk=>(hi.kp k hk).trans' (Gh.keeps_of rfl rfl rfl)⟩
 ·rw[X2F (g:=g) (g':=g.lay w.heap.size vs) rfl rfl rfl] at h h'
  exact hi.inj γ γ' b h h'
 ·have h':(if a.block=w.heap.size∧a.spot=none then vs[a.off]? else g.M a)=some v:=h
  split at h'
  ·rename_i hc
   obtain⟨b,o,s⟩:=a
   simp only at hc
   obtain⟨rfl,rfl⟩:=hc
   rw[cell_of_row _ _ _ vs e fr (heap_alloc_new w _)];exact h'
  ·have hc:=hi.mem a v h'
   simp only[World.cell?] at hc ⊢
   rw[X1R w _ _ (block_lt_of_cell (hi.mem a v h'))];exact hc
 ·rw[X2F (g:=g) (g':=g.lay w.heap.size vs) rfl rfl rfl] at h
  have h':(if a.block=w.heap.size∧a.spot=none then vs[a.off]? else g.M a)=some v:=ha
  split at h'
  ·rename_i hc;have:=X2H hi h;omega
  ·exact hi.sep γ b h a v h'
 ·rw[X2F (g:=g) (g':=g.lay w.heap.size vs) rfl rfl rfl] at h
  exact hi.new γ b h
 ·have h':(if a.block=w.heap.size∧a.spot=none then vs[a.off]? else g.M a)=some v:=h
  split at h'
  ·rename_i hc;have:=hi.size;exact .inr (.inl (by omega))
  ·exact hi.lim a v h'
 ·have:=hi.size
  rw[X1R w _ b (by omega)];exact hi.frame b hb hA
 ·have:=hi.size;simp;omega
theorem XeD {E:Env}{L:Nat→AObj}{g:Gh}{w:World} (hi:Inv E L g w):Inv E L g w.drew:=
 ⟨fun γ=>by
  have:=hi.obj γ
  revert this
  cases L γ<;>exact id,hi.inj,hi.mem,hi.sep,hi.new,hi.ext,hi.lim,hi.frame,hi.size,hi.os,hi.out,hi.kp⟩
def X4F:List AVal→Option (List D)
 |[]=>some []
 | .d x::r=>(match X4F r with|some y=>some (x::y)|none=>none)
 |_=>none
def X2l (sz:Nat):Nat→List AVal→Option (List (List D))
 |0,[]=>some []
 |n+1,l=>(match X4F (l.take sz),X2l sz n (l.drop sz) with|some r,some q=>bif Nat.beq r.length sz then some (r::q) else none|_,_=>none)
 |0,_::_=>none
theorem Xdc:∀{l:List AVal}{r:List D},X4F l=some r→r.map .d=l
 |[],r,h=>by simp[X4F] at h;subst h;rfl
 |x::l,r,h=>by
  cases x<;>simp only[X4F] at h<;>try (simp at h;done)
  rename_i y
  cases hu:X4F l with
  |none=>simp[hu] at h
  |some q=>simp[hu] at h;subst h;simp[Xdc hu]
theorem Xdm {sz:Nat}:∀{n:Nat}{l:List AVal}{xs:List (List D)},X2l sz n l=some xs→xs.flatten.map .d=l∧xs.length=n∧∀x∈xs,x.length=sz
 |0,[],xs,h=>by simp[X2l] at h;subst h;simp
 |0,_::_,xs,h=>by simp[X2l] at h
 |n+1,l,xs,h=>by
  simp only[X2l] at h
  cases hu:X4F (l.take sz) with
  |none=>simp[hu] at h
  |some r=>
   cases hq:X2l sz n (l.drop sz) with
   |none=>simp[hu,hq] at h
   |some q=>
    rw[hu,hq] at h
    simp only at h
    cases hb:Nat.beq r.length sz with
    |false=>simp[hb] at h
    |true=>
     simp[hb] at h
     subst h
     obtain⟨k1,k2,k3⟩:=Xdm hq
     refine⟨?_,by simp[k2],?_⟩
     ·simp only[List.flatten_cons,List.map_append,Xdc hu,k1,List.take_append_drop]
     ·intro x hx
      rcases List.mem_cons.1 hx with rfl|hx
      ·simpa using hb
      ·exact k3 x hx
def X0K (P:Program) (t:TypeId) (sz bytes:Nat):Bool:=
 match P.underlying t with
 |some (.slice e)=>(match P.info? e with|some i=>Nat.beq i.size sz&&Nat.beq i.bytes bytes&&(match i.zero with|some z=>Nat.beq z.cells.size sz&&VZ z.cells.toList|none=>false)|none=>false)
 |_=>false
def elB (P:Program) (t:TypeId):Nat:=
 match P.underlying t with
 |some (.slice e)=>(match P.info? e with|some i=>i.bytes|none=>0)
 |_=>0
theorem X4W {P:Program}{t:TypeId}{sz bytes:Nat} (h:X0K P t sz bytes=true):
  ∃e i z,P.underlying t=some (.slice e)∧P.info? e=some i∧i.size=sz∧i.bytes=bytes∧i.zero=some z∧z.cells.size=sz∧VZ z.cells.toList=true:=by
 unfold X0K at h
 cases hu:P.underlying t with
 |none=>simp[hu] at h
 |some de=>
  rw[hu] at h
  cases de with
  |slice e=>
   simp only at h
   cases hi:P.info? e with
   |none=>simp[hi] at h
   |some i=>
    rw[hi] at h
    simp only[Bool.and_eq_true] at h
    obtain⟨⟨h1,h2⟩,h3⟩:=h
    cases hz:i.zero with
    |none=>simp[hz] at h3
    |some z=>
     rw[hz] at h3
     simp only[Bool.and_eq_true] at h3
     exact⟨e,i,z,rfl,hi,Nat.eq_of_beq_eq_true h1,Nat.eq_of_beq_eq_true h2,hz,Nat.eq_of_beq_eq_true h3.1,h3.2⟩
  |_=>simp at h
def X2U (P:Program) (t:TypeId):Bool:=match P.underlying t with|some (.slice _)=>true|some .string=>true|_=>false
theorem X9K {P:Program}{t:TypeId} (h:X2U P t=true):(∃e,P.underlying t=some (.slice e))∨P.underlying t=some .string:=by
 unfold X2U at h
 cases hu:P.underlying t with
 |none=>simp[hu] at h
 |some u=>rw[hu] at h;cases u<;>simp_all
theorem X6B (need old:Nat) (e:TypeId) (t:Nat) (h:need<2^63):need≤(Question.appendCap need old e).cut t∧(Question.appendCap need old e).cut t≤maxLen:=by
 simp only[Question.cut,maxLen]
 have:t%(2^63-need)<2^63-need:=Nat.mod_lt _ (by omega)
 omega
def Src (P:Program) (w:World) (sz:Nat) (x:Value) (m:Nat) (news:Array Value):Prop:=
 (∀w':World,w'.heap=w.heap→(Builtin.lenOf x).run P w'= .ok m w'∧(Builtin.firstCells sz m x).run P w'= .ok news w')∧news.size=m*sz
theorem X70 {P:Program}{w:World}{T T2 ty e:TypeId}{i:TypeInfo}{base:Option Addr}{n cap m:Nat}{x:Value}{news:Array Value}
  (hT:P.underlying T=some (.slice e)) (hi:P.info? e=some i) (h2:(∃e,P.underlying T2=some (.slice e))∨P.underlying T2=some .string)
  (hsrc:Src P w i.size x m news) (hroom:n+m≤cap):
  (Builtin.append_ #[T,T2] ty #[.slice base n cap,x]).run P w=
   match base with
   |some a=>((storeCells (a.add (n*i.size)) news.toList).run P w).andThen fun _ w=> .ok (.slice base (n+m) cap) w
   |none=> .ok (.slice base (n+m) cap) w:=by
 have hs:=hsrc.1 w rfl
 rcases h2 with ⟨e2,h2⟩|h2<;>cases base<;>
 simp[Builtin.append_,run_underlying hT,sizeOf,typeInfo,hi,run_underlying h2,hs.1,hs.2,hroom]
theorem X7x {P:Program}{w:World}{T T2 ty e:TypeId}{i:TypeInfo}{z:Value}{base:Option Addr}{n cap m:Nat}{x:Value}{olds news:Array Value}
  (hT:P.underlying T=some (.slice e)) (hi:P.info? e=some i) (hz:i.zero=some z) (h2:(∃e,P.underlying T2=some (.slice e))∨P.underlying T2=some .string)
  (hbytes:i.bytes≠0)
  (hsrc:Src P w i.size x m news) (hold:∀w':World,w'.heap=w.heap→(Builtin.firstCells i.size n (.slice base n cap)).run P w'= .ok olds w') (hroom:¬n+m≤cap)
  (hcap:Builtin.nextslicecap (n+m) cap*i.bytes≤2^48):
  let newCap:=(Question.appendCap (n+m) cap e).cut (w.tape w.drawn (.appendCap (n+m) cap e))
  (Builtin.append_ #[T,T2] ty #[.slice base n cap,x]).run P w=
   .ok (.slice (some ⟨w.heap.size,0,none⟩) (n+m) newCap) (w.drew.alloc (.cells (olds++news++Builtin.zeroCells z.cells (newCap-(n+m))) e)):=by
 have hs:=hsrc.1 w rfl
 have hs':=hsrc.1 w.drew rfl
 have ho:=hold w.drew rfl
 rcases h2 with ⟨e2,h2⟩|h2<;>
 simp[Builtin.append_,run_underlying hT,sizeOf,typeInfo,hi,run_underlying h2,hs.1,hroom,hbytes,Nat.not_lt.2 hcap,Question.forced,ho,hs'.2,zeroValue,hz,newRow]
def Gh.rehd (g:Gh) (γ:Nat) (v:Value):Gh:={blk:=g.blk,hd:=fun k=>if k=γ then v else g.hd k,ihd:=g.ihd,M:=g.M}
theorem Xfc {g:Gh}{γ:Nat}{a a':Option Addr}{m m' c c':Nat} (h1:g.hd γ= .slice a m c) (h2:Value.slice a' m' c'= .slice a m c∨m<m') (k:Nat):g.keeps (g.rehd γ (.slice a' m' c')) k:=by
 refine⟨rfl,?_,fun _ _ _ _ _ _=>rfl⟩
 by_cases hk:k=γ
 ·subst hk
  rcases h2 with h2|h2
  ·left;simp[Gh.rehd,h1,h2]
  ·right;exact⟨a,m,c,a',m',c',h1,by simp[Gh.rehd],h2⟩
 ·left;simp[Gh.rehd,hk]
theorem X4x (z:Array Value) (n:Nat):(Builtin.zeroCells z n).size=n*z.size:=by simp[Builtin.zeroCells]
theorem X6s {g:Gh}{xs ys:List D}{us vs:List Value} (h:XB g (xs.map .d) us) (h':XB g (ys.map .d) vs):XB g ((xs++ys).map .d) (us++vs):=by
 rw[List.map_append];exact X1O h h'
theorem XgI {P:Program}{E:Env}{S:St}{g:Gh}{a:Act}{w:World} (hs:Vl E S g a w) {γ sz bytes m:Nat}{xs ys:List (List D)} (hL:S.obj γ= .row sz xs)
  {T T2 ty:TypeId} (hT:X0K P T sz bytes=true) (h2:X2U P T2=true) (hb0:bytes≠0) {x:Value}{news:Array Value} (hsrc:Src P w sz x m news)
  (hm:m=ys.length) (hy:∀y∈ys,y.length=sz) (hnews:XB g (ys.flatten.map .d) news.toList) (hroom:(xs.length+m)*bytes≤2^47):
  ∃v g' w',(Builtin.append_ #[T,T2] ty #[g.hd γ,x]).run P w= .ok v w'∧(AVal.own γ (xs.length+m)).sat g' v∧
   Inv E (Xo .dead ((γ,.row sz (xs++ys))::S.L)) g' w'∧∀t,(S.get t).sat g' (a.tmps.getD t undef):=by
 obtain⟨e,i,z,hu,hi,hsz,hbt,hz,hzs,hz1⟩:=X4W hT
 have hsrcT:=X9K h2
 have ho:=hs.1.obj γ
 rw[hL] at ho
 obtain⟨hlen,ho⟩:=ho
 have hflat:=X0A xs hlen
 have hflat2:=X0A ys hy
 have hlen':∀r∈xs++ys,r.length=sz:=fun r hr=>(List.mem_append.1 hr).elim (hlen r) (hy r)
 have hnsz:news.size=m*sz:=hsrc.2
 have fin:∀(a0:Option Addr) (c0:Nat) (b cap':Nat) (vs':Array Value) (e':TypeId) (fr:Nat×Nat) (w':World),
   g.hd γ= .slice a0 xs.length c0→
   (Value.slice (some ⟨b,0,none⟩) (xs.length+m) cap'= .slice a0 xs.length c0∨xs.length<xs.length+m)→
   (∀k,k<w.heap.size→¬XM g (S.obj γ) γ k→w'.heap[k]? =w.heap[k]?)→w.heap.size≤w'.heap.size→w'.os=w.os→w'.output=w.output→
   w'.heap[b]? =some (.cells vs' e' fr)→X40 fr vs'.size→xs.length+m≤cap'→cap'≤maxLen→cap'*sz≤vs'.size→
   XB g ((xs++ys).flatten.map .d) (vs'.toList.take ((xs++ys).length*sz))→(XM g (S.obj γ) γ b∨w.heap.size≤b)→
   let g':=g.rehd γ (.slice (some ⟨b,0,none⟩) (xs.length+m) cap')
   (AVal.own γ (xs.length+m)).sat g' (.slice (some ⟨b,0,none⟩) (xs.length+m) cap')∧
   Inv E (Xo .dead ((γ,.row sz (xs++ys))::S.L)) g' w'∧∀t,(S.get t).sat g' (a.tmps.getD t undef):=by
  intro a0 c0 b cap' vs' e' fr w' hhd hgrow hheap hsize hos hout hb hth hcap hmax hcs hsat hlv g'
  have hk:∀k,g.keeps g' k:=Xfc hhd hgrow
  have hM:Yj g.M g'.M:=Yj.refl _
  refine⟨?_,?_,fun t=>AVal.sat_mono hM _ _ (fun k _=>hk k) (hs.2.2.2 t)⟩
  ·simp only[AVal.sat]
   exact⟨rfl,some ⟨b,0,none⟩,xs.length+m,cap',by simp[g',Gh.rehd],Nat.le_refl _,fun _=>rfl⟩
  ·refine Inv.upd hs.1 γ _ (Yq _ _ _ _) (fun k hkγ=>Y9 _ _ _ (Ne.symm hkγ)) hheap hsize hos hout rfl (fun k hkγ=>⟨rfl,by simp[g',Gh.rehd,hkγ],rfl⟩)
    (fun k cs us _ _ h=>X0r hM _ _ (fun k _=>hk k) h) ?_ (fun k hkl=> ?_) (fun _=>hk γ)
   ·refine⟨hlen',.inr ⟨b,cap',vs',e',fr,by simp[g',Gh.rehd,hm],by simp[←hm];exact hcap,hmax,hb,hth,hcs,X0r hM _ _ (fun k _=>hk k) hsat⟩⟩
   ·simp only[XM,g',Gh.rehd,if_true] at hkl
    obtain⟨a1,n1,c1,e1,rfl⟩:=hkl
    cases e1;exact hlv
 have hgrowcap:∀cap,xs.length+m>cap→Builtin.nextslicecap (xs.length+m) cap*i.bytes≤2^48:=by
  intro cap hc
  have h1:=nextslicecap_le (need:=xs.length+m) (old:=cap) hc
  have h2:Builtin.nextslicecap (xs.length+m) cap*i.bytes≤2*(xs.length+m)*i.bytes:=Nat.mul_le_mul_right _ h1
  rw[hbt] at h2 ⊢
  have h3:2*(xs.length+m)*bytes=2*((xs.length+m)*bytes):=Nat.mul_assoc _ _ _
  omega
 have hneed:xs.length+m<2^63:=by
  have:xs.length+m≤(xs.length+m)*bytes:=Nat.le_mul_of_pos_right _ (by omega)
  omega
 rcases ho with ⟨hnil,rfl⟩|⟨b,cap,vs,e',fr,h1,h2',h3,h4,h5,h6,h7⟩
 ·by_cases hm0:m=0
  ·-- nothing to nothing
   have hys:ys=[]:=by cases ys with|nil=>rfl|cons=>simp at hm;omega
   subst hys
   have hr:=X70 (P:=P) (w:=w) (T:=T) (T2:=T2) (ty:=ty) (base:=none) (n:=0) (cap:=0) (x:=x) (news:=news) (m:=m) hu hi hsrcT (by rw[hsz];exact hsrc) (by omega)
   refine⟨_,g,w,by rw[hnil];exact hr,?_,?_,hs.2.2.2⟩
   ·simp only[AVal.sat]
    exact⟨rfl,none,0,0,hnil,by simp[hm0],fun _=>by simp[hm0]⟩
   ·have e1:Xo .dead ((γ,.row sz ([]++[]))::S.L)=S.obj:=by
     funext k
     by_cases hk:k=γ
     ·subst hk;rw[Yq];exact hL.symm
     ·rw[Y9 _ _ _ (Ne.symm hk)];rfl
    rw[e1];exact hs.1
  ·have hr:=X7x (P:=P) (w:=w) (T:=T) (T2:=T2) (ty:=ty) (base:=none) (n:=0) (cap:=0) (x:=x) (olds:= #[]) (news:=news) (m:=m) hu hi hz hsrcT (by rw[hbt];exact hb0) (by rw[hsz];exact hsrc)
    (fun w' _=>by simp[Builtin.firstCells]) (by omega) (by have:=hgrowcap 0 (by simp;omega);simpa using this)
   obtain⟨c1,c2⟩:=X6B (0+m) 0 e (w.tape w.drawn (.appendCap (0+m) 0 e)) (by simpa using hneed)
   revert hr c1 c2
   generalize (Question.appendCap (0+m) 0 e).cut (w.tape w.drawn (.appendCap (0+m) 0 e))=nc
   intro hr c1 c2
   have:=fin none 0 w.heap.size nc (#[]++news++Builtin.zeroCells z.cells (nc-(0+m))) e (0,0) _ (by simpa using hnil) (.inr (by simp;omega))
    (fun k hk _=>X1R w.drew _ k hk) (X37 w.drew _) rfl rfl (heap_alloc_new w.drew _) (X5w _) (by simpa using c1) c2
    (by simp[X4x,hnsz,hzs,←Nat.add_mul];rw[show m+(nc-m)=nc by omega];exact Nat.le_refl _)
    (by
     simp only[List.nil_append]
     have e1:((#[]++news++Builtin.zeroCells z.cells (nc-(0+m))).toList.take (ys.length*sz))=news.toList:=by
      rw[←hm,←hnsz];simp
     rw[e1];exact hnews) (.inr (Nat.le_refl _))
   exact⟨_,_,_,by rw[hnil];exact hr,by simpa using this⟩
 ·have hfc:∀w':World,w'.heap=w.heap→(Builtin.firstCells i.size xs.length (.slice (some ⟨b,0,none⟩) xs.length cap)).run P w'= .ok (vs.toList.take (xs.length*sz)).toArray w':=by
   intro w' hw'
   have hl:=Ue h7
   have:=run_loadCells_list (P:=P) w' ⟨b,0,none⟩ (vs.toList.take (xs.length*sz)) (fun j v hv=>by
    rw[Uw,cell_of_row w' _ _ vs e' fr (by rw[hw'];exact h4)]
    rw[List.getElem?_take] at hv
    split at hv
    ·simpa using hv
    ·simp at hv)
   rw[hl] at this
   simp only[List.length_map,hflat] at this
   simp only[Builtin.firstCells,hsz]
   exact this
  have htl:(vs.toList.take (xs.length*sz)).length=xs.length*sz:=by have:=Ue h7;simp only[List.length_map,hflat] at this;exact this
  have hta:(vs.toList.take (xs.length*sz)).toArray.toList=vs.toList.take (xs.length*sz):=rfl
  by_cases hc:xs.length+m≤cap
  ·have hr:=X70 (P:=P) (w:=w) (T:=T) (T2:=T2) (ty:=ty) (base:=some ⟨b,0,none⟩) (n:=xs.length) (cap:=cap) (x:=x) (news:=news) (m:=m) hu hi hsrcT (by rw[hsz];exact hsrc) hc
   have hsz1:xs.length*sz+news.size≤vs.size:=by
    rw[hnsz,←Nat.add_mul];exact Nat.le_trans (Nat.mul_le_mul_right _ hc) h6
   obtain⟨vs',k1,k2⟩:=X6T (P:=P) b e' fr vs.size h5 news.toList (xs.length*sz) 0 vs w h4 rfl (by simpa using hsz1) (fun u hu'=>by
    obtain⟨j,hj,rfl⟩:=List.getElem_of_mem hu'
    have hjl:j<ys.flatten.length:=by rw[hflat2,←hm,←hnsz];simpa using hj
    obtain⟨_,hrep⟩:=X3U hnews
    obtain⟨u,hu1,hu2⟩:=hrep j _ (List.getElem?_eq_getElem hjl)
    rw[List.getElem?_eq_getElem hj] at hu1;cases hu1
    exact D.rep_one hu2)
   simp only[Nat.add_zero,Array.length_toList] at k2
   simp only at hr
   rw[show (⟨b,0,none⟩:Addr).add (xs.length*i.size)=⟨b,xs.length*sz,none⟩ by rw[Uw,hsz];simp] at hr
   simp only[k1,Result.andThen_ok] at hr
   have hvs':vs'.size=vs.size:=by
    have:=congrArg List.length k2
    simp at this;omega
   have hlv:XM g (S.obj γ) γ b:=by rw[hL];exact⟨_,_,_,h1,rfl⟩
   have:=fin (some ⟨b,0,none⟩) cap b cap vs' e' fr (w.setRow b vs') h1 (by by_cases hm0:m=0;exact .inl (by rw[hm0];simp);exact .inr (by omega))
    (fun k hk hne=>setRow_other w b k vs' (fun e=>hne (by rw[e];exact hlv))) (by simp) rfl rfl (setRow_heap w b vs _ e' fr h4) (by rw[hvs'];exact h5) hc h3 (by rw[hvs'];exact h6)
    (by
     have e1:vs'.toList.take ((xs++ys).length*sz)=vs.toList.take (xs.length*sz)++news.toList:=by
      rw[k2,List.length_append,←hm,Nat.add_mul,←hnsz]
      rw[List.take_append_of_le_length (by rw[List.length_append,htl];simp)]
      rw[List.take_of_length_le (by rw[List.length_append,htl];simp)]
     rw[e1,List.flatten_append]
     exact X6s h7 hnews) (.inl hlv)
   exact⟨_,_,_,by rw[h1];exact hr,this⟩
  ·have hr:=X7x (P:=P) (w:=w) (T:=T) (T2:=T2) (ty:=ty) (base:=some ⟨b,0,none⟩) (n:=xs.length) (cap:=cap) (x:=x) (olds:=(vs.toList.take (xs.length*sz)).toArray) (news:=news) (m:=m) hu hi hz hsrcT (by rw[hbt];exact hb0)
    (by rw[hsz];exact hsrc) hfc hc (hgrowcap cap (by omega))
   obtain⟨c1,c2⟩:=X6B (xs.length+m) cap e (w.tape w.drawn (.appendCap (xs.length+m) cap e)) hneed
   revert hr c1 c2
   generalize (Question.appendCap (xs.length+m) cap e).cut (w.tape w.drawn (.appendCap (xs.length+m) cap e))=nc
   intro hr c1 c2
   have:=fin (some ⟨b,0,none⟩) cap w.heap.size nc ((vs.toList.take (xs.length*sz)).toArray++news++Builtin.zeroCells z.cells (nc-(xs.length+m))) e (0,0) _ h1 (.inr (by omega))
    (fun k hk _=>X1R w.drew _ k hk) (X37 w.drew _) rfl rfl (heap_alloc_new w.drew _) (X5w _) c1 c2
    (by
     have:((vs.toList.take (xs.length*sz)).toArray++news++Builtin.zeroCells z.cells (nc-(xs.length+m))).size=nc*sz:=by
      rw[Array.size_append,Array.size_append,X4x,hnsz,hzs,List.size_toArray,htl,←Nat.add_mul,←Nat.add_mul]
      congr 1;omega
     omega)
    (by
     have e1:(((vs.toList.take (xs.length*sz)).toArray++news++Builtin.zeroCells z.cells (nc-(xs.length+m))).toList.take ((xs++ys).length*sz))=vs.toList.take (xs.length*sz)++news.toList:=by
      rw[Array.toList_append,Array.toList_append,List.length_append,←hm,Nat.add_mul,←hnsz]
      rw[List.take_append_of_le_length (by rw[List.length_append,hta,htl];simp)]
      rw[List.take_of_length_le (by rw[List.length_append,hta,htl];simp),hta]
     rw[e1,List.flatten_append]
     exact X6s h7 hnews) (.inr (Nat.le_refl _))
   exact⟨_,_,_,by rw[h1];exact hr,this⟩
theorem Xav {P:Program}{E:Env}{L:Nat→AObj}{g:Gh}{w:World} (hi:Inv E L g w) {sz:Nat}{ys:List (List D)}{x:Value} (h:(D.sl sz ys).rep g.M x):
  ∃news,Src P w sz x ys.length news∧XB g (ys.flatten.map .d) news.toList∧(ys=[]∨∀y∈ys,y.length=sz):=by
 simp only[D.rep] at h
 obtain⟨a,cap,rfl,h2,h3,h4⟩:=h
 rcases h4 with rfl|⟨b,o,rfl,hr⟩
 ·refine⟨#[],⟨fun w' _=>⟨by simp[Builtin.lenOf],?_⟩,by simp⟩,by simp[XB],.inl rfl⟩
  cases a with
  |none=>simp[Builtin.firstCells]
  |some a=>simp[Builtin.firstCells,loadCells,loadCellsFrom]
 ·obtain⟨vs,k1,k2,k3⟩:=Xca hi.mem ys b o hr
  have hl:∀y∈ys,y.length=sz:=fun y hy=>by
   obtain⟨i,hi⟩:=List.getElem?_of_mem hy
   exact(X3s ys b o i y hr hi).1
  refine⟨vs.toArray,⟨fun w' hw'=>⟨by simp[Builtin.lenOf],?_⟩,by simp[k1]⟩,?_,.inr hl⟩
  ·have:=run_loadCells_list (P:=P) w' ⟨b,o,none⟩ vs (fun j v hv=>by
    rw[Uw]
    have:=k2 j v hv
    simp only[World.cell?] at this ⊢
    rw[hw'];exact this)
   rw[k1] at this
   simp only[Builtin.firstCells];exact this
  ·refine X24 (by rw[List.length_map,X0A ys hl,←k1]) fun i z u hz hu=> ?_
   simp only[List.getElem?_map,Option.map_eq_some_iff] at hz
   obtain⟨d,hd,rfl⟩:=hz
   simp only[AVal.sat]
   exact k3 i d u hd (by simpa using hu)
section
variable {P:Program}{ops:Array Oper}{draw:Bool}{K:Y4→St→Prop}{rest:List Oper}{l:Y4}{S:St}
variable {d:Nat}{ty:TypeId}{pos:String}{aft:Array Edge}{gd:Option (Nat×Bool)}
theorem X23 {g:Gh}{γ n:Nat}{v:Value} (h:(AVal.own γ n).sat g v) {sz:Nat}{xs:List (List D)}{w:World} (ho:Ua g w γ (.row sz xs)) (hn:n=xs.length):v=g.hd γ:=by
 simp only[AVal.sat] at h
 obtain⟨_,a,m,c,h1,h2,h3⟩:=h
 have:g.hd γ= .slice a n c:=by
  rcases ho.2 with ⟨e,rfl⟩|⟨b,cap,vs,e',fr,e,_⟩
  ·rw[e] at h1;cases h1;rw[e];simp[hn]
  ·rw[e] at h1;cases h1;rw[e];simp[hn]
 rw[this] at h1;cases h1
 rw[h3 rfl,this]
theorem X65 {ρ:Operand→Value}{x y:Operand}{T T2:TypeId}{w w':World}{v:Value}{o:Oper} (ho:o.op= .call ⟨.builtin .append,#[x,y],#[T,T2]⟩)
  (h:(Builtin.append_ #[T,T2] o.type #[ρ x,ρ y]).run P w= .ok v w'):(execOp ρ o).run P w= .ok (.value v) w':=by
 simp[execOp,ho,resolve,invoke,builtin,h]
theorem Xjw {x y:Operand}{T T2:TypeId}{γ n sz bytes:Nat}{xs ys:List (List D)} (hx:S.ev x= .own γ n) (hL:S.obj γ= .row sz xs) (hy:S.ev y= .d (.sl sz ys)) (hn:n=xs.length)
  (hB:elB P T=bytes) (hT:X0K P T sz bytes=true) (hT2:X2U P T2=true) (hb0:Nat.beq bytes 0=false) (hroom:(xs.length+ys.length)*bytes≤140737488355328)
  (hd:Nat.blt d S.n=true) (hg:XR ops S gd)
  (h:Walk P ops draw K rest ((l.length,⟨some d,.call ⟨.builtin .append,#[x,y],#[T,T2]⟩,ty,pos,aft,gd⟩,⟨XQ ops gd++[(x,.own γ n),(y,.d (.sl sz ys))],some (d,.own γ (xs.length+ys.length)),[(γ,.row sz xs)],[(γ,.row sz (xs++ys))],[]⟩)::l)
   ((S.set d (.own γ (xs.length+ys.length))).own γ (.row sz (xs++ys)))):
  Walk P ops draw K (⟨some d,.call ⟨.builtin .append,#[x,y],#[T,T2]⟩,ty,pos,aft,gd⟩::rest) l S:=
 Yh ⟨[(x,.own γ n),(y,.d (.sl sz ys))],some (d,.own γ (xs.length+ys.length)),[(γ,.row sz xs)],[(γ,.row sz (xs++ys))],[]⟩ (X1c rfl fun E S g a w hs hq hl hnw=>by
  have ho:=hs.1.obj γ
  rw[hl.1] at ho
  have hv:=X23 hq.1 ho hn
  have hsy:(D.sl sz ys).rep g.M (a.eval y):=by have:=hq.2.1;simpa only[AVal.sat] using this
  obtain⟨news,k1,k2,k3⟩:=Xav (P:=P) hs.1 hsy
  have hyl:∀r∈ys,r.length=sz:=by rcases k3 with rfl|k3;simp;exact k3
  obtain⟨v,g',w',r1,r2,r3,r4⟩:=XgI hs hl.1 (ty:=ty) hT hT2 (X3N hb0) k1 rfl hyl k2 (by simpa using hroom)
  exact⟨v,g',w',X65 rfl (by rw[hv];exact r1),r2,r3,r4⟩) hg ⟨⟨hx,hy,trivial⟩,⟨hL,trivial⟩,trivial,hd⟩ h
theorem U7 {x:Operand}{T:TypeId}{sz:Nat}{xs:List (List D)} (hx:S.ev x= .d (.sl sz xs)) (hT:isSl P T=true)
  (hd:Nat.blt d S.n=true) (hg:XR ops S gd)
  (h:Walk P ops draw K rest ((l.length,⟨some d,.call ⟨.builtin .len,#[x],#[T]⟩,ty,pos,aft,gd⟩,⟨XQ ops gd++[(x,.d (.sl sz xs))],some (d,ai xs.length),[],[],[]⟩)::l) (S.set d (ai xs.length))):
  Walk P ops draw K (⟨some d,.call ⟨.builtin .len,#[x],#[T]⟩,ty,pos,aft,gd⟩::rest) l S:=
 Yh ⟨[(x,.d (.sl sz xs))],some (d,ai xs.length),[],[],[]⟩ (U6 rfl fun E S g a w hs hq hl=>by
  obtain⟨e,h1⟩:=X54 hT
  have:=hq.1
  simp only[AVal.sat,D.rep] at this
  obtain⟨b,cap,hv,_⟩:=this
  refine⟨.int .i64 xs.length,?_,VB rfl⟩
  simp[execOp,resolve,invoke,builtin,hv,Builtin.len_,run_underlying h1,goInt]) hg ⟨⟨hx,trivial⟩,trivial,trivial,hd⟩ h
theorem Xq8 {x:Operand}{T:TypeId}{sz γ n:Nat}{xs:List (List D)} (hx:S.ev x= .own γ n) (hL:S.obj γ= .row sz xs) (hn:n=xs.length) (hT:isSl P T=true)
  (hd:Nat.blt d S.n=true) (hg:XR ops S gd)
  (h:Walk P ops draw K rest ((l.length,⟨some d,.call ⟨.builtin .len,#[x],#[T]⟩,ty,pos,aft,gd⟩,⟨XQ ops gd++[(x,.own γ n)],some (d,ai xs.length),[(γ,.row sz xs)],[],[]⟩)::l) (S.set d (ai xs.length))):
  Walk P ops draw K (⟨some d,.call ⟨.builtin .len,#[x],#[T]⟩,ty,pos,aft,gd⟩::rest) l S:=
 Yh ⟨[(x,.own γ n)],some (d,ai xs.length),[(γ,.row sz xs)],[],[]⟩ (U6 rfl fun E S g a w hs hq hl=>by
  obtain⟨e,h1⟩:=X54 hT
  have ho:=hs.1.obj γ
  rw[hl.1] at ho
  have hv:=X23 hq.1 ho hn
  have hv':∃b c,a.eval x= .slice b xs.length c:=by
   rw[hv]
   rcases ho.2 with ⟨e,rfl⟩|⟨b,cap,vs,e',fr,e,_⟩
   ·exact⟨_,_,e⟩
   ·exact⟨_,_,e⟩
  obtain⟨b,c,hv'⟩:=hv'
  refine⟨.int .i64 xs.length,?_,VB rfl⟩
  simp[execOp,resolve,invoke,builtin,hv',Builtin.len_,run_underlying h1,goInt]) hg ⟨⟨hx,trivial⟩,⟨hL,trivial⟩,trivial,hd⟩ h
def X6E (P:Program) (t:TypeId):Bool:=match P.underlying t with|some .string=>true|_=>false
theorem Xaj {t:TypeId} (h:X6E P t=true):P.underlying t=some .string:=by
 unfold X6E at h
 cases hu:P.underlying t with
 |none=>simp[hu] at h
 |some u=>rw[hu] at h;cases u<;>simp_all
theorem XbM {x:Operand}{T:TypeId}{s:ByteArray} (hx:S.ev x=aZ s) (hT:X6E P T=true)
  (hd:Nat.blt d S.n=true) (hg:XR ops S gd)
  (h:Walk P ops draw K rest ((l.length,⟨some d,.call ⟨.builtin .len,#[x],#[T]⟩,ty,pos,aft,gd⟩,⟨XQ ops gd++[(x,aZ s)],some (d,ai s.size),[],[],[]⟩)::l) (S.set d (ai s.size))):
  Walk P ops draw K (⟨some d,.call ⟨.builtin .len,#[x],#[T]⟩,ty,pos,aft,gd⟩::rest) l S:=
 Yh ⟨[(x,aZ s)],some (d,ai s.size),[],[],[]⟩ (U6 rfl fun E S g a w hs hq hl=>by
  refine⟨.int .i64 s.size,?_,VB rfl⟩
  simp[execOp,resolve,invoke,builtin,Uc hq.1,Builtin.len_,run_underlying (Xaj hT),goInt]) hg ⟨⟨hx,trivial⟩,trivial,trivial,hd⟩ h
theorem U9 {x i:Operand}{T:TypeId}{sz k:Nat}{kd:IntKind}{n:Int}{xs:List (List D)}{r:List D} (hx:S.ev x= .d (.sl sz xs)) (hi:S.ev i= .d (.v (.int kd n))) (hk:n=(k:Nat)) (hr:xs[k]? =some r)
  (hT:Ui P T sz=true) (hd:Nat.blt d S.n=true) (hg:XR ops S gd)
  (h:Walk P ops draw K rest ((l.length,⟨some d,.indexAddr T x i,ty,pos,aft,gd⟩,⟨XQ ops gd++[(x,.d (.sl sz xs)),(i,.d (.v (.int kd n)))],some (d,.dptr r),[],[],[]⟩)::l) (S.set d (.dptr r))):
  Walk P ops draw K (⟨some d,.indexAddr T x i,ty,pos,aft,gd⟩::rest) l S:=
 Yh ⟨[(x,.d (.sl sz xs)),(i,.d (.v (.int kd n)))],some (d,.dptr r),[],[],[]⟩ (U6 rfl fun E S g a w hs hq hl=>by
  obtain⟨e,h1,h2,h3⟩:=X1i hT
  have hlt:k<xs.length:=(List.getElem?_eq_some_iff.1 hr).1
  have hx':=hq.1
  simp only[AVal.sat,D.rep] at hx'
  obtain⟨b,cap,hv,_,_,hrows⟩:=hx'
  rcases hrows with rfl|⟨b',o,rfl,hrows⟩
  ·simp at hlt
  ·obtain⟨q1,q2⟩:=X3s xs b' o k r hrows hr
   refine⟨.pointer (some ⟨b',o+k*sz,none⟩),?_,by simp only[AVal.sat];exact⟨b',_,rfl,q2⟩⟩
   have hb:(0:Int)≤n∧n<(xs.length:Int):=by omega
   have hn:n.toNat=k:=by omega
   have:=run_indexAt_slice (P:=P) w T ⟨b',o,none⟩ xs.length cap kd n (by rw[h3];exact h1)
   rw[if_pos hb,h3,h2 w,Result.andThen_ok,Uw,hn] at this
   simp only[execOp,hv,Uc hq.2.1,Sem.run_bind,this];rfl) hg ⟨⟨hx,hi,trivial⟩,trivial,trivial,hd⟩ h
end
end Go.Fw
