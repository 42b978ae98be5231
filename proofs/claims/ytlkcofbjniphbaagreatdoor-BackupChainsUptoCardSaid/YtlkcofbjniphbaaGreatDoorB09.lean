/- A block cleared; whether two slices overlap; a nest let go; keys exchanged. -/
import Derived.WalkSmall
import Derived.Test.YtlkcofbjniphbaaGreatDoorB08
namespace Go.Fw
open Go
set_option linter.unusedVariables false
set_option linter.unusedSimpArgs false
section
variable {P:Program}
variable {ops:Array Oper}{draw:Bool}{K:Y4→St→Prop}{rest:List Oper}{l:Y4}{S:St}
variable {d:Nat}{ty:TypeId}{pos:String}{aft:Array Edge}{gd:Option (Nat×Bool)}
theorem Xq5 {z:Array Value} (h:VZ z.toList=true) (n:Nat):∀u∈(Builtin.zeroCells z n).toList,u.oneCell'=true:=by
 intro u hu
 unfold Builtin.zeroCells at hu
 rw[X8l] at hu
 unfold Uj at hu
 rw[List.mem_flatten] at hu
 obtain⟨l,h1,h2⟩:=hu
 rw[List.mem_replicate] at h1
 rw[h1.2] at h2
 exact(Xd9 _).1 h u h2
theorem X9h {x:Operand}{T:TypeId}{β o n c sz bytes:Nat}{cs cs':List (Option D)} (hx:S.ev x= .rs β o n c) (hL:S.obj β= .raw cs none) (hn:0<n) (hb:o+n*sz≤cs.length)
  (hcs:cs.take o++List.replicate (n*sz) none++cs.drop (o+n*sz)=cs') (hB:elB P T=bytes) (hT:X0K P T sz bytes=true) (hg:XR ops S gd)
  (h:Walk P ops draw K rest ((l.length,⟨none,.call ⟨.builtin .clear,#[x],#[T]⟩,ty,pos,aft,gd⟩,⟨XQ ops gd++[(x,.rs β o n c)],none,[(β,.raw cs none)],[(β,.raw cs' none)],[]⟩)::l) (S.own β (.raw cs' none))):
  Walk P ops draw K (⟨none,.call ⟨.builtin .clear,#[x],#[T]⟩,ty,pos,aft,gd⟩::rest) l S:=by
 refine Yh ⟨[(x,.rs β o n c)],none,[(β,.raw cs none)],[(β,.raw cs' none)],[]⟩ ?_ hg ⟨⟨hx,trivial⟩,⟨hL,trivial⟩,trivial,trivial⟩ h
 intro E S a w g hs hok Q K hK
 obtain⟨ok1,⟨l1,_⟩,_,ok4⟩:=hok
 have hq:=X0M hs _ ok1
 obtain⟨e,i,z,hu,hi,hsz,hbt,hz,hzs,hz1⟩:=X4W hT
 have hx':=X1v hq.1
 have hzl:(Builtin.zeroCells z.cells n).toList.length=n*sz:=by rw[Array.length_toList,X4x,hzs]
 obtain⟨w',k1,k2⟩:=X8A (P:=P) (o:=o) (ys:=List.replicate (n*sz) none) (news:=Builtin.zeroCells z.cells n) hs.1 l1 (by have:=Xb2 (g:=g) (Builtin.zeroCells z.cells n).toList;rw[hzl] at this;rw[List.map_replicate];exact this) (Xq5 hz1 n) (by rw[List.length_replicate];exact hb)
 rw[List.length_replicate,hcs] at k2
 obtain⟨m,rfl⟩:∃m,n=m+1:=⟨n-1,by omega⟩
 have hrun:(Builtin.clear_ #[T] ty #[.slice (some ⟨g.blk β,o,none⟩) (m+1) c]).run P w= .ok (.tuple #[]) w':=by
  simp[Builtin.clear_,run_underlying hu,zeroValue,typeInfo,hi,hz,k1]
 have hrun':(execOp a.eval ⟨none,.call ⟨.builtin .clear,#[x],#[T]⟩,ty,pos,aft,gd⟩).run P w= .ok (.value (.tuple #[])) w':=by
  simp[execOp,resolve,invoke,builtin,hx',hrun]
 unfold Oper.wp
 rw[hrun',Oper.upon_value]
 exact hK _ _ ⟨g,k2,hs.2.1,hs.2.2.1,hs.2.2.2⟩
theorem Xpf (w:World) (ps rs:Array TypeId) (tS e:TypeId) (hp:ps[0]? =some tS) (ht:P.underlying tS=some (.slice e)) (size:Nat) (hz:∀w,(Go.sizeOf e).run P w= .ok size w)
  (a b:Addr) (la ca lb cb:Nat) (hne:a.block≠b.block) (tA tB:TypeId) (kA kB:Nat)
  (hsa:w.shape? a.block=some (tA,kA)) (hsb:w.shape? b.block=some (tB,kB)) (hkB:kB≠0) (hkA:kA≠0)
  (hfb:w.frozen? b=false) (hfe:w.frozen? {block:=b.block,off:=kB}=false):
  (Extern.SlicesOverlaps.overlaps ps rs #[.slice (some a) la ca,.slice (some b) lb cb]).run P w= .ok (.bool false) w:=by
 have hnb:(a.block !=b.block)=true:=by simpa using hne
 have hnb':(a.block==b.block)=false:=by simpa using hne
 change Sem.run P (α:=Value) (do
  let some t:=ps[0]? |stuck "slices.overlaps: no parameter types"
  let .slice elem ←underlying t|stuck "slices.overlaps: slice type expected"
  let size ←sizeOf elem
  match (some a:Option Addr),(some b:Option Addr) with
  |some a,some b=>
   if la=0∨lb=0∨size=0 then pure (Value.bool false)
   else if a.block !=b.block&&(←frozen a)&&(←frozen b) then unsupported .addressObserved
   else do
    if a.block !=b.block then do
     noView a;noView b
     if ←mayBeOne a b then return Value.bool ((←choose (.extern "sameAddr.stringBytes" 2))==1)
    pure (Value.bool (a.block==b.block&&a.off<b.off+lb*size&&b.off<a.off+la*size))
  |_,_=>pure (Value.bool false)) w=_
 rw[hp]
 by_cases h0:la=0∨lb=0∨size=0
 ·simp[run_underlying ht,hz,h0]
 ·cases kB with
  |zero=>exact absurd rfl hkB
  |succ kB=>
   cases kA with
   |zero=>exact absurd rfl hkA
   |succ kA=>
   cases hA:w.frozen? a<;>cases hA2:w.frozen? {block:=a.block,off:=kA+1}<;>
    simp[run_underlying ht,hz,h0,hnb,hnb',frozen,noView,viewAt,mayBeOne,stringish,shape,Sem.run,hsa,hsb,hfb,hfe,hA,hA2]
theorem XgQ {w:World}{b:Nat}{vs:Array Value}{e:TypeId}{fr:Nat×Nat} (h:w.heap[b]? =some (.cells vs e fr)):w.shape? b=some (e,vs.size):=by
 simp[World.shape?,h]
theorem X9e {f:FuncId}{tys ps rs:Array TypeId}{T:TypeId}{x y:Operand}{β o n c sz:Nat}{cs:List (Option D)}{ys:List (List D)}{fn:Func} (hx:S.ev x= .d (.sl sz ys)) (hy:S.ev y= .rs β o n c) (hL:S.obj β= .raw cs none) (hys:ys≠[]) (hsz:0<sz) (ho:o≤cs.length) (hcs:cs≠[])
  (hf:P.funcs[f]? =some fn) (h1:(fn.name== "runtime.NumGoroutine")=false) (h2:fn.body.isNone=true) (h3:Extern.findNext fn=none) (h4:Extern.find fn=some (Extern.SlicesOverlaps.overlaps ps rs)) (hp:ps[0]? =some T) (hT:Ui P T sz=true)
  (hd:Nat.blt d S.n=true) (hg:XR ops S gd)
  (h:Walk P ops draw K rest ((l.length,⟨some d,.call ⟨.value (.func f),#[x,y],tys⟩,ty,pos,aft,gd⟩,⟨XQ ops gd++[(x,.d (.sl sz ys)),(y,.rs β o n c)],some (d,ab false),[(β,.raw cs none)],[],[]⟩)::l) (S.set d (ab false))):
  Walk P ops draw K (⟨some d,.call ⟨.value (.func f),#[x,y],tys⟩,ty,pos,aft,gd⟩::rest) l S:=
 Yh ⟨[(x,.d (.sl sz ys)),(y,.rs β o n c)],some (d,ab false),[(β,.raw cs none)],[],[]⟩ (U6 rfl fun E S g a w hs hq hl=>by
  obtain⟨e,q1,q2,q3⟩:=X1i hT
  have hy':=X1v hq.2.1
  have hob:=hs.1.obj β
  rw[hl.1] at hob
  obtain⟨vs,eb,fr,b1,b2,b3⟩:=hob
  have hvl:vs.size=cs.length:=by have:=Ue b3;simpa [Y6] using this
  have hcl:0<cs.length:=List.length_pos_iff.2 hcs
  have hxs:=hq.1
  simp only[AVal.sat,D.rep] at hxs
  obtain⟨ad,cap,e1,e2,e3,e4⟩:=hxs
  rcases e4 with e4|⟨b0,o0,rfl,hr⟩
  ·exact absurd e4 hys
  obtain⟨y0,hy0⟩:∃y0,ys[0]? =some y0:=⟨_,List.getElem?_eq_getElem (List.length_pos_iff.2 hys)⟩
  obtain⟨r1,r2⟩:=X3s ys b0 o0 0 y0 hr hy0
  obtain⟨d0,hd0⟩:∃d0,y0[0]? =some d0:=⟨_,List.getElem?_eq_getElem (by omega)⟩
  obtain⟨u,hu,_⟩:=X5j y0 b0 _ 0 d0 r2 hd0
  have hne:b0≠g.blk β:=hs.1.sep β (g.blk β) (by rw[hl.1];rfl) _ _ hu
  have hcell:=hs.1.mem _ _ hu
  have hsa:∃tA kA,w.shape? b0=some (tA,kA)∧kA≠0:=by
   simp only[World.cell?] at hcell
   cases hh:w.heap[b0]? with
   |none=>rw[hh] at hcell;simp at hcell
   |some ob=>
    rw[hh] at hcell
    cases ob with
    |cells cc ee ff=>
     refine⟨ee,cc.size,XgQ hh,fun e0=> ?_⟩
     simp[Array.getElem?_eq_none (xs:=cc) (Nat.le_trans (Nat.le_of_eq e0) (Nat.zero_le _))] at hcell
    |_=>simp at hcell
  obtain⟨tA,kA,hsa,hkA⟩:=hsa
  have hfr:∀i,i<vs.size+1→w.frozen? ⟨g.blk β,i,none⟩=false:=by
   intro i hi
   have:=b2 i hi
   simp only[World.frozen?,b1]
   simpa using this
  have hrun:=Xpf (P:=P) w ps rs T e hp q1 sz q2 ⟨b0,o0,none⟩ ⟨g.blk β,o,none⟩ ys.length cap n c hne tA eb kA vs.size hsa (XgQ b1) (by omega) hkA (hfr o (by omega)) (hfr vs.size (by omega))
  refine⟨.bool false,?_,VB rfl⟩
  have e5:=run_callFunc_extern hf h1 h2 h3 h4 #[a.eval x,a.eval y] w
  rw[e1,hy',hrun,Result.andThen_ok,←e1,←hy'] at e5
  have ef:a.eval (.func f)= .func (.func f) #[] #[]:=rfl
  generalize hE:a.eval=ev at*
  simp[execOp,resolve,invoke,Deferred.ofValue,ef,e5]) hg ⟨⟨hx,hy,trivial⟩,⟨hL,trivial⟩,trivial,hd⟩ h
end
def NC.toD:NC→D
 | .d x=>x
 | .r z rows=> .sl z rows
theorem XaN:∀(cs:List NC) (ds:List D) (hs:List Hd),VE cs ds hs→∀(i:Nat) (c:NC),cs[i]? =some c→∃y,ds[i]? =some y∧((∃x,c= .d x∧y=x)∨∃z rows,c= .r z rows∧∃h∈hs,y= .v h.1∧h.2=(z,rows))
 |[],_,_,_,_,_,h=>by simp at h
 | .d x::cs,[],hs,h,_,_,_=>by simp[VE] at h
 | .r z rows::cs,[],hs,h,_,_,_=>by simp[VE] at h
 | .r z rows::cs,_::_,[],h,_,_,_=>by simp[VE] at h
 | .d x::cs,y::ds,hs,h,0,c,hc=>by
  simp only[List.getElem?_cons_zero,Option.some.injEq] at hc ⊢
  subst hc
  exact⟨y,rfl,.inl ⟨x,rfl,h.1⟩⟩
 | .r z rows::cs,y::ds,k::hs,h,0,c,hc=>by
  simp only[List.getElem?_cons_zero,Option.some.injEq] at hc ⊢
  subst hc
  exact⟨y,rfl,.inr ⟨z,rows,rfl,k,by simp,h.1,h.2.1⟩⟩
 | .d x::cs,y::ds,hs,h,i+1,c,hc=>by
  simp only[List.getElem?_cons_succ] at hc ⊢
  exact XaN cs ds hs h.2 i c hc
 | .r z rows::cs,y::ds,k::hs,h,i+1,c,hc=>by
  simp only[List.getElem?_cons_succ] at hc ⊢
  obtain⟨y',h1,h2⟩:=XaN cs ds hs h.2.2 i c hc
  refine⟨y',h1,h2.imp id ?_⟩
  rintro⟨z',rows',e,q,hq,h3⟩
  exact⟨z',rows',e,q,List.mem_cons_of_mem _ hq,h3⟩
theorem Xhs {α β:Type} (f:α→β):∀xs:List (List α),(xs.map fun x=>x.map f).flatten=xs.flatten.map f
 |[]=>rfl
 |r::rs=>by rw[List.map_cons,List.flatten_cons,List.flatten_cons,List.map_append,Xhs f rs]
theorem Xf3 {S:St} (γ:Nat) {sz:Nat}{xs:List (List NC)} (hL:S.obj γ= .nest sz xs) (hsz:∀x∈xs,x.length=sz):S.le (S.own γ (.froz sz (xs.map fun x=>x.map NC.toD))):=by
 rintro E a w ⟨g,hs⟩
 have ho:=hs.1.obj γ
 rw[hL] at ho
 have hle:Yj g.M (Vt g w (S.obj γ) γ):=by
  intro a v h
  unfold Vt
  rw[if_neg (fun hc=>hs.1.sep γ _ hc.2 a v h rfl)];exact h
 have hcell:∀b o,XM g (S.obj γ) γ b→Vt g w (S.obj γ) γ ⟨b,o,none⟩=w.cell? ⟨b,o,none⟩:=by
  intro b o hb
  unfold Vt
  rw[if_pos ⟨rfl,hb⟩]
 have hrep:(D.sl sz (xs.map fun x=>x.map NC.toD)).rep (Vt g w (S.obj γ) γ) (g.hd γ):=by
  obtain⟨⟨rows,h1,h2,h3⟩,h4,h5⟩:=ho
  simp only[D.rep,List.length_map]
  rcases h3.2 with ⟨e,rfl⟩|⟨b,cap,vs,e,fr,k1,k2,k3,k4,k5,k6,k7⟩
  ·have hx:xs=[]:=List.eq_nil_of_length_eq_zero h1.symm
   subst hx
   exact⟨none,0,e,Nat.le_refl _,Nat.zero_le _,.inl rfl⟩
  ·refine⟨_,cap,by rw[k1,h1],by omega,k3,.inr ⟨b,0,rfl,X5x _ 0 (fun r hr=> ?_) fun i d hd=> ?_⟩⟩
   ·obtain⟨x,hx,rfl⟩:=List.mem_map.1 hr
    show(List.map NC.toD x).length=sz
    rw[List.length_map];exact hsz x hx
   have hfl:(xs.map fun x=>x.map NC.toD).flatten=xs.flatten.map NC.toD:=Xhs _ xs
   rw[hfl,List.getElem?_map,Option.map_eq_some_iff] at hd
   obtain⟨c,hc,rfl⟩:=hd
   obtain⟨y,hy,hyc⟩:=XaN _ _ _ h2 i c hc
   obtain⟨_,hrr⟩:=X3U k7
   obtain⟨u,hu,hsu⟩:=hrr i y hy
   refine⟨u,?_,?_⟩
   ·rw[hcell b _ (by rw[hL];exact .inl ⟨_,_,_,k1,rfl⟩),cell_of_row w _ _ vs e fr k4,Nat.zero_add]
    rw[List.getElem?_take] at hu
    split at hu
    ·simpa using hu
    ·simp at hu
   ·rcases hyc with ⟨x,rfl,rfl⟩|⟨z,rws,rfl,h,hh,rfl,e2⟩
    ·exact D.rep_mono hle _ _ hsu
    ·simp only[D.rep] at hsu
     have hr:=h4.1 h hh
     rw[e2] at hr
     rw[hsu.1]
     exact XgA hr hle (fun b' o hb'=>hcell b' o (by rw[hL];exact .inr ⟨h,hh,hb'⟩))
 obtain⟨_,hi⟩:=XlZ hs.1 hrep
 exact X35 hs hi rfl fun t=>X26 (g:=g) (g':={g with M:=Vt g w (S.obj γ) γ}) hle rfl rfl rfl (hs.2.2.2 t)
def X48 (ρ:Nat→Nat):List (Nat×AVal)→List (Nat×AVal)
 |[]=>[]
 |(t,x)::r=>(t,x.ren ρ)::X48 ρ r
theorem XbX (ρ:Nat→Nat):∀(τ:List (Nat×AVal)) (t:Nat),Xo .any (X48 ρ τ) t=(Xo .any τ t).ren ρ
 |[],_=>rfl
 |(k,x)::r,t=>by
  simp only[X48]
  by_cases h:k=t
  ·subst h;rw[Yq,Yq]
  ·rw[Y9 _ _ _ h,Y9 _ _ _ h,XbX ρ r t]
theorem Xbm {a b k:Nat} (ha:100≤a) (hb:100≤b) (hk:k<100):swp a b k=k:=by
 unfold swp
 have h1:Nat.beq k a=false:=by cases h:Nat.beq k a with|false=>rfl|true=>have:=Nat.eq_of_beq_eq_true h;omega
 have h2:Nat.beq k b=false:=by cases h:Nat.beq k b with|false=>rfl|true=>have:=Nat.eq_of_beq_eq_true h;omega
 rw[h1,h2];rfl
theorem XiD {S:St} (a b:Nat) (ha:100≤a) (hb:100≤b):S.le ⟨S.n,X48 (swp a b) S.τ,X09 (swp a b) S.L⟩:=by
 rintro E act w ⟨g,hs⟩
 have hpp:(g.pull (swp a b)).pull (swp a b)=g:=by simp only[Gh.pull,X38]
 have hi:Inv {E with g0:=(g.pull (swp a b)).pull (swp a b)} (Xo .dead S.L) ((g.pull (swp a b)).pull (swp a b)) w:=by
  rw[hpp]
  exact hs.1.free fun _ _=>Gh.keeps_refl _ _
 have hi2:=(X7N (E:=E) (g0:=g) (X38 a b) (X38 a b)).2 hi
 refine⟨g.pull (swp a b),?_,hs.2.1,hs.2.2.1,fun t=> ?_⟩
 ·refine(show Inv E (Xo .dead (X09 (swp a b) S.L)) (g.pull (swp a b)) w from ?_)
  have:=hi2.free (g0:=E.g0) fun γ hγ=>(hs.1.kp γ hγ).trans' (Gh.keeps_of (by simp only[Gh.pull,Xbm ha hb hγ]) (by simp only[Gh.pull,Xbm ha hb hγ]) (by simp only[Gh.pull,Xbm ha hb hγ]))
  exact this
 ·show AVal.sat _ (Xo .any (X48 (swp a b) S.τ) t) _
  rw[XbX,X7v,hpp]
  exact hs.2.2.2 t
theorem XlR {P:Program}{f:FuncId}{sz:Nat}{xs:List (List D)}{pre post:List AVal}{res:AVal} (γ:Nat) (hcon:Con P f [] (pre++ .d (.sl sz xs)::post) [] res) (hres:∀g g' v,res.sat g v→res.sat g' v):
  Con P f [(γ,.row sz xs)] (pre++ .own γ xs.length::post) [(γ,.row sz xs)] res:=by
 intro g w vs hi hs
 have eγ:Xo .dead [(γ,AObj.row sz xs)] γ= .row sz xs:=Yq _ _ _ _
 have ho:=hi.obj γ
 rw[eγ] at ho
 have hrow:UU g w (g.hd γ) sz xs:=ho
 have hlv:∀b,XM g (.row sz xs) γ b→XM g (Xo .dead [(γ,AObj.row sz xs)] γ) γ b:=fun b h=>by rw[eγ];exact h
 let M1:=Vt g w (.row sz xs) γ
 let g1:Gh:={g with M:=M1}
 have hle:Yj g.M M1:=by
  intro a v h
  show Vt _ _ _ _ a=_
  unfold Vt
  rw[if_neg (fun hc=>hi.sep γ _ (hlv _ hc.2) a v h rfl)];exact h
 have hcell:∀b o,Ux (g.hd γ) b→M1 ⟨b,o,none⟩=w.cell? ⟨b,o,none⟩:=by
  intro b o hb
  show Vt _ _ _ _ _=_
  unfold Vt
  rw[if_pos ⟨rfl,hb⟩]
 have hM1:∀a v,M1 a=some v→w.cell? a=some v:=by
  intro a v h
  replace h:Vt _ _ _ _ a=some v:=h
  unfold Vt at h
  split at h
  ·exact h
  ·exact hi.mem a v h
 have hrep:=XgA hrow hle hcell
 have hi1:Inv (V5 g1 w []) (Xo .dead []) g1 w:=⟨fun _=>trivial,fun _ _ _ h=>h.elim,hM1,fun _ _ h=>h.elim,fun _ _ h=>h.elim,Yj.refl _,fun a v h=> .inl ⟨v,h⟩,fun _ _ _=>rfl,Nat.le_refl _,rfl,rfl,fun _ _=>Gh.keeps_refl _ _⟩
 have hs1:XB g1 (pre++ .d (.sl sz xs)::post) vs:=by
  have h1:XB g1 (pre++ .own γ xs.length::post) vs:=X0r (g:=g) (g':=g1) hle _ _ (fun k _=>Gh.keeps_of rfl rfl rfl) hs
  have h2:=X8B (j:=pre.length) (x:= .d (.sl sz xs)) h1 (fun u hu=>by
   obtain⟨u',q1,q2⟩:=UX hs pre.length (.own γ xs.length) (by simp)
   rw[hu] at q1;cases q1
   have:=X23 q2 (w:=w) (show Ua g w γ (.row sz xs) from hrow) rfl
   simp only[AVal.sat]
   rw[this];exact hrep)
  have e:(pre++ .own γ xs.length::post).set pre.length (.d (.sl sz xs))=pre++ .d (.sl sz xs)::post:=by simp
  rwa [e] at h2
 refine(hcon g1 w vs hi1 hs1).mono ?_
 rintro e w' ⟨v,g',rfl,hv,hi',_⟩
 have hfr:∀b,b<w.heap.size→w'.heap[b]? =w.heap[b]? :=fun b hb=>hi'.frame b hb (by
  rintro⟨k,hk⟩;exact hk)
 refine⟨v,g,rfl,hres _ _ _ hv,⟨fun k=> ?_,hi.inj,fun a v h=> ?_,hi.sep,hi.new,Yj.refl _,fun a v h=> .inl ⟨v,h⟩,fun b hb _=>hfr b hb,hi'.size,hi'.os,hi'.out,fun _ _=>Gh.keeps_refl _ _⟩,fun _ _=>Gh.keeps_refl _ _⟩
 ·exact X4i (Yj.refl _) rfl rfl rfl (fun b hb=>hfr b (X2H hi hb)) (fun _ _ _ h=>h) (hi.obj k)
 ·have hc:=hi.mem a v h
  have:=hfr a.block (block_lt_of_cell hc)
  simp only[World.cell?] at hc ⊢
  rw[this];exact hc
theorem X6k {S:St} (t γ γ2:Nat) {sz n:Nat}{xs:List (List D)} (hL:S.obj γ= .row sz xs) (ht:S.get t= .own γ n) (hn:n=xs.length) (hdead:S.obj γ2= .dead) (hf:S.free γ2=true):
  S.le ⟨S.n,(t,.own γ2 n)::S.τ,(γ,.dead)::(γ2,.row sz xs)::S.L⟩:=by
 rintro E a w ⟨g,hs⟩
 have hne:γ≠γ2:=by rintro rfl;rw[hL] at hdead;cases hdead
 have ho:=hs.1.obj γ
 rw[hL] at ho
 have hrow:UU g w (g.hd γ) sz xs:=ho
 obtain⟨ua,uc,hu⟩:=Xgq hrow
 have hhd:(g.put γ2 0 (g.hd γ)).hd γ2=g.hd γ:=by simp[Gh.put]
 have e1:Xo .dead ((γ,AObj.dead)::(γ2,.row sz xs)::S.L) γ= .dead:=Yq _ _ _ _
 have e2:Xo .dead ((γ,AObj.dead)::(γ2,.row sz xs)::S.L) γ2= .row sz xs:=by rw[Y9 _ _ _ hne,Yq]
 have hsl:=X5Y (S:=S) (g:=g) (g':=g.put γ2 0 (g.hd γ)) (a:=a) rfl (fun k=>k=γ2) (fun k e=> .inl (e ▸ hf)) (fun k hk=>UE hk) hs.2.2.2
 refine⟨g.put γ2 0 (g.hd γ),Inv.part hs.1 (fun k=>k=γ∨k=γ2) rfl (fun k hk=> ?_) (fun k cs us _ e h=>X6Q (S:=S) (g:=g) (g':=g.put γ2 0 (g.hd γ)) rfl (fun k=>k=γ2) (fun k e=> .inl (e ▸ hf)) (fun k hk=>UE hk) e h) (fun k hk=> ?_) (fun k b hk hb=> ?_) (fun k k' b hk hk' hb hb'=> ?_) (fun k hk h100=> ?_),hs.2.1,hs.2.2.1,fun t'=> ?_⟩
 ·obtain⟨k1,k2⟩:=not_or.1 hk
  exact⟨by show Xo _ _ _=_;rw[Y9 _ _ _ (Ne.symm k1),Y9 _ _ _ (Ne.symm k2)];rfl,UE k2⟩
 ·show Ua _ _ _ (Xo _ _ _)
  rcases hk with rfl|rfl
  ·rw[e1];trivial
  ·rw[e2]
   show UU _ _ ((g.put k 0 (g.hd γ)).hd k) _ _
   rw[hhd];exact X4j (g:=g) (g':=g.put k 0 (g.hd γ)) (Yj.refl _) (fun _ _=>rfl) hrow
 ·replace hb:XM _ (Xo _ _ _) k b:=hb
  rcases hk with rfl|rfl
  ·rw[e1] at hb;exact hb.elim
  ·rw[e2] at hb
   replace hb:Ux ((g.put k 0 (g.hd γ)).hd k) b:=hb
   rw[hhd] at hb
   exact⟨γ,.inl rfl,by rw[hL];exact hb⟩
 ·replace hb:XM _ (Xo _ _ _) k b:=hb
  replace hb':XM _ (Xo _ _ _) k' b:=hb'
  rcases hk with rfl|rfl
  ·rw[e1] at hb;exact hb.elim
  ·rcases hk' with rfl|rfl
   ·rw[e1] at hb';exact hb'.elim
   ·rfl
 ·rcases hk with rfl|rfl
  ·exact Gh.keeps_of (UE hne).1 (UE hne).2.1 (UE hne).2.2
  ·have:=X94 hf;omega
 ·by_cases htt:t'=t
  ·subst htt
   show AVal.sat _ (Xo .any ((t',_)::S.τ) t') _
   rw[Yq]
   have hv:=hs.2.2.2 t'
   rw[ht] at hv
   have:=X23 hv (w:=w) (show Ua g w γ (.row sz xs) from hrow) hn
   simp only[AVal.sat]
   rw[this,hhd,hu]
   exact⟨rfl,ua,xs.length,uc,rfl,by omega,fun _=>rfl⟩
  ·show AVal.sat _ (Xo .any ((t,_)::S.τ) t') _
   rw[Y9 _ _ _ (Ne.symm htt)]
   exact hsl t'
def V7 (P:Program) (f:FuncId) (Li:List (Nat×AObj)) (args:List AVal) (ch:List PanicEntry):Prop:=
 ∀(g:Gh) (w:World) (vs:List Value),Inv (V5 g w Li) (Xo .dead Li) g w→XB g args vs→
  Calls P f vs.toArray w fun e w'=>e= .panicked ch∧∃M',Yj g.M M'∧Inv {V5 g w Li with g0:={g with M:=M'}} (fun _=> .dead) {g with M:=M'} w'
def Xnz (ch:List PanicEntry):Exit→St→Prop
 | .panic c,_=>c=ch
 |_,_=>False
theorem X0x {P:Program}{f:FuncId}{fn:Func}{c:Code}{n:Nat}{Li:List (Nat×AObj)}{args:List AVal}{ch:List PanicEntry} (hf:P.funcs[f]? =some fn) (hb:fn.body=some c) (hn:fn.ntmps=n)
  (hle:Nat.ble args.length n=true) (h:∀E,AWP P E c (X20 n args Li) (Xnz ch)):V7 P f Li args ch:=by
 intro g w vs hi hs
 have hl:=Ue hs
 refine calls_of_wp hf hb ?_
 have hstart:holds (V5 g w Li) (X20 n args Li) {tmps:=vs.toArray++Array.replicate (fn.ntmps-vs.toArray.size) undef,defers:=[]} w:=by
  refine⟨g,hi,rfl,?_,fun t=> ?_⟩
  ·have:args.length≤n:=by simpa using hle
   simp[X20,hn,hl];omega
  ·show AVal.sat g (Xo _ _ _) _
   simp only[X20]
   rw[X9a]
   simp only[Nat.zero_le,if_true,Nat.sub_zero]
   cases hx:args[t]? with
   |none=>simp[AVal.sat]
   |some x=>
    obtain⟨u,hu,hsu⟩:=UX hs t x hx
    have hlt:t<vs.length:=(List.getElem?_eq_some_iff.1 hu).1
    have:(vs.toArray++Array.replicate (fn.ntmps-vs.toArray.size) undef).getD t undef=u:=by
     rw[Array.getD_eq_getD_getElem?,Array.getElem?_append_left (by simpa using hlt)]
     simp[hu]
    rw[this];exact hsu
 refine wp_mono ((h (V5 g w Li)).run _ w hstart) ?_
 rintro e a' w' ⟨T,hq,g',ht⟩
 cases e with
 |panic c=>
  obtain rfl:c=ch:=hq
  refine⟨ht.2.1,rfl,g'.M,ht.1.ext,?_⟩
  exact⟨fun _=>trivial,fun _ _ _ h=>h.elim,ht.1.mem,fun _ _ h=>h.elim,fun _ _ h=>h.elim,ht.1.ext,ht.1.lim,ht.1.frame,ht.1.size,ht.1.os,ht.1.out,fun _ _=>Gh.keeps_refl _ _⟩
 |_=>exact hq.elim
def X1p:List (Nat×AObj)→List (Nat×AObj)
 |[]=>[]
 |p::r=>(p.1,.dead)::X1p r
theorem Xhm (γ:Nat):∀Li:List (Nat×AObj),Xo .dead (X1p Li) γ= .dead
 |[]=>rfl
 |p::r=>by
  rw[X1p]
  by_cases h:p.1=γ
  ·rw[h,Yq]
  ·rw[Y9 _ _ _ h,Xhm γ r]
theorem X9s (γ:Nat):∀Li:List (Nat×AObj),XS γ (X1p Li)=XS γ Li
 |[]=>rfl
 |p::r=>by rw[X1p,XS,XS,X9s γ r]
theorem Xe2 (Lo:List (Nat×AObj)):∀Li:List (Nat×AObj),(∀γ,XS γ Li=true→XS γ Lo=true)→X2y Li Lo=true
 |[],_=>rfl
 |p::r,h=>by
  rw[X2y,Bool.and_eq_true]
  exact⟨h _ (by simp[XS]),Xe2 Lo r fun γ hγ=>h γ (by simp[XS,hγ])⟩
theorem Xhv (Lo:List (Nat×AObj)):∀Li:List (Nat×AObj),X2E Lo (X1p Li)=true
 |[]=>rfl
 |p::r=>by rw[X1p,X2E,Xhv Lo r];rfl
theorem Xe8 (Li:List (Nat×AObj)):∀Lo:List (Nat×AObj),(∀γ,XS γ Lo=true→XS γ Li=true)→UL Li Lo=[]
 |[],_=>rfl
 |p::r,h=>by
  rw[UL,h _ (by simp[XS])]
  exact Xe8 Li r fun γ hγ=>h γ (by simp[XS,hγ])
theorem XeP (S:St):∀xs,(evA S xs).length=xs.length
 |[]=>rfl
 |x::r=>by rw[evA,List.length_cons,List.length_cons,XeP S r]
structure Booms (P:Program) (f:FuncId) (args:Array Operand) (ch:List PanicEntry) (S:St):Prop where
 ex:∃Li zs,leL (evA S args.toList) zs∧V7 P f Li zs ch∧X17 P f=true∧UQ S Li
theorem X0R {P:Program}{f:FuncId}{args:Array Operand}{ch:List PanicEntry}{S:St}{Li:List (Nat×AObj)}{xs:List Operand}{ys zs:List AVal} (hcon:V7 P f Li zs ch) (hxs:args.toList=xs) (hys:evA S xs=ys) (hle:leL ys zs) (hf:X17 P f=true) (hLi:UQ S Li):Booms P f args ch S:=
 ⟨Li,zs,by rw[hxs,hys];exact hle,hcon,hf,hLi⟩
theorem XgB {P:Program}{E:Env}{S:St}{a:Act}{w:World}{f:FuncId}{args:Array Operand}{tys:Array TypeId}{ch:List PanicEntry} (hs:holds E S a w) {Li:List (Nat×AObj)}{zs:List AVal} (hle:leL (evA S args.toList) zs) (hcon:V7 P f Li zs ch) (hf:X17 P f=true) (hLi:UQ S Li) {o:Oper} (ho:o.op= .call ⟨.value (.func f),args,tys⟩) {K:Act→World→Prop}{Q:Exit→Act→World→Prop}
  (hQ:∀w',holds E (S.cat (X1p Li)) a w'→Q (.panic ch) a w'):o.wp P a w K Q:=by
 obtain⟨g,hs⟩:=hs
 have hsat:XB g zs (args.toList.map a.eval):=by
  refine X5B hle (X6h (XeP S _) (X0M hs _ (X6j S _)))
 have hinv:Inv (V5 g w Li) (Xo .dead Li) g w:=by
  have hsub:=Xn hLi
  have hl:∀γ b,XM g (Xo .dead Li γ) γ b→XM g (S.obj γ) γ b:=by
   intro γ b hb
   rcases hsub γ with e|e
   ·rw[←e];exact hb
   ·rw[e] at hb;exact hb.elim
  refine⟨fun γ=> ?_,fun γ γ' b k k'=>hs.1.inj γ γ' b (hl _ _ k) (hl _ _ k'),hs.1.mem,fun γ b k=>hs.1.sep γ b (hl _ _ k),fun γ b k=> .inr ⟨γ,k⟩,Yj.refl _,fun a v ha=> .inl ⟨v,ha⟩,fun _ _ _=>rfl,Nat.le_refl _,rfl,rfl,fun _ _=>Gh.keeps_refl _ _⟩
  rcases hsub γ with e|e
  ·rw[e];exact hs.1.obj γ
  ·rw[e];trivial
 have hcall:=hcon g w (args.toList.map a.eval) hinv hsat
 have hrun:(execOp a.eval o).run P w= .ok (.enter f (args.toList.map a.eval).toArray) w:=by
  have e1:(#[]++args.map a.eval++ #[]:Array Value)=(args.toList.map a.eval).toArray:=by
   apply Array.ext';simp
  simp only[execOp,ho,resolve,Act.eval,Deferred.ofValue,Sem.run_bind,Sem.run_pure,Result.andThen_ok,invoke]
  rw[X7n hf]
  congr 2
 unfold Oper.wp
 rw[hrun,Oper.upon_enter]
 refine hcall.mono ?_
 rintro e w' ⟨rfl,M',hM,hi'⟩
 have hc:Inv {V5 g w Li with g0:={g with M:=M'}} (Xo .dead (X1p Li)) {g with M:=M'} w':=by
  have:Xo .dead (X1p Li)=fun _=>AObj.dead:=funext fun γ=>Xhm γ Li
  rw[this];exact hi'
 have hnew:=Xe8 Li (X1p Li) (fun γ h=>by rw[X9s] at h;exact h)
 obtain⟨j1,j2,j3⟩:=Xag hs.1 hLi (Xe2 (X1p Li) Li (fun γ h=>by rw[X9s];exact h)) (Xhv _ Li) (by rw[hnew];trivial) (by rw[hnew];trivial) hc (fun γ _=>Gh.keeps_of rfl rfl rfl)
 exact hQ w' ⟨_,j1,hs.2.1,hs.2.2.1,fun t=>j3 t _ (hs.2.2.2 t)⟩
theorem Xfx {P:Program}{E:Env}{S:St}{a:Act}{w:World}{f:FuncId}{args:Array Operand}{tys:Array TypeId}{ch:List PanicEntry} (hs:holds E S a w) (hb:Booms P f args ch S) {o:Oper} (ho:o.op= .call ⟨.value (.func f),args,tys⟩) {K:Act→World→Prop}{Q:Exit→Act→World→Prop}
  (hQ:∀T w',holds E T a w'→Q (.panic ch) a w'):o.wp P a w K Q:=by
 obtain⟨Li,zs,hle,hcon,hf,hLi⟩:=hb.ex
 exact XgB hs hle hcon hf hLi ho fun w' h=>hQ _ w' h
theorem X9w {P:Program}{ops:Array Oper}{Q:Exit→Act→World→Prop}{E:Env}{T:St} (js:List Nat) (hQ:∀a w,holds E T a w→wpOps P ops Q js a w):
  ∀(l:Y4) (S:St) (a:Act) (w:World),(∀x∈l,ops[x.1]? =some x.2.1)→Xbi P ops l S T→holds E S a w→wpOps P ops Q (l.map (·.1)++js) a w
 |[],S,a,w,_,hc,hs=>hQ _ _ (St.Eqv.holds hc hs)
 |x::r,S,a,w,ha,hc,hs=>by
  obtain⟨hv,hok,hr⟩:=hc
  rw[List.map_cons,List.cons_append,wpOps_cons]
  unfold wpOp
  simp only[ha x (by simp)]
  have hvk:=hv E S a w hs hok Q (wpOps P ops Q (r.map (·.1)++js)) (fun a' w' h'=>X9w js hQ r _ _ _ (fun y hy=>ha y (by simp[hy])) hr h')
  split
  ·rename_i hw;rw[if_pos hw] at hvk;exact .inl hvk
  ·rename_i hw;rw[if_neg hw] at hvk;exact hvk
theorem X9P {P:Program}{E:Env}{S:St}{Q:Exit→St→Prop}{id:Nat}{ops:Array Oper} (k:Nat) {K:Y4→St→Prop} (hk:k≤ops.size) (h:Walk P ops false K (ops.toList.take k) [] S)
  (hK:∀l T,K l T→∀a w,holds E T a w→wpOps P ops (fun e a' w'=> ∃T,Q e T∧holds E T a' w') (List.range' k (ops.size-k)) a w):AWP P E (.region id ops false) S Q:=by
 refine⟨fun a w hs=>wp_region ?_⟩
 obtain⟨m,T,h1,h2,h3,h4,h5⟩:=h.chain
 have hlen:m.length=k:=by have:=congrArg List.length h4;simp only[List.length_map,List.length_take,Array.length_toList] at this;omega
 have hat:∀x∈m,ops[x.1]? =some x.2.1:=by
  intro x hx
  obtain⟨i,hi,rfl⟩:=List.getElem_of_mem hx
  have e1:(m[i]).1=i:=by
   have:=congrArg (fun l=>l[i]?) h5
   simpa [hi] using this
  have e2:=congrArg (fun l=>l[i]?) h4
  simp only[List.getElem?_map,List.getElem?_eq_getElem hi,Option.map_some,List.getElem?_take,if_pos (show i<k by omega)] at e2
  rw[e1];simpa using e2.symm
 have:=X9w (P:=P) (Q:=fun e a' w'=> ∃T,Q e T∧holds E T a' w') (List.range' k (ops.size-k)) (hK _ T h2) m S a w hat h3 hs
 rw[h5,hlen,List.length_nil] at this
 have e:List.range' 0 k++List.range' k (ops.size-k)=List.range ops.size:=by
  rw[List.range_eq_range']
  have:=List.range'_append_1 (s:=0) (m:=k) (n:=ops.size-k)
  rw[Nat.zero_add] at this
  rw[this];congr 1;omega
 rwa [e] at this
theorem X0X {P:Program}{E:Env}{S:St}{Q:Exit→St→Prop}{id:Nat}{ops:Array Oper} (k:Nat) {d:Option Nat}{f:FuncId}{args:Array Operand}{tys:Array TypeId}{ty:TypeId}{pos:String}{aft:Array Edge}{ch:List PanicEntry}
  (ho:ops[k]? =some ⟨d,.call ⟨.value (.func f),args,tys⟩,ty,pos,aft,none⟩) (hQ:∀T,Q (.panic ch) T) (h:Walk P ops false (fun _=>Booms P f args ch) (ops.toList.take k) [] S):AWP P E (.region id ops false) S Q:=by
 have hk:k<ops.size:=(Array.getElem?_eq_some_iff.1 ho).1
 refine X9P k (Nat.le_of_lt hk) h fun _ T hT a w hs=> ?_
 obtain⟨n,hn⟩:∃n,ops.size-k=n+1:=⟨ops.size-k-1,by omega⟩
 rw[hn,List.range'_succ,wpOps_cons]
 unfold wpOp
 simp only[ho]
 rw[if_pos (show Region.wanted _ _=true from rfl)]
 exact .inl (Xfx hs hT rfl fun T w' hT'=>⟨T,hQ T,hT'⟩)
theorem Xod {P:Program}{E:Env}{S:St}{Q:Exit→St→Prop}{id:Nat}{ops:Array Oper} (k:Nat) {d:Option Nat}{x:Operand}{ty:TypeId}{pos:String}{aft:Array Edge}{t:TypeId}{v:Value}
  (ho:ops[k]? =some ⟨d,.panic x,ty,pos,aft,none⟩) (hQ:∀T,Q (.panic [{v:= .iface t v,recovered:=false}]) T) (h:Walk P ops false (fun _ T=>T.ev x= .d (.v (.iface t v))) (ops.toList.take k) [] S):AWP P E (.region id ops false) S Q:=by
 have hk:k<ops.size:=(Array.getElem?_eq_some_iff.1 ho).1
 refine X9P k (Nat.le_of_lt hk) h fun _ T hT a w hs=> ?_
 obtain⟨n,hn⟩:∃n,ops.size-k=n+1:=⟨ops.size-k-1,by omega⟩
 rw[hn,List.range'_succ,wpOps_cons]
 unfold wpOp
 simp only[ho]
 rw[if_pos (show Region.wanted _ _=true from rfl)]
 obtain⟨g,hs⟩:=hs
 have hv:=X6D hs x
 rw[hT] at hv
 have hv:=Uc hv
 left
 unfold Oper.wp
 have hrun:(execOp a.eval ⟨d,.panic x,ty,pos,aft,none⟩).run P w= .halt (.panic (.iface t v)) w:=by
  simp[execOp,hv,run_panic_iface]
 rw[hrun,Oper.upon_panic]
 exact⟨T,hQ T,g,hs⟩
theorem XiA {P:Program}{E:Env}{S:St}{Q:Exit→St→Prop}{id:Nat}{ops:Array Oper} (k:Nat) {d:Option Nat}{f:FuncId}{args:Array Operand}{tys:Array TypeId}{ty:TypeId}{pos:String}{aft:Array Edge}{ch:List PanicEntry}
  (hm:P.follows .mixedOrders=true) (ho:ops[k]? =some ⟨d,.call ⟨.value (.func f),args,tys⟩,ty,pos,aft,none⟩) (hQ:∀T,Q (.panic ch) T)
  (h:Walk P ops false (fun l T=> ∃c,(∀U,c.ok U→Booms P f args ch U)∧c.ok T∧Walk P ops true (fun _ U=>U.obj 999= .box [.bq False False]) (ops.toList.drop (k+1)) ((l.length,⟨d,.call ⟨.value (.func f),args,tys⟩,ty,pos,aft,none⟩,c)::l) (c.app T)) (ops.toList.take k) [] S):AWP P E (.region id ops true) S Q:=by
 have hk:k<ops.size:=(Array.getElem?_eq_some_iff.1 ho).1
 refine⟨fun a w hs=> ?_⟩
 have hv:∀o c,X4J P ops o c→X5Z P ops E (fun e a' w'=> ∃T,Q e T∧holds E T a' w') o c:=fun o c h=>h.q E _
 obtain⟨m,T,-,⟨c,hb,hok,h2⟩,h3,h4,h5⟩:=h.chain
 obtain⟨m',T',g1,g2,g3,g4,g5⟩:=h2.chain
 have hlen:m.length=k:=by have:=congrArg List.length h4;simp only[List.length_map,List.length_take,Array.length_toList] at this;omega
 have hboom:X5Z P ops E (fun e a' w'=> ∃T,Q e T∧holds E T a' w') ⟨d,.call ⟨.value (.func f),args,tys⟩,ty,pos,aft,none⟩ c:=by
  intro U a w hs hok K hK
  rw[if_pos (show Region.wanted _ _=true from rfl)]
  exact Xfx hs (hb U hok) rfl fun T w' hT'=>⟨T,hQ T,hT'⟩
 simp only[List.append_nil,List.length_reverse,List.length_nil] at g1 g3 g4 g5 h5
 refine Xj8 (m:=m++(m.length,⟨d,.call ⟨.value (.func f),args,tys⟩,ty,pos,aft,none⟩,c)::m') hm ?_ (T:=T') ?_ ((h3.mono hv).app ⟨hboom,hok,g3.mono hv⟩) ?_ ?_ hs
 ·have:=g1 trivial
  simpa [List.reverse_append] using this
 ·rintro a w ⟨g,hg⟩
  have ho:=hg.1.obj 999
  rw[g2] at ho
  obtain⟨vs,e,fr,-,-,q,-⟩:=ho
  obtain⟨v,-,hv⟩:=UX q 0 (.bq False False) rfl
  simp only[AVal.sat] at hv
  obtain⟨b,-,p1,p2⟩:=hv
  cases b
  ·exact(p2 rfl).elim
  ·exact(p1 rfl).elim
 ·rw[List.map_append,List.map_cons,h4,g4]
  have hd:ops.toList[k]? =some ⟨d,.call ⟨.value (.func f),args,tys⟩,ty,pos,aft,none⟩:=by simpa using ho
  obtain⟨hk',hd⟩:=List.getElem?_eq_some_iff.1 hd
  rw[←hd,←List.drop_eq_getElem_cons hk',List.take_append_drop]
 ·rw[List.map_append,List.map_cons,h5,g5,List.length_cons,List.length_reverse,List.length_append,List.length_cons,←List.range'_succ,hlen]
  have:=List.range'_append_1 (s:=0) (m:=k) (n:=m'.length+1)
  rw[Nat.zero_add] at this
  exact this
abbrev XbU (rs:List (Operand×AVal)) (d:Option (Nat×AVal)) (Li:List (Nat×AObj)):Cert:=⟨rs,d,Li,[(999,.box [.bq False False])],[]⟩
theorem Xfh {P:Program}{f:FuncId}{args:Array Operand}{ch:List PanicEntry}{Li:List (Nat×AObj)}{xs:List Operand}{ys zs:List AVal}{d:Option (Nat×AVal)} (hcon:V7 P f Li zs ch) (hxs:args.toList=xs) (hl:ys.length=xs.length) (hle:leL ys zs) (hf:X17 P f=true):
  ∀U,(XbU (xs.zip ys) d Li).ok U→Booms P f args ch U:=by
 intro U hU
 have h1:=hU.1
 have h2:=hU.2.1
 refine⟨Li,zs,?_,hcon,hf,h2⟩
 rw[hxs]
 have:evA U xs=ys:=by
  clear hle hcon hxs hU h2
  induction xs generalizing ys with
  |nil=>cases ys with
   |nil=>rfl
   |cons y ys=>simp at hl
  |cons x xs ih=>
   cases ys with
   |nil=>simp at hl
   |cons y ys=>
    rw[List.zip_cons_cons] at h1
    rw[evA,h1.1,ih (by simpa using hl) h1.2]
 rw[this];exact hle
theorem Xds {P:Program}{E:Env}{S:St}{Q:Exit→St→Prop}{id:Nat}{ops:Array Oper} (k:Nat) {d:Option Nat}{f:FuncId}{args:Array Operand}{tys:Array TypeId}{ty:TypeId}{pos:String}{aft:Array Edge}{ch:List PanicEntry}
  (ho:ops[k]? =some ⟨d,.call ⟨.value (.func f),args,tys⟩,ty,pos,aft,none⟩) (h:Walk P ops false (fun _ T=> ∃Li zs,leL (evA T args.toList) zs∧V7 P f Li zs ch∧X17 P f=true∧UQ T Li∧Q (.panic ch) (T.cat (X1p Li))) (ops.toList.take k) [] S):AWP P E (.region id ops false) S Q:=by
 have hk:k<ops.size:=(Array.getElem?_eq_some_iff.1 ho).1
 refine X9P k (Nat.le_of_lt hk) h fun _ T hT a w hs=> ?_
 obtain⟨n,hn⟩:∃n,ops.size-k=n+1:=⟨ops.size-k-1,by omega⟩
 obtain⟨Li,zs,h1,h2,h3,h4,h5⟩:=hT
 rw[hn,List.range'_succ,wpOps_cons]
 unfold wpOp
 simp only[ho]
 rw[if_pos (show Region.wanted _ _=true from rfl)]
 exact .inl (XgB hs h1 h2 h3 h4 rfl fun w' hT'=>⟨_,h5,hT'⟩)
section
variable {P:Program}{ops:Array Oper}{draw:Bool}{K:Y4→St→Prop}{rest:List Oper}{l:Y4}{S:St}
variable {d:Nat}{ty:TypeId}{pos:String}{aft:Array Edge}{gd:Option (Nat×Bool)}
theorem X8I {T:TypeId}{x lo hi mx:Operand}{β o n c sz lb hb mb:Nat} (hx:S.ev x= .rs β o n c) (hlo:S.ev lo=ai lb) (hhi:S.ev hi=ai hb) (hmx:S.ev mx=ai mb) (hlh:lb≤hb) (hh:hb≤mb) (hm:mb≤c)
  (hT:Ui P T sz=true) (hd:Nat.blt d S.n=true) (hg:XR ops S gd)
  (h:Walk P ops draw K rest ((l.length,⟨some d,.slice T x (some lo) (some hi) (some mx),ty,pos,aft,gd⟩,⟨XQ ops gd++[(x,.rs β o n c),(lo,ai lb),(hi,ai hb),(mx,ai mb)],some (d,.any),[],[],[]⟩)::l) (S.set d .any)):
  Walk P ops draw K (⟨some d,.slice T x (some lo) (some hi) (some mx),ty,pos,aft,gd⟩::rest) l S:=by
 refine Yh ⟨[(x,.rs β o n c),(lo,ai lb),(hi,ai hb),(mx,ai mb)],some (d,.any),[],[],[]⟩ (U6 rfl fun E S g a w hs hq hl=> ?_) hg
  ⟨⟨hx,hlo,hhi,hmx,trivial⟩,trivial,trivial,hd⟩ h
 obtain⟨e,h1,h2,h3⟩:=X1i hT
 obtain⟨hq1,hq2,hq3,hq4,_⟩:=hq
 have hv:=X1v hq1
 have e2:=Uc hq2
 have e3:=Uc hq3
 have e4:=Uc hq4
 have hbd:(Instr.sliceBounds true n c (some (a.eval lo)) (some (a.eval hi)) (some (a.eval mx))).run P w= .ok (lb,hb,mb) w:=by
  simp[Instr.sliceBounds,e2,e3,e4,run_sliceBound,hlh,hh,hm]
 have hrun:=run_slice_any (P:=P) w T (some ⟨g.blk β,o,none⟩) n c (by rw[h3];exact h1) (some (a.eval lo)) (some (a.eval hi)) (some (a.eval mx))
 rw[hbd,Result.andThen_ok,h3,h2 w,Result.andThen_ok] at hrun
 refine⟨sliced (some ⟨g.blk β,o,none⟩) lb hb mb sz,?_,by simp only[AVal.sat]⟩
 simp only[execOp,hv,Instr.sliceAt,Sem.run_bind,run_underlying h1,Result.andThen_ok,Option.map_some,Option.map_none,hrun];rfl
end
section
variable {P:Program}
theorem XlW {w:World}{T T2 ty e:TypeId}{i:TypeInfo}{z:Value}{base:Option Addr}{n cap m:Nat}{kd:IntKind}{k2:IntKind}{olds:Array Value}
  (hT:P.underlying T=some (.slice e)) (hi:P.info? e=some i) (hz:i.zero=some z) (h2:P.underlying T2=some (.int k2)) (hbytes:i.bytes≠0) (hs0:i.size≠0) (hm:0<m)
  (hold:∀w':World,w'.heap=w.heap→(Builtin.firstCells i.size n (.slice base n cap)).run P w'= .ok olds w') (hroom:¬n+m≤cap)
  (hmb:m*i.bytes≤2^48) (hneed:n+m<2^63) (hcap:Builtin.nextslicecap (n+m) cap*i.bytes≤2^48):
  let newCap:=(Question.appendCap (n+m) cap e).cut (w.tape w.drawn (.appendCap (n+m) cap e))
  (Builtin.append_ #[T,T2] ty #[.slice base n cap,.int kd m]).run P w=
   .ok (.slice (some ⟨w.heap.size,0,none⟩) (n+m) newCap) (w.drew.alloc (.cells (olds++Builtin.zeroCells z.cells m++Builtin.zeroCells z.cells (newCap-(n+m))) e)):=by
 have ho:=hold w.drew rfl
 have hw:IntKind.i64.wrap (m:Int)=m:=by rw[IntKind.wrap_i64];omega
 have hneg:¬((m:Int)<0):=by omega
 have h48i:¬(281474976710656<(m:Int)*(i.bytes:Int)):=by rw[←Int.natCast_mul];omega
 have h63':¬(9223372036854775807<((n:Int)+(m:Int))):=by omega
 have hns:¬(m*i.size=0):=Nat.mul_ne_zero (by omega) hs0
 have hm0:m≠0:=by omega
 simp[Builtin.append_,run_underlying hT,run_underlying h2,sizeOf,typeInfo,zeroValue,hi,hz,asInt,asIntOf,hw,hneg,hm0,hs0,hroom,hbytes,h48i,h63',Nat.not_lt.2 hcap,Question.forced,ho,newRow]
 intro q
 exact absurd q hns
def X8H (P:Program) (t:TypeId):Bool:=match P.underlying t with|some (.int _)=>true|_=>false
theorem Xpv {t:TypeId} (h:X8H P t=true):∃k,P.underlying t=some (.int k):=by
 unfold X8H at h
 cases hu:P.underlying t with
 |none=>simp[hu] at h
 |some u=>rw[hu] at h;cases u<;>simp at h;exact⟨_,rfl⟩
variable {ops:Array Oper}{draw:Bool}{K:Y4→St→Prop}{rest:List Oper}{l:Y4}{S:St}
variable {d:Nat}{ty:TypeId}{pos:String}{aft:Array Edge}{gd:Option (Nat×Bool)}
theorem Xmq {x y:Operand}{T T2:TypeId}{β γ n1 c1 sz bytes n' m:Nat}{kd:IntKind}{cs:List (Option D)}{xs:List (List D)}{zs:List Value} (hx:S.ev x= .rs β 0 n1 c1) (hy:S.ev y= .d (.v (.int kd (m:Nat)))) (hL:S.obj β= .raw cs none) (hfull:¬n1+m≤c1) (hn':n1+m=n')
  (hm:0<m) (hxs:cs.take (n1*sz)=xs.flatten.map some) (hxl:xs.length=n1) (hxz:∀r∈xs,r.length=sz) (hle:n1*sz≤cs.length)
  (hz:X14 P T=some zs) (hB:elB P T=bytes) (hT:X0K P T sz bytes=true) (hT2:X8H P T2=true) (hb0:Nat.beq bytes 0=false) (hs0:Nat.beq sz 0=false) (hcap:n'*bytes≤70368744177664) (hold:c1<n')
  (hdead:S.obj γ= .dead) (hf:S.free γ=true) (hd:Nat.blt d S.n=true) (hg:XR ops S gd)
  (h:Walk P ops draw K rest ((l.length,⟨some d,.call ⟨.builtin .append,#[x,y],#[T,T2]⟩,ty,pos,aft,gd⟩,⟨XQ ops gd++[(x,.rs β 0 n1 c1),(y,.d (.v (.int kd (m:Nat))))],some (d,.own γ n'),[(β,.raw cs none),(γ,.dead)],[(γ,.row sz (xs++List.replicate m (zD zs)))],[γ]⟩)::l)
   ((S.set d (.own γ n')).own γ (.row sz (xs++List.replicate m (zD zs))))):
  Walk P ops draw K (⟨some d,.call ⟨.builtin .append,#[x,y],#[T,T2]⟩,ty,pos,aft,gd⟩::rest) l S:=by
 refine Yh ⟨[(x,.rs β 0 n1 c1),(y,.d (.v (.int kd (m:Nat))))],some (d,.own γ n'),[(β,.raw cs none),(γ,.dead)],[(γ,.row sz (xs++List.replicate m (zD zs)))],[γ]⟩ (X1c rfl fun E S g a w hs hq hl hnw=> ?_) hg ⟨⟨hx,hy,trivial⟩,⟨hL,hdead,trivial⟩,⟨hf,trivial⟩,hd⟩ h
 obtain⟨e,i,z,hu,hi,hsz,hbt,hz0,hzs,hz1⟩:=X4W hT
 obtain⟨k2,h2⟩:=Xpv hT2
 have hzz:z.cells.toList=zs:=by
  obtain⟨e',he',hz'⟩:=XbZ hz
  rw[hu] at he'
  cases he'
  unfold X3q at hz'
  rw[hi] at hz'
  simp[hz0] at hz'
  exact hz'
 have ho:=hs.1.obj β
 rw[hl.1] at ho
 have hx':=X1v hq.1
 have hy':=Uc hq.2.1
 obtain⟨vs,r1,r2,r3⟩:=Xbz (P:=P) (o:=0) (q:=n1*sz) ho (by omega)
 rw[List.drop_zero,hxs,List.map_map] at r2
 have hb0':=X3N hb0
 have hs0':=X3N hs0
 have hnext:=nextslicecap_le (need:=n1+m) (old:=c1) (by omega)
 have hmb:m*i.bytes≤2^48:=by
  have:m*i.bytes≤n'*i.bytes:=Nat.mul_le_mul_right _ (by omega)
  rw[hbt] at this ⊢
  omega
 have hgrow:Builtin.nextslicecap (n1+m) c1*i.bytes≤2^48:=by
  have h2:Builtin.nextslicecap (n1+m) c1*i.bytes≤2*(n1+m)*i.bytes:=Nat.mul_le_mul_right _ hnext
  rw[hbt,hn'] at h2
  rw[hbt,hn']
  have h3:2*n'*bytes=2*(n'*bytes):=Nat.mul_assoc _ _ _
  omega
 have hneed:n1+m<2^63:=by
  have:n'≤n'*bytes:=Nat.le_mul_of_pos_right _ (by omega)
  omega
 have hr:=XlW (P:=P) (w:=w) (T:=T) (T2:=T2) (ty:=ty) (base:=some ⟨g.blk β,0,none⟩) (n:=n1) (cap:=c1) (m:=m) (kd:=kd) (olds:=vs.toArray) hu hi hz0 h2 (by rw[hbt];exact hb0') (by rw[hsz];exact hs0') hm
  (fun w' hw'=>by rw[hsz];exact Xa8 (r3 w' hw')) hfull hmb hneed hgrow
 obtain⟨c1',c2'⟩:=X6B (n1+m) c1 e (w.tape w.drawn (.appendCap (n1+m) c1 e)) hneed
 simp only at hr
 revert hr c1' c2'
 generalize (Question.appendCap (n1+m) c1 e).cut (w.tape w.drawn (.appendCap (n1+m) c1 e))=nc
 intro hr c1' c2'
 rw[hn'] at hr c1'
 have hlen:(xs++List.replicate m (zD zs)).length=n':=by rw[List.length_append,hxl,List.length_replicate,hn']
 have hzl:zs.length=sz:=by rw[←hzz,Array.length_toList,hzs]
 have hzc:(Builtin.zeroCells z.cells m).toList=Uj zs m:=by unfold Builtin.zeroCells;rw[X8l,hzz]
 have hq2:=Xba (g:=g) (zs:=zs) (by rw[←hzz];exact hz1) m
 refine⟨_,g.put γ 0 (.slice (some ⟨w.heap.size,0,none⟩) n' nc),_,X65 rfl (by rw[hx',hy'];exact hr),X7j (w:=w),X4g hs.1 γ hnw.1 hl.2.1 _ _ _ (fun k hk=>X1R w.drew _ k hk) (X37 w.drew _) rfl rfl ?_ (fun k hk=> ?_),X2v hnw.1 hs.2.2.2⟩
 ·refine⟨fun r hr=>(List.mem_append.1 hr).elim (hxz r) (fun hr=>by rw[(List.mem_replicate.1 hr).2,X8k,hzl]),.inr ⟨w.heap.size,nc,_,e,(0,0),by rw[hlen];simp[Gh.put],by omega,c2',heap_alloc_new w.drew _,X5w _,?_,?_⟩⟩
  ·simp only[Array.size_append,X4x,hzs,List.size_toArray,r1]
   rw[←Nat.add_mul,←Nat.add_mul]
   exact Nat.mul_le_mul_right _ (by omega)
  ·have e1:((vs.toArray++Builtin.zeroCells z.cells m++Builtin.zeroCells z.cells (nc-n')).toList.take ((xs++List.replicate m (zD zs)).length*sz))=vs++Uj zs m:=by
    have hzn:(Builtin.zeroCells z.cells m).size=m*sz:=by rw[X4x,hzs]
    rw[Array.toList_append,Array.toList_append,hlen,←hn',Nat.add_mul,←hzn,hzc]
    have hzrl:(Uj zs m).length=(Builtin.zeroCells z.cells m).size:=by rw[←hzc,Array.length_toList]
    rw[List.take_append_of_le_length (by rw[List.length_append,hzrl];simp[r1])]
    rw[List.take_of_length_le (by rw[List.length_append,hzrl];simp[r1])]
   rw[e1,List.flatten_append]
   exact X5M (X7F _ _) (X6s r2 hq2)
 ·obtain⟨a1,n2,c2,e1,e2⟩:=hk
  simp[Gh.put] at e1
  rw[←e2,←e1.1]
  exact Nat.le_refl _
end
abbrev fl (xs:List (List D)):List (Option D):=xs.flatten.map some
theorem Uq {sz:Nat}{xs:List (List D)} (h:∀x∈xs,x.length=sz):(fl xs).length=xs.length*sz:=by
 rw[fl,List.length_map,X0A xs h]
theorem X4N (xs ys:List (List D)):fl (xs++ys)=fl xs++fl ys:=by simp[fl]
theorem Xgl:∀ds:List D,X0a (ds.map some)=true
 |[]=>rfl
 |d::ds=>by rw[List.map_cons,X0a,Xgl ds];rfl
theorem X41 (xs:List (List D)):X0a (fl xs)=true:=Xgl _
theorem X08 {sz:Nat}{xs:List (List D)} (h:∀x∈xs,x.length=sz) (j:Nat):∀x∈xs.take j,x.length=sz:=fun x hx=>h x (List.mem_of_mem_take hx)
theorem X1W {sz:Nat}{xs:List (List D)} (h:∀x∈xs,x.length=sz) (j:Nat):∀x∈xs.drop j,x.length=sz:=fun x hx=>h x (List.mem_of_mem_drop hx)
theorem X4l {sz:Nat}{xs:List (List D)} (h:∀x∈xs,x.length=sz) (T:List (Option D)) {j:Nat} (hj:j≤xs.length):(fl xs++T).take (j*sz)=fl (xs.take j):=by
 have e:fl xs=fl (xs.take j)++fl (xs.drop j):=by rw[←X4N,List.take_append_drop]
 have hl:(fl (xs.take j)).length=j*sz:=by rw[Uq (X08 h j),List.length_take,Nat.min_eq_left hj]
 rw[e,List.append_assoc,List.take_left' hl]
theorem Xeq {sz:Nat}{xs:List (List D)} (h:∀x∈xs,x.length=sz) (T:List (Option D)) {j:Nat} (hj:j≤xs.length):(fl xs++T).drop (j*sz)=fl (xs.drop j)++T:=by
 have e:fl xs=fl (xs.take j)++fl (xs.drop j):=by rw[←X4N,List.take_append_drop]
 have hl:(fl (xs.take j)).length=j*sz:=by rw[Uq (X08 h j),List.length_take,Nat.min_eq_left hj]
 conv=>lhs;rw[e,List.append_assoc,List.drop_left' hl]
theorem Xg9 {sz:Nat}{xs:List (List D)} (h:∀x∈xs,x.length=sz) (T:List (Option D)) (q:Nat):(fl xs++T).drop (xs.length*sz+q)=T.drop q:=by
 rw[←List.drop_drop,List.drop_left' (Uq h)]
section
variable {sz i:Nat}{xs:List (List D)}{v:List D}{T:List (Option D)}
def X2T (sz i:Nat) (xs:List (List D)) (T:List (Option D)):List (Option D):=fl (xs.take (i+1))++(fl (xs.drop i)++T.drop sz)
def X2g (sz i:Nat) (xs:List (List D)) (v:List D) (T:List (Option D)):List (Option D):=fl (xs.take i)++(fl [v]++(fl (xs.drop i)++T.drop sz))
theorem X6O (h:∀x∈xs,x.length=sz) (hi:i<xs.length):((fl xs++T).drop (i*sz)).take ((xs.length-i)*sz)=fl (xs.drop i):=by
 rw[Xeq h T (by omega),List.take_left' (by rw[Uq (X1W h i),List.length_drop])]
theorem X8h (h:∀x∈xs,x.length=sz) (hi:i<xs.length):(fl xs++T).take ((i+1)*sz)++((fl xs++T).drop (i*sz)).take ((xs.length-i)*sz)++(fl xs++T).drop ((i+1)*sz+(xs.length-i)*sz)=X2T sz i xs T:=by
 have e:(i+1)*sz+(xs.length-i)*sz=xs.length*sz+sz:=by
  rw[←Nat.add_mul,show i+1+(xs.length-i)=xs.length+1 by omega,Nat.succ_mul]
 rw[e,Xg9 h,X6O h hi,X4l h T (by omega),List.append_assoc];rfl
theorem X7c (h:∀x∈xs,x.length=sz) (hi:i<xs.length):(X2T sz i xs T).take (i*sz)++([v].take 1).flatten.map some++(X2T sz i xs T).drop (i*sz+1*sz)=X2g sz i xs v T:=by
 have hl:(xs.take (i+1)).length=i+1:=by rw[List.length_take];omega
 have e:i*sz+1*sz=(xs.take (i+1)).length*sz+0:=by rw[hl,←Nat.add_mul];rfl
 unfold X2T X2g
 rw[e,Xg9 (X08 h (i+1)),List.drop_zero,X4l (X08 h (i+1)) _ (by omega),List.take_take,Nat.min_eq_left (by omega),List.append_assoc]
 rfl
theorem X8s (h:∀x∈xs,x.length=sz) (hv:v.length=sz) (hi:i≤xs.length):(X2g sz i xs v T).take ((xs.length+1)*sz)=(xs.take i++v::xs.drop i).flatten.map some:=by
 have e:X2g sz i xs v T=fl (xs.take i++v::xs.drop i)++T.drop sz:=by
  unfold X2g
  rw[show xs.take i++v::xs.drop i=xs.take i++([v]++xs.drop i) from rfl,X4N,X4N]
  simp only[List.append_assoc]
 have hl:∀x∈xs.take i++v::xs.drop i,x.length=sz:=by
  intro x hx
  rcases List.mem_append.1 hx with hx|hx
  ·exact X08 h i x hx
  ·rcases List.mem_cons.1 hx with rfl|hx
   ·exact hv
   ·exact X1W h i x hx
 have hn:(xs.take i++v::xs.drop i).length=xs.length+1:=by rw[List.length_append,List.length_cons,List.length_take,List.length_drop];omega
 rw[e,List.take_left' (by rw[Uq hl,hn])]
theorem X8i (h:∀x∈xs,x.length=sz) (hv:v.length=sz):∀x∈xs.take i++v::xs.drop i,x.length=sz:=by
 intro x hx
 rcases List.mem_append.1 hx with hx|hx
 ·exact X08 h i x hx
 ·rcases List.mem_cons.1 hx with rfl|hx
  ·exact hv
  ·exact X1W h i x hx
theorem X7V (hi:i≤xs.length):(xs.take i++v::xs.drop i).length=xs.length+1:=by rw[List.length_append,List.length_cons,List.length_take,List.length_drop];omega
theorem X9d (h:∀x∈xs,x.length=sz) (hi:i<xs.length) (hT:sz≤T.length):(X2T sz i xs T).length=xs.length*sz+T.length:=by
 unfold X2T
 rw[List.length_append,List.length_append,Uq (X08 h _),Uq (X1W h _),List.length_take,List.length_drop,List.length_drop,Nat.min_eq_left (by omega)]
 have:(i+1)*sz+(xs.length-i)*sz=xs.length*sz+sz:=by rw[←Nat.add_mul,show i+1+(xs.length-i)=xs.length+1 by omega,Nat.succ_mul]
 omega
theorem X99 (h:∀x∈xs,x.length=sz) (hv:v.length=sz) (hi:i≤xs.length) (hT:sz≤T.length):(X2g sz i xs v T).length=xs.length*sz+T.length:=by
 unfold X2g
 rw[List.length_append,List.length_append,List.length_append,Uq (X08 h _),Uq (X1W h _),List.length_take,List.length_drop,List.length_drop,Nat.min_eq_left hi]
 have h1:(fl [v]).length=sz:=by simp[fl,hv]
 have:i*sz+(xs.length-i)*sz=xs.length*sz:=by rw[←Nat.add_mul];congr 1;omega
 omega
theorem X8n {zs:List (List D)} (hi:i≤xs.length) (hz:zs.length=xs.length+1-i) (hlt:i<xs.length):
  ((xs.take i++zs).take i++[v].take 1++(xs.take i++zs).drop (i+1)).take (i+1)++((xs.take xs.length).drop i).take (xs.length-i)++((xs.take i++zs).take i++[v].take 1++(xs.take i++zs).drop (i+1)).drop (i+1+(xs.length-i))=xs.take i++v::xs.drop i:=by
 have l1:(xs.take i).length=i:=by rw[List.length_take];omega
 have l2:(xs.take i++[v]).length=i+1:=by rw[List.length_append,l1];rfl
 have e1:(xs.take i++zs).take i=xs.take i:=List.take_left' l1
 have l3:((xs.take i++zs).drop (i+1)).length=xs.length-i:=by rw[List.length_drop,List.length_append,l1,hz];omega
 have e2:((xs.take xs.length).drop i).take (xs.length-i)=xs.drop i:=by rw[List.take_length];exact List.take_of_length_le (by rw[List.length_drop];omega)
 have e3:(xs.take i++[v]++(xs.take i++zs).drop (i+1)).drop (i+1+(xs.length-i))=[]:=List.drop_eq_nil_of_le (by rw[List.length_append,l2,l3];omega)
 rw[e1,show[v].take 1=[v] from rfl,List.take_left' l2,e2,e3,List.append_nil,List.append_assoc]
 rfl
def X2p (sz i:Nat) (xs:List (List D)) (W:List (Option D)):List (Option D):=fl (xs.take i)++(fl (xs.drop (i+1))++W)
theorem X6U (h:∀x∈xs,x.length=sz) (hi:i<xs.length) {c off:Nat} (hc:xs.length≤c) (ho:(if c=i+1 then 0 else 0+(i+1)*sz)=off):((fl xs++T).drop off).take ((xs.length-(i+1))*sz)=fl (xs.drop (i+1)):=by
 by_cases e:xs.length=i+1
 ·rw[e,Nat.sub_self,Nat.zero_mul,List.take_zero,List.drop_eq_nil_of_le (by omega)];rfl
 ·have:off=(i+1)*sz:=by rw[←ho,if_neg (by omega),Nat.zero_add]
  rw[this,Xeq h T (by omega),List.take_left' (by rw[Uq (X1W h _),List.length_drop])]
theorem X8R (hi:i<xs.length) {c off:Nat} (hc:xs.length≤c) (ho:(if c=i+1 then 0 else 0+(i+1)*sz)=off) (h:∀x∈xs,x.length=sz):off+(xs.length-(i+1))*sz≤(fl xs++T).length:=by
 rw[List.length_append,Uq h]
 by_cases e:xs.length=i+1
 ·rw[e,Nat.sub_self,Nat.zero_mul,←ho]
  split
  ·omega
  ·omega
 ·have:off=(i+1)*sz:=by rw[←ho,if_neg (by omega),Nat.zero_add]
  rw[this,←Nat.add_mul,show i+1+(xs.length-(i+1))=xs.length by omega]
  omega
theorem X7D (h:∀x∈xs,x.length=sz) (hi:i<xs.length) {c off:Nat} (hc:xs.length≤c) (ho:(if c=i+1 then 0 else 0+(i+1)*sz)=off):(fl xs++T).take (0+i*sz)++((fl xs++T).drop off).take ((xs.length-(i+1))*sz)++(fl xs++T).drop (0+i*sz+(xs.length-(i+1))*sz)=X2p sz i xs ((fl xs++T).drop (i*sz+(xs.length-(i+1))*sz)):=by
 rw[X6U h hi hc ho,Nat.zero_add,X4l h T (by omega),List.append_assoc];rfl
theorem X8Z (h:∀x∈xs,x.length=sz) (hi:i<xs.length) (W V:List (Option D)):((X2p sz i xs W).take ((xs.length-1)*sz)++V).take ((xs.length-1)*sz)=(xs.take i++xs.drop (i+1)).flatten.map some:=by
 have hl:∀x∈xs.take i++xs.drop (i+1),x.length=sz:=by
  intro x hx
  rcases List.mem_append.1 hx with hx|hx
  ·exact X08 h i x hx
  ·exact X1W h _ x hx
 have hn:(xs.take i++xs.drop (i+1)).length=xs.length-1:=by rw[List.length_append,List.length_take,List.length_drop];omega
 have e:X2p sz i xs W=fl (xs.take i++xs.drop (i+1))++W:=by unfold X2p;rw[X4N,List.append_assoc]
 have e2:(X2p sz i xs W).take ((xs.length-1)*sz)=fl (xs.take i++xs.drop (i+1)):=by rw[e,List.take_left' (by rw[Uq hl,hn])]
 rw[e2,List.take_left' (by rw[Uq hl,hn])]
theorem X8X (hi:i<xs.length):(xs.take i++xs.drop (i+1)).length=xs.length-1:=by rw[List.length_append,List.length_take,List.length_drop];omega
theorem X8b (h:∀x∈xs,x.length=sz) (hi:i<xs.length):(X2p sz i xs ((fl xs++T).drop (i*sz+(xs.length-(i+1))*sz))).length=xs.length*sz+T.length:=by
 unfold X2p
 have e1:i*sz+(xs.length-(i+1))*sz≤xs.length*sz:=by rw[←Nat.add_mul];exact Nat.mul_le_mul_right _ (by omega)
 rw[List.length_append,List.length_append,Uq (X08 h _),Uq (X1W h _),List.length_take,List.length_drop,List.length_drop,List.length_append,Uq h,Nat.min_eq_left (by omega)]
 omega
end
def Xae (P:Program) (t:TypeId):Bool:=match P.underlying t with|some (.interface _)=>false|some _=>true|none=>false
theorem Xse {P:Program}{t:TypeId} (h:Xae P t=true) (v:Value) (w:World):(Instr.makeInterface t v).run P w= .ok (.iface t v) w:=by
 unfold Xae at h
 cases hu:P.underlying t with
 |none=>simp[hu] at h
 |some d=>
  unfold Instr.makeInterface
  rw[Sem.run_bind,run_underlying hu w]
  cases d<;>simp_all
section
variable {P:Program}{ops:Array Oper}{draw:Bool}{K:Y4→St→Prop}{rest:List Oper}{l:Y4}{S:St}
variable {d:Nat}{ty:TypeId}{pos:String}{aft:Array Edge}{gd:Option (Nat×Bool)}
theorem Xp6 {t:TypeId}{x:Operand}{u:Value} (hx:S.ev x= .d (.v u)) (ht:Xae P t=true) (hd:Nat.blt d S.n=true) (hg:XR ops S gd)
  (h:Walk P ops draw K rest ((l.length,⟨some d,.makeInterface t x,ty,pos,aft,gd⟩,⟨XQ ops gd++[(x,.d (.v u))],some (d,.d (.v (.iface t u))),[],[],[]⟩)::l) (S.set d (.d (.v (.iface t u))))):
  Walk P ops draw K (⟨some d,.makeInterface t x,ty,pos,aft,gd⟩::rest) l S:=
 Yh ⟨[(x,.d (.v u))],some (d,.d (.v (.iface t u))),[],[],[]⟩ (U6 rfl fun E S g a w hs hq _=>by
  refine⟨.iface t u,?_,VB rfl⟩
  simp only[execOp,Uc hq.1,Sem.run_bind,Xse ht];rfl) hg ⟨⟨hx,trivial⟩,trivial,trivial,hd⟩ h
end
theorem Xgm {g g':Gh}:∀{xs us:List Value},XB g (xs.map fun x=> .d (.v x)) us→XB g' (xs.map fun x=> .d (.v x)) us
 |[],[],_=>by simp only[List.map_nil,XB]
 |[],_::_,h=>by simp only[List.map_nil,XB] at h
 |_::_,[],h=>by simp only[List.map_cons,XB] at h
 |x::xs,u::us,h=>by
  simp only[List.map_cons,XB,AVal.sat,D.rep] at h ⊢
  exact⟨h.1,Xgm h.2⟩
theorem XqA (xs:List Value) (g g':Gh) (v:Value) (h:(AVal.tup (xs.map fun x=> .d (.v x))).sat g v):(AVal.tup (xs.map fun x=> .d (.v x))).sat g' v:=by
 simp only[AVal.sat] at h ⊢
 obtain⟨vs,h1,h2⟩:=h
 exact⟨vs,h1,Xgm h2⟩
theorem X3e {P:Program}{f:FuncId}{sz:Nat}{xs:List (List D)}{post:List AVal}{a b:Value} (γ:Nat) (hcon:Con P f [] (.d (.sl sz xs)::post) [] (.tup [.d (.v a),.d (.v b)])):
  Con P f [(γ,.row sz xs)] (.own γ xs.length::post) [(γ,.row sz xs)] (.tup [.d (.v a),.d (.v b)]):=
 XlR (pre:=[]) γ hcon (XqA [a,b])
end Go.Fw
