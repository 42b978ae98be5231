/- Data without room: s[lo:hi:hi], and what is appended to it. -/
import Derived.Lib.BytesEntry
import Derived.Lib.IndexLaws
import Derived.WalkKit
import Derived.ProofKit
import Derived.ChangeSame
import Derived.OpenShut
import Derived.Deep.Slices
import Derived.Deep.Strs
import Derived.WalkSmall
import Derived.Defers
import Derived.Test.YtpbgjcbkhgfmkaaGreatDoorM02
namespace Go.Fw
open Go List
set_option linter.unusedVariables false
variable{N b b0 bytes c c1 c2 hb id k lb m n n' n1 n2 o o1 o2 sz β γ:Nat}{hi lo mx x y:Operand}{xs ys:List (List D)}{A B:List Hd}{E:Env}{L:Nat->AObj}{P:Program}{g g':Gh}{W W' w:World}{Li Lo:List (Nat×AObj)}{ch:List PanicEntry}{M:Mem}{fs:Array Field}{ps:List MemPlace}{r:Reach}{h u v:Value}{Q:Exit->St->Prop}{R:Ending->World->Prop}{S T:St}{e:Exit}{res yv:AVal}{a:Act}{args:Array Operand}{post zs:List AVal}{cs cs':List (Option D)}{ho:Option (Nat×AVal)}{kd:IntKind}{p:Addr}{vs:Array Value}{cd:Code}{f:FuncId}{fn:Func}{ops:Array Oper}{us:List Value}
section
variable {P:Program}{ops:Array Oper}{draw:Bool}{K:XW->St->Prop}{rest:List Oper}{l:XW}{S:St}
variable {d:Nat}{ty:TypeId}{pos:String}{ah:Array Edge}{gd:Option (Nat×Bool)}
theorem XgO {T:TypeId} (hx:S.ev x= .d (.sl sz xs)) (hlo:S.ev lo=ai lb) (hhi:S.ev hi=ai hb) (cN:S.ev mx=ai hb) (c8:lb<=hb) (hm:hb<=xs.length) (hys:(xs.take hb).drop lb=ys)
  (hT:UF P T sz=true) (hd:Nat.blt d S.n=true) (hg:XH ops S gd)
  (h:Walk P ops draw K rest ((l.length,⟨some d,.slice T x (some lo) (some hi) (some mx),ty,pos,ah,gd⟩,⟨XF ops gd++[(x,.d (.sl sz xs)),(lo,ai lb),(hi,ai hb),(mx,ai hb)],some (d,.dx sz ys),[],[],[]⟩)::l) (S.set d (.dx sz ys))):
  Walk P ops draw K (⟨some d,.slice T x (some lo) (some hi) (some mx),ty,pos,ah,gd⟩::rest) l S:=by
 subst hys;refine Yj h hg (Ug rfl fun E S g a w hs hq hl=> ?_) ⟨⟨hx,hlo,hhi,cN,TV⟩,TV,TV,hd⟩;obtain⟨e,h1,h2,h3⟩:=X1K hT;obtain⟨b5,bS,hq3,hq4,_⟩:=hq;simp only[AVal.sat,D.rep] at b5;obtain⟨b,cap,hv,c1,c2,c3⟩:=b5;have e2:=Up bS;have e3:=Up hq3;have e4:=Up hq4;have mO:hb<=cap:=by omega
 have hbd:(Instr.sliceBounds true xs.length cap (some (a.eval lo)) (some (a.eval hi)) (some (a.eval mx))).run P w= .ok (lb,hb,hb) w:=by
  simp_all [Instr.sliceBounds,run_sliceBound]
 have hrun:=run_slice_any (P:=P) w T b xs.length cap (by rw[h3];exact h1) (some (a.eval lo)) (some (a.eval hi)) (some (a.eval mx));rw[hbd,Result.andThen_ok,h3,h2 w,Result.andThen_ok] at hrun;refine⟨sliced b lb hb hb sz,?_,?_⟩
 ·simp_all [execOp,Instr.sliceAt,run_underlying]
 grind [AVal.sat,D.rep,sliced,Xcv,X9T,Vf]
theorem Xrr {T T2:TypeId} (hx:S.ev x= .dx sz xs) (hy:S.ev y= .d (.sl sz ys)) (hne:ys≠[])
  (hB:elB P T=bytes) (hT:X1b P T sz bytes=true) (bN:cm P T2=true) (hb0:Nat.beq bytes 0=false) (hroom:(xs.length+ys.length)*bytes<=140737488355328)
  (av:S.obj γ= .dead) (hf:S.free γ=true) (hd:Nat.blt d S.n=true) (hg:XH ops S gd)
  (h:Walk P ops draw K rest ((l.length,⟨some d,.call ⟨.builtin .append,#[x,y],#[T,T2]⟩,ty,pos,ah,gd⟩,⟨XF ops gd++[(x,.dx sz xs),(y,.d (.sl sz ys))],some (d,.own γ (xs.length+ys.length)),[(γ,.dead)],[(γ,.row sz (xs++ys))],[γ]⟩)::l) ((S.set d (.own γ (xs.length+ys.length))).own γ (.row sz (xs++ys)))):
  Walk P ops draw K (⟨some d,.call ⟨.builtin .append,#[x,y],#[T,T2]⟩,ty,pos,ah,gd⟩::rest) l S:=by
 refine Yj h hg (X3e rfl fun E S g a w hs hq hl gU=> ?_) ⟨⟨hx,hy,TV⟩,⟨av,TV⟩,⟨hf,TV⟩,hd⟩;obtain⟨e,i,z,hu,hi,hsz,fM,bZ,hzs,bR⟩:=X5j hT;have sy:=X5d hb0;obtain⟨b5,bS,_⟩:=hq;simp only[AVal.sat] at b5;obtain⟨a0,hv,cM⟩:=b5;simp only[AVal.sat] at bS;obtain⟨olds,ho1,oq,ho3⟩:=X97 hs.1 cM;obtain⟨news,k1,k2,k3⟩:=X97 hs.1 bS;have sA:ys.length≠0:=fun e=>hne (eq_nil_of_length_eq_zero e);have b7:∀r∈xs,r.length=sz:=by
  grind
 have bM:∀r∈ys,r.length=sz:=k3.resolve_left hne;rw[hv] at ho1;have sB:Builtin.nextslicecap (xs.length+ys.length) xs.length*i.bytes<=2^48:=by
  have h1:=nextslicecap_le (need:=xs.length+ys.length) (old:=xs.length) (by omega);have h2:Builtin.nextslicecap (xs.length+ys.length) xs.length*i.bytes<=2*(xs.length+ys.length)*i.bytes:=Nat.mul_le_mul_right _ h1
  grind
 have cU:xs.length+ys.length<2^63:=by
  have:xs.length+ys.length<=(xs.length+ys.length)*bytes:=Nat.le_mul_of_pos_right _ (by omega);omega
 have hr:=XcF (P:=P) (w:=w) (T:=T) (T2:=T2) (ty:=ty) (base:=a0) (n:=xs.length) (cap:=xs.length) (x:=a.eval y) (olds:=olds) (news:=news) (m:=ys.length) hu hi bZ (.inl (X5k bN)) (by rw[fM];exact sy)
  (by rw[hsz];exact k1) (fun w' hw'=>by have:=(ho1.1 w' hw').2;rw[hsz];exact this) (by omega) sB
 obtain⟨c1,c2⟩:=X9G (xs.length+ys.length) xs.length e (w.tape w.drawn (.appendCap (xs.length+ys.length) xs.length e)) cU;revert hr c1 c2;generalize (Question.appendCap (xs.length+ys.length) xs.length e).cut (w.tape w.drawn (.appendCap (xs.length+ys.length) xs.length e))=nc;intro hr c1 c2;have z1:olds.size=xs.length*sz:=ho1.2;have z2:news.size=ys.length*sz:=k1.2;have b8:Xx g ((xs++ys).flatten.map .d) ((olds++news++Builtin.zeroCells z.cells (nc-(xs.length+ys.length))).toList.take ((xs++ys).length*sz)):=by
  grind [Nat.add_mul,Xat]
 have hinv:=XdD (w:=w.drew) (Xh5 hs.1) γ gU.1 hl.1 (sz:=sz) (xs:=xs++ys) (vs:=olds++news++Builtin.zeroCells z.cells (nc-(xs.length+ys.length))) (e:=e) (fr:=(0,0)) (cap:=nc)
  (fun r hr=>(mem_append.1 hr).elim (b7 r) (bM r)) b8 (by grind) c2
  (by simp[X6T,z1,z2,hzs,<-Nat.add_mul];grind) (X6i _)
 rw[LA] at hinv;exact⟨_,_,_,X6Y rfl (by rw[hv];exact hr),X9m (w:=w),hinv,X3V gU.1 hs.2.2.2⟩
theorem XrT {T T2:TypeId} (hx:S.ev x= .dx sz xs) (hy:S.ev y= .d (.sl sz ys)) (he:ys=[])
  (hB:elB P T=bytes) (hT:X1b P T sz bytes=true) (bN:cm P T2=true) (hd:Nat.blt d S.n=true) (hg:XH ops S gd)
  (h:Walk P ops draw K rest ((l.length,⟨some d,.call ⟨.builtin .append,#[x,y],#[T,T2]⟩,ty,pos,ah,gd⟩,⟨XF ops gd++[(x,.dx sz xs),(y,.d (.sl sz ys))],some (d,.dx sz xs),[],[],[]⟩)::l) (S.set d (.dx sz xs))):
  Walk P ops draw K (⟨some d,.call ⟨.builtin .append,#[x,y],#[T,T2]⟩,ty,pos,ah,gd⟩::rest) l S:=by
 subst he;refine Yj h hg (Ug rfl fun E S g a w hs hq hl=> ?_) ⟨⟨hx,hy,TV⟩,TV,TV,hd⟩;obtain⟨e,i,z,hu,hi,hsz,fM,bZ,hzs,bR⟩:=X5j hT;obtain⟨b5,bS,_⟩:=hq;have uJ:=b5;simp only[AVal.sat] at b5 bS;obtain⟨a0,hv,cM⟩:=b5;obtain⟨news,k1,k2,k3⟩:=X97 hs.1 bS;have hr:=X8U (P:=P) (w:=w) (T:=T) (T2:=T2) (ty:=ty) (base:=a0) (n:=xs.length) (cap:=xs.length) (x:=a.eval y) (news:=news) (m:=0) hu hi (.inl (X5k bN)) (by rw[hsz];exact k1) (by omega);have hn0:news= #[]:=by
  grind [Xx]
 subst hn0;have dj:(Builtin.append_ #[T,T2] ty #[.slice a0 xs.length xs.length,a.eval y]).run P w= .ok (.slice a0 xs.length xs.length) w:=by
  cases a0<;>simp_all [storeCells]
 grind [X6Y]
theorem XgT {T:TypeId} (hx:S.ev x= .dx sz xs) (hT:cm P T=true)
  (hd:Nat.blt d S.n=true) (hg:XH ops S gd)
  (h:Walk P ops draw K rest ((l.length,⟨some d,.call ⟨.builtin .len,#[x],#[T]⟩,ty,pos,ah,gd⟩,⟨XF ops gd++[(x,.dx sz xs)],some (d,ai xs.length),[],[],[]⟩)::l) (S.set d (ai xs.length))):
  Walk P ops draw K (⟨some d,.call ⟨.builtin .len,#[x],#[T]⟩,ty,pos,ah,gd⟩::rest) l S:=
 Yj h hg (Ug rfl fun E S g a w hs hq hl=>by
  obtain⟨e,h1⟩:=X5k hT;have:=hq.1;simp only[AVal.sat] at this;obtain⟨b,hv,_⟩:=this;refine⟨.int .i64 xs.length,?_,X02 rfl⟩;simp[execOp,resolve,invoke,builtin,hv,Builtin.len_,run_underlying h1,goInt]) ⟨⟨hx,TV⟩,TV,TV,hd⟩
end
abbrev Xaa (b:UInt8):List D:=[.v (.int .u8 b.toNat)]
abbrev XdT (l:List UInt8):D:= .sl 1 (l.map Xaa)
theorem Xxx (bs:List UInt8):Lib.bytesOf (bs.map fun b=>(b.toNat:Int))=bs:=by
 simp[Lib.bytesOf,map_congr_left]
theorem Xux (bs:List UInt8):(bs.map Xaa).flatten=bs.map fun b=>D.v (.int .u8 (b.toNat:Int)):=by
 induction bs<;>simp_all
theorem Xor (hi:Inv E L g w) {bs:List UInt8}{c:UInt8}{x:Value} (h:(XdT bs).rep g.M x):
  (Extern.BytealgIndexByte.indexByte #[x,.int .u8 c.toNat]).run P w= .ok (.int .i64 (Lib.indexByte bs c)) w:=by
 simp only[D.rep] at h;obtain⟨a,cap,rfl,h2,h3,h4⟩:=h;have e0:bs=[]->(Extern.BytealgIndexByte.indexByte #[.slice a (bs.map Xaa).length cap,.int .u8 c.toNat]).run P w= .ok (.int .i64 (Lib.indexByte bs c)) w:=by
  rintro rfl;cases a with
  |none=>grind [Lib.indexByte,Lib.run_indexByteNil]
  |some a=>
   have hs:=Lib.run_indexByteString (P:=P) ByteArray.empty (c.toNat:Int) w
   change Sem.run P (do
    let b <-Extern.Bytes.bytesOf (.slice (some a) 0 cap)
    let c <-Extern.Bytes.asByte (.int .u8 c.toNat)
    match (range b.size).find? fun i=>b[i]! ==c with
    |some i=>pure (goInt i)
    |none=>pure (goInt (-1))) w=_
   change Sem.run P (do
    let b <-Extern.Bytes.bytesOf (.string ByteArray.empty)
    let c <-Extern.Bytes.asByte (.int .u8 c.toNat)
    match (range b.size).find? fun i=>b[i]! ==c with
    |some i=>pure (goInt i)
    |none=>pure (goInt (-1))) w=_ at hs
   simp_all [Extern.Bytes.bytesOf,Extern.Bytes.loadBytes]
 rcases h4 with he|⟨b,o,rfl,hr⟩
 ·grind
 ·obtain⟨vs,k1,k2,k3⟩:=Xaf hi.mem _ b o hr;have hl:=Lib.run_indexByteSlice (P:=P) w b o bs.length cap (bs.map fun b=>(b.toNat:Int)) (by simp) (fun i hi'=>by
   have hv:i<vs.length:=by grind
   have ji:vs[i]? =some vs[i]:=getElem?_eq_getElem hv;have hd:((bs.map Xaa).flatten)[i]? =some (D.v (.int .u8 ((bs[i]'hi').toNat:Int))):=by grind [Xux]
   grind [D.rep]) (c.toNat:Int)
  simp_all [Xxx]
section
variable {P:Program}{ops:Array Oper}{draw:Bool}{K:XW->St->Prop}{rest:List Oper}{l:XW}{S:St}
variable {d:Nat}{ty:TypeId}{pos:String}{ah:Array Edge}{gd:Option (Nat×Bool)}
theorem XwF {tys:Array TypeId}{bs:List UInt8}{c:UInt8} (hx:S.ev x= .d (XdT bs)) (hy:S.ev y= .d (.v (.int .u8 c.toNat)))
  (hf:P.funcs[f]? =some fn) (h1:(fn.name== "runtime.NumGoroutine")=false) (h2:fn.body.isNone=true) (h3:Extern.findNext fn=none) (h4:Extern.find fn=some Extern.BytealgIndexByte.indexByte)
  (hd:Nat.blt d S.n=true) (hg:XH ops S gd)
  (h:Walk P ops draw K rest ((l.length,⟨some d,.call ⟨.value (.func f),#[x,y],tys⟩,ty,pos,ah,gd⟩,⟨XF ops gd++[(x,.d (XdT bs)),(y,.d (.v (.int .u8 c.toNat)))],some (d,ai (Lib.indexByte bs c)),[],[],[]⟩)::l) (S.set d (ai (Lib.indexByte bs c)))):
  Walk P ops draw K (⟨some d,.call ⟨.value (.func f),#[x,y],tys⟩,ty,pos,ah,gd⟩::rest) l S:=
 Yj h hg (Ug rfl fun E S g a w hs hq hl=>by
  have e1:=Xor (P:=P) hs.1 (c:=c) (x:=a.eval x) (by have:=hq.1;simpa only[AVal.sat] using this);have e2:=Up hq.2.1;refine⟨.int .i64 (Lib.indexByte bs c),?_,X02 rfl⟩;have e3:=run_callFunc_extern hf h1 h2 h3 h4 #[a.eval x,a.eval y] w;rw[e2,e1,Result.andThen_ok] at e3;rw[<-e2] at e3;have ef:a.eval (.func f)= .func (.func f) #[] #[]:=rfl;simp_all [execOp,resolve,invoke,Deferred.ofValue]) ⟨⟨hx,hy,TV⟩,TV,TV,hd⟩
end
set_option linter.unusedSimpArgs false
def X3J (W W':World):Prop:=W'.os=W.os/\W'.output=W.output/\W.heap.size<=W'.heap.size/\∀b,b<W.heap.size->W'.heap[b]? =W.heap[b]?
def g0 (M:Mem):Gh:=⟨fun _=>0,fun _=> .slice none 0 0,fun _ _=> .slice none 0 0,M⟩
theorem X5U {aZ:List AVal}{args:Array Value} (hc:Con P f [] aZ [] res) (M:Mem) (hM:∀a v,M a=some v->W.cell? a=some v)
  (hs:Xx (g0 M) aZ args.toList):Calls P f args W fun e W'=> ∃v g',e= .returned v/\res.sat g' v/\X3J W W':=by
 have hi:Inv (Vw (g0 M) W []) (Xp .dead []) (g0 M) W:=by
  refine⟨fun _=>trivial,fun _ _ _ h=>h.elim,hM,fun _ _ h=>h.elim,fun _ _ h=>h.elim,YH.refl _,fun a v h=> .inl ⟨v,h⟩,fun _ _ _=>rfl,Nat.le_refl _,rfl,rfl,fun γ _=>Gh.keeps_refl _ _⟩
 refine(hc (g0 M) W args.toList hi hs).mono ?_;rintro e W' ⟨v,g',rfl,hv,hi',_⟩;exact⟨v,g',rfl,hv,hi'.os,hi'.out,hi'.size,fun b hb=>hi'.frame b hb fun⟨γ,h⟩=>h.elim⟩
theorem X3J.but (h:X3J W W') (may:MemPlace->Prop):W.keptBut W' may:=by
 refine⟨h.1,h.2.1,fun i hi=> ?_⟩
 grind [X3J]
theorem X3J.frozen (h:X3J W W') {a:Addr} (ha:a.block<W.heap.size):W'.frozen? a=W.frozen? a:=by
 grind [World.frozen?,X3J]
section
open Go.ChangeShapes Go.WideShapes Go.ChangeAt Go.RowKit
variable {H:Type}{enc:TypeId×Value->H}{P:Program}
theorem X3J.same (h:X3J W W') {p:MemPlace} (hp:p.block<W.heap.size):W.sameAt W' p:=by
 cases p with
 |cell b off=>
  show W'.cell? _=W.cell? _;have:=h.2.2.2 b hp
  grind [World.cell?]
 |map b=>exact h.2.2.2 b hp
theorem Xl3 (h:X3J W W') {base:Nat}{spare:Nat->Bool}{held:Bool}:∀{ts:List TypeId}{vs:List Value}{ds:List (DataW H)}{ps:List MemPlace},DataW.TrodAll enc P W base spare held ts vs ds ps->DataW.TrodAll enc P W' base spare held ts vs ds ps
 |[],[],[],_,k=>k
 |_::_,_::_,_::_,_,⟨p,q,⟨n,h1⟩,h2,e⟩=>
  ⟨p,q,⟨n,DataW.trod_carry n _ _ _ h1 fun x hx=>h.same (DataW.trod_lt n _ _ _ h1 x hx)⟩,Xl3 h h2,e⟩
theorem X5X {f:Func}{s:ChangeSpec}{apart fresh handsOn again:Bool}{args:Array Value}{ds gs:List (DataW H)}{before:List MemPlace}{tb:TypeId}{T:TypeId->Prop}
  (hW:DataW.Whole enc P f.params.toList s.vars apart W args.toList ds gs before) (hv:s.vars=[])
  (h1:(s.fn H (ds++gs)).results=[.lit (.bool true)]) (h2:(s.fn H (ds++gs)).args=ds) (h3:(s.fn H (ds++gs)).vars=gs)
  (qu:f.resultTypes= #[tb]) (htb:P.underlying tb=some .bool) (hk:X3J W W') (K:Kids P T) (hz:∀t e,T t->P.underlying t=some (.slice e)->0<P.cellsOf e) (hT:∀t∈f.params.toList,T t):
  s.post enc P f apart fresh handsOn again W args (.bool true) W':=by
 have hlt:=hW.lt;have gW:=hW;obtain⟨p,q,hA,hV,hpq,hfr,dP⟩:=hW;have qv:∀sp:Nat->Bool,DataW.TrodVars enc P W' sp s.vars (s.fn H (ds++gs)).vars q:=by
  intro sp;rw[h3];rw[hv] at hV |-;obtain⟨e1,e2⟩:=trodVars_none hV;subst e1 e2;rfl
 have hres:∀(b:Nat) (sp:Nat->Bool) (hd:Bool),DataW.TrodAll enc P W' b sp hd f.resultTypes.toList ((Value.bool true).resultList f.resultTypes.size) (s.fn H (ds++gs)).results []:=by
  intro b sp hd;rw[h1,qu];exact trodAll_mk1 (shut_bool htb true)
 have hargs:∀sp:Nat->Bool,(∀x∈before,sp x.block=true)->DataW.TrodAll enc P W' 0 sp true f.params.toList args.toList (s.fn H (ds++gs)).args p:=by
  grind [DataW.TrodAll.respare,Xl3]
 have hold:∀x∈before,(fun b=>decide (b<W.heap.size)) x.block=true:=fun x hx=>by simpa using hlt x hx
 refine⟨ds,gs,before,[],p,q,gW,hres _ _ _,hargs _ hold,qv _,hk.but _,fun _=> ?_⟩;refine⟨ok_one qu rfl (okWide_bool_mk htb true),_,_,([]++p)++q,⟨[]++p,q,trodAll_append (hargs _ (fun _ _=>rfl)) (hres _ _ _),qv _,rfl,?_,?_⟩,?_⟩
 ·intro b off hp;have hm:MemPlace.cell b off∈before:=by grind
  rw[hk.frozen (a:=⟨b,off,none⟩) (hlt _ hm)];exact hfr b off hm
 ·grind
 grind
end
open Go Go.ChangeShapes Go.WideShapes Go.Deep
def VK (M:Mem):List D->List Value->Prop
 |[],[]=>True
 |d::ds,v::vs=>d.rep M v/\VK M ds vs
 |_,_=>False
theorem Xlw:∀{ds es:List D}{us vs:List Value},VK M ds us->VK M es vs->VK M (ds++es) (us++vs)
 |[],_,[],_,_,h=>h
 |[],_,_::_,_,h,_=>by simp only[VK] at h
 |_::_,_,[],_,h,_=>by simp only[VK] at h
 |d::ds,es,u::us,vs,h,k=>by
  simp only[VK,cons_append] at h |-;exact⟨h.1,Xlw h.2 k⟩
theorem XcW:∀{ds:List D}{us:List Value},VK M ds us->us.length=ds.length
 |[],[],_=>rfl
 |[],_::_,h=>by simp only[VK] at h
 |_::_,[],h=>by simp only[VK] at h
 |d::ds,u::us,h=>by simp only[VK] at h;simp[XcW h.2]
theorem XfY:∀{ds:List D}{us:List Value},VK M ds us->∀(i:Nat) (d:D),ds[i]? =some d->∃u,us[i]? =some u/\d.rep M u
 |[],[],_,_,_,h=>by simp at h
 |[],_::_,h,_,_,_=>by simp only[VK] at h
 |_::_,[],h,_,_,_=>by simp only[VK] at h
 |d::ds,u::us,h,0,e,he=>by grind [VK]
 |d::ds,u::us,h,i+1,e,he=>by
  simp only[VK] at h;simpa using XfY h.2 i e (by simpa using he)
theorem XhG (hM:g.M=M):∀{ds:List D}{us:List Value},VK M ds us->Xx g (ds.map .d) us
 |[],[],_=>by grind [Xx]
 |[],_::_,h=>by simp only[VK] at h
 |_::_,[],h=>by simp only[VK] at h
 |d::ds,u::us,h=>by
  simp only[VK] at h;simp only[map_cons,Xx,AVal.sat];exact⟨hM ▸ h.1,XhG hM h.2⟩
theorem Xfm {α:Type}{p:Nat->α->Prop}:∀n,(∀i,i<n->∃r,p i r)->∃l:List α,l.length=n/\∀(i:Nat) (r:α),l[i]? =some r->p i r
 |0,_=>⟨[],rfl,fun i r h=>by simp at h⟩
 |n+1,h=>by
  obtain⟨l,h1,h2⟩:=Xfm n (fun i hi=>h i (by omega));obtain⟨r,hr⟩:=h n (by omega);refine⟨l++[r],by simp[h1],fun i x hx=> ?_⟩;rw[getElem?_append] at hx;split at hx
  ·exact h2 i x hx
  ·rename_i hi;have:i=n:=by
    rcases Nat.lt_or_ge (i-l.length) 1 with hj|hj
    ·omega
    ·simp[show i-l.length≠0 by omega] at hx
   subst this;simp[h1] at hx;subst hx;exact hr
section
variable {H:Type}{enc:TypeId×Value->H}{P:Program}{W:World}
structure Opens {α:Type} (enc:TypeId×Value->H) (P:Program) (W:World) (t:TypeId) (p:α->Prop) (f:α->List D):Prop where
 op:∀n cs x,DataW.trod enc P W 0 (fun _=>true) true n t cs=some x->∃r,p r/\VK W.cell? (f r) cs
theorem Opens.to {α β:Type}{t:TypeId}{p:α->Prop}{f:α->List D} (h:Opens enc P W t p f) {q:β->Prop}{g:β->List D} (φ:α->β) (hφ:∀a,p a->q (φ a)/\f a=g (φ a)):Opens enc P W t q g:=by
 refine⟨fun n cs x hx=> ?_⟩;obtain⟨r,h1,h2⟩:=h.op n cs x hx
 grind
theorem Xmw {t:TypeId} (ht:P.underlying t=some .bool):Opens enc P W t (fun _:Bool=>True) (fun b=>[.v (.bool b)]):=by
 refine⟨fun n cs x hx=> ?_⟩;cases n with
 |zero=>simp[DataW.trod] at hx
 |succ n=>
  unfold DataW.trod at hx;rw[ht] at hx;split at hx
  case h_1 _ _ b _=>exact⟨b,TV,⟨rfl,rfl⟩,TV⟩
  all_goals simp_all
theorem XsI {t:TypeId}{k:IntKind} (ht:P.underlying t=some (.int k)):Opens enc P W t (fun n:Int=>(Lit.int k n).wf=true) (fun n=>[.v (.int k n)]):=by
 refine⟨fun n cs x hx=> ?_⟩
 grind [DataW.trod_int,VK,D.rep,Value.oneCell']
theorem X9E {t:TypeId} (ht:P.underlying t=some (.int .i64)):Opens enc P W t (fun n:Int=> -9223372036854775808<=n/\n<=9223372036854775807) (fun n=>[.v (.int .i64 n)]):=
 (XsI ht).to id fun a ha=>⟨bounds_i64 ha,rfl⟩
structure OpensF {α:Type} (enc:TypeId×Value->H) (P:Program) (W:World) (N:Nat) (fs:List Field) (off:Nat) (p:α->Prop) (f:α->List D):Prop where
 op:∀cs:List Value,cs.length=N->(∀q∈fs,∃n x,DataW.trod enc P W 0 (fun _=>true) true n q.type ((cs.drop q.offset).take (P.cellsOf q.type))=some x)->∃r,p r/\VK W.cell? (f r) (cs.drop off)
theorem Xbm:OpensF enc P W N [] N (fun _:Unit=>True) (fun _=>[]):=by
 refine⟨fun cs hN _=>⟨(),TV,?_⟩⟩
 grind [VK]
theorem X3t {α β:Type}{q:Field}{fs:List Field}{off s:Nat}{p:α->Prop}{f:α->List D}{p':β->Prop}{f':β->List D} (hoff:q.offset=off) (hs:P.cellsOf q.type=s)
  (h:Opens enc P W q.type p f) (k:OpensF enc P W N fs (off+s) p' f'):OpensF enc P W N (q::fs) off (fun r:α×β=>p r.1/\p' r.2) (fun r=>f r.1++f' r.2):=by
 refine⟨fun cs hN hall=> ?_⟩;obtain⟨n,x,hx⟩:=hall q (by simp);rw[hoff,hs] at hx;obtain⟨r,h1,h2⟩:=h.op _ _ _ hx;obtain⟨r',h3,h4⟩:=k.op cs hN fun q' mP=>hall q' (by simp[mP]);refine⟨(r,r'),⟨h1,h3⟩,?_⟩
 grind [Xlw,drop_drop,take_append_drop]
theorem Xb6 {α:Type}{t:TypeId}{p:α->Prop}{f:α->List D} (ht:P.underlying t=some (.struct fs)) (hN:P.cellsOf t=N) (h:OpensF enc P W N fs.toList 0 p f):Opens enc P W t p f:=by
 refine⟨fun n cs x hx=> ?_⟩;obtain⟨xs,n',_,_,hl,hlen,hf⟩:=DataW.trod_struct ht hx;have:=h.op cs (hl.trans hN) fun q hq=>by
  grind [getElem?_of_mem]
 simpa using this
theorem X4Y {α:Type}{t:TypeId}{d:DataW H}{p:α->Prop}{f:α->List D} (ht:P.underlying t=some (.struct fs))
  (hval:Value.okWide P W r b0 t v) (hd:DataW.Trod enc P W 0 (fun _=>true) true t v d ps) (ho:Opens enc P W t p f):∃x,p x/\(AVal.agg ((f x).map .d)).sat (g0 W.cell?) v:=by
 simp only[Value.okWide,ht] at hval;obtain⟨cs,rfl,_,_⟩:=hval;obtain⟨n,hn⟩:=hd;obtain⟨x,h1,h2⟩:=ho.op _ _ _ hn;refine⟨x,h1,?_⟩;simp only[AVal.sat];exact⟨cs,rfl,XhG rfl h2⟩
theorem Xeu {t:TypeId}{k:IntKind}{d:DataW H} (ht:P.underlying t=some (.int k))
  (hval:Value.okWide P W r b0 t v) (hd:DataW.Trod enc P W 0 (fun _=>true) true t v d ps):∃n:Int,(Lit.int k n).wf=true/\(AVal.d (.v (.int k n))).sat (g0 W.cell?) v:=by
 grind [open_int,AVal.sat,D.rep,Value.oneCell']
end
section
variable {H:Type}{enc:TypeId×Value->H}{P:Program}{W:World}
structure OpensN {α:Type} (enc:TypeId×Value->H) (P:Program) (W:World) (n:Nat) (t:TypeId) (p:α->Prop) (f:α->List D):Prop where
 op:∀cs x,DataW.trod enc P W 0 (fun _=>true) true n t cs=some x->∃r,p r/\VK W.cell? (f r) cs
theorem Opens.at {α:Type}{t:TypeId}{p:α->Prop}{f:α->List D} (h:Opens enc P W t p f) (n:Nat):OpensN enc P W n t p f:=⟨h.op n⟩
theorem Xf3 {α:Type}{t:TypeId}{p:α->Prop}{f:α->List D} (h:∀n,OpensN enc P W n t p f):Opens enc P W t p f:=⟨fun n=>(h n).op⟩
theorem OpensN.to {α β:Type}{t:TypeId}{p:α->Prop}{f:α->List D} (h:OpensN enc P W n t p f) {q:β->Prop}{g:β->List D} (φ:α->β) (hφ:∀a,p a->q (φ a)/\f a=g (φ a)):OpensN enc P W n t q g:=by
 refine⟨fun cs x hx=> ?_⟩;obtain⟨r,h1,h2⟩:=h.op cs x hx
 grind
theorem XeY {α:Type}{t e:TypeId}{p:α->Prop}{f:α->List D} (ht:P.underlying t=some (.slice e)) (hz:P.cellsOf e=sz) (h0:0<sz) (ho:∀m,n=m+1->OpensN enc P W m e p f):
  OpensN enc P W n t (fun l:List α=>(∀r∈l,p r)/\l.length<=9223372036854775807) (fun l=>[.sl sz (l.map f)]):=by
 refine⟨fun cs x hx=> ?_⟩;rcases DataW.trod_slice ht hx with ⟨rfl,_⟩|⟨a,len,cap,elems,rest,n',hn,rfl,_,_,hl,hm,hlen,hel,_,_⟩
 ·refine⟨[],⟨by simp,by simp⟩,?_⟩
  grind [VK,D.rep]
 have lH:∀i,i<len->∃r,p r/\(f r).length=sz/\∀j d,(f r)[j]? =some d->∃u,W.cell? ((a.add (i*sz)).add j)=some u/\d.rep W.cell? u:=by
  intro i hi;have h0:=hel i hi;rw[getElem?_eq_getElem (by omega)] at h0;obtain⟨cs',h1,h2⟩:=Option.bind_eq_some_iff.1 h0;obtain⟨r,h3,h4⟩:=(ho n' hn).op _ _ h2;obtain⟨_,h5,h6⟩:=World.cells?_some h1
  grind [XcW,XfY]
 obtain⟨l,h1,h2⟩:=Xfm len lH;refine⟨l,⟨fun r hr=> ?_,by rw[h1];have hm':cap<=9223372036854775807:=hm;omega⟩,?_⟩
 ·grind [getElem?_of_mem]
 simp only[VK,D.rep];refine⟨⟨some a,cap,by grind,by grind,hm,?_⟩,TV⟩;by_cases jO:len=0
 ·grind
 right;obtain⟨b,o,sp⟩:=a;have hsp:sp=none:=by
  obtain⟨r,hr⟩:∃r,l[0]? =some r:=⟨_,getElem?_eq_getElem (by omega)⟩
  obtain⟨_,hlen,hcell⟩:=h2 0 r hr;obtain⟨d,hd⟩:∃d,(f r)[0]? =some d:=⟨_,getElem?_eq_getElem (by omega)⟩
  obtain⟨u,hu,_⟩:=hcell 0 d hd;simpa [Addr.add] using World.cell?_spot hu
 grind [X9s,X6K,Vf]
end
theorem Inv.part {L':Nat->AObj} (hi:Inv E L g w) (sp:Nat->Prop) (hM:g'.M=g.M)
  (gu:∀k,¬sp k->L' k=L k/\g'.az k=g.az k/\g'.hd k=g.hd k/\g'.aG k=g.aG k)
  (b8:∀k cs us,¬sp k->(L k).says=cs->Xx g cs us->Xx g' cs us)
  (gw:∀k,sp k->Ub g' w k (L' k))
  (hlv:∀k b,sp k->Xw g' (L' k) k b->∃k',sp k'/\Xw g (L k') k' b)
  (hinj:∀k k' b,sp k->sp k'->Xw g' (L' k) k b->Xw g' (L' k') k' b->k=k')
  (hkp:∀k,sp k->k<100->g.keeps g' k):Inv E L' g' w:=by
 have hl:∀k b,¬sp k->(Xw g' (L' k) k b↔Xw g (L k) k b):=fun k b hk=>by
  grind [X55]
 have nP:∀k b,Xw g' (L' k) k b->∃k',(sp k↔sp k')/\(¬sp k->k'=k)/\Xw g (L k') k' b:=by
  grind
 refine⟨fun k=> ?_,fun k k' b h h'=> ?_,fun a v h=> ?_,fun k b h a v ha=> ?_,fun k b h=> ?_,hM ▸ hi.ext,fun a v h=> ?_,hi.frame,hi.size,hi.os,hi.out,fun k hk=> ?_⟩
 ·by_cases hk:sp k
  ·exact gw k hk
  ·obtain⟨h1,h2,h3,h4⟩:=gu k hk;rw[h1];exact X8k (by grind [YH.refl]) h2 h3 h4 (fun _ _=>rfl) (fun cs us e hs=>b8 k cs us hk e hs) (hi.obj k)
 ·by_cases hk:sp k
  ·by_cases hk':sp k'
   ·grind
   ·obtain⟨j,h1,h2⟩:=hlv k b hk h;have:=hi.inj _ _ _ h2 ((hl k' b hk').1 h')
    grind
  ·by_cases hk':sp k'
   ·obtain⟨j,h1,h2⟩:=hlv k' b hk' h';have:=hi.inj _ _ _ ((hl k b hk).1 h) h2
    grind
   ·exact hi.inj _ _ _ ((hl k b hk).1 h) ((hl k' b hk').1 h')
 ·rw[hM] at h;exact hi.mem a v h
 ·rw[hM] at ha;obtain⟨k',_,_,h2⟩:=nP k b h;exact hi.sep k' b h2 a v ha
 ·obtain⟨k',_,_,h2⟩:=nP k b h;exact hi.new k' b h2
 ·rw[hM] at h;exact hi.lim a v h
 ·by_cases hk':sp k
  ·exact(hi.kp k hk).trans' (hkp k hk' hk)
  ·obtain⟨_,h2,h3,h4⟩:=gu k hk';exact(hi.kp k hk).trans' (Gh.keeps_of h2 h3 h4)
theorem Xwe (h:S.free γ=true) (t:Nat):(S.get t).ment γ=false:=by
 grind [St.free,X80,St.get,XeN,Xel,AVal.ment]
theorem XbQ (h:S.free γ=true):100<=γ:=by
 grind [St.free,Nat.ble_eq]
theorem X8w (hM:g'.M=g.M) (sp:Nat->Prop) (hsp:∀k,sp k->S.free k=true\/g.keeps g' k) (gu:∀k,¬sp k->g'.az k=g.az k/\g'.hd k=g.hd k/\g'.aG k=g.aG k)
  (h:∀t,(S.get t).sat g (a.tmps.getD t undef)):∀t,(S.get t).sat g' (a.tmps.getD t undef):=by grind [AVal.sat_mono,YH.refl,Xwe,Gh.keeps_of]
theorem X9I (hM:g'.M=g.M) (sp:Nat->Prop) (hsp:∀k,sp k->S.free k=true\/g.keeps g' k) (gu:∀k,¬sp k->g'.az k=g.az k/\g'.hd k=g.hd k/\g'.aG k=g.aG k)
  {k:Nat}{cs:List AVal}{us:List Value} (e:(S.obj k).says=cs) (h:Xx g cs us):Xx g' cs us:=
 X1R (by grind [YH.refl]) _ _ (fun γ hm=>by
  by_cases hk:sp γ
  ·rcases hsp γ hk with hf|hf
   ·have:=Xc0 hf k
    grind [AObj.ment]
   ·exact hf
  grind [Gh.keeps_of]) h
theorem XaL {c:Code}{ι:Type} (T:ι->St) (I:ι->Prop) (h:∀E a w,holds E S a w->∃i,I i/\holds E (T i) a w) (k:∀i,I i->AWP P E c (T i) Q):AWP P E c S Q:=
 ⟨fun a w hs=>let ⟨i,hI,hi⟩:=h E a w hs;(k i hI).run a w hi⟩
theorem Xkd {c:Code} (γ δ:Nat) {sz:Nat}{xs:List (List NC)} (hL:S.obj γ= .nest sz xs) (av:S.obj δ= .dead)
  (h:∀(rows:List (List D)) (hs:List Hd),rows.length=xs.length->X0G xs.flatten rows.flatten hs->(∀x∈rows,x.length=sz)->AWP P E c ⟨S.n,S.τ,(γ,.row sz rows)::(δ,.bag hs)::S.L⟩ Q):AWP P E c S Q:=by
 refine XaL (ι:=List (List D)×List Hd) (fun i=>⟨S.n,S.τ,(γ,.row sz i.1)::(δ,.bag i.2)::S.L⟩) (fun i=>i.1.length=xs.length/\X0G xs.flatten i.1.flatten i.2/\∀x∈i.1,x.length=sz) ?_ (fun i hi=>h i.1 i.2 hi.1 hi.2.1 hi.2.2);rintro E a w ⟨g,hs⟩;have hne:γ≠δ:=by grind
 have ho:=hs.1.obj γ;rw[hL] at ho;obtain⟨⟨rows,h1,h2,h3⟩,h4,h5⟩:=ho;refine⟨(rows,X4v (g.aG γ) xs),⟨h1,h2,h3.1⟩,g,?_,hs.2.1,hs.2.2.1,hs.2.2.2⟩;have aQ:Xp .dead ((γ,AObj.row sz rows)::(δ,.bag (X4v (g.aG γ) xs))::S.L) γ= .row sz rows:=YE _ _ _ _;have qw:Xp .dead ((γ,AObj.row sz rows)::(δ,.bag (X4v (g.aG γ) xs))::S.L) δ= .bag (X4v (g.aG γ) xs):=by grind [Yz,YE]
 refine Inv.part hs.1 (fun k=>k=γ\/k=δ) rfl (fun k hk=> ?_) (fun _ _ _ _ _ h=>h) (fun k hk=> ?_) (fun k b hk hb=> ?_) (fun k k' b hk hk' hb hb'=> ?_) (fun _ _ _=>Gh.keeps_refl _ _)
 ·grind [Yz,St.obj]
 ·grind [Ub,St.obj]
 ·grind [Xw,St.obj]
 ·have key:∀b,Xw g (.row sz rows) γ b->Xw g (.bag (X4v (g.aG γ) xs)) δ b->False:=fun b hb ⟨q,hq,gz⟩=>h5 q hq b gz hb
  grind [St.obj]
theorem XgL (us:Nat->Value):∀(l:List (Nat×List (List D))) (j:Nat) (hs:List Hd),hs.map (·.2)=l->(∀i h,hs[i]? =some h->us (j+i)=h.1)->Xbq us j l=hs
 |[],j,[],_,_=>rfl
 |[],j,h::hs,e,_=>by simp at e
 |p::l,j,[],e,_=>by simp at e
 |p::l,j,h::hs,e,hu=>by
  simp only[map_cons,cons.injEq] at e;rw[Xbq,XgL us l (j+1) hs e.2 fun i q hq=>by rw[show j+1+i=j+(i+1) by omega];exact hu (i+1) q (by simpa using hq)];have:=hu 0 h (by simp);rw[Nat.add_zero] at this;rw[this,<-e.1]
theorem XfQ:∀(cs:List NC) (ds:List D) (hs:List Hd),X0G cs ds hs->hs.map (·.2)=XcB cs
 |[],[],[],_=>rfl
 |[],[],_::_,h=>h.elim
 |[],_::_,_,h=>by simp[X0G] at h
 | .d x::cs,[],hs,h=>by simp[X0G] at h
 | .d x::cs,y::ds,hs,h=>XfQ cs ds hs h.2
 | .r z rows::cs,[],hs,h=>by simp[X0G] at h
 | .r z rows::cs,y::ds,[],h=>by simp[X0G] at h
 | .r z rows::cs,y::ds,k::hs,h=>by
  rw[map_cons,XfQ cs ds hs h.2.2,h.2.1];rfl
theorem XiM (γ δ:Nat) {sz:Nat}{rows:List (List D)}{hs:List Hd} (xs:List (List NC)) (hL:S.obj γ= .row sz rows) (hB:S.obj δ= .bag hs) (hlen:rows.length=xs.length) (hres:X0G xs.flatten rows.flatten hs):
  S.le ⟨S.n,S.τ,(γ,.nest sz xs)::(δ,.dead)::S.L⟩:=by
 rintro E a w ⟨g,hg⟩;have hne:γ≠δ:=by grind
 have ho:=hg.1.obj γ;rw[hL] at ho;have hb0:=hg.1.obj δ;rw[hB] at hb0;have ho:UK g w (g.hd γ) sz rows:=ho;have hb0:X1G g w hs:=hb0;let g':Gh:={g with aG:=fun k j=>if k=γ/\KK<=j then ((hs[j-KK]?).map (·.1)).getD undef else g.aG k j}
 have hH:X4v (g'.aG γ) xs=hs:=by
  refine XgL _ _ _ _ (XfQ _ _ _ hres) fun i h hi=> ?_;simp[g',hi]
 have hm:∀a m c,g.hd γ= .slice a m c->m<=KK:=by
  grind [maxLen,KK,UK]
 have aX:g.keeps g' γ:=⟨rfl,.inl rfl,fun i a m c e hi=>by
  grind⟩
 have fh:∀k,k≠γ->g'.az k=g.az k/\g'.hd k=g.hd k/\g'.aG k=g.aG k:=fun k hk=>⟨rfl,rfl,by grind⟩
 have aQ:Xp .dead ((γ,AObj.nest sz xs)::(δ,.dead)::S.L) γ= .nest sz xs:=YE _ _ _ _;have qw:Xp .dead ((γ,AObj.nest sz xs)::(δ,.dead)::S.L) δ= .dead:=by grind [Yz,YE]
 refine⟨g',Inv.part hg.1 (fun k=>k=γ\/k=δ) rfl (fun k hk=> ?_) (fun k cs us _ e h=>X9I (S:=S) (g:=g) (g':=g') rfl (fun k=>k=γ) (fun k e=> .inr (e ▸ aX)) fh e h) (fun k hk=> ?_) (fun k b hk hb=> ?_) (fun k k' b hk hk' hb hb'=> ?_) (fun k hk _=> ?_),hg.2.1,hg.2.2.1,X8w (g:=g) (g':=g') rfl (fun k=>k=γ) (fun k e=> .inr (e ▸ aX)) fh hg.2.2.2⟩
 ·grind [Yz,St.obj]
 ·show Ub _ _ _ (Xp _ _ _);rcases hk with rfl|rfl
  ·rw[aQ];refine⟨⟨rows,hlen,by rw[hH];exact hres,X4z (g:=g) (g':=g') (YH.refl _) (fun _ _=>rfl) ho⟩,by grind [Xg5,YH.refl],fun q hq b gz hb=> ?_⟩;rw[hH] at hq;exact hne (hg.1.inj _ _ b (by rw[hL];exact hb) (by grind [Xw]))
  ·rw[qw];trivial
 ·grind [Xw,St.obj]
 ·grind [Xw,St.obj]
 grind [Gh.keeps_of]
theorem XaI {cs:List AVal} (h:Xx g cs us) {j:Nat}{x:AVal} (hx:∀u,us[j]? =some u->x.sat g u):Xx g (cs.set j x) us:=by
 grind [US,X3B,VQ]
theorem Xjr:∀(us:List Value),Xx g (replicate us.length .any) us
 :=by intro x;induction x<;>simp_all [Xx,replicate_succ,AVal.sat]
theorem X2t (hk:k≠γ):(g.put γ b h).az k=g.az k/\(g.put γ b h).hd k=g.hd k/\(g.put γ b h).aG k=g.aG k:=⟨by simp[Gh.put,hk],by simp[Gh.put,hk],rfl⟩
theorem XhE (hs:Vi E S g a w) {γ β sz:Nat}{xs:List (List D)} (hL:S.obj γ= .row sz xs) (hne:0<xs.length) (av:S.obj β= .dead) (hf:S.free β=true):
  ∃c k b,xs.length<=c/\c<=maxLen/\c*sz<=xs.length*sz+k/\(∀x∈xs,x.length=sz)/\g.hd γ= .slice (some ⟨b,0,none⟩) xs.length c/\
   Vi E ⟨S.n,S.τ,(γ,.dead)::(β,.raw (xs.flatten.map some++replicate k none) none)::S.L⟩ (g.put β b undef) a w:=by
 have lI:γ≠β:=by grind
 have ho:=hs.1.obj γ;rw[hL] at ho;have ho:UK g w (g.hd γ) sz xs:=ho;rcases ho.2 with ⟨_,rfl⟩|⟨b,c,vs,e,fr,h1,h2,h3,h4,h5,h6,h7⟩
 ·simp at hne
 have mM:=X25 xs ho.1;have hle:xs.length*sz<=vs.size:=Nat.le_trans (Nat.mul_le_mul_right _ h2) h6;refine⟨c,vs.size-xs.length*sz,b,h2,h3,by omega,ho.1,h1,?_⟩;generalize hcs:xs.flatten.map some++replicate (vs.size-xs.length*sz) none=cs;have b8:Xx g (Yi cs none) vs.toList:=by
  rw[<-hcs,<-take_append_drop (xs.length*sz) vs.toList];have e1:Yi (xs.flatten.map some++replicate (vs.size-xs.length*sz) none) none=xs.flatten.map AVal.d++replicate (vs.size-xs.length*sz) .any:=by
   simp only[Yi,map_append,map_map,map_replicate];rfl
  grind [X4f,Xjr,LD]
 have fO:Xp .dead ((γ,AObj.dead)::(β,.raw cs none)::S.L) γ= .dead:=YE _ _ _ _;have jj:Xp .dead ((γ,AObj.dead)::(β,.raw cs none)::S.L) β= .raw cs none:=by grind [Yz,YE]
 have nQ:(g.put β b undef).az β=b:=by simp[Gh.put]
 refine⟨Inv.part hs.1 (fun k=>k=γ\/k=β) rfl (fun k hk=> ?_) (fun k cs us _ e h=>X9I (S:=S) (g:=g) (g':=g.put β b undef) rfl (fun k=>k=β) (fun k e=> .inl (e ▸ hf)) (fun k hk=>X2t hk) e h) (fun k hk=> ?_) (fun k b' hk hb=> ?_) (fun k k' b' hk hk' hb hb'=> ?_) (fun k hk gA=> ?_),hs.2.1,hs.2.2.1,X8w (S:=S) (g:=g) (g':=g.put β b undef) rfl (fun k=>k=β) (fun k e=> .inl (e ▸ hf)) (fun k hk=>X2t hk) hs.2.2.2⟩
 ·grind [Yz,St.obj,Gh.put]
 ·show Ub _ _ _ (Xp _ _ _);rcases hk with rfl|rfl
  ·rw[fO];trivial
  ·rw[jj];exact⟨vs,e,fr,by rw[nQ];exact h4,h5,XfX (g:=g) (g':=g.put k b undef) (YH.refl _) (fun vs h=>by cases vs<;>exact h) b8⟩
 ·replace hb:Xw _ (Xp _ _ _) k b':=hb;rcases hk with rfl|rfl
  ·grind [Xw]
  ·rw[jj] at hb;refine⟨γ,.inl rfl,?_⟩;rw[hL];replace hb:(g.put k b undef).az k=b':=hb;rw[nQ] at hb;subst hb;exact⟨_,_,_,h1,rfl⟩
 ·grind [Xw,St.obj]
 ·rcases hk with rfl|rfl
  ·grind [Gh.keeps_of,X2t]
  ·have:=XbQ hf;omega
theorem X2Z (t γ β:Nat) {sz n:Nat}{xs:List (List D)} (hL:S.obj γ= .row sz xs) (hne:0<xs.length) (ht:S.get t= .own γ n) (hn:n=xs.length) (av:S.obj β= .dead) (hf:S.free β=true)
  (h:∀c k:Nat,xs.length<=c->c<=maxLen->c*sz<=xs.length*sz+k->(∀x∈xs,x.length=sz)->AWP P E cd ⟨S.n,(t,.rs β 0 n c)::S.τ,(γ,.dead)::(β,.raw (xs.flatten.map some++replicate k none) none)::S.L⟩ Q):AWP P E cd S Q:=by
 refine XaL (ι:=Nat×Nat) (fun i=>⟨S.n,(t,.rs β 0 n i.1)::S.τ,(γ,.dead)::(β,.raw (xs.flatten.map some++replicate i.2 none) none)::S.L⟩) (fun i=>xs.length<=i.1/\i.1<=maxLen/\i.1*sz<=xs.length*sz+i.2/\∀x∈xs,x.length=sz) ?_ (fun i hi=>h i.1 i.2 hi.1 hi.2.1 hi.2.2.1 hi.2.2.2);rintro E a w ⟨g,hs⟩;obtain⟨c,k,b,h1,h2,h3,h4,h5,h6⟩:=XhE hs hL hne av hf;refine⟨(c,k),⟨h1,h2,h3,h4⟩,_,h6.1,h6.2.1,h6.2.2.1,fun t'=> ?_⟩;by_cases ot:t'=t
 ·subst ot;show AVal.sat _ (Xp .any ((t',_)::S.τ) t') _;rw[YE]
  grind [AVal.sat,Gh.put,Vi]
 grind [Yz,St.get,Vi]
theorem XhT (hs:Vi E S g a w) {κ i:Nat}{bs:List AVal}{y:AVal} (hK:S.obj κ= .box bs) {x:AVal} (hi:bs[i]? =some x) (hx:∀u,x.sat g u->y.sat g u) (hy:y.cellish=true):
  Vi E ⟨S.n,S.τ,(κ,.box (bs.set i y))::S.L⟩ g a w:=by
 have ho:=hs.1.obj κ;rw[hK] at ho;obtain⟨vs,e,fr,h1,h2,h3,h4⟩:=ho;refine⟨Inv.upd hs.1 κ _ (YE _ _ _ _) (fun k hk=>Yz _ _ _ (Ne.symm hk)) (fun _ _ _=>rfl) (Nat.le_refl _) rfl rfl rfl (fun _ _=>⟨rfl,rfl,rfl⟩) (fun _ _ _ _ _ h=>h) ?_ (fun b hb'=> .inl (by rw[hK];exact hb')) (fun _=>Gh.keeps_refl _ _),hs.2.1,hs.2.2.1,hs.2.2.2⟩
 grind [XaI,VQ,Ub]
theorem X3R (κ i γ β:Nat) {sz n:Nat}{xs:List (List D)}{bs:List AVal} (hL:S.obj γ= .row sz xs) (hne:0<xs.length) (hK:S.obj κ= .box bs) (hi:bs[i]? =some (.own γ n)) (hn:n=xs.length) (av:S.obj β= .dead) (hf:S.free β=true)
  (h:∀c k:Nat,xs.length<=c->c<=maxLen->c*sz<=xs.length*sz+k->(∀x∈xs,x.length=sz)->AWP P E cd ⟨S.n,S.τ,(κ,.box (bs.set i (.rs β 0 n c)))::(γ,.dead)::(β,.raw (xs.flatten.map some++replicate k none) none)::S.L⟩ Q):AWP P E cd S Q:=by
 refine XaL (ι:=Nat×Nat) (fun j=>⟨S.n,S.τ,(κ,.box (bs.set i (.rs β 0 n j.1)))::(γ,.dead)::(β,.raw (xs.flatten.map some++replicate j.2 none) none)::S.L⟩) (fun i=>xs.length<=i.1/\i.1<=maxLen/\i.1*sz<=xs.length*sz+i.2/\∀x∈xs,x.length=sz) ?_ (fun i hi=>h i.1 i.2 hi.1 hi.2.1 hi.2.2.1 hi.2.2.2);rintro E a w ⟨g,hs⟩;have ou:κ≠γ:=by grind
 have ov:κ≠β:=by grind
 obtain⟨c,k,b,h1,h2,h3,h4,h5,h6⟩:=XhE hs hL hne av hf;refine⟨(c,k),⟨h1,h2,h3,h4⟩,g.put β b undef,?_⟩;refine XhT (bs:=bs) h6 (show Xp _ _ _=_ by grind [Yz,St.obj]) hi (fun u hu=> ?_) rfl;have lI:γ≠β:=by grind
 simp only[AVal.sat] at hu |-;obtain⟨_,a',m,c',q1,q2,q3⟩:=hu
 grind [Gh.put]
theorem XmQ (hs:Vi E S g a w) {γ β sz n c:Nat}{cs:List (Option D)}{ys:List (List D)} (hL:S.obj β= .raw cs none) (hcs:cs.take (n*sz)=ys.flatten.map some) (hys:ys.length=n) (hsz:∀y∈ys,y.length=sz) (hc:n<=c) (eg:c<=maxLen) (hcap:c*sz<=cs.length)
  (av:S.obj γ= .dead) (hf:S.free γ=true):Vi E ⟨S.n,S.τ,(β,.dead)::(γ,.row sz ys)::S.L⟩ (g.put γ 0 (.slice (some ⟨g.az β,0,none⟩) n c)) a w:=by
 have lI:β≠γ:=by grind
 have ho:=hs.1.obj β;rw[hL] at ho;obtain⟨vs,e,fr,h1,h2,h3⟩:=ho;have hvl:vs.size=cs.length:=by have:=US h3;grind [Yi]
 have jj:Xp .dead ((β,AObj.dead)::(γ,.row sz ys)::S.L) β= .dead:=YE _ _ _ _;have fO:Xp .dead ((β,AObj.dead)::(γ,.row sz ys)::S.L) γ= .row sz ys:=by grind [Yz,YE]
 have cG:(g.put γ 0 (.slice (some ⟨g.az β,0,none⟩) n c)).hd γ= .slice (some ⟨g.az β,0,none⟩) n c:=by simp[Gh.put]
 refine⟨Inv.part hs.1 (fun k=>k=β\/k=γ) rfl (fun k hk=> ?_) (fun k cs us _ e h=>X9I (S:=S) (g:=g) (g':=g.put γ 0 (.slice (some ⟨g.az β,0,none⟩) n c)) rfl (fun k=>k=γ) (fun k e=> .inl (e ▸ hf)) (fun k hk=>X2t hk) e h) (fun k hk=> ?_) (fun k b' hk hb=> ?_) (fun k k' b' hk hk' hb hb'=> ?_) (fun k hk gA=> ?_),hs.2.1,hs.2.2.1,X8w (S:=S) (g:=g) (g':=g.put γ 0 (.slice (some ⟨g.az β,0,none⟩) n c)) rfl (fun k=>k=γ) (fun k e=> .inl (e ▸ hf)) (fun k hk=>X2t hk) hs.2.2.2⟩
 ·grind [Yz,St.obj,Gh.put]
 ·show Ub _ _ _ (Xp _ _ _);rcases hk with rfl|rfl
  ·rw[jj];trivial
  ·rw[fO];refine⟨hsz,.inr ⟨g.az β,c,vs,e,fr,by rw[cG,hys],by omega,eg,h1,h2,by omega,?_⟩⟩;have mQ:=X3g h3 (n*sz);rw[Yi,<-map_take,hcs,map_map] at mQ;rw[hys];exact X1R (g:=g) (g':=g.put k 0 (.slice (some ⟨g.az β,0,none⟩) n c)) (YH.refl _) _ _ (fun j hj=>by grind [Xcj]) mQ
 ·replace hb:Xw _ (Xp _ _ _) k b':=hb;rcases hk with rfl|rfl
  ·grind [Xw]
  ·rw[fO] at hb;refine⟨β,.inl rfl,?_⟩;rw[hL];obtain⟨a1,n1,c1,e1,e2⟩:=hb
   grind [Xw]
 ·grind [Xw,St.obj]
 ·rcases hk with rfl|rfl
  ·grind [Gh.keeps_of,X2t]
  ·have:=XbQ hf;omega
theorem X14 (t β γ:Nat) {sz n c:Nat}{cs:List (Option D)} (ys:List (List D)) (hL:S.obj β= .raw cs none) (ht:S.get t= .rs β 0 n c) (hcs:cs.take (n*sz)=ys.flatten.map some) (hys:ys.length=n) (hsz:∀y∈ys,y.length=sz) (hc:n<=c) (eg:c<=maxLen) (hcap:c*sz<=cs.length)
  (av:S.obj γ= .dead) (hf:S.free γ=true):S.le ⟨S.n,(t,.own γ n)::S.τ,(β,.dead)::(γ,.row sz ys)::S.L⟩:=by
 rintro E a w ⟨g,hs⟩;have h6:=XmQ hs hL hcs hys hsz hc eg hcap av hf;refine⟨_,h6.1,h6.2.1,h6.2.2.1,fun t'=> ?_⟩;by_cases ot:t'=t
 ·subst ot;show AVal.sat _ (Xp .any ((t',_)::S.τ) t') _;rw[YE];have hv:=hs.2.2.2 t';rw[ht] at hv;simp only[AVal.sat] at hv |-;rw[hv];exact⟨rfl,_,n,c,by grind [Gh.put],Nat.le_refl _,fun _=>rfl⟩
 grind [Yz,St.get,Vi]
theorem X8m (κ i β γ:Nat) {sz n c:Nat}{cs:List (Option D)}{bs:List AVal} (ys:List (List D)) (hL:S.obj β= .raw cs none) (hK:S.obj κ= .box bs) (hi:bs[i]? =some (.rs β 0 n c)) (hcs:cs.take (n*sz)=ys.flatten.map some) (hys:ys.length=n) (hsz:∀y∈ys,y.length=sz) (hc:n<=c) (eg:c<=maxLen) (hcap:c*sz<=cs.length)
  (av:S.obj γ= .dead) (hf:S.free γ=true):S.le ⟨S.n,S.τ,(κ,.box (bs.set i (.own γ n)))::(β,.dead)::(γ,.row sz ys)::S.L⟩:=by
 rintro E a w ⟨g,hs⟩;have ov:κ≠β:=by grind
 have ou:κ≠γ:=by grind
 have iH:β≠γ:=by grind
 have h6:=XmQ hs hL hcs hys hsz hc eg hcap av hf;refine⟨_,XhT (bs:=bs) h6 (show Xp _ _ _=_ by grind [Yz,St.obj]) hi (fun u hu=> ?_) rfl⟩;simp only[AVal.sat] at hu |-;rw[hu,(X2t iH).1];exact⟨rfl,_,n,c,by grind [Gh.put],Nat.le_refl _,fun _=>rfl⟩
theorem XgZ {h:Hd} (hb:X1G g w (A++h::B)):X1G g w (A++B)/\UK g w h.1 h.2.1 h.2.2/\∀q∈A++B,∀b,YV q.1 b->¬YV h.1 b:=by
 obtain⟨h1,h2⟩:=hb;obtain⟨p1,p2,p3⟩:=pairwise_append.1 h2;obtain⟨p4,p5⟩:=pairwise_cons.1 p2;refine⟨⟨fun k hk=>h1 k ?_,pairwise_append.2 ⟨p1,p5,fun a ha b hb=>p3 a ha b (mem_cons_of_mem _ hb)⟩⟩,h1 h (by simp),fun q hq b gz uK=> ?_⟩<;>grind
theorem Xha {h:Hd} (hb:X1G g w (A++B)) (hr:UK g w h.1 h.2.1 h.2.2) (ha:∀q∈A++B,∀b,YV q.1 b->¬YV h.1 b):X1G g w (A++h::B):=by
 obtain⟨h1,h2⟩:=hb;obtain⟨p1,p2,p3⟩:=pairwise_append.1 h2;refine⟨fun k hk=> ?_,pairwise_append.2 ⟨p1,pairwise_cons.2 ⟨fun q hq b hb gz=>ha q (mem_append_right _ hq) b gz hb,p2⟩,fun a gX b hb=> ?_⟩⟩<;>grind
theorem Xmc (hr:UK g w h sz xs):∃a c,h= .slice a xs.length c:=by
 grind [UK]
theorem X5t (β δ j γ:Nat) {cs:List (Option D)}{A B:List Hd}{u:Value}{z:Nat}{rows:List (List D)} (hL:S.obj β= .raw cs none) (hj:cs[j]? =some (some (.v u))) (hB:S.obj δ= .bag (A++(u,z,rows)::B)) (av:S.obj γ= .dead) (hf:S.free γ=true):
  S.le ⟨S.n,S.τ,(β,.raw cs (some (j,.own γ rows.length)))::(δ,.bag (A++B))::(γ,.row z rows)::S.L⟩:=by
 rintro E a w ⟨g,hs⟩;have iI:β≠δ:=by grind
 have iH:β≠γ:=by grind
 have lJ:δ≠γ:=by grind
 have ho:=hs.1.obj β;rw[hL] at ho;have hb:=hs.1.obj δ;rw[hB] at hb;obtain⟨b1,b2,b3⟩:=XgZ (show X1G g w (A++(u,z,rows)::B) from hb);have b2:UK g w u z rows:=b2;obtain⟨ua,uc,hu⟩:=Xmc b2;have cG:(g.put γ 0 u).hd γ=u:=by simp[Gh.put]
 have jj:Xp .dead ((β,AObj.raw cs (some (j,.own γ rows.length)))::(δ,.bag (A++B))::(γ,.row z rows)::S.L) β= .raw cs (some (j,.own γ rows.length)):=YE _ _ _ _;have lK:Xp .dead ((β,AObj.raw cs (some (j,.own γ rows.length)))::(δ,.bag (A++B))::(γ,.row z rows)::S.L) δ= .bag (A++B):=by grind [Yz,YE]
 have fO:Xp .dead ((β,AObj.raw cs (some (j,.own γ rows.length)))::(δ,.bag (A++B))::(γ,.row z rows)::S.L) γ= .row z rows:=by grind [Yz,YE]
 refine⟨g.put γ 0 u,Inv.part hs.1 (fun k=>k=β\/k=δ\/k=γ) rfl (fun k hk=> ?_) (fun k cs us _ e h=>X9I (S:=S) (g:=g) (g':=g.put γ 0 u) rfl (fun k=>k=γ) (fun k e=> .inl (e ▸ hf)) (fun k hk=>X2t hk) e h) (fun k hk=> ?_) (fun k b hk hb=> ?_) (fun k k' b hk hk' hb hb'=> ?_) (fun k hk gA=> ?_),hs.2.1,hs.2.2.1,X8w (S:=S) (g:=g) (g':=g.put γ 0 u) rfl (fun k=>k=γ) (fun k e=> .inl (e ▸ hf)) (fun k hk=>X2t hk) hs.2.2.2⟩
 ·grind [Yz,St.obj,Gh.put]
 ·show Ub _ _ _ (Xp _ _ _);rcases hk with rfl|rfl|rfl
  ·rw[jj];obtain⟨vs,e,fr,h1,h2,h3⟩:=ho;refine⟨vs,e,fr,by grind [X2t],h2,?_⟩;have mQ:=XfX (g:=g) (g':=g.put γ 0 u) (YH.refl _) (fun vs h=>by cases vs<;>exact h) h3;refine XaI mQ fun v hv=> ?_;obtain⟨v',q1,q2⟩:=VQ h3 j (.d (.v u)) (by simp only[Yi,getElem?_map,hj];rfl)
   grind [AVal.sat,D.rep]
  ·grind [Xg5,YH.refl,Ub,Gh.put]
  grind [X4z,YH.refl,Ub,Gh.put]
 ·replace hb:Xw _ (Xp _ _ _) k b:=hb;rcases hk with rfl|rfl|rfl
  ·grind [Xw,Gh.put]
  ·rw[lK] at hb;obtain⟨q,hq,gz⟩:=hb
   grind [Xw]
  ·rw[fO] at hb;replace hb:YV ((g.put k 0 u).hd k) b:=hb;rw[cG] at hb;exact⟨δ,.inr (.inl rfl),by rw[hB];exact⟨(u,z,rows),by simp,hb⟩⟩
 ·have hold:∀k b,k=δ\/k=γ->Xw (g.put γ 0 u) (Xp .dead ((β,AObj.raw cs (some (j,.own γ rows.length)))::(δ,.bag (A++B))::(γ,.row z rows)::S.L) k) k b->Xw g (S.obj δ) δ b:=by
   intro k b hk hb;rw[hB];rcases hk with rfl|rfl
   ·rw[lK] at hb;obtain⟨q,hq,gz⟩:=hb
    grind [Xw]
   ·rw[fO] at hb;replace hb:YV ((g.put k 0 u).hd k) b:=hb;rw[cG] at hb;exact⟨(u,z,rows),by simp,hb⟩
  have kL:∀b,Xw (g.put γ 0 u) (Xp .dead ((β,AObj.raw cs (some (j,.own γ rows.length)))::(δ,.bag (A++B))::(γ,.row z rows)::S.L) β) β b->Xw g (S.obj β) β b:=by
   grind [Xw,Gh.put]
  have sC:∀b,Xw (g.put γ 0 u) (Xp .dead ((β,AObj.raw cs (some (j,.own γ rows.length)))::(δ,.bag (A++B))::(γ,.row z rows)::S.L) δ) δ b->Xw (g.put γ 0 u) (Xp .dead ((β,AObj.raw cs (some (j,.own γ rows.length)))::(δ,.bag (A++B))::(γ,.row z rows)::S.L) γ) γ b->False:=by
   intro b hb hb';rw[lK] at hb;rw[fO] at hb';replace hb':YV ((g.put γ 0 u).hd γ) b:=hb';rw[cG] at hb';obtain⟨q,hq,gz⟩:=hb
   grind
  replace hb:Xw _ (Xp _ _ _) k b:=hb;replace hb':Xw _ (Xp _ _ _) k' b:=hb';rcases hk with rfl|hk
  ·rcases hk' with rfl|hk'
   ·rfl
   ·exact absurd (hs.1.inj _ _ b (kL b hb) (hold k' b hk' hb')) iI
  ·rcases hk' with rfl|hk'
   ·exact absurd (hs.1.inj _ _ b (kL b hb') (hold k b hk hb)) iI
   grind
 ·rcases hk with rfl|rfl|rfl
  ·grind [Gh.keeps_of,X2t]
  ·grind [Gh.keeps_of,X2t]
  ·have:=XbQ hf;omega
theorem XnE (β δ j γ:Nat) {cs:List (Option D)} (A B:List Hd) {z n:Nat}{rows:List (List D)} (hL:S.obj β= .raw cs (some (j,.own γ n))) (hj:j<cs.length) (hB:S.obj δ= .bag (A++B)) (hr:S.obj γ= .row z rows) (hn:n=rows.length) (hs:holds E S a w):
  ∃u:Value,holds E ⟨S.n,S.τ,(β,.raw (cs.set j (some (.v u))) none)::(δ,.bag (A++(u,z,rows)::B))::(γ,.dead)::S.L⟩ a w:=by
 obtain⟨g,hs⟩:=hs;have iI:β≠δ:=by grind
 have iH:β≠γ:=by grind
 have lJ:δ≠γ:=by grind
 have ho:=hs.1.obj β;rw[hL] at ho;have hb:=hs.1.obj δ;rw[hB] at hb;have cX:=hs.1.obj γ;rw[hr] at cX;have hrow:UK g w (g.hd γ) z rows:=cX;refine⟨g.hd γ,g,?_,hs.2.1,hs.2.2.1,hs.2.2.2⟩;have jj:Xp .dead ((β,AObj.raw (cs.set j (some (.v (g.hd γ)))) none)::(δ,.bag (A++(g.hd γ,z,rows)::B))::(γ,.dead)::S.L) β= .raw (cs.set j (some (.v (g.hd γ)))) none:=YE _ _ _ _;have lK:Xp .dead ((β,AObj.raw (cs.set j (some (.v (g.hd γ)))) none)::(δ,.bag (A++(g.hd γ,z,rows)::B))::(γ,.dead)::S.L) δ= .bag (A++(g.hd γ,z,rows)::B):=by grind [Yz,YE]
 have fO:Xp .dead ((β,AObj.raw (cs.set j (some (.v (g.hd γ)))) none)::(δ,.bag (A++(g.hd γ,z,rows)::B))::(γ,.dead)::S.L) γ= .dead:=by grind [Yz,YE]
 have mR:∀q∈A++B,∀b,YV q.1 b->¬YV (g.hd γ) b:=fun q hq b gz hb'=>lJ (hs.1.inj _ _ b (by grind [Xw]) (by rw[hr];exact hb'));have qx:∀b,Xw g (.bag (A++(g.hd γ,z,rows)::B)) δ b->Xw g (S.obj δ) δ b\/Xw g (S.obj γ) γ b:=by
  rintro b ⟨q,hq,gz⟩
  grind [Xw]
 refine Inv.part hs.1 (fun k=>k=β\/k=δ\/k=γ) rfl (fun k hk=> ?_) (fun k cs us _ e h=>h) (fun k hk=> ?_) (fun k b hk hb=> ?_) (fun k k' b hk hk' hb hb'=> ?_) (fun k hk gA=>Gh.keeps_refl _ _)
 ·grind [Yz,St.obj]
 ·show Ub _ _ _ (Xp _ _ _);rcases hk with rfl|rfl|rfl
  ·rw[jj];obtain⟨vs,e,fr,h1,h2,h3⟩:=ho;refine⟨vs,e,fr,h1,h2,?_⟩;have e1:Yi (cs.set j (some (.v (g.hd γ)))) none=(Yi cs (some (j,.own γ n))).set j (.d (.v (g.hd γ))):=by
    simp only[Yi,map_set,set_set];rfl
   grind [XaI,VQ,Yi,getElem?_set_self,X3Y,AVal.sat,X02]
  ·rw[lK];exact Xha hb hrow mR
  ·rw[fO];trivial
 ·grind [Xw,St.obj]
 ·have key:∀b,Xw g (.raw (cs.set j (some (.v (g.hd γ)))) none) β b->Xw g (.bag (A++(g.hd γ,z,rows)::B)) δ b->False:=by
   intro b q1 q2;have q1:Xw g (S.obj β) β b:=by rw[hL];exact q1
   rcases qx b q2 with q|q
   ·exact iI (hs.1.inj _ _ b q1 q)
   ·exact iH (hs.1.inj _ _ b q1 q)
  grind [Xw,St.obj]
theorem XcM (β δ j γ:Nat) {cs:List (Option D)} (A B:List Hd) {z n:Nat}{rows:List (List D)} (hL:S.obj β= .raw cs (some (j,.own γ n))) (hj:j<cs.length) (hB:S.obj δ= .bag (A++B)) (hr:S.obj γ= .row z rows) (hn:n=rows.length)
  (h:∀u:Value,AWP P E cd ⟨S.n,S.τ,(β,.raw (cs.set j (some (.v u))) none)::(δ,.bag (A++(u,z,rows)::B))::(γ,.dead)::S.L⟩ Q):AWP P E cd S Q:=
 XaL (ι:=Value) (fun u=>⟨S.n,S.τ,(β,.raw (cs.set j (some (.v u))) none)::(δ,.bag (A++(u,z,rows)::B))::(γ,.dead)::S.L⟩) (fun _=>True) (fun E a w hs=>let ⟨u,hu⟩:=XnE β δ j γ A B hL hj hB hr hn hs;⟨u,TV,hu⟩) (fun u _=>h u)
theorem Xmo (δ:Nat) {hs:List Hd} (hs':List Hd) (hB:S.obj δ= .bag hs) (h:∀g w,X1G g w hs->X1G g w hs') (hl:∀q∈hs',q∈hs\/∀b,¬YV q.1 b):S.le ⟨S.n,S.τ,(δ,.bag hs')::S.L⟩:=by
 rintro E a w ⟨g,hg⟩;have hb:=hg.1.obj δ;rw[hB] at hb;refine⟨g,Inv.upd hg.1 δ _ (YE _ _ _ _) (fun k hk=>Yz _ _ _ (Ne.symm hk)) (fun _ _ _=>rfl) (Nat.le_refl _) rfl rfl rfl (fun _ _=>⟨rfl,rfl,rfl⟩) (fun _ _ _ _ _ h=>h) (h g w hb) (fun b hb'=> .inl ?_) (fun _=>Gh.keeps_refl _ _),hg.2.1,hg.2.2.1,hg.2.2.2⟩;obtain⟨q,hq,gz⟩:=hb'
 grind [Xw]
theorem XkI (b:Nat):¬YV (.slice none 0 0) b:=by
 grind [YV]
theorem Xfe (δ z:Nat) (A B:List Hd) (hB:S.obj δ= .bag (A++B)):S.le ⟨S.n,S.τ,(δ,.bag (A++(.slice none 0 0,z,[])::B))::S.L⟩:=
 Xmo δ _ hB (fun g w h=>Xha h ⟨by simp,.inl ⟨rfl,rfl⟩⟩ (fun q _ b _=>XkI b)) (fun q hq=>by
  grind [XkI])
theorem Xe7 (δ:Nat) (A B:List Hd) (h:Hd) (hB:S.obj δ= .bag (A++h::B)):S.le ⟨S.n,S.τ,(δ,.bag (A++B))::S.L⟩:=by grind [Xmo,XgZ]
theorem XbC (δ:Nat) (av:S.obj δ= .dead):S.le ⟨S.n,S.τ,(δ,.bag [])::S.L⟩:=by
 rintro E a w ⟨g,hg⟩;refine⟨g,Inv.upd hg.1 δ _ (YE _ _ _ _) (fun k hk=>Yz _ _ _ (Ne.symm hk)) (fun _ _ _=>rfl) (Nat.le_refl _) rfl rfl rfl (fun _ _=>⟨rfl,rfl,rfl⟩) (fun _ _ _ _ _ h=>h) ⟨by simp,Pairwise.nil⟩ (fun b hb'=> ?_) (fun _=>Gh.keeps_refl _ _),hg.2.1,hg.2.2.1,hg.2.2.2⟩
 grind [Xw]
def clo (E:Env) (Q:Exit->St->Prop) (e:Exit) (T:St):Prop:=∀a w,holds E T a w->∃U,Q e U/\holds E U a w
theorem Xal (h:AWP P E cd S (clo E Q)):AWP P E cd S Q:=
 ⟨fun a w hs=>wp_mono (h.run a w hs) fun e a' w' ⟨T,h1,h2⟩=>h1 a' w' h2⟩
theorem X3h (h:S.le T) (k:clo E Q e T):clo E Q e S:=fun a w hs=>k a w (h E a w hs)
theorem Xcl (h:Q e S):clo E Q e S:=fun a w hs=>⟨S,h,hs⟩
theorem Xcw (β δ j γ:Nat) {cs:List (Option D)} (A B:List Hd) {z n:Nat}{rows:List (List D)} (hL:S.obj β= .raw cs (some (j,.own γ n))) (hj:j<cs.length) (hB:S.obj δ= .bag (A++B)) (hr:S.obj γ= .row z rows) (hn:n=rows.length)
  (h:∀u:Value,clo E Q e ⟨S.n,S.τ,(β,.raw (cs.set j (some (.v u))) none)::(δ,.bag (A++(u,z,rows)::B))::(γ,.dead)::S.L⟩):clo E Q e S:=fun a w hs=>
 let ⟨u,hu⟩:=XnE β δ j γ A B hL hj hB hr hn hs
 h u a w hu
section
variable {P:Program}
theorem XmZ (hi:Inv E S.obj g w) {β o:Nat}{cs cs':List (Option D)}{ho ho':Option (Nat×AVal)}{ys:List AVal} (hL:S.obj β= .raw cs ho) {news:Array Value} (hs:Xx g ys news.toList) (h1:∀u∈news.toList,u.oneCell'=true) (hb:o+ys.length<=cs.length)
  (hc:Yi cs' ho'=(Yi cs ho).take o++ys++(Yi cs ho).drop (o+ys.length)):
  ∃w',(storeCells ⟨g.az β,o,none⟩ news.toList).run P w= .ok () w'/\Inv E (Xp .dead ((β,.raw cs' ho')::S.L)) g w':=by
 have gy:=hi.obj β;rw[hL] at gy;obtain⟨vs,e,fr,h2,h3,h4⟩:=gy;have hlen:news.toList.length=ys.length:=US hs;have hrl:(Yi cs ho).length=cs.length:=by cases ho<;>simp[Yi]
 have hvl:vs.size=cs.length:=by have:=US h4;grind
 obtain⟨vs',k1,k2⟩:=X6D (P:=P) (g.az β) e fr vs.size h3 news.toList o 0 vs w h2 rfl (by rw[hlen];omega) h1;simp only[Nat.add_zero,hlen] at k1 k2;have lC:vs'.size=vs.size:=by
  grind [LA]
 refine⟨w.setRow (g.az β) vs',k1,Inv.upd hi β _ (YE _ _ _ _) (fun k hk=>Yz _ _ _ (Ne.symm hk)) (fun b hb ax=> ?_) (by simp) rfl rfl rfl (fun k hk=>⟨rfl,rfl,rfl⟩) (fun k cs us _ _ h=>h) ?_ (fun b hb=> .inl (by rw[hL];exact hb)) (fun _=>Gh.keeps_refl _ _)⟩
 ·grind [setRow_other,Xw]
 ·refine⟨vs',e,fr,setRow_heap w _ vs _ e fr h2,by rw[lC];exact h3,?_⟩
  grind [X4f,X3g,X4g]
theorem X9i (hi:Inv E S.obj g w) {β o:Nat}{cs ys:List (Option D)} (hL:S.obj β= .raw cs none) {news:Array Value} (hs:Xx g (ys.map oA) news.toList) (h1:∀u∈news.toList,u.oneCell'=true) (hb:o+ys.length<=cs.length):
  ∃w',(storeCells ⟨g.az β,o,none⟩ news.toList).run P w= .ok () w'/\Inv E (Xp .dead ((β,.raw (cs.take o++ys++cs.drop (o+ys.length)) none)::S.L)) g w':=
 XmZ hi hL hs h1 (by grind) (by grind [Yi,map_take,map_drop])
theorem Xe4 {q:Nat} (ho:Ub g w β (.raw cs none)) (hb:o+q<=cs.length):
  ∃vs:List Value,vs.length=q/\Xx g (((cs.drop o).take q).map oA) vs/\∀w',w'.heap=w.heap->(loadCells ⟨g.az β,o,none⟩ q).run P w'= .ok vs.toArray w':=by
 obtain⟨vs,e,fr,h2,h3,h4⟩:=ho;have hsub:=X3g (X4g h4 o) q
 grind [US,Yi,LM,map_take,map_drop,run_loadCells_list,Vf,cell_of_row]
def X0S:List (Option D)->Bool
 |[]=>true
 |c::r=>c.isSome&&X0S r
theorem XcK:∀{cs:List (Option D)}{us:List Value},X0S cs=true->Xx g (cs.map oA) us->∀u∈us,u.oneCell'=true
 |[],[],_,_,u,hu=>by simp at hu
 |[],_::_,_,h,_,_=>h.elim
 |c::cs,[],_,h,_,_=>h.elim
 |c::cs,v::us,hc,h,u,hu=>by
  simp only[X0S,Bool.and_eq_true] at hc;simp only[map_cons,Xx] at h;rcases mem_cons.1 hu with rfl|hu
  ·cases c with
   |none=>simp at hc
   |some d=>exact D.rep_one (by simpa only[oA,AVal.sat] using h.1)
  ·exact XcK hc.2 h.2 u hu
theorem XkY {ys:List AVal} (h:Xx g ys us) (hc:X2H ys=true):∀u∈us,u.oneCell'=true:=by
 intro u hu;obtain⟨i,hi⟩:=getElem?_of_mem hu;have hl:=US h;have hlt:i<us.length:=(GS.1 hi).1;obtain⟨u',h1,h2⟩:=VQ h i _ (getElem?_eq_getElem (by omega))
 grind [AVal.sat_one,X5L,getElem_mem]
variable {ops:Array Oper}{draw:Bool}{K:XW->St->Prop}{rest:List Oper}{l:XW}{S:St}
variable {d:Nat}{ty:TypeId}{pos:String}{ah:Array Edge}{gd:Option (Nat×Bool)}
theorem X2z (h:(AVal.rs β o n c).sat g u):u= .slice (some ⟨g.az β,o,none⟩) n c:=by grind [AVal.sat]
theorem X06 {T:TypeId} (hx:S.ev x= .rs β o n c) (hT:cm P T=true)
  (hd:Nat.blt d S.n=true) (hg:XH ops S gd)
  (h:Walk P ops draw K rest ((l.length,⟨some d,.call ⟨.builtin .len,#[x],#[T]⟩,ty,pos,ah,gd⟩,⟨XF ops gd++[(x,.rs β o n c)],some (d,ai n),[],[],[]⟩)::l) (S.set d (ai n))):
  Walk P ops draw K (⟨some d,.call ⟨.builtin .len,#[x],#[T]⟩,ty,pos,ah,gd⟩::rest) l S:=
 Yj h hg (Ug rfl fun E S g a w hs hq hl=>by
  obtain⟨e,h1⟩:=X5k hT;have hv:=X2z hq.1;refine⟨.int .i64 n,?_,X02 rfl⟩;simp[execOp,resolve,invoke,builtin,hv,Builtin.len_,run_underlying h1,goInt]) ⟨⟨hx,TV⟩,TV,TV,hd⟩
theorem X4o {T:TypeId} (hx:S.ev x= .rs β o n c) (hT:cm P T=true)
  (hd:Nat.blt d S.n=true) (hg:XH ops S gd)
  (h:Walk P ops draw K rest ((l.length,⟨some d,.call ⟨.builtin .cap,#[x],#[T]⟩,ty,pos,ah,gd⟩,⟨XF ops gd++[(x,.rs β o n c)],some (d,ai c),[],[],[]⟩)::l) (S.set d (ai c))):
  Walk P ops draw K (⟨some d,.call ⟨.builtin .cap,#[x],#[T]⟩,ty,pos,ah,gd⟩::rest) l S:=
 Yj h hg (Ug rfl fun E S g a w hs hq hl=>by
  obtain⟨e,h1⟩:=X5k hT;have hv:=X2z hq.1;refine⟨.int .i64 c,?_,X02 rfl⟩;simp[execOp,resolve,invoke,builtin,hv,Builtin.cap_,run_underlying h1,goInt]) ⟨⟨hx,TV⟩,TV,TV,hd⟩
theorem XvP {i:Operand}{T:TypeId}{p:Nat}{m:Int} (hx:S.ev x= .rs β o n c) (hi:S.ev i= .d (.v (.int kd m))) (hk:m=(k:Nat)) (hlt:k<n) (hp:o+k*sz=p)
  (hT:UF P T sz=true) (hd:Nat.blt d S.n=true) (hg:XH ops S gd)
  (h:Walk P ops draw K rest ((l.length,⟨some d,.indexAddr T x i,ty,pos,ah,gd⟩,⟨XF ops gd++[(x,.rs β o n c),(i,.d (.v (.int kd m)))],some (d,.ptr β p),[],[],[]⟩)::l) (S.set d (.ptr β p))):
  Walk P ops draw K (⟨some d,.indexAddr T x i,ty,pos,ah,gd⟩::rest) l S:=
 Yj h hg (Ug rfl fun E S g a w hs hq hl=>by
  obtain⟨e,h1,h2,h3⟩:=X1K hT;have hv:=X2z hq.1;refine⟨.pointer (some ⟨g.az β,p,none⟩),?_,by simp only[AVal.sat]⟩;have hb:(0:Int)<=m/\m<(n:Int):=by omega
  have hm:m.toNat=k:=by omega
  have:=run_indexAt_slice (P:=P) w T ⟨g.az β,o,none⟩ n c kd m (by rw[h3];exact h1);rw[PI hb,h3,h2 w,Result.andThen_ok,Vf,hm,hp] at this;simp only[execOp,hv,Up hq.2.1,Sem.run_bind,this];rfl) ⟨⟨hx,hi,TV⟩,TV,TV,hd⟩
theorem X0L {t:TypeId}{y:AVal} (hx:S.ev x= .ptr γ o) (hL:S.obj γ= .raw cs ho) (hy:(Yi cs ho)[o]? =some y)
  (ht:X1g P t false 1=true) (hd:Nat.blt d S.n=true) (hg:XH ops S gd)
  (h:Walk P ops draw K rest ((l.length,⟨some d,.load t x,ty,pos,ah,gd⟩,⟨XF ops gd++[(x,.ptr γ o)],some (d,y),[(γ,.raw cs ho)],[],[]⟩)::l) (S.set d (y))):
  Walk P ops draw K (⟨some d,.load t x,ty,pos,ah,gd⟩::rest) l S:=
 Yj h hg (Ug rfl fun E S g a w hs hq hl=>by
  have ho:=hs.1.obj γ;rw[hl.1] at ho;obtain⟨vs,e,fr,h1,h2,h3⟩:=ho;obtain⟨u,hu,g8⟩:=VQ h3 o y hy;refine⟨u,?_,g8⟩;have hp:a.eval x= .pointer (some ⟨g.az γ,o,none⟩):=by grind [AVal.sat,VD]
  have hc:w.cell? ⟨g.az γ,o,none⟩=some u:=by grind [cell_of_row]
  simp_all [execOp,Instr.loadAt,Instr.sureAddr,X7S]) ⟨⟨hx,TV⟩,⟨hL,TV⟩,TV,hd⟩
theorem Xso {t:TypeId}{ys:List AVal} (hx:S.ev x= .ptr γ o) (hL:S.obj γ= .raw cs ho)
  (ht:X1g P t true sz=true) (hy:((Yi cs ho).drop o).take sz=ys) (hlen:ys.length=sz) (hd:Nat.blt d S.n=true) (hg:XH ops S gd)
  (h:Walk P ops draw K rest ((l.length,⟨some d,.load t x,ty,pos,ah,gd⟩,⟨XF ops gd++[(x,.ptr γ o)],some (d,.agg ys),[(γ,.raw cs ho)],[],[]⟩)::l) (S.set d (.agg ys))):
  Walk P ops draw K (⟨some d,.load t x,ty,pos,ah,gd⟩::rest) l S:=
 Yj h hg (Ug rfl fun E S g a w hs hq hl=>by
  have ho:=hs.1.obj γ;rw[hl.1] at ho;obtain⟨vs,e,fr,h1,h2,h3⟩:=ho;have hsub:=X3g (X4g h3 o) sz;rw[hy] at hsub;have b7:=US hsub;refine⟨.agg ((vs.toList.drop o).take sz).toArray,?_,by grind [AVal.sat]⟩;have hp:a.eval x= .pointer (some ⟨g.az γ,o,none⟩):=by grind [AVal.sat,VD]
  have:=X8B (P:=P) (p:=⟨g.az γ,o,none⟩) (w:=w) (vs:=(vs.toList.drop o).take sz) (t:=t) (by grind) (fun j v hv=>by
   grind [Vf,cell_of_row])
  simp_all [execOp,Instr.loadAt,Instr.sureAddr]) ⟨⟨hx,TV⟩,⟨hL,TV⟩,TV,hd⟩
theorem Xp1 {t:TypeId}{v:Operand}{ho':Option (Nat×AVal)}{y:AVal} (hx:S.ev x= .ptr γ o) (hL:S.obj γ= .raw cs ho) (hv:S.ev v=y) (hc:X2H y.parts=true)
  (ht:X6o P t y.parts.length=true) (hb:o+y.parts.length<=cs.length) (hcs:Yi cs' ho'=(Yi cs ho).take o++y.parts++(Yi cs ho).drop (o+y.parts.length)) (hg:XH ops S gd)
  (h:Walk P ops draw K rest ((l.length,⟨none,.store t x v,ty,pos,ah,gd⟩,⟨XF ops gd++[(x,.ptr γ o),(v,y)],none,[(γ,.raw cs ho)],[(γ,.raw cs' ho')],[]⟩)::l)
   (S.own γ (.raw cs' ho'))):
  Walk P ops draw K (⟨none,.store t x v,ty,pos,ah,gd⟩::rest) l S:=by
 refine Yj h hg (Xbx rfl fun E S g a w hs hq hl hn=> ?_) ⟨⟨hx,hv,TV⟩,⟨hL,TV⟩,TV,TV⟩;have hp:a.eval x= .pointer (some ⟨g.az γ,o,none⟩):=by grind [AVal.sat,VD]
 have hps:=X9f hq.2.1 hc;obtain⟨w',k1,k2⟩:=XmZ (P:=P) hs.1 hl.1 hps (XkY hps hc) hb hcs;have hlen:(a.eval v).cells.toList.length=y.parts.length:=US hps;refine⟨g,w',?_,k2,hs.2.2.2⟩;have hsz:=Xbl ht w;simp_all [execOp,Instr.storeAt,Instr.sureAddr,storeVar]
theorem XnS {T:TypeId}{lo hi:Option Operand}{o' c':Nat} (hx:S.ev x= .rs β o n c) (hlo:X90 S lo lb) (hhi:X99 S n hi hb) (c8:lb<=hb) (hh:hb<=c)
  (hm:hb-lb=m) (jP:c-lb=c') (ho':(if c=lb then o else o+lb*sz)=o')
  (hT:UF P T sz=true) (hd:Nat.blt d S.n=true) (hg:XH ops S gd)
  (h:Walk P ops draw K rest ((l.length,⟨some d,.slice T x lo hi none,ty,pos,ah,gd⟩,⟨XF ops gd++((x,.rs β o n c)::(X2N lo lb++X2N hi hb)),some (d,.rs β o' m c'),[],[],[]⟩)::l) (S.set d (.rs β o' m c'))):
  Walk P ops draw K (⟨some d,.slice T x lo hi none,ty,pos,ah,gd⟩::rest) l S:=by
 refine Yj h hg (Ug rfl fun E S g a w hs hq hl=> ?_) ⟨⟨hx,Xje.2 ⟨XaE fun y e=>by subst e;exact hlo,XaE fun y e=>by subst e;exact hhi⟩⟩,TV,TV,hd⟩;obtain⟨e,h1,h2,h3⟩:=X1K hT;obtain⟨b5,bS⟩:=hq;rw[XjJ] at bS;have hv:=X2z b5;have hbd:=Xd1 (P:=P) (cm:=true) (len:=n) (cap:=c) (fun e=>by subst e;exact hlo) (fun e=>by subst e;exact hhi) bS.1 bS.2 c8 hh w;have hrun:=run_slice_any (P:=P) w T (some ⟨g.az β,o,none⟩) n c (by rw[h3];exact h1) (lo.map a.eval) (hi.map a.eval) none;rw[hbd,Result.andThen_ok,h3,h2 w,Result.andThen_ok] at hrun;refine⟨sliced (some ⟨g.az β,o,none⟩) lb hb c sz,?_,?_⟩
 ·simp_all [execOp,Instr.sliceAt,run_underlying]
 grind [AVal.sat,sliced,Vf]
end
section
variable {P:Program}
variable {ops:Array Oper}{draw:Bool}{K:XW->St->Prop}{rest:List Oper}{l:XW}{S:St}
variable {d:Nat}{ty:TypeId}{pos:String}{ah:Array Edge}{gd:Option (Nat×Bool)}
theorem XeG (h:(loadCells p (m*sz)).run P w= .ok vs w):(Builtin.firstCells sz m (.slice (some p) n c)).run P w= .ok vs w:=by
 grind [Builtin.firstCells]
theorem Xxu {T T2:TypeId} (hx:S.ev x= .rs β o1 n1 c1) (hy:S.ev y= .rs β o2 n2 c2) (hL:S.obj β= .raw cs none) (hm:m=min n2 n1)
  (hc:X0S ((cs.drop o2).take (m*sz))=true) (h2:o2+m*sz<=cs.length) (h1:o1+m*sz<=cs.length) (hcs:cs.take o1++(cs.drop o2).take (m*sz)++cs.drop (o1+m*sz)=cs')
  (hT:UF P T sz=true) {d':Option (Nat×AVal)} (hd:X4S S d') (hd':d'=none\/∃t,d'=some (t,ai m)) (hg:XH ops S gd)
  (h:Walk P ops draw K rest ((l.length,⟨d'.map (·.1),.call ⟨.builtin .copy,#[x,y],#[T,T2]⟩,ty,pos,ah,gd⟩,⟨XF ops gd++[(x,.rs β o1 n1 c1),(y,.rs β o2 n2 c2)],d',[(β,.raw cs none)],[(β,.raw cs' none)],[]⟩)::l)
   ⟨S.n,d'.toList++S.τ,(β,.raw cs' none)::S.L⟩):
  Walk P ops draw K (⟨d'.map (·.1),.call ⟨.builtin .copy,#[x,y],#[T,T2]⟩,ty,pos,ah,gd⟩::rest) l S:=by
 refine Yj h hg ?_ ⟨⟨hx,hy,TV⟩,⟨hL,TV⟩,TV,hd⟩;intro E S a w g hs hok Q K hK;obtain⟨cV,⟨l1,_⟩,_,cR⟩:=hok;have hq:=X1q hs _ cV;have ho:=hs.1.obj β;rw[l1] at ho;have hx':=X2z hq.1;have hy':=X2z hq.2.1;obtain⟨vs,r1,r2,r3⟩:=Xe4 (P:=P) (q:=m*sz) ho h2;have cy:((cs.drop o2).take (m*sz)).length=m*sz:=by grind
 obtain⟨w',k1,k2⟩:=X9i (P:=P) (o:=o1) (ys:=(cs.drop o2).take (m*sz)) (news:=vs.toArray) hs.1 l1 r2 (XcK hc r2) (by rw[cy];exact h1);rw[cy,hcs] at k2;have hrun:=X8v (P:=P) (T2:=T2) (ty:=ty) (sz:=sz) (m:=m) (x:= .slice (some ⟨g.az β,o1,none⟩) n1 c1) (y:= .slice (some ⟨g.az β,o2,none⟩) n2 c2) (news:=vs.toArray) (w:=w) (w':=w') hT rfl (by simp[Builtin.lenOf]) hm (XeG (r3 w rfl)) (by
  grind [Addr.add_zero'])
 have c9:(execOp a.eval ⟨d'.map (·.1),.call ⟨.builtin .copy,#[x,y],#[T,T2]⟩,ty,pos,ah,gd⟩).run P w= .ok (.value (.int .i64 m)) w':=by
  simp_all [execOp,resolve,invoke,builtin]
 unfold Oper.wp;rw[c9,Oper.upon_value];rcases hd' with rfl|⟨t,rfl⟩
 ·exact hK _ _ ⟨g,k2,hs.2.1,hs.2.2.1,hs.2.2.2⟩
 ·exact hK _ _ (X2a k2 hs.2.1 hs.2.2.1 hs.2.2.2 (X02 rfl) cR)
theorem Xos {T T2:TypeId} (hx:S.ev x= .rs β o1 n1 c1) (hy:S.ev y= .rs β o2 n2 c2) (hL:S.obj β= .raw cs none) (hm:m=min n2 n1)
  (hc:X0S ((cs.drop o2).take (m*sz))=true) (h2:o2+m*sz<=cs.length) (h1:o1+m*sz<=cs.length) (hcs:cs.take o1++(cs.drop o2).take (m*sz)++cs.drop (o1+m*sz)=cs')
  (hT:UF P T sz=true) (hd:Nat.blt d S.n=true) (hg:XH ops S gd)
  (h:Walk P ops draw K rest ((l.length,⟨some d,.call ⟨.builtin .copy,#[x,y],#[T,T2]⟩,ty,pos,ah,gd⟩,⟨XF ops gd++[(x,.rs β o1 n1 c1),(y,.rs β o2 n2 c2)],some (d,ai m),[(β,.raw cs none)],[(β,.raw cs' none)],[]⟩)::l)
   ⟨S.n,(d,ai m)::S.τ,(β,.raw cs' none)::S.L⟩):
  Walk P ops draw K (⟨some d,.call ⟨.builtin .copy,#[x,y],#[T,T2]⟩,ty,pos,ah,gd⟩::rest) l S:=
 Xxu (d':=some (d,ai m)) hx hy hL hm hc h2 h1 hcs hT hd (.inr ⟨d,rfl⟩) hg h
theorem Xqt {T T2:TypeId} (hx:S.ev x= .rs β o1 n1 c1) (hL:S.obj β= .raw cs none) (hy:S.ev y=yv) (hsrc:SrcV P yv sz ys) (hm:m=min ys.length n1)
  (h1:o1+m*sz<=cs.length) (hcs:cs.take o1++(ys.take m).flatten.map some++cs.drop (o1+m*sz)=cs')
  (hT:UF P T sz=true) {d':Option (Nat×AVal)} (hd:X4S S d') (hd':d'=none\/∃t,d'=some (t,ai m)) (hg:XH ops S gd)
  (h:Walk P ops draw K rest ((l.length,⟨d'.map (·.1),.call ⟨.builtin .copy,#[x,y],#[T,T2]⟩,ty,pos,ah,gd⟩,⟨XF ops gd++[(x,.rs β o1 n1 c1),(y,yv)],d',[(β,.raw cs none)],[(β,.raw cs' none)],[]⟩)::l)
   ⟨S.n,d'.toList++S.τ,(β,.raw cs' none)::S.L⟩):
  Walk P ops draw K (⟨d'.map (·.1),.call ⟨.builtin .copy,#[x,y],#[T,T2]⟩,ty,pos,ah,gd⟩::rest) l S:=by
 refine Yj h hg ?_ ⟨⟨hx,hy,TV⟩,⟨hL,TV⟩,TV,hd⟩;intro E S a w g hs hok Q K hK;obtain⟨cV,⟨l1,_⟩,_,cR⟩:=hok;have hq:=X1q hs _ cV;have hx':=X2z hq.1;obtain⟨news,ow,qy,n3',n4',n5'⟩:=hsrc.src E _ g w _ hs.1 hq.2.1 m (by omega);have cy:((ys.take m).flatten.map some).length=m*sz:=by
  grind [US,LM,Array.length_toList]
 have n3:Xx g (((ys.take m).flatten.map some).map oA) news.toList:=by rw[map_map];exact n3'
 have hone:∀u∈news.toList,u.oneCell'=true:=by
  refine XkY n3' ((X5L _).2 fun c hc=> ?_)
  grind [AVal.cellish]
 obtain⟨w',k1,k2⟩:=X9i (P:=P) (o:=o1) (ys:=(ys.take m).flatten.map some) (news:=news) hs.1 l1 n3 hone (by rw[cy];exact h1);rw[cy,hcs] at k2;have hrun:=X8v (P:=P) (T2:=T2) (ty:=ty) (sz:=sz) (m:=m) (x:= .slice (some ⟨g.az β,o1,none⟩) n1 c1) (y:=a.eval y) (news:=news) (w:=w) (w':=w') hT rfl n4' hm ow (by
  grind [Addr.add_zero'])
 have c9:(execOp a.eval ⟨d'.map (·.1),.call ⟨.builtin .copy,#[x,y],#[T,T2]⟩,ty,pos,ah,gd⟩).run P w= .ok (.value (.int .i64 m)) w':=by
  simp_all [execOp,resolve,invoke,builtin]
 unfold Oper.wp;rw[c9,Oper.upon_value];rcases hd' with rfl|⟨t,rfl⟩
 ·exact hK _ _ ⟨g,k2,hs.2.1,hs.2.2.1,hs.2.2.2⟩
 ·exact hK _ _ (X2a k2 hs.2.1 hs.2.2.1 hs.2.2.2 (X02 rfl) cR)
theorem Xr0 {T T2:TypeId} (hx:S.ev x= .rs β o1 n1 c1) (hL:S.obj β= .raw cs none) (hy:S.ev y=yv) (hsrc:SrcV P yv sz ys) (hm:m=min ys.length n1)
  (h1:o1+m*sz<=cs.length) (hcs:cs.take o1++(ys.take m).flatten.map some++cs.drop (o1+m*sz)=cs')
  (hT:UF P T sz=true) (hd:Nat.blt d S.n=true) (hg:XH ops S gd)
  (h:Walk P ops draw K rest ((l.length,⟨some d,.call ⟨.builtin .copy,#[x,y],#[T,T2]⟩,ty,pos,ah,gd⟩,⟨XF ops gd++[(x,.rs β o1 n1 c1),(y,yv)],some (d,ai m),[(β,.raw cs none)],[(β,.raw cs' none)],[]⟩)::l)
   ⟨S.n,(d,ai m)::S.τ,(β,.raw cs' none)::S.L⟩):
  Walk P ops draw K (⟨some d,.call ⟨.builtin .copy,#[x,y],#[T,T2]⟩,ty,pos,ah,gd⟩::rest) l S:=
 Xqt (d':=some (d,ai m)) hx hL hy hsrc hm h1 hcs hT hd (.inr ⟨d,rfl⟩) hg h
theorem Xov {vs:List Value} (hl:vs.length=n*sz) (h:∀w',w'.heap=w.heap->(loadCells p (n*sz)).run P w'= .ok vs.toArray w'):Src P w sz (.slice (some p) n c) n vs.toArray:=
 ⟨fun w' hw'=>⟨by simp[Builtin.lenOf],XeG (h w' hw')⟩,by simpa using hl⟩
theorem XuK {T T2:TypeId} (hx:S.ev x= .rs β o1 n1 c1) (hy:S.ev y= .rs β o2 n2 c2) (hL:S.obj β= .raw cs none) (hroom:n1+n2<=c1) (hn':n1+n2=n')
  (hc:X0S ((cs.drop o2).take (n2*sz))=true) (h2:o2+n2*sz<=cs.length) (h1:o1+n1*sz+n2*sz<=cs.length) (hcs:cs.take (o1+n1*sz)++(cs.drop o2).take (n2*sz)++cs.drop (o1+n1*sz+n2*sz)=cs')
  (hB:elB P T=bytes) (hT:X1b P T sz bytes=true) (bN:X4b P T2=true) (hd:Nat.blt d S.n=true) (hg:XH ops S gd)
  (h:Walk P ops draw K rest ((l.length,⟨some d,.call ⟨.builtin .append,#[x,y],#[T,T2]⟩,ty,pos,ah,gd⟩,⟨XF ops gd++[(x,.rs β o1 n1 c1),(y,.rs β o2 n2 c2)],some (d,.rs β o1 n' c1),[(β,.raw cs none)],[(β,.raw cs' none)],[]⟩)::l)
   ((S.set d (.rs β o1 n' c1)).own β (.raw cs' none))):
  Walk P ops draw K (⟨some d,.call ⟨.builtin .append,#[x,y],#[T,T2]⟩,ty,pos,ah,gd⟩::rest) l S:=by
 refine Yj h hg (X3e rfl fun E S g a w hs hq hl gU=> ?_) ⟨⟨hx,hy,TV⟩,⟨hL,TV⟩,TV,hd⟩;obtain⟨e,i,z,hu,hi,hsz,fM,hz,hzs,bR⟩:=X5j hT;have ho:=hs.1.obj β;rw[hl.1] at ho;have hx':=X2z hq.1;have hy':=X2z hq.2.1;obtain⟨vs,r1,r2,r3⟩:=Xe4 (P:=P) (q:=n2*sz) ho h2;have cy:((cs.drop o2).take (n2*sz)).length=n2*sz:=by grind
 obtain⟨w',k1,k2⟩:=X9i (P:=P) (o:=o1+n1*sz) (ys:=(cs.drop o2).take (n2*sz)) (news:=vs.toArray) hs.1 hl.1 r2 (XcK hc r2) (by rw[cy];exact h1);rw[cy,hcs] at k2;have hr:=X8U (P:=P) (w:=w) (T:=T) (T2:=T2) (ty:=ty) (base:=some ⟨g.az β,o1,none⟩) (n:=n1) (cap:=c1) (x:= .slice (some ⟨g.az β,o2,none⟩) n2 c2) (news:=vs.toArray) (m:=n2) hu hi (Xf5 bN) (by grind [Xov]) hroom;simp only at hr;rw[hsz,Vf,k1,Result.andThen_ok,hn'] at hr;exact⟨_,g,w',X6Y rfl (by rw[hx',hy'];exact hr),by simp only[AVal.sat],k2,hs.2.2.2⟩
end
section
variable {P:Program}
variable {ops:Array Oper}{draw:Bool}{K:XW->St->Prop}{rest:List Oper}{l:XW}{S:St}
variable {d:Nat}{ty:TypeId}{pos:String}{ah:Array Edge}{gd:Option (Nat×Bool)}
theorem XkT {z:Array Value} (h:X1x z.toList=true) (n:Nat):∀u∈(Builtin.zeroCells z n).toList,u.oneCell'=true:=by
 grind [Builtin.zeroCells,X8z,Vn,mem_flatten,Xxf]
theorem X8r {T:TypeId} (hx:S.ev x= .rs β o n c) (hL:S.obj β= .raw cs none) (hn:0<n) (hb:o+n*sz<=cs.length)
  (hcs:cs.take o++replicate (n*sz) none++cs.drop (o+n*sz)=cs') (hB:elB P T=bytes) (hT:X1b P T sz bytes=true) (hg:XH ops S gd)
  (h:Walk P ops draw K rest ((l.length,⟨none,.call ⟨.builtin .clear,#[x],#[T]⟩,ty,pos,ah,gd⟩,⟨XF ops gd++[(x,.rs β o n c)],none,[(β,.raw cs none)],[(β,.raw cs' none)],[]⟩)::l) (S.own β (.raw cs' none))):
  Walk P ops draw K (⟨none,.call ⟨.builtin .clear,#[x],#[T]⟩,ty,pos,ah,gd⟩::rest) l S:=by
 refine Yj h hg ?_ ⟨⟨hx,TV⟩,⟨hL,TV⟩,TV,TV⟩;intro E S a w g hs hok Q K hK;obtain⟨cV,⟨l1,_⟩,_,cR⟩:=hok;have hq:=X1q hs _ cV;obtain⟨e,i,z,hu,hi,hsz,fM,hz,hzs,bR⟩:=X5j hT;have hx':=X2z hq.1;have hzl:(Builtin.zeroCells z.cells n).toList.length=n*sz:=by grind [X6T]
 obtain⟨w',k1,k2⟩:=X9i (P:=P) (o:=o) (ys:=replicate (n*sz) none) (news:=Builtin.zeroCells z.cells n) hs.1 l1 (by grind [Xjr,map_replicate,oA]) (XkT bR n) (by grind);rw[length_replicate,hcs] at k2;obtain⟨m,rfl⟩:∃m,n=m+1:=⟨n-1,by omega⟩
 have hrun:(Builtin.clear_ #[T] ty #[.slice (some ⟨g.az β,o,none⟩) (m+1) c]).run P w= .ok (.tuple #[]) w':=by
  simp_all [Builtin.clear_,run_underlying,zeroValue,typeInfo]
 have c9:(execOp a.eval ⟨none,.call ⟨.builtin .clear,#[x],#[T]⟩,ty,pos,ah,gd⟩).run P w= .ok (.value (.tuple #[])) w':=by
  simp_all [execOp,resolve,invoke,builtin]
 unfold Oper.wp;rw[c9,Oper.upon_value];exact hK _ _ ⟨g,k2,hs.2.1,hs.2.2.1,hs.2.2.2⟩
theorem Xtp (w:World) (ps rs:Array TypeId) (tS e:TypeId) (hp:ps[0]? =some tS) (ht:P.underlying tS=some (.slice e)) (size:Nat) (hz:∀w,(Go.sizeOf e).run P w= .ok size w)
  (a b:Addr) (la ca lb cb:Nat) (hne:a.block≠b.block) (tA tB:TypeId) (kA kB:Nat)
  (jk:w.shape? a.block=some (tA,kA)) (sD:w.shape? b.block=some (tB,kB)) (sE:kB≠0) (ox:kA≠0)
  (sF:w.frozen? b=false) (fP:w.frozen? {block:=b.block,off:=kB}=false):
  (Extern.SlicesOverlaps.overlaps ps rs #[.slice (some a) la ca,.slice (some b) lb cb]).run P w= .ok (.bool false) w:=by
 have hnb:(a.block !=b.block)=true:=by simpa using hne
 have qz:(a.block==b.block)=false:=by simpa using hne
 change Sem.run P (α:=Value) (do
  let some t:=ps[0]? |stuck "slices.overlaps: no parameter types"
  let .slice elem <-underlying t|stuck "slices.overlaps: slice type expected"
  let size <-sizeOf elem
  match (some a:Option Addr),(some b:Option Addr) with
  |some a,some b=>
   if la=0\/lb=0\/size=0 then pure (Value.bool false)
   else if a.block !=b.block&&(<-frozen a)&&(<-frozen b) then unsupported .addressObserved
   else do
    if a.block !=b.block then do
     noView a;noView b
     if <-mayBeOne a b then return Value.bool ((<-choose (.extern "sameAddr.stringBytes" 2))==1)
    pure (Value.bool (a.block==b.block&&a.off<b.off+lb*size&&b.off<a.off+la*size))
  |_,_=>pure (Value.bool false)) w=_
 rw[hp];by_cases h0:la=0\/lb=0\/size=0
 ·simp[run_underlying ht,hz,h0]
 ·cases kB with
  |zero=>exact absurd rfl sE
  |succ kB=>
   cases kA with
   |zero=>exact absurd rfl ox
   |succ kA=>
   cases hA:w.frozen? a<;>cases sG:w.frozen? {block:=a.block,off:=kA+1}<;>
    simp[run_underlying ht,hz,h0,hnb,qz,frozen,noView,viewAt,mayBeOne,stringish,shape,Sem.run,jk,sD,sF,fP,hA,sG]
theorem Xku {e:TypeId}{fr:Nat×Nat} (h:w.heap[b]? =some (.cells vs e fr)):w.shape? b=some (e,vs.size):=by
 simp[World.shape?,h]
theorem X8R {tys ps rs:Array TypeId}{T:TypeId} (hx:S.ev x= .d (.sl sz ys)) (hy:S.ev y= .rs β o n c) (hL:S.obj β= .raw cs none) (hys:ys≠[]) (hsz:0<sz) (ho:o<=cs.length) (hcs:cs≠[])
  (hf:P.funcs[f]? =some fn) (h1:(fn.name== "runtime.NumGoroutine")=false) (h2:fn.body.isNone=true) (h3:Extern.findNext fn=none) (h4:Extern.find fn=some (Extern.SlicesOverlaps.overlaps ps rs)) (hp:ps[0]? =some T) (hT:UF P T sz=true)
  (hd:Nat.blt d S.n=true) (hg:XH ops S gd)
  (h:Walk P ops draw K rest ((l.length,⟨some d,.call ⟨.value (.func f),#[x,y],tys⟩,ty,pos,ah,gd⟩,⟨XF ops gd++[(x,.d (.sl sz ys)),(y,.rs β o n c)],some (d,ab false),[(β,.raw cs none)],[],[]⟩)::l) (S.set d (ab false))):
  Walk P ops draw K (⟨some d,.call ⟨.value (.func f),#[x,y],tys⟩,ty,pos,ah,gd⟩::rest) l S:=
 Yj h hg (Ug rfl fun E S g a w hs hq hl=>by
  obtain⟨e,q1,q2,q3⟩:=X1K hT;have hy':=X2z hq.2.1;have gy:=hs.1.obj β;rw[hl.1] at gy;obtain⟨vs,eb,fr,b1,b2,b3⟩:=gy;have hvl:vs.size=cs.length:=by have:=US b3;grind [Yi]
  have bE:0<cs.length:=length_pos_iff.2 hcs;have hxs:=hq.1;simp only[AVal.sat,D.rep] at hxs;obtain⟨ad,cap,e1,e2,e3,e4⟩:=hxs;rcases e4 with e4|⟨b0,o0,rfl,hr⟩
  ·exact absurd e4 hys
  obtain⟨y0,hy0⟩:∃y0,ys[0]? =some y0:=⟨_,getElem?_eq_getElem (length_pos_iff.2 hys)⟩
  obtain⟨r1,r2⟩:=X63 ys b0 o0 0 y0 hr hy0;obtain⟨d0,eo⟩:∃d0,y0[0]? =some d0:=⟨_,getElem?_eq_getElem (by omega)⟩
  obtain⟨u,hu,_⟩:=Xae y0 b0 _ 0 d0 r2 eo;have hne:b0≠g.az β:=hs.1.sep β (g.az β) (by rw[hl.1];rfl) _ _ hu;have hcell:=hs.1.mem _ _ hu;have jk:∃tA kA,w.shape? b0=some (tA,kA)/\kA≠0:=by
   simp only[World.cell?] at hcell;cases hh:w.heap[b0]? with
   |none=>grind
   |some ob=>
    rw[hh] at hcell;cases ob with
    |cells cc ee ff=>
     refine⟨ee,cc.size,Xku hh,fun e0=> ?_⟩
     grind
    |_=>simp at hcell
  obtain⟨tA,kA,jk,ox⟩:=jk;have hfr:∀i,i<vs.size+1->w.frozen? ⟨g.az β,i,none⟩=false:=by
   grind [World.frozen?,X4J]
  have hrun:=Xtp (P:=P) w ps rs T e hp q1 sz q2 ⟨b0,o0,none⟩ ⟨g.az β,o,none⟩ ys.length cap n c hne tA eb kA vs.size jk (Xku b1) (by omega) ox (hfr o (by omega)) (hfr vs.size (by omega));refine⟨.bool false,?_,X02 rfl⟩;have e5:=run_callFunc_extern hf h1 h2 h3 h4 #[a.eval x,a.eval y] w;rw[e1,hy',hrun,Result.andThen_ok,<-e1,<-hy'] at e5;have ef:a.eval (.func f)= .func (.func f) #[] #[]:=rfl
  grind [execOp,resolve,invoke,Deferred.ofValue]) ⟨⟨hx,hy,TV⟩,⟨hL,TV⟩,TV,hd⟩
end
def NC.toD:NC->D
 | .d x=>x
 | .r z rows=> .sl z rows
theorem Xfo:∀(cs:List NC) (ds:List D) (hs:List Hd),X0G cs ds hs->∀(i:Nat) (c:NC),cs[i]? =some c->∃y,ds[i]? =some y/\((∃x,c= .d x/\y=x)\/∃z rows,c= .r z rows/\∃h∈hs,y= .v h.1/\h.2=(z,rows))
 |[],_,_,_,_,_,h=>by simp at h
 | .d x::cs,[],hs,h,_,_,_=>by simp[X0G] at h
 | .r z rows::cs,[],hs,h,_,_,_=>by simp[X0G] at h
 | .r z rows::cs,_::_,[],h,_,_,_=>by simp[X0G] at h
 | .d x::cs,y::ds,hs,h,0,c,hc=>by
  simp only[getElem?_cons_zero,Option.some.injEq] at hc |-;subst hc;exact⟨y,rfl,.inl ⟨x,rfl,h.1⟩⟩
 | .r z rows::cs,y::ds,k::hs,h,0,c,hc=>by
  simp only[getElem?_cons_zero,Option.some.injEq] at hc |-;subst hc;exact⟨y,rfl,.inr ⟨z,rows,rfl,k,by simp,h.1,h.2.1⟩⟩
 | .d x::cs,y::ds,hs,h,i+1,c,hc=>by
  simp only[getElem?_cons_succ] at hc |-;exact Xfo cs ds hs h.2 i c hc
 | .r z rows::cs,y::ds,k::hs,h,i+1,c,hc=>by
  simp only[getElem?_cons_succ] at hc |-;obtain⟨y',h1,h2⟩:=Xfo cs ds hs h.2.2 i c hc;refine⟨y',h1,h2.imp id ?_⟩;rintro⟨z',rows',e,q,hq,h3⟩;exact⟨z',rows',e,q,mem_cons_of_mem _ hq,h3⟩
theorem Xqv {α β:Type} (f:α->β):∀xs:List (List α),(xs.map fun x=>x.map f).flatten=xs.flatten.map f
 |[]=>rfl
 |r::rs=>by simp
theorem XmW (γ:Nat) {sz:Nat}{xs:List (List NC)} (hL:S.obj γ= .nest sz xs) (hsz:∀x∈xs,x.length=sz):S.le (S.own γ (.froz sz (xs.map fun x=>x.map NC.toD))):=by
 rintro E a w ⟨g,hs⟩;have ho:=hs.1.obj γ;rw[hL] at ho;have hle:YH g.M (X0d g w (S.obj γ) γ):=by
  intro a v h;unfold X0d;rw[NI (fun hc=>hs.1.sep γ _ hc.2 a v h rfl)];exact h
 have hcell:∀b o,Xw g (S.obj γ) γ b->X0d g w (S.obj γ) γ ⟨b,o,none⟩=w.cell? ⟨b,o,none⟩:=by
  grind [X0d]
 have cM:(D.sl sz (xs.map fun x=>x.map NC.toD)).rep (X0d g w (S.obj γ) γ) (g.hd γ):=by
  obtain⟨⟨rows,h1,h2,h3⟩,h4,h5⟩:=ho;simp only[D.rep,LM];rcases h3.2 with ⟨e,rfl⟩|⟨b,cap,vs,e,fr,k1,k2,k3,k4,k5,k6,k7⟩
  ·grind
  ·refine⟨_,cap,by rw[k1,h1],by omega,k3,.inr ⟨b,0,rfl,X7K _ 0 (fun r hr=> ?_) fun i d hd=> ?_⟩⟩
   ·grind
   have hfl:(xs.map fun x=>x.map NC.toD).flatten=xs.flatten.map NC.toD:=Xqv _ xs;rw[hfl,getElem?_map,Option.map_eq_some_iff] at hd;obtain⟨c,hc,rfl⟩:=hd;obtain⟨y,hy,kX⟩:=Xfo _ _ _ h2 i c hc;obtain⟨_,cX⟩:=X6p k7
   grind [cell_of_row,D.rep_mono,D.rep,XdL,NC.toD,Xw,X1G,YV]
 obtain⟨_,hi⟩:=Xif hs.1 cM;exact X49 hs hi rfl fun t=>X3H (g:=g) (g':={g with M:=X0d g w (S.obj γ) γ}) hle rfl rfl rfl (hs.2.2.2 t)
def X87 (ρ:Nat->Nat):List (Nat×AVal)->List (Nat×AVal)
 |[]=>[]
 |(t,x)::r=>(t,x.ren ρ)::X87 ρ r
theorem Xff (ρ:Nat->Nat):∀(τ:List (Nat×AVal)) (t:Nat),Xp .any (X87 ρ τ) t=(Xp .any τ t).ren ρ
 |[],_=>rfl
 |(k,x)::r,t=>by
  simp only[X87];by_cases h:k=t
  ·subst h;rw[YE,YE]
  ·rw[Yz _ _ _ h,Yz _ _ _ h,Xff ρ r t]
theorem XcT {a:Nat} (ha:100<=a) (hb:100<=b) (hk:k<100):swp a b k=k:=by
 grind [swp,Nat.eq_of_beq_eq_true]
theorem Xko (a b:Nat) (ha:100<=a) (hb:100<=b):S.le ⟨S.n,X87 (swp a b) S.τ,X1D (swp a b) S.L⟩:=by
 rintro E act w ⟨g,hs⟩;have cO:(g.pull (swp a b)).pull (swp a b)=g:=by simp[Gh.pull,X5q]
 have hi:Inv {E with g0:=(g.pull (swp a b)).pull (swp a b)} (Xp .dead S.L) ((g.pull (swp a b)).pull (swp a b)) w:=by
  rw[cO];exact hs.1.free fun _ _=>Gh.keeps_refl _ _
 have hi2:=(XaJ (E:=E) (g0:=g) (X5q a b) (X5q a b)).2 hi;refine⟨g.pull (swp a b),?_,hs.2.1,hs.2.2.1,fun t=> ?_⟩
 ·refine(show Inv E (Xp .dead (X1D (swp a b) S.L)) (g.pull (swp a b)) w from ?_);have:=hi2.free (g0:=E.g0) fun γ aQ=>(hs.1.kp γ aQ).trans' (Gh.keeps_of (by grind [Gh.pull,XcT]) (by grind [Gh.pull,XcT]) (by grind [Gh.pull,XcT]));exact this
 grind [Xff,XaF,St.get,Vi]
theorem Xsr {pre:List AVal} (γ:Nat) (af:Con P f [] (pre++ .d (.sl sz xs)::post) [] res) (hres:∀g g' v,res.sat g v->res.sat g' v):
  Con P f [(γ,.row sz xs)] (pre++ .own γ xs.length::post) [(γ,.row sz xs)] res:=by
 intro g w vs hi hs;have fO:Xp .dead [(γ,AObj.row sz xs)] γ= .row sz xs:=YE _ _ _ _;have ho:=hi.obj γ;rw[fO] at ho;have hrow:UK g w (g.hd γ) sz xs:=ho;have hlv:∀b,Xw g (.row sz xs) γ b->Xw g (Xp .dead [(γ,AObj.row sz xs)] γ) γ b:=fun b h=>by rw[fO];exact h
 let M1:=X0d g w (.row sz xs) γ
 let g1:Gh:={g with M:=M1}
 have hle:YH g.M M1:=by
  intro a v h;show X0d _ _ _ _ a=_;unfold X0d;rw[NI (fun hc=>hi.sep γ _ (hlv _ hc.2) a v h rfl)];exact h
 have hcell:∀b o,YV (g.hd γ) b->M1 ⟨b,o,none⟩=w.cell? ⟨b,o,none⟩:=by
  grind [X0d,Xw]
 have sH:∀a v,M1 a=some v->w.cell? a=some v:=by
  intro a v h;replace h:X0d _ _ _ _ a=some v:=h;unfold X0d at h;split at h
  ·exact h
  ·exact hi.mem a v h
 have cM:=XdL hrow hle hcell;have hi1:Inv (Vw g1 w []) (Xp .dead []) g1 w:=⟨fun _=>trivial,fun _ _ _ h=>h.elim,sH,fun _ _ h=>h.elim,fun _ _ h=>h.elim,YH.refl _,fun a v h=> .inl ⟨v,h⟩,fun _ _ _=>rfl,Nat.le_refl _,rfl,rfl,fun _ _=>Gh.keeps_refl _ _⟩
 have hs1:Xx g1 (pre++ .d (.sl sz xs)::post) vs:=by
  have h1:Xx g1 (pre++ .own γ xs.length::post) vs:=X1R (g:=g) (g':=g1) hle _ _ (fun k _=>Gh.keeps_of rfl rfl rfl) hs;have h2:=XaI (j:=pre.length) (x:= .d (.sl sz xs)) h1 (fun u hu=>by
   obtain⟨u',q1,q2⟩:=VQ hs pre.length (.own γ xs.length) (by simp)
   grind [X3Y,AVal.sat])
  grind
 refine(af g1 w vs hi1 hs1).mono ?_;rintro e w' ⟨v,g',rfl,hv,hi',_⟩;have hfr:∀b,b<w.heap.size->w'.heap[b]? =w.heap[b]? :=fun b hb=>hi'.frame b hb (by
  rintro⟨k,hk⟩;exact hk)
 refine⟨v,g,rfl,hres _ _ _ hv,⟨fun k=> ?_,hi.inj,fun a v h=> ?_,hi.sep,hi.new,YH.refl _,fun a v h=> .inl ⟨v,h⟩,fun b hb _=>hfr b hb,hi'.size,hi'.os,hi'.out,fun _ _=>Gh.keeps_refl _ _⟩,fun _ _=>Gh.keeps_refl _ _⟩
 ·exact X8k (YH.refl _) rfl rfl rfl (fun b hb=>hfr b (X4E hi hb)) (fun _ _ _ h=>h) (hi.obj k)
 grind [World.cell?,YH]
theorem X84 (t γ aF:Nat) {sz n:Nat}{xs:List (List D)} (hL:S.obj γ= .row sz xs) (ht:S.get t= .own γ n) (hn:n=xs.length) (av:S.obj aF= .dead) (hf:S.free aF=true):
  S.le ⟨S.n,(t,.own aF n)::S.τ,(γ,.dead)::(aF,.row sz xs)::S.L⟩:=by
 rintro E a w ⟨g,hs⟩;have hne:γ≠aF:=by grind
 have ho:=hs.1.obj γ;rw[hL] at ho;have hrow:UK g w (g.hd γ) sz xs:=ho;obtain⟨ua,uc,hu⟩:=Xmc hrow;have cG:(g.put aF 0 (g.hd γ)).hd aF=g.hd γ:=by simp[Gh.put]
 have e1:Xp .dead ((γ,AObj.dead)::(aF,.row sz xs)::S.L) γ= .dead:=YE _ _ _ _;have e2:Xp .dead ((γ,AObj.dead)::(aF,.row sz xs)::S.L) aF= .row sz xs:=by grind [Yz,YE]
 have aK:=X8w (S:=S) (g:=g) (g':=g.put aF 0 (g.hd γ)) (a:=a) rfl (fun k=>k=aF) (fun k e=> .inl (e ▸ hf)) (fun k hk=>X2t hk) hs.2.2.2;refine⟨g.put aF 0 (g.hd γ),Inv.part hs.1 (fun k=>k=γ\/k=aF) rfl (fun k hk=> ?_) (fun k cs us _ e h=>X9I (S:=S) (g:=g) (g':=g.put aF 0 (g.hd γ)) rfl (fun k=>k=aF) (fun k e=> .inl (e ▸ hf)) (fun k hk=>X2t hk) e h) (fun k hk=> ?_) (fun k b hk hb=> ?_) (fun k k' b hk hk' hb hb'=> ?_) (fun k hk gA=> ?_),hs.2.1,hs.2.2.1,fun t'=> ?_⟩
 ·grind [Yz,St.obj,Gh.put]
 ·grind [Ub,X4z,YH.refl,Gh.put,St.obj]
 ·grind [Xw,St.obj]
 ·grind [Xw,St.obj]
 ·rcases hk with rfl|rfl
  ·grind [Gh.keeps_of,X2t]
  ·have:=XbQ hf;omega
 grind [AVal.sat,YE,Yz,St.get,Vi]
def X0c (P:Program) (f:FuncId) (Li:List (Nat×AObj)) (args:List AVal) (ch:List PanicEntry):Prop:=
 ∀(g:Gh) (w:World) (vs:List Value),Inv (Vw g w Li) (Xp .dead Li) g w->Xx g args vs->
  Calls P f vs.toArray w fun e w'=>e= .panicked ch/\∃M',YH g.M M'/\Inv {Vw g w Li with g0:={g with M:=M'}} (fun _=> .dead) {g with M:=M'} w'
def Xty (ch:List PanicEntry):Exit->St->Prop
 | .panic c,_=>c=ch
 |_,_=>False
theorem X1Q {c:Code}{args:List AVal} (hf:P.funcs[f]? =some fn) (hb:fn.body=some c) (hn:fn.ntmps=n)
  (hle:Nat.ble args.length n=true) (h:∀E,AWP P E c (X2G n args Li) (Xty ch)):X0c P f Li args ch:=by
 intro g w vs hi hs;have hl:=US hs;refine calls_of_wp hf hb ?_;have hstart:holds (Vw g w Li) (X2G n args Li) {tmps:=vs.toArray++Array.replicate (fn.ntmps-vs.toArray.size) undef,defers:=[]} w:=by
  refine⟨g,hi,rfl,?_,fun t=> ?_⟩
  ·simp_all [X2G]
  ·show AVal.sat g (Xp _ _ _) _;simp only[X2G];rw[Xbp];simp only[Nat.zero_le,if_true,Nat.sub_zero];cases hx:args[t]? with
   |none=>simp[AVal.sat]
   |some x=>
    obtain⟨u,hu,g8⟩:=VQ hs t x hx;have hlt:t<vs.length:=(GS.1 hu).1;have:(vs.toArray++Array.replicate (fn.ntmps-vs.toArray.size) undef).getD t undef=u:=by
     simp_all [Array.getElem?_append_left]
    rw[this];exact g8
 refine wp_mono ((h (Vw g w Li)).run _ w hstart) ?_;rintro e a' w' ⟨T,hq,g',ht⟩;cases e with
 |panic c=>
  obtain rfl:c=ch:=hq;refine⟨ht.2.1,rfl,g'.M,ht.1.ext,?_⟩;exact⟨fun _=>trivial,fun _ _ _ h=>h.elim,ht.1.mem,fun _ _ h=>h.elim,fun _ _ h=>h.elim,ht.1.ext,ht.1.lim,ht.1.frame,ht.1.size,ht.1.os,ht.1.out,fun _ _=>Gh.keeps_refl _ _⟩
 |_=>exact hq.elim
def X34:List (Nat×AObj)->List (Nat×AObj)
 |[]=>[]
 |p::r=>(p.1,.dead)::X34 r
theorem Xi2 (γ:Nat):∀Li:List (Nat×AObj),Xp .dead (X34 Li) γ= .dead
 |[]=>rfl
 |p::r=>by
  rw[X34];by_cases h:p.1=γ
  ·rw[h,YE]
  ·rw[Yz _ _ _ h,Xi2 γ r]
theorem Xeh (γ:Nat):∀Li:List (Nat×AObj),Ya γ (X34 Li)=Ya γ Li
 |[]=>rfl
 |p::r=>by rw[X34,Ya,Ya,Xeh γ r]
theorem Xln (Lo:List (Nat×AObj)):∀Li:List (Nat×AObj),(∀γ,Ya γ Li=true->Ya γ Lo=true)->X4A Li Lo=true
 |[],_=>rfl
 |p::r,h=>by
  rw[X4A,Bool.and_eq_true];exact⟨h _ (by simp[Ya]),Xln Lo r fun γ aQ=>h γ (by simp[Ya,aQ])⟩
theorem Xne (Lo:List (Nat×AObj)):∀Li:List (Nat×AObj),X4k Lo (X34 Li)=true
 |[]=>rfl
 |p::r=>by rw[X34,X4k,Xne Lo r];rfl
theorem Xn8 (Li:List (Nat×AObj)):∀Lo:List (Nat×AObj),(∀γ,Ya γ Lo=true->Ya γ Li=true)->X0f Li Lo=[]
 |[],_=>rfl
 |p::r,h=>by
  rw[X0f,h _ (by simp[Ya])];exact Xn8 Li r fun γ aQ=>h γ (by simp[Ya,aQ])
theorem XmR (S:St):∀xs,(evA S xs).length=xs.length
 |[]=>rfl
 |x::r=>by rw[evA,LC,LC,XmR S r]
structure Booms (P:Program) (f:FuncId) (args:Array Operand) (ch:List PanicEntry) (S:St):Prop where
 ex:∃Li zs,leL (evA S args.toList) zs/\X0c P f Li zs ch/\X2J P f=true/\Vq S Li
theorem X2n {xs:List Operand}{ys:List AVal} (af:X0c P f Li zs ch) (hxs:args.toList=xs) (hys:evA S xs=ys) (hle:leL ys zs) (hf:X2J P f=true) (bH:Vq S Li):Booms P f args ch S:=
 ⟨Li,zs,by grind,af,hf,bH⟩
theorem XiF {tys:Array TypeId} (hs:holds E S a w) {Li:List (Nat×AObj)}{zs:List AVal} (hle:leL (evA S args.toList) zs) (af:X0c P f Li zs ch) (hf:X2J P f=true) (bH:Vq S Li) {o:Oper} (ho:o.op= .call ⟨.value (.func f),args,tys⟩) {K:Act->World->Prop}{Q:Exit->Act->World->Prop}
  (hQ:∀w',holds E (S.cat (X34 Li)) a w'->Q (.panic ch) a w'):o.wp P a w K Q:=by
 obtain⟨g,hs⟩:=hs;have b8:Xx g zs (args.toList.map a.eval):=by
  grind [X85,X9d,XmR,X1q,X9K]
 have hinv:Inv (Vw g w Li) (Xp .dead Li) g w:=by
  have hsub:=Xj bH;have hl:∀γ b,Xw g (Xp .dead Li γ) γ b->Xw g (S.obj γ) γ b:=by
   grind [Xw,X7d]
  refine⟨fun γ=> ?_,fun γ γ' b k k'=>hs.1.inj γ γ' b (hl _ _ k) (hl _ _ k'),hs.1.mem,fun γ b k=>hs.1.sep γ b (hl _ _ k),fun γ b k=> .inr ⟨γ,k⟩,YH.refl _,fun a v ha=> .inl ⟨v,ha⟩,fun _ _ _=>rfl,Nat.le_refl _,rfl,rfl,fun _ _=>Gh.keeps_refl _ _⟩;rcases hsub γ with e|e
  ·rw[e];exact hs.1.obj γ
  ·rw[e];trivial
 have aP:=af g w (args.toList.map a.eval) hinv b8;have hrun:(execOp a.eval o).run P w= .ok (.enter f (args.toList.map a.eval).toArray) w:=by
  have e1:(#[]++args.map a.eval++ #[]:Array Value)=(args.toList.map a.eval).toArray:=by
   grind
  grind [execOp,resolve,Act.eval,Deferred.ofValue,invoke,Xb4]
 unfold Oper.wp;rw[hrun,Oper.upon_enter];refine aP.mono ?_;rintro e w' ⟨rfl,M',hM,hi'⟩;have hc:Inv {Vw g w Li with g0:={g with M:=M'}} (Xp .dead (X34 Li)) {g with M:=M'} w':=by
  have:Xp .dead (X34 Li)=fun _=>AObj.dead:=funext fun γ=>Xi2 γ Li;rw[this];exact hi'
 have hnew:=Xn8 Li (X34 Li) (fun γ h=>by grind [Xeh]);obtain⟨j1,j2,j3⟩:=Xfg hs.1 bH (Xln (X34 Li) Li (fun γ h=>by grind [Xeh])) (Xne _ Li) (by rw[hnew];trivial) (by rw[hnew];trivial) hc (fun γ _=>Gh.keeps_of rfl rfl rfl);exact hQ w' ⟨_,j1,hs.2.1,hs.2.2.1,fun t=>j3 t _ (hs.2.2.2 t)⟩
theorem Xnh {tys:Array TypeId} (hs:holds E S a w) (hb:Booms P f args ch S) {o:Oper} (ho:o.op= .call ⟨.value (.func f),args,tys⟩) {K:Act->World->Prop}{Q:Exit->Act->World->Prop}
  (hQ:∀T w',holds E T a w'->Q (.panic ch) a w'):o.wp P a w K Q:=by
 obtain⟨Li,zs,hle,af,hf,bH⟩:=hb.ex
 grind [XiF]
theorem XdE {Q:Exit->Act->World->Prop} (js:List Nat) (hQ:∀a w,holds E T a w->wpOps P ops Q js a w):
  ∀(l:XW) (S:St) (a:Act) (w:World),(∀x∈l,ops[x.1]? =some x.2.1)->XeF P ops l S T->holds E S a w->wpOps P ops Q (l.map (·.1)++js) a w
 |[],S,a,w,_,hc,hs=>hQ _ _ (St.Eqv.holds hc hs)
 |x::r,S,a,w,ha,hc,hs=>by
  obtain⟨hv,hok,hr⟩:=hc;rw[map_cons,cons_append,wpOps_cons];unfold wpOp;simp only[ha x (by simp)];have gS:=hv E S a w hs hok Q (wpOps P ops Q (r.map (·.1)++js)) (fun a' w' h'=>XdE js hQ r _ _ _ (fun y hy=>ha y (by simp[hy])) hr h');split
  ·rename_i hw;rw[PI hw] at gS;exact .inl gS
  ·rename_i hw;rw[NI hw] at gS;exact gS
theorem Xfs (k:Nat) {K:XW->St->Prop} (hk:k<=ops.size) (h:Walk P ops false K (ops.toList.take k) [] S)
  (hK:∀l T,K l T->∀a w,holds E T a w->wpOps P ops (fun e a' w'=> ∃T,Q e T/\holds E T a' w') (range' k (ops.size-k)) a w):AWP P E (.region id ops false) S Q:=by
 refine⟨fun a w hs=>wp_region ?_⟩;obtain⟨m,T,h1,h2,h3,h4,h5⟩:=h.chain;have hlen:m.length=k:=by grind [LT]
 have aY:∀x∈m,ops[x.1]? =some x.2.1:=by
  intro x hx;obtain⟨i,hi,rfl⟩:=getElem_of_mem hx;have e1:(m[i]).1=i:=by
   have:=CG (fun l=>l[i]?) h5;simpa [hi] using this
  have e2:=CG (fun l=>l[i]?) h4
  grind
 have:=XdE (P:=P) (Q:=fun e a' w'=> ∃T,Q e T/\holds E T a' w') (range' k (ops.size-k)) (hK _ T h2) m S a w aY h3 hs;rw[h5,hlen,length_nil] at this;have e:range' 0 k++range' k (ops.size-k)=range ops.size:=by
  rw[range_eq_range'];have:=range'_append_1 (s:=0) (m:=k) (n:=ops.size-k)
  grind
 rwa [e] at this
theorem X2h (k:Nat) {d:Option Nat}{f:FuncId}{args:Array Operand}{tys:Array TypeId}{ty:TypeId}{pos:String}{ah:Array Edge}{ch:List PanicEntry}
  (ho:ops[k]? =some ⟨d,.call ⟨.value (.func f),args,tys⟩,ty,pos,ah,none⟩) (hQ:∀T,Q (.panic ch) T) (h:Walk P ops false (fun _=>Booms P f args ch) (ops.toList.take k) [] S):AWP P E (.region id ops false) S Q:=by
 have hk:k<ops.size:=(Array.getElem?_eq_some_iff.1 ho).1;refine Xfs k (Nat.le_of_lt hk) h fun _ T hT a w hs=> ?_;obtain⟨n,hn⟩:∃n,ops.size-k=n+1:=⟨ops.size-k-1,by omega⟩
 grind [range'_succ,wpOps_cons,wpOp,Region.wanted,Xnh]
theorem Xq2 (k:Nat) {d:Option Nat}{x:Operand}{ty:TypeId}{pos:String}{ah:Array Edge}{t:TypeId}{v:Value}
  (ho:ops[k]? =some ⟨d,.panic x,ty,pos,ah,none⟩) (hQ:∀T,Q (.panic [{v:= .iface t v,recovered:=false}]) T) (h:Walk P ops false (fun _ T=>T.ev x= .d (.v (.iface t v))) (ops.toList.take k) [] S):AWP P E (.region id ops false) S Q:=by
 have hk:k<ops.size:=(Array.getElem?_eq_some_iff.1 ho).1;refine Xfs k (Nat.le_of_lt hk) h fun _ T hT a w hs=> ?_;obtain⟨n,hn⟩:∃n,ops.size-k=n+1:=⟨ops.size-k-1,by omega⟩
 rw[hn,range'_succ,wpOps_cons];unfold wpOp;simp only[ho];rw[PI (show Region.wanted _ _=true from rfl)];obtain⟨g,hs⟩:=hs;have hv:=X9c hs x;rw[hT] at hv;have hv:=Up hv;left;unfold Oper.wp;have hrun:(execOp a.eval ⟨d,.panic x,ty,pos,ah,none⟩).run P w= .halt (.panic (.iface t v)) w:=by
  simp[execOp,hv,run_panic_iface]
 rw[hrun,Oper.upon_panic];exact⟨T,hQ T,g,hs⟩
theorem XjN (k:Nat) {d:Option Nat}{f:FuncId}{args:Array Operand}{tys:Array TypeId}{ty:TypeId}{pos:String}{ah:Array Edge}{ch:List PanicEntry}
  (hm:P.follows .mixedOrders=true) (ho:ops[k]? =some ⟨d,.call ⟨.value (.func f),args,tys⟩,ty,pos,ah,none⟩) (hQ:∀T,Q (.panic ch) T)
  (h:Walk P ops false (fun l T=> ∃c,(∀U,c.ok U->Booms P f args ch U)/\c.ok T/\Walk P ops true (fun _ U=>U.obj 999= .box [.bq False False]) (ops.toList.drop (k+1)) ((l.length,⟨d,.call ⟨.value (.func f),args,tys⟩,ty,pos,ah,none⟩,c)::l) (c.app T)) (ops.toList.take k) [] S):AWP P E (.region id ops true) S Q:=by
 have hk:k<ops.size:=(Array.getElem?_eq_some_iff.1 ho).1;refine⟨fun a w hs=> ?_⟩;have hv:∀o c,X7g P ops o c->X7I P ops E (fun e a' w'=> ∃T,Q e T/\holds E T a' w') o c:=fun o c h=>h.q E _;obtain⟨m,T,-,⟨c,hb,hok,h2⟩,h3,h4,h5⟩:=h.chain;obtain⟨m',T',g1,g2,g3,g4,g5⟩:=h2.chain;have hlen:m.length=k:=by grind [LT]
 have oy:X7I P ops E (fun e a' w'=> ∃T,Q e T/\holds E T a' w') ⟨d,.call ⟨.value (.func f),args,tys⟩,ty,pos,ah,none⟩ c:=by
  grind [Region.wanted,Xnh,X7I]
 simp only[append_nil,length_reverse,length_nil] at g1 g3 g4 g5 h5;refine Xjz (m:=m++(m.length,⟨d,.call ⟨.value (.func f),args,tys⟩,ty,pos,ah,none⟩,c)::m') hm ?_ (T:=T') ?_ ((h3.mono hv).app ⟨oy,hok,g3.mono hv⟩) ?_ ?_ hs
 ·grind
 ·rintro a w ⟨g,hg⟩;have ho:=hg.1.obj 999;rw[g2] at ho;obtain⟨vs,e,fr,-,-,q,-⟩:=ho;obtain⟨v,-,hv⟩:=VQ q 0 (.bq False False) rfl
  grind [AVal.sat]
 ·grind [drop_eq_getElem_cons,take_append_drop]
 ·rw[map_append,map_cons,h5,g5,LC,length_reverse,LA,LC,<-range'_succ,hlen]
  grind
abbrev Xee (rs:List (Operand×AVal)) (d:Option (Nat×AVal)) (Li:List (Nat×AObj)):Cert:=⟨rs,d,Li,[(999,.box [.bq False False])],[]⟩
theorem Xhb {xs:List Operand}{ys:List AVal}{d:Option (Nat×AVal)} (af:X0c P f Li zs ch) (hxs:args.toList=xs) (hl:ys.length=xs.length) (hle:leL ys zs) (hf:X2J P f=true):
  ∀U,(Xee (xs.zip ys) d Li).ok U->Booms P f args ch U:=by
 intro U hU;have h1:=hU.1;have h2:=hU.2.1;refine⟨Li,zs,?_,af,hf,h2⟩;rw[hxs];have:evA U xs=ys:=by
  clear hle af hxs hU h2;induction xs generalizing ys with
  |nil=>grind [evA]
  |cons x xs ih=>
   cases ys<;>grind [zip_cons_cons,evA,X1N]
 rw[this];exact hle
theorem Xi5 (k:Nat) {d:Option Nat}{f:FuncId}{args:Array Operand}{tys:Array TypeId}{ty:TypeId}{pos:String}{ah:Array Edge}{ch:List PanicEntry}
  (ho:ops[k]? =some ⟨d,.call ⟨.value (.func f),args,tys⟩,ty,pos,ah,none⟩) (h:Walk P ops false (fun _ T=> ∃Li zs,leL (evA T args.toList) zs/\X0c P f Li zs ch/\X2J P f=true/\Vq T Li/\Q (.panic ch) (T.cat (X34 Li))) (ops.toList.take k) [] S):AWP P E (.region id ops false) S Q:=by
 have hk:k<ops.size:=(Array.getElem?_eq_some_iff.1 ho).1;refine Xfs k (Nat.le_of_lt hk) h fun _ T hT a w hs=> ?_;obtain⟨n,hn⟩:∃n,ops.size-k=n+1:=⟨ops.size-k-1,by omega⟩
 grind [range'_succ,wpOps_cons,wpOp,Region.wanted,XiF]
section
variable {P:Program}{ops:Array Oper}{draw:Bool}{K:XW->St->Prop}{rest:List Oper}{l:XW}{S:St}
variable {d:Nat}{ty:TypeId}{pos:String}{ah:Array Edge}{gd:Option (Nat×Bool)}
theorem X92 {T:TypeId}{mb:Nat} (hx:S.ev x= .rs β o n c) (hlo:S.ev lo=ai lb) (hhi:S.ev hi=ai hb) (cN:S.ev mx=ai mb) (c8:lb<=hb) (hh:hb<=mb) (hm:mb<=c)
  (hT:UF P T sz=true) (hd:Nat.blt d S.n=true) (hg:XH ops S gd)
  (h:Walk P ops draw K rest ((l.length,⟨some d,.slice T x (some lo) (some hi) (some mx),ty,pos,ah,gd⟩,⟨XF ops gd++[(x,.rs β o n c),(lo,ai lb),(hi,ai hb),(mx,ai mb)],some (d,.any),[],[],[]⟩)::l) (S.set d .any)):
  Walk P ops draw K (⟨some d,.slice T x (some lo) (some hi) (some mx),ty,pos,ah,gd⟩::rest) l S:=by
 refine Yj h hg (Ug rfl fun E S g a w hs hq hl=> ?_) ⟨⟨hx,hlo,hhi,cN,TV⟩,TV,TV,hd⟩;obtain⟨e,h1,h2,h3⟩:=X1K hT;obtain⟨b5,bS,hq3,hq4,_⟩:=hq;have hv:=X2z b5;have e2:=Up bS;have e3:=Up hq3;have e4:=Up hq4;simp_all [Instr.sliceBounds,run_sliceBound,run_slice_any,AVal.sat,execOp,Instr.sliceAt,run_underlying]
end
section
variable {P:Program}
theorem Xql {T T2 ty e:TypeId}{i:TypeInfo}{z:Value}{base:Option Addr}{cap:Nat}{kd:IntKind}{k2:IntKind}{olds:Array Value}
  (hT:P.underlying T=some (.slice e)) (hi:P.info? e=some i) (hz:i.zero=some z) (h2:P.underlying T2=some (.int k2)) (hbytes:i.bytes≠0) (hs0:i.size≠0) (hm:0<m)
  (hold:∀w':World,w'.heap=w.heap->(Builtin.firstCells i.size n (.slice base n cap)).run P w'= .ok olds w') (hroom:¬n+m<=cap)
  (hmb:m*i.bytes<=2^48) (cU:n+m<2^63) (hcap:Builtin.nextslicecap (n+m) cap*i.bytes<=2^48):
  let newCap:=(Question.appendCap (n+m) cap e).cut (w.tape w.drawn (.appendCap (n+m) cap e))
  (Builtin.append_ #[T,T2] ty #[.slice base n cap,.int kd m]).run P w=
   .ok (.slice (some ⟨w.heap.size,0,none⟩) (n+m) newCap) (w.drew.alloc (.cells (olds++Builtin.zeroCells z.cells m++Builtin.zeroCells z.cells (newCap-(n+m))) e)):=by
 have ho:=hold w.drew rfl;have hw:IntKind.i64.wrap (m:Int)=m:=by grind [IntKind.wrap_i64]
 have hneg:¬((m:Int)<0):=by omega
 have qA:¬(281474976710656<(m:Int)*(i.bytes:Int)):=by omega
 have h63':¬(9223372036854775807<((n:Int)+(m:Int))):=by omega
 have aB:¬(m*i.size=0):=Nat.mul_ne_zero (by omega) hs0;have hm0:m≠0:=by omega
 simp[Builtin.append_,run_underlying hT,run_underlying h2,sizeOf,typeInfo,zeroValue,hi,hz,asInt,asIntOf,hw,hneg,hm0,hs0,hroom,hbytes,qA,h63',Nat.not_lt.2 hcap,Question.forced,ho,newRow];omega
def XaD (P:Program) (t:TypeId):Bool:=match P.underlying t with|some (.int _)=>true|_=>false
theorem Xsu {t:TypeId} (h:XaD P t=true):∃k,P.underlying t=some (.int k):=by
 grind [XaD]
variable {ops:Array Oper}{draw:Bool}{K:XW->St->Prop}{rest:List Oper}{l:XW}{S:St}
variable {d:Nat}{ty:TypeId}{pos:String}{ah:Array Edge}{gd:Option (Nat×Bool)}
theorem Xut {T T2:TypeId}{zs:List Value} (hx:S.ev x= .rs β 0 n1 c1) (hy:S.ev y= .d (.v (.int kd (m:Nat)))) (hL:S.obj β= .raw cs none) (hfull:¬n1+m<=c1) (hn':n1+m=n')
  (hm:0<m) (hxs:cs.take (n1*sz)=xs.flatten.map some) (hxl:xs.length=n1) (hxz:∀r∈xs,r.length=sz) (hle:n1*sz<=cs.length)
  (hz:X2K P T=some zs) (hB:elB P T=bytes) (hT:X1b P T sz bytes=true) (bN:XaD P T2=true) (hb0:Nat.beq bytes 0=false) (hs0:Nat.beq sz 0=false) (hcap:n'*bytes<=70368744177664) (hold:c1<n')
  (av:S.obj γ= .dead) (hf:S.free γ=true) (hd:Nat.blt d S.n=true) (hg:XH ops S gd)
  (h:Walk P ops draw K rest ((l.length,⟨some d,.call ⟨.builtin .append,#[x,y],#[T,T2]⟩,ty,pos,ah,gd⟩,⟨XF ops gd++[(x,.rs β 0 n1 c1),(y,.d (.v (.int kd (m:Nat))))],some (d,.own γ n'),[(β,.raw cs none),(γ,.dead)],[(γ,.row sz (xs++replicate m (zD zs)))],[γ]⟩)::l)
   ((S.set d (.own γ n')).own γ (.row sz (xs++replicate m (zD zs))))):
  Walk P ops draw K (⟨some d,.call ⟨.builtin .append,#[x,y],#[T,T2]⟩,ty,pos,ah,gd⟩::rest) l S:=by
 refine Yj h hg (X3e rfl fun E S g a w hs hq hl gU=> ?_) ⟨⟨hx,hy,TV⟩,⟨hL,av,TV⟩,⟨hf,TV⟩,hd⟩;obtain⟨e,i,z,hu,hi,hsz,fM,bZ,hzs,bR⟩:=X5j hT;obtain⟨k2,h2⟩:=Xsu bN;have so:z.cells.toList=zs:=by
  grind [XaS,X4O]
 have ho:=hs.1.obj β;rw[hl.1] at ho;have hx':=X2z hq.1;have hy':=Up hq.2.1;obtain⟨vs,r1,r2,r3⟩:=Xe4 (P:=P) (o:=0) (q:=n1*sz) ho (by omega);rw[drop_zero,hxs,map_map] at r2;have qB:=X5d hb0;have qC:=X5d hs0;have hnext:=nextslicecap_le (need:=n1+m) (old:=c1) (by omega);have hmb:m*i.bytes<=2^48:=by
  have:m*i.bytes<=n'*i.bytes:=Nat.mul_le_mul_right _ (by omega)
  grind
 have hgrow:Builtin.nextslicecap (n1+m) c1*i.bytes<=2^48:=by
  have h2:Builtin.nextslicecap (n1+m) c1*i.bytes<=2*(n1+m)*i.bytes:=Nat.mul_le_mul_right _ hnext
  grind [Nat.mul_assoc]
 have cU:n1+m<2^63:=by
  have:n'<=n'*bytes:=Nat.le_mul_of_pos_right _ (by omega);omega
 have hr:=Xql (P:=P) (w:=w) (T:=T) (T2:=T2) (ty:=ty) (base:=some ⟨g.az β,0,none⟩) (n:=n1) (cap:=c1) (m:=m) (kd:=kd) (olds:=vs.toArray) hu hi bZ h2 (by rw[fM];exact qB) (by rw[hsz];exact qC) hm
  (fun w' hw'=>by grind [XeG]) hfull hmb cU hgrow
 obtain⟨jQ,oB⟩:=X9G (n1+m) c1 e (w.tape w.drawn (.appendCap (n1+m) c1 e)) cU;simp only at hr;revert hr jQ oB;generalize (Question.appendCap (n1+m) c1 e).cut (w.tape w.drawn (.appendCap (n1+m) c1 e))=nc;intro hr jQ oB;rw[hn'] at hr jQ;have hlen:(xs++replicate m (zD zs)).length=n':=by grind
 have hzl:zs.length=sz:=by grind
 have kW:(Builtin.zeroCells z.cells m).toList=Vn zs m:=by grind [Builtin.zeroCells,X8z]
 have bS:=XeK (g:=g) (zs:=zs) (by grind) m;refine⟨_,g.put γ 0 (.slice (some ⟨w.heap.size,0,none⟩) n' nc),_,X6Y rfl (by rw[hx',hy'];exact hr),X9m (w:=w),X86 hs.1 γ gU.1 hl.2.1 _ _ _ (fun k hk=>X4K w.drew _ k hk) (X6M w.drew _) rfl rfl ?_ (fun k hk=> ?_),X3V gU.1 hs.2.2.2⟩
 ·refine⟨fun r hr=>(mem_append.1 hr).elim (hxz r) (fun hr=>by grind [Xac]),.inr ⟨w.heap.size,nc,_,e,(0,0),by grind [Gh.put],by omega,oB,heap_alloc_new w.drew _,X6i _,?_,?_⟩⟩
  ·simp only[Array.size_append,X6T,hzs,size_toArray,r1];rw[<-Nat.add_mul,<-Nat.add_mul]
   grind
  ·have e1:((vs.toArray++Builtin.zeroCells z.cells m++Builtin.zeroCells z.cells (nc-n')).toList.take ((xs++replicate m (zD zs)).length*sz))=vs++Vn zs m:=by
    grind [X6T,Nat.add_mul]
   rw[e1,flatten_append];exact X7p (Xba _ _) (Xat r2 bS)
 ·obtain⟨a1,n2,c2,e1,e2⟩:=hk
  grind [Gh.put]
end
abbrev fl (xs:List (List D)):List (Option D):=xs.flatten.map some
theorem Vg (h:∀x∈xs,x.length=sz):(fl xs).length=xs.length*sz:=by
 grind [X25]
theorem XnN (xs ys:List (List D)):fl (xs++ys)=fl xs++fl ys:=by simp[fl]
theorem XhY:∀ds:List D,X0S (ds.map some)=true
 |[]=>rfl
 |d::ds=>by rw[map_cons,X0S,XhY ds];rfl
theorem X4x (xs:List (List D)):X0S (fl xs)=true:=XhY _
theorem X2s (h:∀x∈xs,x.length=sz) (j:Nat):∀x∈xs.take j,x.length=sz:=by grind
theorem X6S (h:∀x∈xs,x.length=sz) (j:Nat):∀x∈xs.drop j,x.length=sz:=by grind
theorem X5M (h:∀x∈xs,x.length=sz) (T:List (Option D)) {j:Nat} (hj:j<=xs.length):(fl xs++T).take (j*sz)=fl (xs.take j):=by
 have e:fl xs=fl (xs.take j)++fl (xs.drop j):=by grind [take_append_drop]
 have hl:(fl (xs.take j)).length=j*sz:=by grind [Vg,LT]
 grind
theorem Xmm (h:∀x∈xs,x.length=sz) (T:List (Option D)) {j:Nat} (hj:j<=xs.length):(fl xs++T).drop (j*sz)=fl (xs.drop j)++T:=by
 have e:fl xs=fl (xs.take j)++fl (xs.drop j):=by grind [take_append_drop]
 grind [Vg,LT]
theorem Xhd (h:∀x∈xs,x.length=sz) (T:List (Option D)) (q:Nat):(fl xs++T).drop (xs.length*sz+q)=T.drop q:=by
 rw[<-drop_drop,drop_left' (Vg h)]
section
variable {sz i:Nat}{xs:List (List D)}{v:List D}{T:List (Option D)}
def X3o (sz i:Nat) (xs:List (List D)) (T:List (Option D)):List (Option D):=fl (xs.take (i+1))++(fl (xs.drop i)++T.drop sz)
def X3x (sz i:Nat) (xs:List (List D)) (v:List D) (T:List (Option D)):List (Option D):=fl (xs.take i)++(fl [v]++(fl (xs.drop i)++T.drop sz))
theorem X7q (h:∀x∈xs,x.length=sz) (hi:i<xs.length):((fl xs++T).drop (i*sz)).take ((xs.length-i)*sz)=fl (xs.drop i):=by
 grind [Xmm,Vg,LD]
theorem X9P (h:∀x∈xs,x.length=sz) (hi:i<xs.length):(fl xs++T).take ((i+1)*sz)++((fl xs++T).drop (i*sz)).take ((xs.length-i)*sz)++(fl xs++T).drop ((i+1)*sz+(xs.length-i)*sz)=X3o sz i xs T:=by
 have e:(i+1)*sz+(xs.length-i)*sz=xs.length*sz+sz:=by
  rw[<-Nat.add_mul,show i+1+(xs.length-i)=xs.length+1 by omega,Nat.succ_mul]
 grind [Xhd,X7q,X5M,X3o]
theorem X9h (h:∀x∈xs,x.length=sz) (hi:i<xs.length):(X3o sz i xs T).take (i*sz)++([v].take 1).flatten.map some++(X3o sz i xs T).drop (i*sz+1*sz)=X3x sz i xs v T:=by
 have hl:(xs.take (i+1)).length=i+1:=by grind
 have e:i*sz+1*sz=(xs.take (i+1)).length*sz+0:=by grind
 unfold X3o X3x;rw[e,Xhd (X2s h (i+1)),drop_zero,X5M (X2s h (i+1)) _ (by omega),take_take,Nat.min_eq_left (by omega),AS];rfl
theorem X8A (h:∀x∈xs,x.length=sz) (hv:v.length=sz) (hi:i<=xs.length):(X3x sz i xs v T).take ((xs.length+1)*sz)=(xs.take i++v::xs.drop i).flatten.map some:=by
 have e:X3x sz i xs v T=fl (xs.take i++v::xs.drop i)++T.drop sz:=by
  grind [X3x]
 have hl:∀x∈xs.take i++v::xs.drop i,x.length=sz:=by
  grind
 have hn:(xs.take i++v::xs.drop i).length=xs.length+1:=by grind
 grind [Vg]
theorem X9t (h:∀x∈xs,x.length=sz) (hv:v.length=sz):∀x∈xs.take i++v::xs.drop i,x.length=sz:=by
 grind
theorem X9Z (hi:i<=xs.length):(xs.take i++v::xs.drop i).length=xs.length+1:=by grind
theorem X9p (h:∀x∈xs,x.length=sz) (hi:i<xs.length) (hT:sz<=T.length):(X3o sz i xs T).length=xs.length*sz+T.length:=by
 unfold X3o;rw[LA,LA,Vg (X2s h _),Vg (X6S h _),LT,LD,LD,Nat.min_eq_left (by omega)];have:(i+1)*sz+(xs.length-i)*sz=xs.length*sz+sz:=by rw[<-Nat.add_mul,show i+1+(xs.length-i)=xs.length+1 by omega,Nat.succ_mul]
 omega
theorem X9J (h:∀x∈xs,x.length=sz) (hv:v.length=sz) (hi:i<=xs.length) (hT:sz<=T.length):(X3x sz i xs v T).length=xs.length*sz+T.length:=by
 unfold X3x;rw[LA,LA,LA,Vg (X2s h _),Vg (X6S h _),LT,LD,LD,Nat.min_eq_left hi];have h1:(fl [v]).length=sz:=by simp[fl,hv]
 have:i*sz+(xs.length-i)*sz=xs.length*sz:=by rw[<-Nat.add_mul];congr 1;omega
 omega
theorem X8u {zs:List (List D)} (hi:i<=xs.length) (hz:zs.length=xs.length+1-i) (hlt:i<xs.length):
  ((xs.take i++zs).take i++[v].take 1++(xs.take i++zs).drop (i+1)).take (i+1)++((xs.take xs.length).drop i).take (xs.length-i)++((xs.take i++zs).take i++[v].take 1++(xs.take i++zs).drop (i+1)).drop (i+1+(xs.length-i))=xs.take i++v::xs.drop i:=by
 have l1:(xs.take i).length=i:=by grind
 have l2:(xs.take i++[v]).length=i+1:=by grind
 have e1:(xs.take i++zs).take i=xs.take i:=take_left' l1;have l3:((xs.take i++zs).drop (i+1)).length=xs.length-i:=by grind
 have e2:((xs.take xs.length).drop i).take (xs.length-i)=xs.drop i:=by grind [LD]
 have e3:(xs.take i++[v]++(xs.take i++zs).drop (i+1)).drop (i+1+(xs.length-i))=[]:=drop_eq_nil_of_le (by grind)
 grind
def X3W (sz i:Nat) (xs:List (List D)) (W:List (Option D)):List (Option D):=fl (xs.take i)++(fl (xs.drop (i+1))++W)
theorem X7C (h:∀x∈xs,x.length=sz) (hi:i<xs.length) {c off:Nat} (hc:xs.length<=c) (ho:(if c=i+1 then 0 else 0+(i+1)*sz)=off):((fl xs++T).drop off).take ((xs.length-(i+1))*sz)=fl (xs.drop (i+1)):=by
 grind [Xmm,Vg,LD]
theorem X95 (hi:i<xs.length) {c off:Nat} (hc:xs.length<=c) (ho:(if c=i+1 then 0 else 0+(i+1)*sz)=off) (h:∀x∈xs,x.length=sz):off+(xs.length-(i+1))*sz<=(fl xs++T).length:=by
 rw[LA,Vg h];by_cases e:xs.length=i+1
 ·grind
 ·have:off=(i+1)*sz:=by grind
  rw[this,<-Nat.add_mul,show i+1+(xs.length-(i+1))=xs.length by omega];omega
theorem X9o (h:∀x∈xs,x.length=sz) (hi:i<xs.length) {c off:Nat} (hc:xs.length<=c) (ho:(if c=i+1 then 0 else 0+(i+1)*sz)=off):(fl xs++T).take (0+i*sz)++((fl xs++T).drop off).take ((xs.length-(i+1))*sz)++(fl xs++T).drop (0+i*sz+(xs.length-(i+1))*sz)=X3W sz i xs ((fl xs++T).drop (i*sz+(xs.length-(i+1))*sz)):=by
 grind [X7C,X5M,X3W]
theorem Xa4 (h:∀x∈xs,x.length=sz) (hi:i<xs.length) (W V:List (Option D)):((X3W sz i xs W).take ((xs.length-1)*sz)++V).take ((xs.length-1)*sz)=(xs.take i++xs.drop (i+1)).flatten.map some:=by
 have hl:∀x∈xs.take i++xs.drop (i+1),x.length=sz:=by
  grind
 have hn:(xs.take i++xs.drop (i+1)).length=xs.length-1:=by grind
 grind [X3W,Vg]
theorem X9e (hi:i<xs.length):(xs.take i++xs.drop (i+1)).length=xs.length-1:=by grind
theorem X8t (h:∀x∈xs,x.length=sz) (hi:i<xs.length):(X3W sz i xs ((fl xs++T).drop (i*sz+(xs.length-(i+1))*sz))).length=xs.length*sz+T.length:=by
 unfold X3W;have e1:i*sz+(xs.length-(i+1))*sz<=xs.length*sz:=by rw[<-Nat.add_mul];exact Nat.mul_le_mul_right _ (by omega)
 grind [Vg,LT,LD]
end
def XcN (P:Program) (t:TypeId):Bool:=match P.underlying t with|some (.interface _)=>false|some _=>true|none=>false
theorem XoM {t:TypeId} (h:XcN P t=true) (v:Value) (w:World):(Instr.makeInterface t v).run P w= .ok (.iface t v) w:=by
 unfold XcN at h;cases hu:P.underlying t with
 |none=>simp[hu] at h
 |some d=>
  unfold Instr.makeInterface;rw[Sem.run_bind,run_underlying hu w];cases d<;>simp_all
section
variable {P:Program}{ops:Array Oper}{draw:Bool}{K:XW->St->Prop}{rest:List Oper}{l:XW}{S:St}
variable {d:Nat}{ty:TypeId}{pos:String}{ah:Array Edge}{gd:Option (Nat×Bool)}
theorem Xo1 {t:TypeId} (hx:S.ev x= .d (.v u)) (ht:XcN P t=true) (hd:Nat.blt d S.n=true) (hg:XH ops S gd)
  (h:Walk P ops draw K rest ((l.length,⟨some d,.makeInterface t x,ty,pos,ah,gd⟩,⟨XF ops gd++[(x,.d (.v u))],some (d,.d (.v (.iface t u))),[],[],[]⟩)::l) (S.set d (.d (.v (.iface t u))))):
  Walk P ops draw K (⟨some d,.makeInterface t x,ty,pos,ah,gd⟩::rest) l S:=
 Yj h hg (Ug rfl fun E S g a w hs hq _=>by
  refine⟨.iface t u,?_,X02 rfl⟩;simp only[execOp,Up hq.1,Sem.run_bind,XoM ht];rfl) ⟨⟨hx,TV⟩,TV,TV,hd⟩
end
theorem Xjn:∀{xs us:List Value},Xx g (xs.map fun x=> .d (.v x)) us->Xx g' (xs.map fun x=> .d (.v x)) us
 |[],[],_=>by grind [Xx]
 |[],_::_,h=>by grind [Xx]
 |_::_,[],h=>by grind [Xx]
 |x::xs,u::us,h=>by
  simp only[map_cons,Xx,AVal.sat,D.rep] at h |-;exact⟨h.1,Xjn h.2⟩
theorem Xwf (xs:List Value) (g g':Gh) (v:Value) (h:(AVal.tup (xs.map fun x=> .d (.v x))).sat g v):(AVal.tup (xs.map fun x=> .d (.v x))).sat g' v:=by
 grind [AVal.sat,Xjn]
theorem X5l {a b:Value} (γ:Nat) (af:Con P f [] (.d (.sl sz xs)::post) [] (.tup [.d (.v a),.d (.v b)])):
  Con P f [(γ,.row sz xs)] (.own γ xs.length::post) [(γ,.row sz xs)] (.tup [.d (.v a),.d (.v b)]):=
 Xsr (pre:=[]) γ af (Xwf [a,b])
structure AW (P:Program) (E:Env) (c:Code) (S:St) (R:Exit->Act->World->Prop):Prop where
 run:∀a w,holds E S a w->c.wp P R a w
section
variable {P:Program}{E:Env}{S:St}{R:Exit->Act->World->Prop}
theorem Xbk {c:Code} (h:AWP P E c S (fun e T=> ∀a w,holds E T a w->R e a w)):AW P E c S R:=
 ⟨fun a w hs=>wp_mono (h.run a w hs) fun e a' w' ⟨T,h1,h2⟩=>h1 a' w' h2⟩
theorem X4B {x y:Code} (h:AWP P E x S (X3j (fun T=>AW P E y T R) (fun e T=> ∀a w,holds E T a w->R e a w))):AW P E (.seq x y) S R:=by
 refine⟨fun a w hs=>wp_seq (wp_mono (h.run a w hs) ?_)⟩;rintro e a' w' ⟨T,hq,ht⟩;cases e<;>first|exact hq.run a' w' ht|exact hq a' w' ht
theorem Xaw {c:Code} (h:S.le T) (k:AW P E c T R):AW P E c S R:=⟨fun a w hs=>k.run a w (h E a w hs)⟩
end
def X7y (E:Env) (Li Lo:List (Nat×AObj)) (xs:List AVal):Ending->World->Prop:=fun e w'=>
 ∃v g',e= .returned v/\(X5T xs).sat g' v/\Inv {E with g0:=g'} (Xp .dead Lo) g' w'/\∀γ,Ya γ Li=true->E.g0.keeps g' γ
theorem X91 {c:Code}{args xs:List AVal} (hf:P.funcs[f]? =some fn) (hb:fn.body=some c) (hn:fn.ntmps=n)
  (hle:Nat.ble args.length n=true) (h:∀E,E.ds=[]->AW P E c (X2G n args Li) (bodyPostD P fn (X7y E Li Lo xs))):Con P f Li args Lo (X5T xs):=by
 intro g w vs hi hs;have hl:=US hs;refine calls_of_wp_defers hf hb ?_;have hstart:holds (Vw g w Li) (X2G n args Li) {tmps:=vs.toArray++Array.replicate (fn.ntmps-vs.toArray.size) undef,defers:=[]} w:=by
  refine⟨g,hi,rfl,?_,fun t=> ?_⟩
  ·simp_all [X2G]
  ·show AVal.sat g (Xp _ _ _) _;simp only[X2G];rw[Xbp];simp only[Nat.zero_le,if_true,Nat.sub_zero];cases hx:args[t]? with
   |none=>simp[AVal.sat]
   |some x=>
    obtain⟨u,hu,g8⟩:=VQ hs t x hx;have hlt:t<vs.length:=(GS.1 hu).1;have:(vs.toArray++Array.replicate (fn.ntmps-vs.toArray.size) undef).getD t undef=u:=by
     simp_all [Array.getElem?_append_left]
    rw[this];exact g8
 exact(h (Vw g w Li) rfl).run _ w hstart
section
variable {P:Program}{E:Env}{fn:Func}{rs:List ResultVar}{Li Lo:List (Nat×AObj)}{xs:List AVal}
theorem XwK (hds:E.ds=[]) (hr:fn.results.toList=rs) (aN:X5o Li=true) (h:Xa P rs Lo xs T) {a:Act}{w:World} (hs:holds E T a w):Leaves P fn a.tmps (X7y E Li Lo xs) a.defers .returning w:=by
 obtain⟨U,hU,hres,hsub⟩:=h;obtain⟨g',hg'⟩:=hU _ _ _ hs;obtain⟨v,r1,r2⟩:=Xc6 hg' hr hres;rw[hg'.2.1,hds];exact⟨v,r1,v,g',rfl,r2,(hg'.1.sub hsub).free (fun γ _=>Gh.keeps_refl _ _),fun γ aQ=>hg'.1.kp γ (X9A Li γ aN aQ)⟩
abbrev dfr (f:FuncId) (b:Nat):Deferred:={target:= .fn (.func f) #[.pointer (some ⟨b,0,none⟩)],args:= #[]}
theorem Xn2 (hf:X2J P f=true) (b:Nat) (w:World):(invoke (dfr f b).target (dfr f b).args).run P w= .ok (.enter f #[.pointer (some ⟨b,0,none⟩)]) w:=by
 grind [invoke,Xb4]
theorem Xi4 (hf:X2J P f=true) (hds:E.ds=[dfr f b]) (hr:fn.results.toList=rs) (aN:X5o Li=true)
  (hR:∀x w',X7y E Li Lo xs x w'->R x w')
  (oE:∀p w,CallsD P f #[.pointer (some p)] .returning w fun e u' w'=>e= .returned (.tuple #[])/\u'= .returning/\w'=w) (h:Xa P rs Lo xs T) {a:Act}{w:World} (hs:holds E T a w):Leaves P fn a.tmps R a.defers .returning w:=by
 obtain⟨U,hU,hres,hsub⟩:=h;obtain⟨g',hg'⟩:=hU _ _ _ hs;obtain⟨v,r1,r2⟩:=Xc6 hg' hr hres;rw[hg'.2.1,hds];refine leaves_cons (f:=f) (args:= #[.pointer (some ⟨b,0,none⟩)]) (by simp) (Xn2 hf b w) ((oE _ _).mono ?_);rintro e u' w' ⟨rfl,rfl,rfl⟩;exact⟨v,r1,hR _ _ ⟨v,g',rfl,r2,(hg'.1.sub hsub).free (fun γ _=>Gh.keeps_refl _ _),fun γ aQ=>hg'.1.kp γ (X9A Li γ aN aQ)⟩⟩
end
theorem Xrs {x0 y:AVal} (hs:Vi E S g a w) (hL:S.obj γ= .box [x0]) (hy:y.sat g u) (hc:y.cellish=true):
  ∃c0,w.cell? ⟨g.az γ,0,none⟩=some c0/\x0.sat g c0/\w.frozen? ⟨g.az γ,0,none⟩=false/\Vi E (S.own γ (.box [y])) g a (w.setCell ⟨g.az γ,0,none⟩ u):=by
 have ho:=hs.1.obj γ;rw[hL] at ho;obtain⟨vs,e,fr,h1,h2,h3,h4⟩:=ho;obtain⟨c0,hc0,b8⟩:=VQ h3 0 x0 rfl;have hsz:vs.size=1:=by have:=US h3;simpa using this
 have hvs:vs= #[c0]:=by
  grind
 subst hvs;have hb:(w.setCell ⟨g.az γ,0,none⟩ u).heap[g.az γ]? =some (.cells #[u] e fr):=by
  grind [World.setCell]
 refine⟨c0,by rw[cell_of_row w _ 0 _ e fr h1];rfl,b8,?_,?_,hs.2.1,hs.2.2.1,hs.2.2.2⟩
 ·have:=h2 0 (by omega)
  grind [World.frozen?]
 ·refine Inv.upd hs.1 γ _ (YE _ _ _ _) (fun k hk=>Yz _ _ _ (Ne.symm hk)) (fun b hb ax=> ?_) (by simp[World.setCell]) rfl rfl rfl (fun k hk=>⟨rfl,rfl,rfl⟩) (fun k cs us _ _ h=>h) ?_ (fun b hb=> .inl (by rw[hL];exact hb)) (fun _=>Gh.keeps_refl _ _)
  ·grind [World.setCell,Xw]
  grind [Xx,Ub]
theorem Xl2 {t:Nat}{ty:TypeId}{x:PanicEntry}{e e0:Int} (hf:X2J P f=true) (hds:E.ds=[dfr f b]) (hb:E.g0.az β=b) (jN:β<100) (hr:fn.results.toList=[.cell t ty]) (sI:X1g P ty false 1=true) (aN:X5o Li=true)
  (hR:∀x w',X7y E Li Lo [ai e] x w'->R x w') (ue:x.recovered=true)
  (mS:∀(p:Addr) (e0:Int) (w:World),w.cell? p=some (.int .i64 e0)->w.frozen? p=false->CallsD P f #[.pointer (some p)] (.panicking [{x with recovered:=false}]) w fun y u' w'=>y= .returned (.tuple #[])/\u'= .panicking [{x with recovered:=true}]/\w'=w.setCell p (.int .i64 e))
  (hg:T.get t= .ptr β 0) (hL:T.obj β= .box [ai e0]) (sJ:∀γ,Xp .dead Lo γ= .dead) {a:Act}{w:World} (hs:holds E T a w):Leaves P fn a.tmps R a.defers (.panicking [{x with recovered:=false}]) w:=by
 obtain⟨g,hs⟩:=hs;obtain⟨c0,k1,k2,k3,k4⟩:=Xrs (y:=ai e) (u:= .int .i64 e) hs hL (X02 rfl) rfl;have hbk:g.az β=b:=((hs.1.kp β jN).1).trans hb;have hc0:c0= .int .i64 e0:=Up k2;subst hc0;rw[hbk] at k1 k3 k4;rw[hs.2.1,hds];refine leaves_cons (f:=f) (args:= #[.pointer (some ⟨b,0,none⟩)]) (by simp) (Xn2 hf b w) ((mS _ _ _ k1 k3).mono ?_);rintro y u' w' ⟨rfl,rfl,rfl⟩;have hres:X8x P (T.own β (.box [ai e])) [.cell t ty] [ai e]:=⟨⟨β,0,_,hg,YE _ _ _ _,.inl ⟨sI,rfl⟩⟩,TV⟩
 obtain⟨v,r1,r2⟩:=Xc6 k4 hr hres;exact⟨v,r1,hR _ _ ⟨v,g,rfl,r2,(k4.1.sub fun γ=> .inr (sJ γ)).free (fun γ _=>Gh.keeps_refl _ _),fun γ aQ=>k4.1.kp γ (X9A Li γ aN aQ)⟩⟩
theorem Xph {a:Nat} (h1:k≠a) (h2:k≠b):swp a b k=k:=by
 grind [swp,Nat.eq_of_beq_eq_true]
theorem XcG {R:Exit->Act->World->Prop}{y:Code} (k:Nat) {t:Tmp}{f:FuncId}{Li Lo:List (Nat×AObj)}{xs:List AVal} (β β':Nat) {ty:TypeId}{pos:String}{ah:Array Edge}
  (ho:ops[k]? =some ⟨none,.defer ⟨.value (.tmp t),#[],#[]⟩,ty,pos,ah,none⟩) (hsz:ops.size=k+1) (hds:E.ds=[]) (jN:β≥100) (bH:∀γ,Ya γ Li=true->γ<100/\γ≠β')
  (h:Walk P ops false (fun _ T=>T.ev (.tmp t)= .fn f [.ptr β 0]/\∀E' b,E'.ds=[dfr f b]->E'.g0.az β'=b->(∀x w',X7y E' Li Lo xs x w'->X7y E Li Lo xs x w')->AW P E' y ⟨T.n,X87 (swp β β') T.τ,X1D (swp β β') T.L⟩ R) (ops.toList.take k) [] S):AW P E (.seq (.region id ops false) y) S R:=by
 refine⟨fun a w hs=>wp_seq ?_⟩;refine wp_region ?_;obtain⟨m,T,-,⟨hT,cT⟩,h3,h4,h5⟩:=h.chain;have hlen:m.length=k:=by grind [LT]
 have aY:∀x∈m,ops[x.1]? =some x.2.1:=by
  intro x hx;obtain⟨i,hi,rfl⟩:=getElem_of_mem hx;have e1:(m[i]).1=i:=by
   have:=CG (fun l=>l[i]?) h5;simpa [hi] using this
  have e2:=CG (fun l=>l[i]?) h4
  grind
 have bG:∀a w,holds E T a w->wpOps P ops (fun| .normal,a,w=>y.wp P R a w|e,a,w=>R e a w) [k] a w:=by
  rintro a w ⟨g,hg⟩;rw[wpOps_cons];unfold wpOp;simp only[ho];rw[PI (show Region.wanted _ _=true from rfl)];have hv:=X9c hg (.tmp t);rw[hT] at hv;simp only[AVal.sat] at hv;obtain⟨vs,hv,hvs⟩:=hv;have cL:vs= #[.pointer (some ⟨g.az β,0,none⟩)]:=by
   apply Array.ext'
   match hq:vs.toList,hvs with
   |[v],hvs=>grind [Xx,AVal.sat]
   |[],hvs=>simp[Xx] at hvs
   |_::_::_,hvs=>simp[Xx] at hvs
  subst cL;left;unfold Oper.wp;have hrun:(execOp a.eval ⟨none,.defer ⟨.value (.tmp t),#[],#[]⟩,ty,pos,ah,none⟩).run P w= .ok (.defer (dfr f (g.az β))) w:=by
   simp[execOp,resolve,hv,Deferred.ofValue]
  rw[hrun,Oper.upon_defer];show Code.wp P y R _ _;refine(cT {E with ds:=[dfr f (g.az β)],g0:=g.pull (swp β β')} (g.az β) rfl ?_ ?_).run _ _ ?_
  ·show g.az (swp β β' β')=g.az β;have:swp β β' β'=β:=by
    have:=X5q β β' β;simp_all [swp]
   rw[this]
  ·rintro x w' ⟨v,g',e1,e2,e3,e4⟩;refine⟨v,g',e1,e2,⟨e3.obj,e3.inj,e3.mem,e3.sep,e3.new,e3.ext,e3.lim,e3.frame,e3.size,e3.os,e3.out,e3.kp⟩,fun γ aQ=> ?_⟩;obtain⟨q1,q2⟩:=bH γ aQ;have e:=e4 γ aQ;have hid:swp β β' γ=γ:=Xph (by omega) q2;exact(hg.1.kp γ q1).trans' ((Gh.keeps_of (g':=g.pull (swp β β')) (by grind [Gh.pull]) (by grind [Gh.pull]) (by grind [Gh.pull])).trans' e)
  ·have cO:(g.pull (swp β β')).pull (swp β β')=g:=by simp[Gh.pull,X5q]
   have hi:Inv {E with g0:=(g.pull (swp β β')).pull (swp β β')} (Xp .dead T.L) ((g.pull (swp β β')).pull (swp β β')) w:=by
    rw[cO];exact hg.1.free fun _ _=>Gh.keeps_refl _ _
   have hi2:=(XaJ (E:=E) (g0:=g.pull (swp β β')) (X5q β β') (X5q β β')).2 hi;refine⟨g.pull (swp β β'),⟨hi2.obj,hi2.inj,hi2.mem,hi2.sep,hi2.new,hi2.ext,hi2.lim,hi2.frame,hi2.size,hi2.os,hi2.out,hi2.kp⟩,?_,hg.2.2.1,fun t'=> ?_⟩
   ·show _::a.defers=_;rw[hg.2.1,hds]
   ·show AVal.sat _ (Xp .any (X87 (swp β β') T.τ) t') _;rw[Xff,XaF,cO];exact hg.2.2.2 t'
 obtain⟨g,hs⟩:=hs;have:=XdE (P:=P) (Q:=fun| .normal,a,w=>y.wp P R a w|e,a,w=>R e a w) [k] bG m S a w aY h3 ⟨g,hs⟩;rw[h5,hlen,length_nil] at this;have e:range' 0 k++[k]=range ops.size:=by
  rw[hsz,range_succ,range_eq_range']
 rw[e] at this;exact this
end Go.Fw
