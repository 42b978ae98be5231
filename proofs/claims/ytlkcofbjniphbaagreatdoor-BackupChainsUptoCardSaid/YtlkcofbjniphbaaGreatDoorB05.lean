/- Tenth part: literals of slices, make, slice expressions, strings, rows that are read and written in place. -/
import Derived.WalkSpells
import Derived.Test.YtlkcofbjniphbaaGreatDoorB04
namespace Go.Fw
open Go
set_option linter.unusedVariables false
set_option linter.unusedSimpArgs false
theorem Xcg {g:Gh}{w:World}{sz:Nat}{xs:List (List D)}{vs:Array Value}{cap:Nat} (hlen:∀x∈xs,x.length=sz) (hsat:XB g (xs.flatten.map .d) (vs.toList.take (xs.length*sz))) (hM:Yj g.M (g.lay w.heap.size vs).M)
  (hcap:xs.length≤cap) (hmax:cap≤maxLen):(AVal.d (.sl sz xs)).sat (g.lay w.heap.size vs) (.slice (some ⟨w.heap.size,0,none⟩) xs.length cap):=by
 simp only[AVal.sat,D.rep]
 refine⟨_,cap,rfl,hcap,hmax,.inr ⟨w.heap.size,0,rfl,X5x xs 0 hlen fun i d hd=> ?_⟩⟩
 obtain⟨hl,hr⟩:=X3U hsat
 obtain⟨u,hu,hsu⟩:=hr i d hd
 refine⟨u,?_,D.rep_mono hM _ _ hsu⟩
 show(if _ then _ else _)=_
 rw[if_pos ⟨rfl,rfl⟩,Nat.zero_add]
 rw[List.getElem?_take] at hu
 split at hu
 ·simpa using hu
 ·simp at hu
theorem XhF {E:Env}{S:St}{g:Gh}{w:World} (hi:Inv E S.obj g w) (γ:Nat) (hf:S.free γ=true) (hdead:S.obj γ= .dead) {sz:Nat}{xs:List (List D)}{vs:Array Value}{e:TypeId}{fr:Nat×Nat}{cap:Nat}
  (hlen:∀x∈xs,x.length=sz) (hsat:XB g (xs.flatten.map .d) (vs.toList.take (xs.length*sz))) (hcap:xs.length≤cap) (hmax:cap≤maxLen) (hsz:cap*sz≤vs.size) (hfr:X40 fr vs.size):
  Inv E (Xo .dead ((γ,.row sz xs)::S.L)) (g.put γ 0 (.slice (some ⟨w.heap.size,0,none⟩) xs.length cap)) (w.alloc (.cells vs e fr)):=
 X4g hi γ hf hdead _ _ _ (X1R w _) (X37 w _) rfl rfl
  ⟨hlen,.inr ⟨w.heap.size,cap,vs,e,fr,by simp[Gh.put],hcap,hmax,heap_alloc_new w _,hfr,hsz,X5M (X7F _ _) hsat⟩⟩
  (fun k hk=>by obtain⟨a,n,c,e,rfl⟩:=hk;simp only[Gh.put,if_true] at e;cases e;exact Nat.le_refl _)
theorem X7j {g:Gh}{w:World}{γ n cap:Nat}{a:Option Addr}:(AVal.own γ n).sat (g.put γ 0 (.slice a n cap)) (.slice a n cap):=by
 simp only[AVal.sat]
 exact⟨rfl,a,n,cap,by simp[Gh.put],Nat.le_refl _,fun _=>rfl⟩
def Uj (z:List Value) (n:Nat):List Value:=(List.replicate n z).flatten
def X14 (P:Program) (t:TypeId):Option (List Value):=
 match P.underlying t with
 |some (.slice e)=>X3q P e
 |_=>none
theorem XbZ {P:Program}{t:TypeId}{zs:List Value} (h:X14 P t=some zs):∃e,P.underlying t=some (.slice e)∧X3q P e=some zs:=by
 unfold X14 at h
 cases hu:P.underlying t with
 |none=>simp[hu] at h
 |some de=>rw[hu] at h;cases de<;>simp at h;exact⟨_,rfl,h⟩
theorem X8l (z:Array Value) (n:Nat):((Array.range (n*z.size)).map (fun i=>z[i%z.size]!)).toList=Uj z.toList n:=by
 induction n with
 |zero=>simp[Uj]
 |succ n ih=>
  have e1:Uj z.toList (n+1)=Uj z.toList n++z.toList:=by
   simp[Uj,List.replicate_succ']
  rw[e1,←ih]
  apply List.ext_getElem?
  intro j
  simp only[Array.toList_map,Array.toList_range,List.getElem?_map,List.getElem?_append,List.length_map,List.length_range]
  have hm:(n+1)*z.size=n*z.size+z.size:=Nat.succ_mul _ _
  by_cases h1:j<n*z.size
  ·rw[if_pos h1,List.getElem?_range (by omega),List.getElem?_range h1]
  ·rw[if_neg h1]
   by_cases h2:j<(n+1)*z.size
   ·rw[List.getElem?_range h2]
    have h3:j-n*z.size<z.size:=by omega
    have h4:j%z.size=j-n*z.size:=by
     have:j=(j-n*z.size)+n*z.size:=by omega
     rw[this,Nat.add_mul_mod_self_right,Nat.mod_eq_of_lt h3]
     omega
    simp[h4,h3]
   ·rw[List.getElem?_eq_none (by simp;omega)]
    symm
    rw[Option.map_none,List.getElem?_eq_none (by simp;omega)]
theorem Xjh {P:Program}{e:TypeId}{zs:List Value} (h:X3q P e=some zs):∃z:Value,z.cells.toList=zs∧(∀w,(zeroValue e).run P w= .ok z w):=XaG h
section
variable {P:Program}{ops:Array Oper}{draw:Bool}{K:Y4→St→Prop}{rest:List Oper}{l:Y4}{S:St}
variable {d:Nat}{ty:TypeId}{pos:String}{aft:Array Edge}{gd:Option (Nat×Bool)}
theorem Xgv {T:TypeId}{len sz:Nat}{zs:List Value}{parts:Array (Nat×Value)}{us:Array Value} (hT:Ui P T sz=true) (hz:X14 P T=some zs) (hzl:zs.length=sz) (hsmall:len*sz≤16777216)
  (hfill:Instr.fill (fun i=>some (i*sz,sz)) (Uj zs len).toArray parts.toList=some us) (w:World):
  ∃e,(Instr.buildSlice T len parts).run P w= .ok (.slice (some ⟨w.heap.size,0,none⟩) len len) (w.alloc (.cells us e)):=by
 obtain⟨e,h1,h2,_⟩:=X1i hT
 obtain⟨e',h1',hze⟩:=XbZ hz
 rw[h1] at h1';cases h1'
 obtain⟨z,hz1,hz2⟩:=Xjh hze
 refine⟨e,?_⟩
 have hzs:z.cells.size=sz:=by rw[←hzl,←hz1];simp
 have hsmall':¬(16777216<len*sz):=by omega
 have hfill':Instr.fill (fun i=>some (i*sz,sz)) ((Array.range (len*sz)).map (fun i=>z.cells[i%z.cells.size]!)) parts.toList=some us:=by
  rw[←hfill]
  congr 1
  apply Array.ext'
  have:=X8l z.cells len
  rw[hzs] at this ⊢
  rw[this,hz1]
 by_cases h0:len*sz=0
 ·have hem:(Uj zs len).toArray= #[]:=by
   apply Array.ext'
   simp only[Uj]
   rcases Nat.mul_eq_zero.1 h0 with h|h
   ·subst h;simp
   ·have:zs=[]:=by rw[←hzl] at h;exact List.length_eq_zero_iff.1 h
    subst this;simp
  rw[hem] at hfill
  simp[Instr.buildSlice,run_underlying h1,h2 w,h0,hfill,newRow,Array.range_zero']
 ·simp[Instr.buildSlice,run_underlying h1,h2 w,hsmall',h0,hz2 w,hfill',newRow]
theorem XhB {T:TypeId}{len sz:Nat}{parts:Array (Nat×Operand)}{pl:List (Nat×Operand)}{zs:List Value}{ps:List (Nat×AVal)}{out:List AVal}{xs:List (List D)} (hpl:parts.toList=pl)
  (hkeys:ps.map (·.1)=pl.map (·.1)) (hT:Ui P T sz=true) (hz:X14 P T=some zs) (hzl:Nat.beq zs.length sz=true) (hz1:VZ (Uj zs len)=true) (hsmall:Nat.ble (len*sz) 16777216=true) (hsl:Nat.ble len 16777216=true)
  (hout:X28 (fun i=>some (i*sz,sz)) (dvL (Uj zs len)) ps=some out) (hxs:X2l sz len out=some xs) {g:Gh}{a:Act} (w:World) (hq:X0N g a (X06 pl ps)):
  ∃e,∃us:Array Value,(Instr.buildSlice T len (parts.map fun p=>(p.1,a.eval p.2))).run P w= .ok (.slice (some ⟨w.heap.size,0,none⟩) len len) (w.alloc (.cells us e))∧
   us.toList.length=xs.length*sz∧XB g (xs.flatten.map .d) us.toList∧xs.length=len∧(∀x∈xs,x.length=sz)∧len≤maxLen:=by
 obtain⟨us,k1,k2⟩:=X7l (vs:=(Uj zs len).toArray) hkeys hq (by simpa using X5F hz1) hout
 obtain⟨r1,r2,r3⟩:=Xdm hxs
 have hsm:len*sz≤16777216:=by simpa using hsmall
 obtain⟨e,he⟩:=Xgv (P:=P) (T:=T) (len:=len) (parts:=parts.map fun p=>(p.1,a.eval p.2)) hT hz (by simpa using hzl) hsm (by
  have:(parts.map fun p=>(p.1,a.eval p.2)).toList=pl.map fun p=>(p.1,a.eval p.2):=by simp[hpl]
  rw[this];exact k1) w
 rw[←r1] at k2
 have hl:=Ue k2
 simp only[List.length_map,X0A xs r3] at hl
 refine⟨e,us,he,hl,k2,r2,r3,?_⟩
 unfold maxLen
 have:len≤16777216:=by simpa using hsl
 omega
theorem X88 (S:St):∀pl:List (Nat×Operand),(evL S pl).map (·.1)=pl.map (·.1)
 |[]=>rfl
 |p::r=>by simp[evL,X88 S r]
theorem X8S (S:St):∀pl:List (Nat×Operand),X13 S (X06 pl (evL S pl))
 |[]=>trivial
 |p::r=>⟨rfl,X8S S r⟩
theorem Xl6 {T:TypeId}{len sz:Nat}{parts:Array (Nat×Operand)}{pl:List (Nat×Operand)}{zs:List Value}{ps:List (Nat×AVal)}{out:List AVal}{xs:List (List D)} (hpl:parts.toList=pl)
  (hps:evL S pl=ps) (hz:X14 P T=some zs) (hS:zs.length=sz) (hT:Ui P T sz=true) (hzl:Nat.beq zs.length sz=true) (hz1:VZ (Uj zs len)=true) (hsmall:Nat.ble (len*sz) 16777216=true) (hsl:Nat.ble len 16777216=true)
  (hout:X28 (fun i=>some (i*sz,sz)) (dvL (Uj zs len)) ps=some out) (hxs:X2l sz len out=some xs) (hd:Nat.blt d S.n=true) (hg:XR ops S gd)
  (h:Walk P ops draw K rest ((l.length,⟨some d,.buildSlice T len parts,ty,pos,aft,gd⟩,⟨XQ ops gd++X06 pl ps,some (d,.d (.sl sz xs)),[],[],[]⟩)::l) (S.set d (.d (.sl sz xs)))):
  Walk P ops draw K (⟨some d,.buildSlice T len parts,ty,pos,aft,gd⟩::rest) l S:=by
 have hkeys:ps.map (·.1)=pl.map (·.1):=by rw[←hps];exact X88 S pl
 have hrd:X13 S (X06 pl ps):=by rw[←hps];exact X8S S pl
 refine Yh ⟨X06 pl ps,some (d,.d (.sl sz xs)),[],[],[]⟩ ?_ hg ⟨hrd,trivial,trivial,hd⟩ h
 intro E S a w g hs hok Q K hK
 obtain⟨e,us,k1,k2,k3,k4,k5,k6⟩:=XhB (P:=P) hpl hkeys hT hz hzl hz1 hsmall hsl hout hxs w (X0M hs _ hok.1)
 have hle:=X7e hs.1 us
 have hrun:(execOp a.eval ⟨some d,.buildSlice T len parts,ty,pos,aft,gd⟩).run P w= .ok (.value (.slice (some ⟨w.heap.size,0,none⟩) len len)) (w.alloc (.cells us e)):=by
  simp only[execOp,Sem.run_bind,k1];rfl
 unfold Oper.wp
 rw[hrun,Oper.upon_value]
 refine hK _ _ (X1u (X9v hs.1 us e (0,0)) hs.2.1 hs.2.2.1 (fun t=>X26 (g:=g) (g':=g.lay w.heap.size us) hle rfl rfl rfl (hs.2.2.2 t)) ?_ hok.2.2.2)
 have:=Xcg (g:=g) (w:=w) (cap:=len) k5 (by rw[List.take_of_length_le (by omega)];exact k3) hle (by omega) k6
 rwa [k4] at this
theorem Xii {T:TypeId}{len sz γ:Nat}{parts:Array (Nat×Operand)}{pl:List (Nat×Operand)}{zs:List Value}{ps:List (Nat×AVal)}{out:List AVal}{xs:List (List D)} (hpl:parts.toList=pl)
  (hps:evL S pl=ps) (hz:X14 P T=some zs) (hS:zs.length=sz) (hT:Ui P T sz=true) (hzl:Nat.beq zs.length sz=true) (hz1:VZ (Uj zs len)=true) (hsmall:Nat.ble (len*sz) 16777216=true) (hsl:Nat.ble len 16777216=true)
  (hout:X28 (fun i=>some (i*sz,sz)) (dvL (Uj zs len)) ps=some out) (hxs:X2l sz len out=some xs) (hdead:S.obj γ= .dead) (hf:S.free γ=true) (hd:Nat.blt d S.n=true) (hg:XR ops S gd)
  (h:Walk P ops draw K rest ((l.length,⟨some d,.buildSlice T len parts,ty,pos,aft,gd⟩,⟨XQ ops gd++X06 pl ps,some (d,.own γ len),[(γ,.dead)],[(γ,.row sz xs)],[γ]⟩)::l) ((S.set d (.own γ len)).own γ (.row sz xs))):
  Walk P ops draw K (⟨some d,.buildSlice T len parts,ty,pos,aft,gd⟩::rest) l S:=by
 have hkeys:ps.map (·.1)=pl.map (·.1):=by rw[←hps];exact X88 S pl
 have hrd:X13 S (X06 pl ps):=by rw[←hps];exact X8S S pl
 refine Yh ⟨X06 pl ps,some (d,.own γ len),[(γ,.dead)],[(γ,.row sz xs)],[γ]⟩ (X1c rfl fun E S g a w hs hq hl hn=> ?_) hg ⟨hrd,⟨hdead,trivial⟩,⟨hf,trivial⟩,hd⟩ h
 obtain⟨e,us,k1,k2,k3,k4,k5,k6⟩:=XhB (P:=P) hpl hkeys hT hz hzl hz1 hsmall hsl hout hxs w hq
 have hsz:us.size=len*sz:=by rw[←k4];simpa using k2
 refine⟨.slice (some ⟨w.heap.size,0,none⟩) xs.length len,_,w.alloc (.cells us e),by simp only[execOp,Sem.run_bind,k1];rw[k4];rfl,by rw[←k4];exact X7j (w:=w),XhF hs.1 γ hn.1 hl.1 (cap:=len) k5 (by rw[List.take_of_length_le (by omega)];exact k3) (by omega) k6 (by omega) (X5w _),X2v hn.1 hs.2.2.2⟩
theorem Xj4 {T:TypeId}{sz bytes n:Nat}{zs:List Value} (hT:X0K P T sz bytes=true) (hz:X14 P T=some zs) (hroom:n*bytes≤2^48) (hn:n<2^63) (k1 k2:IntKind) (w:World):
  ∃e,(Instr.makeSlice T (.int k1 n) (.int k2 n)).run P w= .ok (.slice (some ⟨w.heap.size,0,none⟩) n n) (w.alloc (.cells (Uj zs n).toArray e)):=by
 obtain⟨e,i,z,hu,hi,hsz,hbt,hz0,hzs,hz1⟩:=X4W hT
 obtain⟨e',h1',hze⟩:=XbZ hz
 rw[hu] at h1';cases h1'
 have hzz:z.cells.toList=zs:=by
  unfold X3q at hze
  simp[hi,hz0] at hze
  exact hze
 have hw:IntKind.i64.wrap (n:Int)=n:=IntWalk.i64_in _ (by omega)
 have hnn:¬((n:Int)<0):=by omega
 have ha:∀k,(asInt (.int k (n:Int))).run P w= .ok (n:Int) w:=fun k=>by simp[asInt,asIntOf]
 have hbig:¬(281474976710656<(i.bytes:Int)*(n:Int)):=by
  rw[hbt]
  have:(n*bytes:Nat)≤2^48:=hroom
  have h2:((bytes:Int)*(n:Int))=((n*bytes:Nat):Int):=by rw[Nat.mul_comm];exact(Int.natCast_mul _ _).symm
  rw[h2];omega
 have harr:(Array.range (n*sz)).map (fun x=>z.cells[x%z.cells.size]!)=(Uj zs n).toArray:=by
  apply Array.ext'
  have:=X8l z.cells n
  rw[hzs] at this ⊢
  rw[this,hzz]
 refine⟨e,?_⟩
 by_cases h0:n*sz=0
 ·have hem:(Uj zs n).toArray= #[]:=by rw[←harr,h0];simp[Array.range_zero']
  rw[hem]
  simp[Instr.makeSlice,run_underlying hu,ha,typeInfo,hi,hw,hnn,hbig,sizeOf,hsz,h0,newRow,Array.range_zero']
 ·simp[Instr.makeSlice,run_underlying hu,ha,typeInfo,hi,hw,hnn,hbig,sizeOf,hsz,h0,newRow,zeroValue,hz0,harr]
def zD:List Value→List D
 |[]=>[]
 |v::r=> .v v::zD r
theorem XdB:∀zs:List Value,(zD zs).map .d=dvL zs
 |[]=>rfl
 |v::r=>by simp[zD,dvL,XdB r]
theorem X8k:∀zs:List Value,(zD zs).length=zs.length
 |[]=>rfl
 |v::r=>by simp[zD,X8k r]
theorem Xba {g:Gh}{zs:List Value} (h1:VZ zs=true) (n:Nat):XB g ((List.replicate n (zD zs)).flatten.map .d) (Uj zs n):=by
 induction n with
 |zero=>simp[Uj,XB]
 |succ n ih=>
  simp only[List.replicate_succ,List.flatten_cons,Uj,List.map_append,XdB]
  exact X1O (X5F h1) ih
theorem Xnj {T:TypeId}{sz bytes n:Nat}{k1 k2:IntKind}{x y:Operand}{m m':Int}{zs:List Value} (hx:S.ev x= .d (.v (.int k1 m))) (hy:S.ev y= .d (.v (.int k2 m'))) (hm:m=(n:Nat)) (hm':m'=(n:Nat))
  (hz:X14 P T=some zs) (hB:elB P T=bytes) (hS:zs.length=sz) (hT:X0K P T sz bytes=true) (h1:VZ zs=true) (hl:Nat.beq zs.length sz=true) (hroom:n*bytes≤281474976710656) (hn:n<9223372036854775808) (hd:Nat.blt d S.n=true) (hg:XR ops S gd)
  (h:Walk P ops draw K rest ((l.length,⟨some d,.makeSlice T x y,ty,pos,aft,gd⟩,⟨XQ ops gd++[(x,.d (.v (.int k1 m))),(y,.d (.v (.int k2 m')))],some (d,.d (.sl sz (List.replicate n (zD zs)))),[],[],[]⟩)::l) (S.set d (.d (.sl sz (List.replicate n (zD zs)))))):
  Walk P ops draw K (⟨some d,.makeSlice T x y,ty,pos,aft,gd⟩::rest) l S:=by
 refine Yh ⟨[(x,.d (.v (.int k1 m))),(y,.d (.v (.int k2 m')))],some (d,.d (.sl sz (List.replicate n (zD zs)))),[],[],[]⟩ ?_ hg ⟨⟨hx,hy,trivial⟩,trivial,trivial,hd⟩ h
 intro E S a w g hs hok Q K hK
 have hq:=X0M hs _ hok.1
 obtain⟨e,he⟩:=Xj4 (P:=P) hT hz (by simpa using hroom) (by simpa using hn) k1 k2 w
 have hle:=X7e hs.1 (Uj zs n).toArray
 have hzl:zs.length=sz:=by simpa using hl
 have hrun:(execOp a.eval ⟨some d,.makeSlice T x y,ty,pos,aft,gd⟩).run P w= .ok (.value (.slice (some ⟨w.heap.size,0,none⟩) n n)) (w.alloc (.cells (Uj zs n).toArray e)):=by
  simp only[execOp,Sem.run_bind,Uc hq.1,Uc hq.2.1,hm,hm',he];rfl
 unfold Oper.wp
 rw[hrun,Oper.upon_value]
 refine hK _ _ (X1u (X9v hs.1 _ e (0,0)) hs.2.1 hs.2.2.1 (fun t=>X26 (g:=g) (g':=g.lay w.heap.size (Uj zs n).toArray) hle rfl rfl rfl (hs.2.2.2 t)) ?_ hok.2.2.2)
 have hlen:∀x∈List.replicate n (zD zs),x.length=sz:=fun x hx=>by rw[(List.mem_replicate.1 hx).2,X8k,hzl]
 have hs1:=Xba (g:=g) h1 n
 have:=Xcg (g:=g) (w:=w) (vs:=(Uj zs n).toArray) (cap:=n) hlen (by
  have hl:=Ue hs1
  rw[List.length_map,X0A _ hlen] at hl
  rw[List.take_of_length_le (by simpa using Nat.le_of_eq hl)];exact hs1) hle (by simp) (by unfold maxLen;omega)
 rwa [List.length_replicate] at this
theorem X5T {T:TypeId}{sz bytes n γ:Nat}{k1 k2:IntKind}{x y:Operand}{m m':Int}{zs:List Value} (hx:S.ev x= .d (.v (.int k1 m))) (hy:S.ev y= .d (.v (.int k2 m'))) (hm:m=(n:Nat)) (hm':m'=(n:Nat))
  (hz:X14 P T=some zs) (hB:elB P T=bytes) (hS:zs.length=sz) (hT:X0K P T sz bytes=true) (h1:VZ zs=true) (hl:Nat.beq zs.length sz=true) (hroom:n*bytes≤281474976710656) (hn:n<9223372036854775808) (hdead:S.obj γ= .dead) (hf:S.free γ=true) (hd:Nat.blt d S.n=true) (hg:XR ops S gd)
  (h:Walk P ops draw K rest ((l.length,⟨some d,.makeSlice T x y,ty,pos,aft,gd⟩,⟨XQ ops gd++[(x,.d (.v (.int k1 m))),(y,.d (.v (.int k2 m')))],some (d,.own γ n),[(γ,.dead)],[(γ,.row sz (List.replicate n (zD zs)))],[γ]⟩)::l) ((S.set d (.own γ n)).own γ (.row sz (List.replicate n (zD zs))))):
  Walk P ops draw K (⟨some d,.makeSlice T x y,ty,pos,aft,gd⟩::rest) l S:=by
 refine Yh ⟨[(x,.d (.v (.int k1 m))),(y,.d (.v (.int k2 m')))],some (d,.own γ n),[(γ,.dead)],[(γ,.row sz (List.replicate n (zD zs)))],[γ]⟩ (X1c rfl fun E S g a w hs hq hl' hn'=> ?_) hg ⟨⟨hx,hy,trivial⟩,⟨hdead,trivial⟩,⟨hf,trivial⟩,hd⟩ h
 obtain⟨e,he⟩:=Xj4 (P:=P) hT hz (by simpa using hroom) (by simpa using hn) k1 k2 w
 have hzl:zs.length=sz:=by simpa using hl
 have hlen:∀x∈List.replicate n (zD zs),x.length=sz:=fun x hx=>by rw[(List.mem_replicate.1 hx).2,X8k,hzl]
 have hs1:=Xba (g:=g) h1 n
 have hl1:=Ue hs1
 rw[List.length_map,X0A _ hlen,List.length_replicate] at hl1
 have hinv:=XhF hs.1 γ hn'.1 hl'.1 (vs:=(Uj zs n).toArray) (e:=e) (fr:=(0,0)) (cap:=n) hlen (by
  rw[List.take_of_length_le (by simp only[List.length_replicate];omega)];exact hs1) (by simp) (by unfold maxLen;omega) (by simp only[List.size_toArray];omega) (X5w _)
 rw[List.length_replicate] at hinv
 exact⟨_,_,_,by simp only[execOp,Sem.run_bind,Uc hq.1,Uc hq.2.1,hm,hm',he];rfl,X7j (w:=w),hinv,X2v hn'.1 hs.2.2.2⟩
def X6M (S:St):Option Operand→Nat→Prop
 |none,l=>l=0
 |some x,l=>S.ev x=ai l
def X6x (S:St) (len:Nat):Option Operand→Nat→Prop
 |none,h=>h=len
 |some x,h=>S.ev x=ai h
def X0y:Option Operand→Nat→List (Operand×AVal)
 |none,_=>[]
 |some x,n=>[(x,ai n)]
theorem X9t {g:Gh}{a:Act}:∀{l m:List (Operand×AVal)},X0N g a (l++m)↔X0N g a l∧X0N g a m
 |[],m=>by simp[X0N]
 |p::r,m=>by simp[X0N,X9t,and_assoc]
theorem Xes {S:St}{l m:List (Operand×AVal)}:X13 S (l++m)↔X13 S l∧X13 S m:=by
 simp only[X2V,List.mem_append]
 exact⟨fun h=>⟨fun p hp=>h p (.inl hp),fun p hp=>h p (.inr hp)⟩,fun h p hp=>hp.elim (h.1 p) (h.2 p)⟩
theorem XbW {g:Gh}{a:Act}{lo hi:Option Operand}{l h len cap:Nat}{isSl:Bool} (h1:lo=none→l=0) (h2:hi=none→h=len) (hlo:X0N g a (X0y lo l)) (hhi:X0N g a (X0y hi h)) (hlh:l≤h) (hc:h≤cap) (w:World):
  (Instr.sliceBounds isSl len cap (lo.map a.eval) (hi.map a.eval) none).run P w= .ok (l,h,cap) w:=by
 cases lo with
 |none=>
  have:=h1 rfl;subst this
  cases hi with
  |none=>have:=h2 rfl;subst this;simp[Instr.sliceBounds]
  |some y=>
   have e2:=Uc hhi.1
   simp[Instr.sliceBounds,e2,run_sliceBound,hc]
 |some x=>
  have e1:=Uc hlo.1
  cases hi with
  |none=>have:=h2 rfl;subst this;simp[Instr.sliceBounds,e1,run_sliceBound,hlh]
  |some y=>
   have e2:=Uc hhi.1
   simp[Instr.sliceBounds,e1,e2,run_sliceBound,hlh,hc]
theorem X8T {S:St}{lo:Option Operand}{l:Nat} (h:∀x,lo=some x→S.ev x=ai l):X13 S (X0y lo l):=by
 cases lo with
 |none=>trivial
 |some x=>exact⟨h x rfl,trivial⟩
theorem Xiz {T:TypeId}{x:Operand}{lo hi:Option Operand}{sz lb hb:Nat}{xs:List (List D)} (hx:S.ev x= .d (.sl sz xs)) (hlo:X6M S lo lb) (hhi:X6x S xs.length hi hb) (hlh:lb≤hb) (hh:hb≤xs.length)
  (hT:Ui P T sz=true) (hd:Nat.blt d S.n=true) (hg:XR ops S gd)
  (h:Walk P ops draw K rest ((l.length,⟨some d,.slice T x lo hi none,ty,pos,aft,gd⟩,⟨XQ ops gd++((x,.d (.sl sz xs))::(X0y lo lb++X0y hi hb)),some (d,.d (.sl sz ((xs.take hb).drop lb))),[],[],[]⟩)::l) (S.set d (.d (.sl sz ((xs.take hb).drop lb))))):
  Walk P ops draw K (⟨some d,.slice T x lo hi none,ty,pos,aft,gd⟩::rest) l S:=by
 refine Yh ⟨(x,.d (.sl sz xs))::(X0y lo lb++X0y hi hb),some (d,.d (.sl sz ((xs.take hb).drop lb))),[],[],[]⟩ (U6 rfl fun E S g a w hs hq hl=> ?_) hg
  ⟨⟨hx,Xes.2 ⟨X8T fun y e=>by subst e;exact hlo,X8T fun y e=>by subst e;exact hhi⟩⟩,trivial,trivial,hd⟩ h
 obtain⟨e,h1,h2,h3⟩:=X1i hT
 obtain⟨hq1,hq2⟩:=hq
 rw[X9t] at hq2
 simp only[AVal.sat,D.rep] at hq1
 obtain⟨b,cap,hv,c1,c2,c3⟩:=hq1
 have hbd:=XbW (P:=P) (isSl:=true) (len:=xs.length) (cap:=cap) (fun e=>by subst e;exact hlo) (fun e=>by subst e;exact hhi) hq2.1 hq2.2 hlh (Nat.le_trans hh c1) w
 have hrun:=run_slice_any (P:=P) w T b xs.length cap (by rw[h3];exact h1) (lo.map a.eval) (hi.map a.eval) none
 rw[hbd,Result.andThen_ok,h3,h2 w,Result.andThen_ok] at hrun
 have hat:(Instr.sliceAt T (.slice b xs.length cap) (lo.map a.eval) (hi.map a.eval) none)=Instr.slice T (.slice b xs.length cap) (lo.map a.eval) (hi.map a.eval) none∨True:= .inr trivial
 refine⟨sliced b lb hb cap sz,?_,?_⟩
 ·simp only[execOp,hv,Instr.sliceAt,Sem.run_bind,run_underlying h1,Result.andThen_ok,Option.map_none,hrun];rfl
 ·simp only[AVal.sat,D.rep,sliced]
  have hlen:((xs.take hb).drop lb).length=hb-lb:=by simp;omega
  refine⟨if cap=lb then b else b.map fun p=>p.add (lb*sz),cap-lb,by rw[hlen],by omega,by omega,?_⟩
  rcases c3 with rfl|⟨b',o,rfl,hr⟩
  ·left;simp
  ·by_cases hem:(xs.take hb).drop lb=[]
   ·exact .inl hem
   ·right
    have hne:cap≠lb:=by
     intro e
     apply hem
     apply List.eq_nil_of_length_eq_zero
     omega
    refine⟨b',o+lb*sz,?_,Xbx (X8F hr hb) lb⟩
    rw[if_neg hne,Option.map_some,Uw]
theorem Xji {xt yt:TypeId}{x:Operand}{sz:Nat}{xs:List (List D)} (hx:S.ev x= .d (.sl sz xs)) (ht:isSl P xt=true) (hd:Nat.blt d S.n=true) (hg:XR ops S gd)
  (h:Walk P ops draw K rest ((l.length,⟨some d,.binOp .eql xt x (.const (.slice none 0 0)) yt,ty,pos,aft,gd⟩,⟨XQ ops gd++[(x,.d (.sl sz xs))],some (d,.bq (xs=[]) True),[],[],[]⟩)::l) (S.set d (.bq (xs=[]) True))):
  Walk P ops draw K (⟨some d,.binOp .eql xt x (.const (.slice none 0 0)) yt,ty,pos,aft,gd⟩::rest) l S:=
 Yh ⟨[(x,.d (.sl sz xs))],some (d,.bq (xs=[]) True),[],[],[]⟩ (U6 rfl fun E S g a w hs hq hl=>by
  have hq1:=hq.1
  simp only[AVal.sat,D.rep] at hq1
  obtain⟨b,cap,hv,c1,c2,c3⟩:=hq1
  refine⟨.bool b.isNone,?_,?_⟩
  ·obtain⟨e,he⟩:=X54 ht
   have e1:eqGuard .eql xt x (.const (.slice none 0 0)) (.slice b xs.length cap) (.slice none 0 0)=pure ():=eqGuard_at_slice _ _ _ _ _ _ _ _
   simp only[execOp,hv,show a.eval (.const (.slice none 0 0))= .slice none 0 0 from rfl,e1,Sem.run_bind,Sem.run_pure,Result.andThen_ok,Lib.run_eql_slice_nil w xt e b xs.length cap 0 0 he]
  ·simp only[AVal.sat]
   refine⟨b.isNone,rfl,fun h=> ?_,fun _=>trivial⟩
   rcases c3 with h'|⟨b',o,rfl,_⟩
   ·exact h'
   ·simp at h) hg ⟨⟨hx,trivial⟩,trivial,trivial,hd⟩ h
end
theorem Xw {S:St} (t:Nat) {y:AVal} (h:(S.get t).le y):S.le (S.set t (y)):=by
 rintro E a w ⟨g,hs⟩
 refine X35 hs hs.1 rfl fun k=> ?_
 by_cases hk:k=t
 ·subst hk
  show AVal.sat _ (Xo .any ((k,_)::S.τ) k) _
  rw[Yq];exact h g _ (hs.2.2.2 k)
 ·show AVal.sat _ (Xo .any ((t,_)::S.τ) k) _
  rw[Y9 _ _ _ (Ne.symm hk)];exact hs.2.2.2 k
theorem XgA {g:Gh}{w:World}{h:Value}{sz:Nat}{xs:List (List D)} (hr:UU g w h sz xs) {M':Mem} (hM:Yj g.M M') (hc:∀b o,Ux h b→M' ⟨b,o,none⟩=w.cell? ⟨b,o,none⟩):(D.sl sz xs).rep M' h:=by
 simp only[D.rep]
 rcases hr.2 with ⟨h1,rfl⟩|⟨b,cap,vs,e,fr,h1,h2,h3,h4,h5,h6,h7⟩
 ·exact⟨none,0,h1,by simp,by simp,by simp⟩
 ·refine⟨_,cap,h1,h2,h3,.inr ⟨b,0,rfl,X5x xs 0 hr.1 fun i d hd=> ?_⟩⟩
  obtain⟨hl,hrr⟩:=X3U h7
  obtain⟨u,hu,hsu⟩:=hrr i d hd
  refine⟨u,?_,D.rep_mono hM _ _ hsu⟩
  rw[hc b _ ⟨_,_,_,h1,rfl⟩,cell_of_row w _ _ vs e fr h4,Nat.zero_add]
  rw[List.getElem?_take] at hu
  split at hu
  ·simpa using hu
  ·simp at hu
open Classical in
noncomputable def Vt (g:Gh) (w:World) (x:AObj) (γ:Nat):Mem:=fun p=>if p.spot=none∧XM g x γ p.block then w.cell? p else g.M p
theorem XlZ {E:Env}{S:St}{g:Gh}{w:World} (hi:Inv E S.obj g w) {γ sz:Nat}{xs:List (List D)} (hrep:(D.sl sz xs).rep (Vt g w (S.obj γ) γ) (g.hd γ)):
  Yj g.M (Vt g w (S.obj γ) γ)∧Inv E (Xo .dead ((γ,.froz sz xs)::S.L)) {g with M:=Vt g w (S.obj γ) γ} w:=by
 have hle:Yj g.M (Vt g w (S.obj γ) γ):=by
  intro a v h
  unfold Vt
  rw[if_neg (fun hc=>hi.sep γ _ hc.2 a v h rfl)];exact h
 refine⟨hle,?_⟩
 have hM':∀a v,Vt g w (S.obj γ) γ a=some v→g.M a=some v∨(w.cell? a=some v∧XM g (S.obj γ) γ a.block):=by
  intro a v h
  unfold Vt at h
  split at h
  ·rename_i hc;exact .inr ⟨h,hc.2⟩
  ·exact .inl h
 have hlook:∀k,Xo .dead ((γ,.froz sz xs)::S.L) k=if k=γ then .froz sz xs else S.obj k:=by
  intro k
  by_cases hk:k=γ
  ·subst hk;rw[Yq,if_pos rfl]
  ·rw[Y9 _ _ _ (Ne.symm hk),if_neg hk];rfl
 have hlv:∀k b,XM {g with M:=Vt g w (S.obj γ) γ} (Xo .dead ((γ,.froz sz xs)::S.L) k) k b→k≠γ∧XM g (S.obj k) k b:=by
  intro k b h
  rw[hlook] at h
  by_cases hk:k=γ
  ·rw[if_pos hk] at h;exact h.elim
  ·rw[if_neg hk] at h
   refine⟨hk,?_⟩
   rwa [X2F (g:=g) (g':={g with M:=Vt g w (S.obj γ) γ}) rfl rfl rfl] at h
 refine⟨fun k=> ?_,fun k k' b h h'=>hi.inj k k' b (hlv _ _ h).2 (hlv _ _ h').2,fun a v h=> ?_,fun k b h a v ha=> ?_,fun k b h=>hi.new k b (hlv _ _ h).2,hi.ext.trans hle,fun a v h=> ?_,hi.frame,hi.size,hi.os,hi.out,fun k hk=>(hi.kp k hk).trans' (Gh.keeps_of rfl rfl rfl)⟩
 ·rw[hlook]
  by_cases hk:k=γ
  ·subst hk;rw[if_pos rfl];exact hrep
  ·rw[if_neg hk];exact X97 (g:=g) (g':={g with M:=Vt g w (S.obj γ) γ}) hle rfl rfl rfl (fun _ _=>rfl) (hi.obj k)
 ·rcases hM' a v h with h1|h1
  ·exact hi.mem a v h1
  ·exact h1.1
 ·obtain⟨hk,hb⟩:=hlv k b h
  rcases hM' a v ha with h1|h1
  ·exact hi.sep k b hb a v h1
  ·intro e
   rw[e] at h1
   exact hk (hi.inj _ _ _ hb h1.2)
 ·rcases hM' a v h with h1|h1
  ·exact hi.lim a v h1
  ·exact .inr (hi.new γ _ h1.2)
section
variable {P:Program}{ops:Array Oper}{draw:Bool}{K:Y4→St→Prop}{rest:List Oper}{l:Y4}{S:St}
variable {d:Nat}{ty:TypeId}{pos:String}{aft:Array Edge}{gd:Option (Nat×Bool)}
theorem Xpl {T:TypeId}{len sz γ:Nat}{parts:Array (Nat×Operand)}{pl:List (Nat×Operand)}{zs:List Value}{ps:List (Nat×AVal)}{out:List AVal} (hpl:parts.toList=pl)
  (hps:evL S pl=ps) (hz:X14 P T=some zs) (hS:zs.length=sz) (hT:Ui P T sz=true) (hz1:VZ (Uj zs len)=true) (hsmall:Nat.ble (len*sz) 16777216=true)
  (hout:X28 (fun i=>some (i*sz,sz)) (dvL (Uj zs len)) ps=some out) (hc:X0S out=true) (hm:Vs γ out=false) (hdead:S.obj γ= .dead) (hf:S.free γ=true) (hd:Nat.blt d S.n=true) (hg:XR ops S gd)
  (h:Walk P ops draw K rest ((l.length,⟨some d,.buildSlice T len parts,ty,pos,aft,gd⟩,⟨XQ ops gd++X06 pl ps,some (d,.bsl γ len),[(γ,.dead)],[(γ,.box out)],[γ]⟩)::l) ((S.set d (.bsl γ len)).own γ (.box out))):
  Walk P ops draw K (⟨some d,.buildSlice T len parts,ty,pos,aft,gd⟩::rest) l S:=by
 have hkeys:ps.map (·.1)=pl.map (·.1):=by rw[←hps];exact X88 S pl
 have hrd:X13 S (X06 pl ps):=by rw[←hps];exact X8S S pl
 refine Yh ⟨X06 pl ps,some (d,.bsl γ len),[(γ,.dead)],[(γ,.box out)],[γ]⟩ (X1c rfl fun E S g a w hs hq hl hn=> ?_) hg ⟨hrd,⟨hdead,trivial⟩,⟨hf,trivial⟩,hd⟩ h
 obtain⟨us,k1,k2⟩:=X7l (vs:=(Uj zs len).toArray) hkeys hq (by simpa using X5F hz1) hout
 have hsm:len*sz≤16777216:=by simpa using hsmall
 obtain⟨e,he⟩:=Xgv (P:=P) (T:=T) (len:=len) (parts:=parts.map fun p=>(p.1,a.eval p.2)) hT hz hS hsm (by
  have:(parts.map fun p=>(p.1,a.eval p.2)).toList=pl.map fun p=>(p.1,a.eval p.2):=by simp[hpl]
  rw[this];exact k1) w
 refine⟨.slice (some ⟨w.heap.size,0,none⟩) len len,X1L g w γ,w.alloc (.cells us e),by simp only[execOp,Sem.run_bind,he];rfl,by simp[AVal.sat,X1L,Gh.put],Xbp hs.1 γ hn.1 hl.1 e k2 hm ((X33 _).1 hc),X2v hn.1 hs.2.2.2⟩
end
section
variable {P:Program}{ops:Array Oper}{draw:Bool}{K:Y4→St→Prop}{rest:List Oper}{l:Y4}{S:St}
variable {d:Nat}{ty:TypeId}{pos:String}{aft:Array Edge}{gd:Option (Nat×Bool)}
theorem Xj6 {P:Program}{E:Env}{L:Nat→AObj}{g:Gh}{w:World} (hi:Inv E L g w) {sz m:Nat}{ys:List (List D)}{x:Value} (h:(D.sl sz ys).rep g.M x) (hm:m≤ys.length):
  ∃news,(Builtin.firstCells sz m x).run P w= .ok news w∧news.size=m*sz∧XB g ((ys.take m).flatten.map .d) news.toList∧(Builtin.lenOf x).run P w= .ok ys.length w∧∀y∈ys.take m,y.length=sz:=by
 simp only[D.rep] at h
 obtain⟨a,cap,rfl,h2,h3,h4⟩:=h
 rcases h4 with rfl|⟨b,o,rfl,hr⟩
 ·have:m=0:=by simpa using hm
  subst this
  refine⟨#[],?_,by simp,by simp[XB],by simp[Builtin.lenOf],by simp⟩
  cases a with
  |none=>simp[Builtin.firstCells]
  |some a=>simp[Builtin.firstCells,loadCells,loadCellsFrom]
 ·have hr':=X8F hr m
  obtain⟨vs,k1,k2,k3⟩:=Xca hi.mem _ b o hr'
  have hl:∀y∈ys.take m,y.length=sz:=fun y hy=>by
   obtain⟨i,hi⟩:=List.getElem?_of_mem hy
   exact(X3s _ b o i y hr' hi).1
  have hlen:(ys.take m).length=m:=by simp;omega
  rw[hlen] at k1
  refine⟨vs.toArray,?_,by simp[k1],?_,by simp[Builtin.lenOf],hl⟩
  ·have:=run_loadCells_list (P:=P) w ⟨b,o,none⟩ vs (fun j v hv=>by rw[Uw];exact k2 j v hv)
   rw[k1] at this
   simp only[Builtin.firstCells];exact this
  ·refine X24 (by rw[List.length_map,X0A _ hl,hlen,←k1]) fun i z u hz hu=> ?_
   simp only[List.getElem?_map,Option.map_eq_some_iff] at hz
   obtain⟨d,hd,rfl⟩:=hz
   simp only[AVal.sat]
   exact k3 i d u hd (by simpa using hu)
theorem X9Y {sz:Nat}:∀(zs:List (List D)) (n:Nat),(∀z∈zs,z.length=sz)→n≤zs.length→(zs.take n).flatten=zs.flatten.take (n*sz)∧(zs.drop n).flatten=zs.flatten.drop (n*sz)
 |[],n,_,hn=>by simp at hn;subst hn;simp
 |z::zs,0,_,_=>by simp
 |z::zs,n+1,hz,hn=>by
  have hzl:=hz z (by simp)
  obtain⟨i1,i2⟩:=X9Y zs n (fun q hq=>hz q (by simp[hq])) (by simpa using hn)
  have e:(n+1)*sz=z.length+n*sz:=by rw[hzl,Nat.add_mul];omega
  constructor
  ·rw[List.take_succ_cons,List.flatten_cons,List.flatten_cons,i1,e,List.take_length_add_append]
  ·rw[List.drop_succ_cons,List.flatten_cons,i2,e,List.drop_length_add_append]
theorem XrS {α:Type}{A N:List α}{a m L:Nat} (hN:N.length=m) (h1:a+m≤L) (h2:L≤A.length):
  (A.take a++N++A.drop (a+m)).take L=(A.take L).take a++N++(A.take L).drop (a+m):=by
 apply List.ext_getElem?
 intro j
 simp only[List.getElem?_take,List.getElem?_append,List.getElem?_drop,List.length_append,List.length_take,hN]
 have e1:min a A.length=a:=by omega
 have e2:min a (min L A.length)=a:=by omega
 rw[e1,e2]
 by_cases c0:j<L
 ·by_cases c1:j<a
  ·simp[c0,c1,show j<a+m by omega]
  ·by_cases c2:j<a+m
   ·simp[c0,c1,c2]
   ·simp[c0,c2,show a+m+(j-(a+m))<L by omega]
 ·simp[c0,show ¬j<a+m by omega,show ¬a+m+(j-(a+m))<L by omega]
theorem Xci {P:Program}{g:Gh}{w:World}{h:Value}{sz m k:Nat}{xs ys:List (List D)} (hr:UU g w h sz xs) (hm:k+m≤xs.length) (hyl:∀y∈ys,y.length=sz) (hym:ys.length=m) {news:Array Value} (hns:news.size=m*sz) (hsat:XB g (ys.flatten.map .d) news.toList):
  ∃w',(match h with| .slice (some a) _ _=>(storeCells (a.add (k*sz)) news.toList).run P w|_=> .ok () w)= .ok () w'∧UU g w' h sz (xs.take k++ys++xs.drop (k+m))∧
   (∀b,¬Ux h b→w'.heap[b]? =w.heap[b]?)∧w'.heap.size=w.heap.size∧w'.os=w.os∧w'.output=w.output:=by
 have hlen':∀r∈xs.take k++ys++xs.drop (k+m),r.length=sz:=by
  intro r hrr
  simp only[List.mem_append] at hrr
  rcases hrr with (h|h)|h
  ·exact hr.1 r (List.mem_of_mem_take h)
  ·exact hyl r h
  ·exact hr.1 r (List.mem_of_mem_drop h)
 have hll:(xs.take k++ys++xs.drop (k+m)).length=xs.length:=by simp[hym];omega
 rcases hr.2 with ⟨rfl,rfl⟩|⟨b,cap,vs,e,fr,rfl,h2,h3,h4,h5,h6,h7⟩
 ·have:m=0∧k=0:=by simpa [Nat.add_comm] using hm
  obtain⟨rfl,rfl⟩:=this
  have:ys=[]:=List.eq_nil_of_length_eq_zero hym
  subst this
  exact⟨w,rfl,⟨by simp,.inl ⟨rfl,by simp⟩⟩,fun _ _=>rfl,rfl,rfl,rfl⟩
 ·have hfx:=X0A xs hr.1
  have hfy:=X0A ys hyl
  have hbnd:k*sz+m*sz≤vs.size:=by
   rw[←Nat.add_mul]
   exact Nat.le_trans (Nat.mul_le_mul_right _ (Nat.le_trans hm h2)) h6
  obtain⟨vs',k1,k2⟩:=X6T (P:=P) b e fr vs.size h5 news.toList (k*sz) 0 vs w h4 rfl (by simp[hns];omega) (fun u hu=>by
   obtain⟨j,hj,rfl⟩:=List.getElem_of_mem hu
   have hjl:j<ys.flatten.length:=by rw[hfy,hym,←hns];simpa using hj
   obtain⟨_,hrep⟩:=X3U hsat
   obtain⟨u,hu1,hu2⟩:=hrep j _ (List.getElem?_eq_getElem hjl)
   rw[List.getElem?_eq_getElem hj] at hu1;cases hu1
   exact D.rep_one hu2)
  simp only[Nat.add_zero,Array.length_toList,hns] at k2
  have hvs':vs'.size=vs.size:=by
   have:=congrArg List.length k2
   simp[hns] at this;omega
  refine⟨w.setRow b vs',?_,⟨hlen',.inr ⟨b,cap,vs',e,fr,by rw[hll],by rw[hll];exact h2,h3,setRow_heap w b vs _ e fr h4,by rw[hvs'];exact h5,by rw[hvs'];exact h6,?_⟩⟩,fun c hc=>setRow_other w b c vs' (fun e=>hc (by rw[e];exact⟨_,_,_,rfl,rfl⟩)),by simp,rfl,rfl⟩
  ·simp only[Uw,Nat.zero_add];exact k1
  ·rw[hll]
   have hxt:(vs.toList.take (xs.length*sz)).length=xs.length*sz:=by have:=Ue h7;simp only[List.length_map,hfx] at this;exact this
   have hle:k*sz+m*sz≤xs.length*sz:=by rw[←Nat.add_mul];exact Nat.mul_le_mul_right _ hm
   have e1:vs'.toList.take (xs.length*sz)=(vs.toList.take (xs.length*sz)).take (k*sz)++news.toList++(vs.toList.take (xs.length*sz)).drop (k*sz+m*sz):=by
    rw[k2]
    exact XrS (by simp[hns]) hle (by simp at hxt ⊢;omega)
   rw[e1]
   have e2:(xs.take k++ys++xs.drop (k+m)).flatten=xs.flatten.take (k*sz)++ys.flatten++xs.flatten.drop (k*sz+m*sz):=by
    obtain⟨t1,_⟩:=X9Y xs k hr.1 (by omega)
    obtain⟨_,t2⟩:=X9Y xs (k+m) hr.1 hm
    rw[List.flatten_append,List.flatten_append,t1,t2,Nat.add_mul]
   rw[e2,List.map_append,List.map_append,List.map_take,List.map_drop]
   exact X1O (X1O (X2N h7 _) hsat) (X3o h7 _)
theorem X9f {T T2 ty:TypeId}{sz m:Nat}{x y:Value}{news:Array Value}{w w':World}{a:Option Addr}{n c ylen:Nat} (hT:Ui P T sz=true) (hx:x= .slice a n c) (hl:(Builtin.lenOf y).run P w= .ok ylen w) (hm:m=min ylen n)
  (hf:(Builtin.firstCells sz m y).run P w= .ok news w) (hst:(match x with| .slice (some a) _ _=>(storeCells (a.add (0*sz)) news.toList).run P w|_=> .ok () w)= .ok () w'):
  (Builtin.copy_ #[T,T2] ty #[x,y]).run P w= .ok (.int .i64 m) w':=by
 obtain⟨e,h1,h2,_⟩:=X1i hT
 subst hx hm
 have hmin:Nat.min ylen n=min ylen n:=rfl
 cases a with
 |none=>
  simp only at hst
  cases hst
  simp[Builtin.copy_,run_underlying h1,hl,h2 w,hmin,hf,goInt]
 |some a=>
  simp only[Nat.zero_mul,Addr.add_zero'] at hst
  simp[Builtin.copy_,run_underlying h1,hl,h2 w,hmin,hf,hst,goInt]
theorem Xqd {x y:Operand}{tys:Array TypeId}{k:IntKind}{a b:Int} (hx:S.ev x= .d (.v (.int k a))) (hy:S.ev y= .d (.v (.int k b))) (hd:Nat.blt d S.n=true) (hg:XR ops S gd)
  (h:Walk P ops draw K rest ((l.length,⟨some d,.call ⟨.builtin .max,#[x,y],tys⟩,ty,pos,aft,gd⟩,⟨XQ ops gd++[(x,.d (.v (.int k a))),(y,.d (.v (.int k b)))],some (d,.d (.v (.int k (max a b)))),[],[],[]⟩)::l) (S.set d (.d (.v (.int k (max a b)))))):
  Walk P ops draw K (⟨some d,.call ⟨.builtin .max,#[x,y],tys⟩,ty,pos,aft,gd⟩::rest) l S:=
 Yh ⟨[(x,.d (.v (.int k a))),(y,.d (.v (.int k b)))],some (d,.d (.v (.int k (max a b)))),[],[],[]⟩ (U6 rfl fun E S g act w hs hq hl=>by
  refine⟨_,?_,VB rfl⟩
  have e:(if b>a then b else a)=max a b:=by
   by_cases h:b>a<;>simp[h]<;>omega
  simp[execOp,resolve,invoke,builtin,Builtin.max_,Builtin.max2,Uc hq.1,Uc hq.2.1]
  omega) hg ⟨⟨hx,hy,trivial⟩,trivial,trivial,hd⟩ h
end
mutual
def AVal.ren (ρ:Nat→Nat):AVal→AVal
 | .any=> .any
 | .d x=> .d x
 | .ptr γ o=> .ptr (ρ γ) o
 | .own γ n=> .own (ρ γ) n
 | .rptr γ n o=> .rptr (ρ γ) n o
 | .inn γ i=> .inn (ρ γ) i
 | .bsl γ n=> .bsl (ρ γ) n
 | .rs γ o n c=> .rs (ρ γ) o n c
 | .mptr γ n i=> .mptr (ρ γ) n i
 | .cut γ n k sz=> .cut (ρ γ) n k sz
 | .dptr row=> .dptr row
 | .dx sz xs=> .dx sz xs
 | .bq p q=> .bq p q
 | .agg cs=> .agg (Vk ρ cs)
 | .tup cs=> .tup (Vk ρ cs)
 | .fn f cs=> .fn f (Vk ρ cs)
def Vk (ρ:Nat→Nat):List AVal→List AVal
 |[]=>[]
 |x::r=>x.ren ρ::Vk ρ r
end
def AObj.ren (ρ:Nat→Nat):AObj→AObj
 | .dead=> .dead
 | .box cs=> .box (Vk ρ cs)
 | .row sz xs=> .row sz xs
 | .froz sz xs=> .froz sz xs
 | .mat sz rows=> .mat sz rows
 | .iter s p=> .iter s p
 | .imap es=> .imap es
 | .nest sz xs=> .nest sz xs
 | .bag hs=> .bag hs
 | .raw cs ho=> .raw cs (ho.map fun h=>(h.1,h.2.ren ρ))
 | .wrow sz xs=> .wrow sz xs
def X09 (ρ:Nat→Nat):List (Nat×AObj)→List (Nat×AObj)
 |[]=>[]
 |(k,o)::r=>(ρ k,o.ren ρ)::X09 ρ r
def Gh.pull (g:Gh) (ρ:Nat→Nat):Gh:={blk:=fun k=>g.blk (ρ k),hd:=fun k=>g.hd (ρ k),ihd:=fun k=>g.ihd (ρ k),M:=g.M}
mutual
theorem X7v {g:Gh}{ρ:Nat→Nat}:∀(x:AVal) (u:Value),(x.ren ρ).sat g u↔x.sat (g.pull ρ) u
 | .any,_=>by simp only[AVal.ren,AVal.sat]
 | .d x,_=>by simp only[AVal.ren,AVal.sat,Gh.pull]
 | .ptr γ o,_=>by simp only[AVal.ren,AVal.sat,Gh.pull]
 | .own γ n,_=>by simp only[AVal.ren,AVal.sat,Gh.pull]
 | .rptr γ n o,_=>by simp only[AVal.ren,AVal.sat,Gh.pull]
 | .inn γ i,_=>by simp only[AVal.ren,AVal.sat,Gh.pull]
 | .bsl γ n,_=>by simp only[AVal.ren,AVal.sat,Gh.pull]
 | .rs γ o n c,_=>by simp only[AVal.ren,AVal.sat,Gh.pull]
 | .mptr γ n i,_=>by simp only[AVal.ren,AVal.sat,Gh.pull]
 | .cut γ n k sz,_=>by simp only[AVal.ren,AVal.sat,Gh.pull]
 | .dptr row,_=>by simp only[AVal.ren,AVal.sat,Gh.pull]
 | .dx sz xs,_=>by simp only[AVal.ren,AVal.sat,Gh.pull]
 | .bq p q,_=>by simp only[AVal.ren,AVal.sat]
 | .agg cs,u=>by simp only[AVal.ren,AVal.sat,X3J cs]
 | .tup cs,u=>by simp only[AVal.ren,AVal.sat,X3J cs]
 | .fn f cs,u=>by simp only[AVal.ren,AVal.sat,X3J cs]
theorem X3J {g:Gh}{ρ:Nat→Nat}:∀(xs:List AVal) (us:List Value),XB g (Vk ρ xs) us↔XB (g.pull ρ) xs us
 |[],[]=>by simp only[Vk,XB]
 |[],_::_=>by simp only[Vk,XB]
 |_::_,[]=>by simp only[Vk,XB]
 |x::xs,u::us=>by simp only[Vk,XB,X7v x u,X3J xs us]
end
theorem XiX {ρ:Nat→Nat}:∀(cs:List AVal),(∀c∈cs,c.cellish=true)↔∀c∈Vk ρ cs,c.cellish=true
 |[]=>by simp[Vk]
 |c::r=>by
  simp only[Vk,List.mem_cons,forall_eq_or_imp,←XiX r]
  refine and_congr_left fun _=> ?_
  cases c<;>simp[AVal.ren,AVal.cellish]
theorem Xhc {g:Gh}{ρ:Nat→Nat}{l:List D}{us:List Value}:XB (g.pull ρ) (l.map .d) us↔XB g (l.map .d) us:=by
 have h:Vk ρ (l.map .d)=l.map .d:=by
  induction l with
  |nil=>rfl
  |cons x r ih=>simp[Vk,AVal.ren,ih]
 rw[←X3J,h]
theorem X7H {g:Gh}{ρ:Nat→Nat}{w:World}{h:Value}{sz:Nat}{xs:List (List D)}:UU (g.pull ρ) w h sz xs↔UU g w h sz xs:=by
 simp only[UU,Xhc]
theorem XlG {g:Gh}{ρ:Nat→Nat}{w:World}{h:Value}{sz:Nat}{xs:List (List D)}:X47 (g.pull ρ) w h sz xs↔X47 g w h sz xs:=by
 simp only[X47,Xhc]
theorem Xch (ρ:Nat→Nat):∀cs:List (Option D),Vk ρ (cs.map oA)=cs.map oA
 |[]=>rfl
 |c::cs=>by rw[List.map_cons,Vk,Xch ρ cs];cases c<;>rfl
theorem Xd4 (ρ:Nat→Nat):∀(l:List AVal) (j:Nat) (c:AVal),Vk ρ (l.set j c)=(Vk ρ l).set j (c.ren ρ)
 |[],_,_=>rfl
 |x::l,0,c=>rfl
 |x::l,j+1,c=>by rw[List.set_cons_succ,Vk,Vk,List.set_cons_succ,Xd4 ρ l j c]
theorem XrZ (ρ:Nat→Nat) (cs:List (Option D)) (ho:Option (Nat×AVal)):Y6 cs (ho.map fun h=>(h.1,h.2.ren ρ))=Vk ρ (Y6 cs ho):=by
 cases ho with
 |none=>exact(Xch ρ cs).symm
 |some h=>simp only[Y6,Option.map_some,Xd4,Xch]
theorem Xi3 {g:Gh}{ρ:Nat→Nat}{w:World}{γ:Nat} (o:AObj):Ua g w (ρ γ) (o.ren ρ)↔Ua (g.pull ρ) w γ o:=by
 cases o with
 |dead=>exact Iff.rfl
 |box cs=>simp only[AObj.ren,Ua,X3J,←XiX cs];rfl
 |row sz xs=>simp only[AObj.ren,Ua];exact X7H.symm
 |froz sz xs=>exact Iff.rfl
 |iter s p=>exact Iff.rfl
 |imap es=>exact Iff.rfl
 |mat sz rows=>simp only[AObj.ren,Ua,Xcz,X7H];rfl
 |nest sz xs=>simp only[AObj.ren,Ua,X9k,X15,X7H];rfl
 |bag hs=>simp only[AObj.ren,Ua,X15,X7H]
 |raw cs ho=>simp only[AObj.ren,Ua,XrZ,X3J];rfl
 |wrow sz xs=>simp only[AObj.ren,Ua];exact XlG.symm
theorem XaW {g:Gh}{ρ:Nat→Nat}{γ b:Nat} (o:AObj):XM g (o.ren ρ) (ρ γ) b↔XM (g.pull ρ) o γ b:=by
 cases o<;>exact Iff.rfl
theorem X5b {ρ σ:Nat→Nat} (h1:∀k,σ (ρ k)=k):∀(L:List (Nat×AObj)) (γ:Nat),Xo .dead (X09 ρ L) (ρ γ)=(Xo .dead L γ).ren ρ
 |[],γ=>rfl
 |(k,o)::r,γ=>by
  simp only[X09]
  by_cases h:k=γ
  ·subst h;rw[Yq,Yq]
  ·rw[Y9 _ _ _ h,Y9 _ _ _ (fun e=>h (by rw[←h1 k,←h1 γ,e])),X5b h1 r γ]
theorem Xez {ρ σ:Nat→Nat} (h1:∀k,σ (ρ k)=k):∀(L:List (Nat×AObj)) (γ:Nat),XS (ρ γ) (X09 ρ L)=XS γ L
 |[],γ=>rfl
 |(k,o)::r,γ=>by
  simp only[X09,XS,Xez h1 r γ]
  congr 1
  rw[Bool.eq_iff_iff]
  simp only[Nat.beq_eq]
  exact⟨fun e=>by rw[←h1 k,←h1 γ,e],fun e=>by rw[e]⟩
theorem X7N {E:Env}{ρ σ:Nat→Nat} (h1:∀k,σ (ρ k)=k) (h2:∀k,ρ (σ k)=k) {L:List (Nat×AObj)}{g:Gh}{w:World}{g0:Gh}:
  Inv {E with g0:=g} (Xo .dead (X09 ρ L)) g w↔Inv {E with g0:=g.pull ρ} (Xo .dead L) (g.pull ρ) w:=by
 have hlv:∀γ b,XM g (Xo .dead (X09 ρ L) (ρ γ)) (ρ γ) b↔XM (g.pull ρ) (Xo .dead L γ) γ b:=fun γ b=>by rw[X5b h1];exact XaW _
 constructor
 ·intro hi
  refine⟨fun γ=> ?_,fun γ γ' b h h'=> ?_,hi.mem,fun γ b h=>hi.sep (ρ γ) b ((hlv _ _).2 h),fun γ b h=>hi.new (ρ γ) b ((hlv _ _).2 h),hi.ext,hi.lim,hi.frame,hi.size,hi.os,hi.out,fun _ _=>Gh.keeps_refl _ _⟩
  ·have:=hi.obj (ρ γ);rw[X5b h1] at this;exact(Xi3 _).1 this
  ·have:=hi.inj (ρ γ) (ρ γ') b ((hlv _ _).2 h) ((hlv _ _).2 h')
   rw[←h1 γ,←h1 γ',this]
 ·intro hi
  have hs:∀γ b,XM g (Xo .dead (X09 ρ L) γ) γ b→XM (g.pull ρ) (Xo .dead L (σ γ)) (σ γ) b:=fun γ b h=>by
   have:=(hlv (σ γ) b).1;rw[h2] at this;exact this h
  refine⟨fun γ=> ?_,fun γ γ' b h h'=> ?_,hi.mem,fun γ b h=>hi.sep (σ γ) b (hs _ _ h),fun γ b h=>hi.new (σ γ) b (hs _ _ h),hi.ext,hi.lim,hi.frame,hi.size,hi.os,hi.out,fun _ _=>Gh.keeps_refl _ _⟩
  ·have:=hi.obj (σ γ)
   rw[←Xi3 (ρ:=ρ),←X5b h1,h2] at this
   exact this
  ·have:=hi.inj (σ γ) (σ γ') b (hs _ _ h) (hs _ _ h')
   rw[←h2 γ,←h2 γ',this]
theorem Xs5 {g g':Gh}{ρ:Nat→Nat}{γ:Nat}:(g.pull ρ).keeps (g'.pull ρ) γ↔g.keeps g' (ρ γ):=Iff.rfl
theorem Xmo {P:Program}{f:FuncId}{Li Lo:List (Nat×AObj)}{args:List AVal}{res:AVal} (ρ σ:Nat→Nat) (h1:∀k,σ (ρ k)=k) (h2:∀k,ρ (σ k)=k) (h:Con P f Li args Lo res):
  Con P f (X09 ρ Li) (Vk ρ args) (X09 ρ Lo) (res.ren ρ):=by
 intro g w vs hi hs
 have hA:∀b,(∃γ,XM g (Xo .dead (X09 ρ Li) γ) γ b)↔∃γ,XM (g.pull ρ) (Xo .dead Li γ) γ b:=by
  intro b
  constructor
  ·rintro⟨γ,hγ⟩
   refine⟨σ γ,?_⟩
   rw[←h2 γ,X5b h1,XaW] at hγ
   exact hγ
  ·rintro⟨γ,hγ⟩
   refine⟨ρ γ,?_⟩
   rw[X5b h1,XaW];exact hγ
 have hE:V5 (g.pull ρ) w Li={V5 g w (X09 ρ Li) with g0:=g.pull ρ}:=by
  simp only[V5,Env.mk.injEq,true_and,and_true]
  exact⟨rfl,funext fun b=>propext (hA b).symm⟩
 have hi':Inv (V5 (g.pull ρ) w Li) (Xo .dead Li) (g.pull ρ) w:=by
  rw[hE];exact(X7N (g0:=g) h1 h2).1 hi
 refine(h (g.pull ρ) w vs hi' ((X3J _ _).1 hs)).mono ?_
 rintro e w' ⟨v,g',rfl,hv,hi2,hk⟩
 have hgp:(g'.pull σ).pull ρ=g':=by simp only[Gh.pull,h1]
 refine⟨v,g'.pull σ,rfl,(X7v _ _).2 (by rw[hgp];exact hv),?_,fun γ hγ=> ?_⟩
 ·refine(X7N (E:=V5 g w (X09 ρ Li)) (g0:=g) h1 h2).2 ?_
  rw[hgp]
  have:({V5 (g.pull ρ) w Li with g0:=g'}:Env)={V5 g w (X09 ρ Li) with g0:=g'}:=by rw[hE]
  rw[←this];exact hi2
 ·have hγ':XS (σ γ) Li=true:=by rw[←Xez h1,h2];exact hγ
  have:=hk (σ γ) hγ'
  rw[←hgp,Xs5,h2] at this
  exact this
def swp (a b k:Nat):Nat:=bif Nat.beq k a then b else bif Nat.beq k b then a else k
theorem X38 (a b k:Nat):swp a b (swp a b k)=k:=by
 simp only[swp]
 by_cases h1:k=a
 ·subst h1
  by_cases h2:b=k
  ·subst h2;simp
  ·have:Nat.beq b k=false:=by cases h:Nat.beq b k with|false=>rfl|true=>exact absurd (Nat.eq_of_beq_eq_true h) h2
   simp[this]
 ·have e1:Nat.beq k a=false:=by cases h:Nat.beq k a with|false=>rfl|true=>exact absurd (Nat.eq_of_beq_eq_true h) h1
  by_cases h2:k=b
  ·subst h2;simp[e1]
  ·have e2:Nat.beq k b=false:=by cases h:Nat.beq k b with|false=>rfl|true=>exact absurd (Nat.eq_of_beq_eq_true h) h2
   simp[e1,e2]
theorem U0 {P:Program}{f:FuncId}{Li Lo:List (Nat×AObj)}{args:List AVal}{res:AVal} (a b:Nat) (h:Con P f Li args Lo res):
  Con P f (X09 (swp a b) Li) (Vk (swp a b) args) (X09 (swp a b) Lo) (res.ren (swp a b)):=
 Xmo _ _ (X38 a b) (X38 a b) h
section
variable {P:Program}{ops:Array Oper}{draw:Bool}{K:Y4→St→Prop}{rest:List Oper}{l:Y4}{S:St}
variable {d:Nat}{ty:TypeId}{pos:String}{aft:Array Edge}{gd:Option (Nat×Bool)}
theorem Xmc {t:Tmp}{f:FuncId}{caps:List AVal}{args:Array Operand}{tys:Array TypeId}{xs:List Operand}{ys zs:List AVal}{Li Lo:List (Nat×AObj)}{res:AVal}
  (ht:S.ev (.tmp t)= .fn f caps) (hxs:args.toList=xs) (hys:evA S xs=ys) (hle:leL (ys++caps) zs) (hcon:Con P f Li zs Lo res) (hf:X17 P f=true)
  (hLi:UQ S Li) (hin:X2y Li Lo=true) (hbox:X2E Lo Lo=true) (hres:res.within Lo=true) (hnew:X1X S (UL Li Lo)) (hdead:UQ S (X1N (UL Li Lo)))
  (hd:Nat.blt d S.n=true) (hg:XR ops S gd)
  (h:Walk P ops draw K rest ((l.length,⟨some d,.call ⟨.value (.tmp t),args,tys⟩,ty,pos,aft,gd⟩,⟨XQ ops gd++((.tmp t,.fn f caps)::X27 xs ys),some (d,res),Li++X1N (UL Li Lo),Lo,UL Li Lo⟩)::l)
   ((S.set d res).cat Lo)):
  Walk P ops draw K (⟨some d,.call ⟨.value (.tmp t),args,tys⟩,ty,pos,aft,gd⟩::rest) l S:=by
 have hap:∀(A B:List (Nat×AObj)) (T:St),UQ T (A++B)↔UQ T A∧UQ T B:=by
  intro A B T
  simp only[X3j,List.mem_append]
  exact⟨fun h=>⟨fun p hp=>h p (.inl hp),fun p hp=>h p (.inr hp)⟩,fun h p hp=>hp.elim (h.1 p) (h.2 p)⟩
 have hlen:ys.length=xs.length:=by
  rw[←hys];clear hys hxs h hle
  induction xs with
  |nil=>rfl
  |cons x r ih=>simp[evA,ih]
 refine Yh ⟨(.tmp t,.fn f caps)::X27 xs ys,some (d,res),Li++X1N (UL Li Lo),Lo,UL Li Lo⟩ ?_ hg ⟨⟨ht,by rw[←hys];exact X6j S xs⟩,(hap _ _ _).2 ⟨hLi,hdead⟩,hnew,hd⟩ h
 intro E S a w g hs hok Q K hK
 obtain⟨ok1,ok2,ok3,ok4⟩:=hok
 rw[hap] at ok2
 obtain⟨hq1,hq2⟩:=X0M hs _ ok1
 simp only[AVal.sat] at hq1
 obtain⟨cv,hcv,hcs⟩:=hq1
 have hsat:=X5B hle (X1O (X6h hlen hq2) hcs)
 have hinv:Inv (V5 g w Li) (Xo .dead Li) g w:=by
  have hsub:=Xn ok2.1
  have hl:∀γ b,XM g (Xo .dead Li γ) γ b→XM g (S.obj γ) γ b:=by
   intro γ b hb
   rcases hsub γ with e|e
   ·rw[←e];exact hb
   ·rw[e] at hb;exact hb.elim
  refine⟨fun γ=> ?_,fun γ γ' b k k'=>hs.1.inj γ γ' b (hl _ _ k) (hl _ _ k'),hs.1.mem,fun γ b k=>hs.1.sep γ b (hl _ _ k),fun γ b k=> .inr ⟨γ,k⟩,Yj.refl _,fun a v ha=> .inl ⟨v,ha⟩,fun _ _ _=>rfl,Nat.le_refl _,rfl,rfl,fun γ _=>Gh.keeps_refl _ _⟩
  rcases hsub γ with e|e
  ·rw[e];exact hs.1.obj γ
  ·rw[e];trivial
 have hcall:=hcon g w (xs.map a.eval++cv.toList) hinv hsat
 have hrun:(execOp a.eval ⟨some d,.call ⟨.value (.tmp t),args,tys⟩,ty,pos,aft,gd⟩).run P w= .ok (.enter f (xs.map a.eval++cv.toList).toArray) w:=by
  have e1:(#[]++args.map a.eval++cv:Array Value)=(xs.map a.eval++cv.toList).toArray:=by
   apply Array.ext';simp[←hxs]
  simp only[execOp,resolve,hcv,Deferred.ofValue,Sem.run_bind,Sem.run_pure,Result.andThen_ok,invoke]
  rw[X7n hf]
  congr 2
 unfold Oper.wp
 rw[hrun,Oper.upon_enter]
 refine hcall.mono ?_
 rintro e w' ⟨v,g',rfl,hv,hi',hk⟩
 obtain⟨j1,j2,j3⟩:=Xag hs.1 ok2.1 hin hbox ok3 ok2.2 hi' hk
 exact hK _ _ (X1u j1 hs.2.1 hs.2.2.1 (fun t=>j3 t _ (hs.2.2.2 t)) (j2 _ _ hres hv) ok4)
theorem XjR {f:FuncId}{caps:Array Operand}{xs:List Operand}{ys:List AVal} (hxs:caps.toList=xs) (hys:evA S xs=ys) (hd:Nat.blt d S.n=true) (hg:XR ops S gd)
  (h:Walk P ops draw K rest ((l.length,⟨some d,.makeFunc (.func f) #[] caps,ty,pos,aft,gd⟩,⟨XQ ops gd++X27 xs ys,some (d,.fn f ys),[],[],[]⟩)::l) (S.set d (.fn f ys))):
  Walk P ops draw K (⟨some d,.makeFunc (.func f) #[] caps,ty,pos,aft,gd⟩::rest) l S:=by
 have hlen:ys.length=xs.length:=by
  rw[←hys];clear hys hxs h
  induction xs with
  |nil=>rfl
  |cons x r ih=>simp[evA,ih]
 refine Yh ⟨X27 xs ys,some (d,.fn f ys),[],[],[]⟩ (U6 rfl fun E S g a w hs hq hl=> ?_) hg ⟨by rw[←hys];exact X6j S xs,trivial,trivial,hd⟩ h
 refine⟨.func (.func f) #[] (caps.map a.eval),by simp[execOp,Instr.makeFunc],?_⟩
 simp only[AVal.sat]
 refine⟨_,rfl,?_⟩
 have:=X6h hlen hq
 rw[show (caps.map a.eval).toList=xs.map a.eval by simp[←hxs]]
 exact this
end
end Go.Fw
