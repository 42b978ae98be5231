/- Steps of a walk with the usual proofs of their side goals. -/
import Derived.Test.YtlkcofbjniphbaaGreatDoorB10
namespace Go.Fw
open Go
theorem JAa {p:Prop} (h:p:=by exact(by(first|((exact True.intro))|((exact⟨rfl,rfl⟩))|((exact⟨rfl,congrArg ab (by(first|((rfl))|((assumption))|((simp only[List.length_map,List.length_take,List.length_append,decide_eq_true_eq,decide_eq_false_iff_not,ne_eq,Classical.not_not];omega))|((simp<;>fail))|((simp[*]<;>fail))|((simp;omega))|fail))⟩))|fail))):p:=h
theorem JAb {p:Prop} (h:p:=by(first|((omega))|((simp;omega))|((assumption))|fail)):p:=h
theorem JAc {p:Prop} (h:p:=by(first|((rfl))|((assumption))|((simp only[List.length_map,List.length_take,List.length_append,decide_eq_true_eq,decide_eq_false_iff_not,ne_eq,Classical.not_not];omega))|((simp<;>fail))|((simp[*]<;>fail))|((simp;omega))|fail)):p:=h
theorem JAd {p:Prop} (h:p:=by(first|((exact rfl))|((simp<;>fail))|((simp only[List.length_map,List.length_take,List.length_drop,List.length_append,List.length_cons,List.length_nil,List.length_replicate,List.length_set]<;>omega))|((assumption))|fail)):p:=h
theorem JAe {p:Prop} (h:p:=by(first|((omega))|((simp only[List.length_map,List.length_take,List.length_drop,List.length_append,List.length_cons,List.length_nil,List.length_replicate,List.length_set]<;>omega))|((simp;omega))|((simp at*;omega))|fail)):p:=h
theorem JAf {p:Prop} (h:p:=by(first|((exact rfl))|((omega))|((assumption))|((simp;omega))|fail)):p:=h
theorem JAg {p:Prop} (h:p:=by(repeat (first|exact trivial|refine⟨rfl,?_⟩|fail))<;>fail):p:=h
theorem JAh {p:Prop} (h:p:=by(first|((exact rfl))|((exact(show(0:Int)=((0:Nat):Int) from rfl)))|fail)):p:=h
set_option linter.unusedVariables false
theorem JSD {p:Prop} (h:p:=by(first|((trivial))|((exact rfl))|fail)):p:=h
theorem JSC {p:Prop} (h:p:=by exact Yl (by unfold XT;(first|((omega))|((simp;omega))|fail))):p:=h
theorem JSB {p:Prop} (h:p:=by exact XdZ (by omega) (by omega)):p:=h
theorem JSA {p:Prop} (h:p:=by exact Xnp rfl):p:=h
theorem JSz {p:Prop} (h:p:=by exact XkC rfl):p:=h
theorem JSy {p:Prop} (h:p:=by exact Xjy):p:=h
theorem JSw {p:Prop} (h:p:=by decide):p:=h
theorem JSv {p:Prop} (h:p:=by exact Xpa):p:=h
theorem JSu {p:Prop} (h:p:=by exact XkF):p:=h
theorem JSt {p:Prop} (h:p:=by exact XpZ):p:=h
theorem JSs {p:Prop} (h:p:=by exact JAb):p:=h
theorem JSr {p:Prop} (h:p:=by exact JAh):p:=h
theorem JSq {p:Prop} (h:p:=by exact UC (by unfold XT;(first|((omega))|((simp;omega))|fail))):p:=h
theorem JSp {p:Prop} (h:p:=by(first|((exact Y5 (by assumption)))|((assumption))|((exact rfl))|fail)):p:=h
theorem JSo {p:Prop} (h:p:=by exact XiO):p:=h
theorem JSn {p:Prop} (h:p:=by exact XqJ):p:=h
theorem JSm {p:Prop} (h:p:=by exact Xnb):p:=h
theorem JSl {p:Prop} (h:p:=by exact Xd1):p:=h
theorem JSk {p:Prop} (h:p:=by exact XqV):p:=h
theorem JSj {p:Prop} (h:p:=by exact Xkm):p:=h
theorem JSi {p:Prop} (h:p:=by exact Xiw):p:=h
theorem JSh {p:Prop} (h:p:=by(first|((exact⟨rfl,rfl⟩))|((exact⟨rfl,congrArg ab (by(first|((rfl))|((assumption))|((simp only[List.length_map,List.length_take,List.length_append,decide_eq_true_eq,decide_eq_false_iff_not,ne_eq,Classical.not_not];omega))|((simp<;>fail))|((simp[*]<;>fail))|((simp;omega))|fail))⟩))|fail)):p:=h
theorem JSg {p:Prop} (h:p:=by exact(by(first|((rfl))|((assumption))|((simp only[List.length_map,List.length_take,List.length_append,decide_eq_true_eq,decide_eq_false_iff_not,ne_eq,Classical.not_not];omega))|((simp<;>fail))|((simp[*]<;>fail))|((simp;omega))|fail))):p:=h
theorem JSf {p:Prop} (h:p:=by(first|((exact XeV))|((exact XdI))|fail)):p:=h
theorem JSe {p:Prop} (h:p:=by exact JAd):p:=h
theorem JSd {p:Prop} (h:p:=by exact JAe):p:=h
theorem JSc {p:Prop} (h:p:=by conv=>lhs;whnf):p:=h
theorem JSb {p:Prop} (h:p:=by exact rfl):p:=h
theorem JSa {p:Prop} (h:p:=by exact JAa):p:=h
section
variable {P:Program}{ops:Array Oper}{draw:Bool}{K:Y4→St→Prop}{rest:List Oper}{l:Y4}{S:St}
variable {d:Nat}{ty:TypeId}{pos:String}{aft:Array Edge}{gd:Option (Nat×Bool)}
theorem Z0 {src dst:TypeId}{x:Operand}{u r:Value} (hr:∀w,(convert src dst u).run P w= .ok r w) (h:Walk P ops draw K rest ((l.length,⟨some d,.convert src dst x,ty,pos,aft,gd⟩,⟨XQ ops gd++[(x,.d (.v u))],some (d,.d (.v r)),[],[],[]⟩)::l) (S.set d (.d (.v r)))) (hg:XR ops S gd:=by exact JAa) (hx:S.ev x= .d (.v u):=by exact rfl) (h1:r.oneCell'=true:=by exact rfl) (hd:Nat.blt d S.n=true:=by exact rfl):Walk P ops draw K (⟨some d,.convert src dst x,ty,pos,aft,gd⟩::rest) l S:=Xim (hx:=hx) (hr:=hr) (h1:=h1) (hd:=hd) (hg:=hg) (h:=h)
theorem Z1 {op:BinOp}{xt yt:TypeId}{x y:Operand}{u v r:Value} (r':Value) (hr':r=r') (hr:∀w,(do eqGuard op xt x y u v;binOp op xt u v:Sem Value).run P w= .ok r w) (h:Walk P ops draw K rest ((l.length,⟨some d,.binOp op xt x y yt,ty,pos,aft,gd⟩,⟨XQ ops gd++[(x,.d (.v u)),(y,.d (.v v))],some (d,.d (.v r')),[],[],[]⟩)::l) (S.set d (.d (.v r')))) (hg:XR ops S gd:=by exact JAa) (hx:S.ev x= .d (.v u):=by exact rfl) (hy:S.ev y= .d (.v v):=by exact rfl) (h1:r'.oneCell'=true:=by exact rfl) (hd:Nat.blt d S.n=true:=by exact rfl):Walk P ops draw K (⟨some d,.binOp op xt x y yt,ty,pos,aft,gd⟩::rest) l S:=X4Z (r':=r') (hr':=hr') (hx:=hx) (hy:=hy) (hr:=hr) (h1:=h1) (hd:=hd) (hg:=hg) (h:=h)
theorem Z2 {op:BinOp}{xt yt:TypeId}{x y:Operand}{u v r:Value} (r':Value) (hr:∀w,(do eqGuard op xt x y u v;binOp op xt u v:Sem Value).run P w= .ok r w) (h:Walk P ops draw K rest ((l.length,⟨some d,.binOp op xt x y yt,ty,pos,aft,gd⟩,⟨XQ ops gd++[(x,.d (.v u)),(y,.d (.v v))],some (d,.d (.v r')),[],[],[]⟩)::l) (S.set d (.d (.v r')))) (hg:XR ops S gd:=by exact JAa) (hr':r=r':=by exact rfl) (hx:S.ev x= .d (.v u):=by exact rfl) (hy:S.ev y= .d (.v v):=by exact rfl) (h1:r'.oneCell'=true:=by exact rfl) (hd:Nat.blt d S.n=true:=by exact rfl):Walk P ops draw K (⟨some d,.binOp op xt x y yt,ty,pos,aft,gd⟩::rest) l S:=X4Z (r':=r') (hr':=hr') (hx:=hx) (hy:=hy) (hr:=hr) (h1:=h1) (hd:=hd) (hg:=hg) (h:=h)
theorem Z3 {f:FuncId}{args:Array Operand}{tys:Array TypeId}{xs:List Operand}{ys zs:List AVal}{Li Lo:List (Nat×AObj)}{res:AVal} (hcon:Con P f Li zs Lo res) (h:Walk P ops draw K rest ((l.length,⟨some d,.call ⟨.value (.func f),args,tys⟩,ty,pos,aft,gd⟩,⟨XQ ops gd++X27 xs ys,some (d,res),Li++X1N (UL Li Lo),Lo,UL Li Lo⟩)::l)
   ((S.set d res).cat Lo)) (hg:XR ops S gd:=by exact JAa) (hxs:args.toList=xs:=by exact rfl) (hys:evA S xs=ys:=by conv=>lhs;whnf) (hle:leL ys zs:=by((repeat (first|exact trivial|refine⟨(by(first|((exact AVal.le_refl _))|((exact AVal.le_nil _))|((refine AVal.le_agg ?_;((repeat (first|exact trivial|refine⟨(by(first|((exact AVal.le_refl _))|((exact AVal.le_nil _))|((refine AVal.le_of_eq ?_;(conv=>lhs;whnf);(first|((rfl))|((simp<;>fail))|fail)))|fail)),?_⟩|fail))<;>fail)))|((refine AVal.le_of_eq ?_;(conv=>lhs;whnf);(first|((rfl))|((simp<;>fail))|fail)))|fail)),?_⟩|fail))<;>fail)) (hf:X17 P f=true:=by exact rfl) (hLi:UQ S Li:=by exact JAg) (hin:X2y Li Lo=true:=by exact rfl) (hbox:X2E Lo Lo=true:=by exact rfl) (hres:res.within Lo=true:=by exact rfl) (hnew:X1X S (UL Li Lo):=by exact JAg) (hdead:UQ S (X1N (UL Li Lo)):=by exact JAg) (hd:Nat.blt d S.n=true:=by exact rfl):Walk P ops draw K (⟨some d,.call ⟨.value (.func f),args,tys⟩,ty,pos,aft,gd⟩::rest) l S:=Xpj (hxs:=hxs) (hys:=hys) (hle:=hle) (hcon:=hcon) (hf:=hf) (hLi:=hLi) (hin:=hin) (hbox:=hbox) (hres:=hres) (hnew:=hnew) (hdead:=hdead) (hd:=hd) (hg:=hg) (h:=h)
theorem Z4 {op:UnOp}{xt:TypeId}{x:Operand}{u r:Value} (hr:∀w,(Op.unary op u).run P w= .ok r w) (h:Walk P ops draw K rest ((l.length,⟨some d,.unOp op xt x,ty,pos,aft,gd⟩,⟨XQ ops gd++[(x,.d (.v u))],some (d,.d (.v r)),[],[],[]⟩)::l) (S.set d (.d (.v r)))) (hg:XR ops S gd:=by exact JAa) (hx:S.ev x= .d (.v u):=by exact rfl) (h1:r.oneCell'=true:=by exact rfl) (hd:Nat.blt d S.n=true:=by exact rfl):Walk P ops draw K (⟨some d,.unOp op xt x,ty,pos,aft,gd⟩::rest) l S:=XdO (hx:=hx) (hr:=hr) (h1:=h1) (hd:=hd) (hg:=hg) (h:=h)
theorem Z5 {t:Tmp}{f:FuncId}{caps:List AVal}{args:Array Operand}{tys:Array TypeId}{xs:List Operand}{ys zs:List AVal}{Li Lo:List (Nat×AObj)}{res:AVal} (hcon:Con P f Li zs Lo res) (h:Walk P ops draw K rest ((l.length,⟨some d,.call ⟨.value (.tmp t),args,tys⟩,ty,pos,aft,gd⟩,⟨XQ ops gd++((.tmp t,.fn f caps)::X27 xs ys),some (d,res),Li++X1N (UL Li Lo),Lo,UL Li Lo⟩)::l)
   ((S.set d res).cat Lo)) (hg:XR ops S gd:=by exact JAa) (ht:S.ev (.tmp t)= .fn f caps:=by exact rfl) (hxs:args.toList=xs:=by exact rfl) (hys:evA S xs=ys:=by conv=>lhs;whnf) (hle:leL (ys++caps) zs:=by((repeat (first|exact trivial|refine⟨(by(first|((exact AVal.le_refl _))|((exact AVal.le_nil _))|((refine AVal.le_agg ?_;((repeat (first|exact trivial|refine⟨(by(first|((exact AVal.le_refl _))|((exact AVal.le_nil _))|((refine AVal.le_of_eq ?_;(conv=>lhs;whnf);(first|((rfl))|((simp<;>fail))|fail)))|fail)),?_⟩|fail))<;>fail)))|((refine AVal.le_of_eq ?_;(conv=>lhs;whnf);(first|((rfl))|((simp<;>fail))|fail)))|fail)),?_⟩|fail))<;>fail)) (hf:X17 P f=true:=by exact rfl) (hLi:UQ S Li:=by exact JAg) (hin:X2y Li Lo=true:=by exact rfl) (hbox:X2E Lo Lo=true:=by exact rfl) (hres:res.within Lo=true:=by exact rfl) (hnew:X1X S (UL Li Lo):=by exact JAg) (hdead:UQ S (X1N (UL Li Lo)):=by exact JAg) (hd:Nat.blt d S.n=true:=by exact rfl):Walk P ops draw K (⟨some d,.call ⟨.value (.tmp t),args,tys⟩,ty,pos,aft,gd⟩::rest) l S:=Xmc (ht:=ht) (hxs:=hxs) (hys:=hys) (hle:=hle) (hcon:=hcon) (hf:=hf) (hLi:=hLi) (hin:=hin) (hbox:=hbox) (hres:=hres) (hnew:=hnew) (hdead:=hdead) (hd:=hd) (hg:=hg) (h:=h)
theorem Z6 {op:UnOp}{xt:TypeId}{x:Operand}{u r:Value} (h:Walk P ops draw K rest ((l.length,⟨some d,.unOp op xt x,ty,pos,aft,gd⟩,⟨XQ ops gd++[(x,.d (.v u))],some (d,.d (.v r)),[],[],[]⟩)::l) (S.set d (.d (.v r)))) (hg:XR ops S gd:=by exact JAa) (hx:S.ev x= .d (.v u):=by exact rfl) (hr:∀w,(Op.unary op u).run P w= .ok r w:=by(first|((exact Xmr))|((exact Xbo (by omega)))|fail)) (h1:r.oneCell'=true:=by exact rfl) (hd:Nat.blt d S.n=true:=by exact rfl):Walk P ops draw K (⟨some d,.unOp op xt x,ty,pos,aft,gd⟩::rest) l S:=XdO (hx:=hx) (hr:=hr) (h1:=h1) (hd:=hd) (hg:=hg) (h:=h)
theorem Z7 {T:TypeId}{x:Operand}{lo hi:Option Operand}{sz lb hb:Nat}{xs ys:List (List D)} (hys:(xs.take hb).drop lb=ys) (h:Walk P ops draw K rest ((l.length,⟨some d,.slice T x lo hi none,ty,pos,aft,gd⟩,⟨XQ ops gd++((x,.d (.sl sz xs))::(X0y lo lb++X0y hi hb)),some (d,.d (.sl sz ys)),[],[],[]⟩)::l) (S.set d (.d (.sl sz ys)))) (hg:XR ops S gd:=by exact JAa) (hx:S.ev x= .d (.sl sz xs):=by exact rfl) (hlo:X6M S lo lb:=by(first|((trivial))|((exact rfl))|fail)) (hhi:X6x S xs.length hi hb:=by(first|((trivial))|((exact rfl))|fail)) (hlh:lb≤hb:=by exact JAb) (hh:hb≤xs.length:=by exact JAb) (hT:Ui P T sz=true:=by exact rfl) (hd:Nat.blt d S.n=true:=by exact rfl):Walk P ops draw K (⟨some d,.slice T x lo hi none,ty,pos,aft,gd⟩::rest) l S:=Xnq (hx:=hx) (hlo:=hlo) (hhi:=hhi) (hlh:=hlh) (hh:=hh) (hys:=hys) (hT:=hT) (hd:=hd) (hg:=hg) (h:=h)
theorem Z8 {T:TypeId}{x lo hi mx:Operand}{sz lb hb mb:Nat}{xs ys:List (List D)} (hys:(xs.take hb).drop lb=ys) (h:Walk P ops draw K rest ((l.length,⟨some d,.slice T x (some lo) (some hi) (some mx),ty,pos,aft,gd⟩,⟨XQ ops gd++[(x,.d (.sl sz xs)),(lo,ai lb),(hi,ai hb),(mx,ai mb)],some (d,.d (.sl sz ys)),[],[],[]⟩)::l) (S.set d (.d (.sl sz ys)))) (hg:XR ops S gd:=by exact JAa) (hx:S.ev x= .d (.sl sz xs):=by exact rfl) (hlo:S.ev lo=ai lb:=by exact rfl) (hhi:S.ev hi=ai hb:=by exact rfl) (hmx:S.ev mx=ai mb:=by exact rfl) (hlh:lb≤hb:=by exact JAb) (hh:hb≤mb:=by exact JAb) (hm:mb≤xs.length:=by exact JAb) (hT:Ui P T sz=true:=by exact rfl) (hd:Nat.blt d S.n=true:=by exact rfl):Walk P ops draw K (⟨some d,.slice T x (some lo) (some hi) (some mx),ty,pos,aft,gd⟩::rest) l S:=XoX (hx:=hx) (hlo:=hlo) (hhi:=hhi) (hmx:=hmx) (hlh:=hlh) (hh:=hh) (hm:=hm) (hys:=hys) (hT:=hT) (hd:=hd) (hg:=hg) (h:=h)
theorem Z9 {T:TypeId}{len sz γ:Nat}{parts:Array (Nat×Operand)}{pl:List (Nat×Operand)}{zs:List Value}{ps:List (Nat×AVal)}{out:List AVal}{xs:List (List D)} (h:Walk P ops draw K rest ((l.length,⟨some d,.buildSlice T len parts,ty,pos,aft,gd⟩,⟨XQ ops gd++X06 pl ps,some (d,.own γ len),[(γ,.dead)],[(γ,.row sz xs)],[γ]⟩)::l) ((S.set d (.own γ len)).own γ (.row sz xs))) (hg:XR ops S gd:=by exact JAa) (hpl:parts.toList=pl:=by exact rfl) (hps:evL S pl=ps:=by conv=>lhs;whnf) (hz:X14 P T=some zs:=by exact rfl) (hS:zs.length=sz:=by conv=>lhs;whnf) (hT:Ui P T sz=true:=by exact rfl) (hzl:Nat.beq zs.length sz=true:=by exact rfl) (hz1:VZ (Uj zs len)=true:=by exact rfl) (hsmall:Nat.ble (len*sz) 16777216=true:=by exact rfl) (hsl:Nat.ble len 16777216=true:=by exact rfl) (hout:X28 (fun i=>some (i*sz,sz)) (dvL (Uj zs len)) ps=some out:=by conv=>lhs;whnf) (hxs:X2l sz len out=some xs:=by conv=>lhs;whnf) (hdead:S.obj γ= .dead:=by exact rfl) (hf:S.free γ=true:=by exact rfl) (hd:Nat.blt d S.n=true:=by exact rfl):Walk P ops draw K (⟨some d,.buildSlice T len parts,ty,pos,aft,gd⟩::rest) l S:=Xii (hpl:=hpl) (hps:=hps) (hz:=hz) (hS:=hS) (hT:=hT) (hzl:=hzl) (hz1:=hz1) (hsmall:=hsmall) (hsl:=hsl) (hout:=hout) (hxs:=hxs) (hdead:=hdead) (hf:=hf) (hd:=hd) (hg:=hg) (h:=h)
theorem Za {op:BinOp}{xt yt:TypeId}{x y:Operand}{u v r:Value} (r':Value) (hr':r=r') (h:Walk P ops draw K rest ((l.length,⟨some d,.binOp op xt x y yt,ty,pos,aft,gd⟩,⟨XQ ops gd++[(x,.d (.v u)),(y,.d (.v v))],some (d,.d (.v r')),[],[],[]⟩)::l) (S.set d (.d (.v r')))) (hg:XR ops S gd:=by exact JAa) (hx:S.ev x= .d (.v u):=by exact rfl) (hy:S.ev y= .d (.v v):=by exact rfl) (hr:∀w,(do eqGuard op xt x y u v;binOp op xt u v:Sem Value).run P w= .ok r w:=by exact XdZ (by omega) (by omega)) (h1:r'.oneCell'=true:=by exact rfl) (hd:Nat.blt d S.n=true:=by exact rfl):Walk P ops draw K (⟨some d,.binOp op xt x y yt,ty,pos,aft,gd⟩::rest) l S:=X4Z (r':=r') (hr':=hr') (hx:=hx) (hy:=hy) (hr:=hr) (h1:=h1) (hd:=hd) (hg:=hg) (h:=h)
theorem Zb {x y:Operand}{T T2:TypeId}{γ n sz bytes:Nat}{xs ys:List (List D)} (h:Walk P ops draw K rest ((l.length,⟨some d,.call ⟨.builtin .append,#[x,y],#[T,T2]⟩,ty,pos,aft,gd⟩,⟨XQ ops gd++[(x,.own γ n),(y,.d (.sl sz ys))],some (d,.d (.sl sz (xs++ys))),[(γ,.row sz xs)],[(γ,.froz sz (xs++ys))],[]⟩)::l)
   ((S.set d (.d (.sl sz (xs++ys)))).own γ (.froz sz (xs++ys)))) (hg:XR ops S gd:=by exact JAa) (hx:S.ev x= .own γ n:=by exact rfl) (hL:S.obj γ= .row sz xs:=by exact rfl) (hy:S.ev y= .d (.sl sz ys):=by exact rfl) (hn:n=xs.length:=by exact JAd) (hB:elB P T=bytes:=by conv=>lhs;whnf) (hT:X0K P T sz bytes=true:=by exact rfl) (hT2:X2U P T2=true:=by exact rfl) (hb0:Nat.beq bytes 0=false:=by exact rfl) (hroom:(xs.length+ys.length)*bytes≤140737488355328:=by exact JAe) (hd:Nat.blt d S.n=true:=by exact rfl):Walk P ops draw K (⟨some d,.call ⟨.builtin .append,#[x,y],#[T,T2]⟩,ty,pos,aft,gd⟩::rest) l S:=XlK (hx:=hx) (hL:=hL) (hy:=hy) (hn:=hn) (hB:=hB) (hT:=hT) (hT2:=hT2) (hb0:=hb0) (hroom:=hroom) (hd:=hd) (hg:=hg) (h:=h)
theorem Zc {T:TypeId}{x:Operand}{lo hi:Option Operand}{β o n c sz lb hb o' m c':Nat} (ho':(if c=lb then o else o+lb*sz)=o') (h:Walk P ops draw K rest ((l.length,⟨some d,.slice T x lo hi none,ty,pos,aft,gd⟩,⟨XQ ops gd++((x,.rs β o n c)::(X0y lo lb++X0y hi hb)),some (d,.rs β o' m c'),[],[],[]⟩)::l) (S.set d (.rs β o' m c'))) (hg:XR ops S gd:=by exact JAa) (hx:S.ev x= .rs β o n c:=by exact rfl) (hlo:X6M S lo lb:=by(first|((trivial))|((exact rfl))|fail)) (hhi:X6x S n hi hb:=by(first|((trivial))|((exact rfl))|fail)) (hlh:lb≤hb:=by exact JAb) (hh:hb≤c:=by exact JAb) (hm:hb-lb=m:=by exact JAf) (hc':c-lb=c':=by exact JAf) (hT:Ui P T sz=true:=by exact rfl) (hd:Nat.blt d S.n=true:=by exact rfl):Walk P ops draw K (⟨some d,.slice T x lo hi none,ty,pos,aft,gd⟩::rest) l S:=XrJ (hx:=hx) (hlo:=hlo) (hhi:=hhi) (hlh:=hlh) (hh:=hh) (hm:=hm) (hc':=hc') (ho':=ho') (hT:=hT) (hd:=hd) (hg:=hg) (h:=h)
theorem Zd {x y:Operand}{T T2:TypeId}{β o1 n1 c1 o2 n2 c2 sz m:Nat}{cs cs':List (Option D)} (hc:X0a ((cs.drop o2).take (m*sz))=true) (hcs:cs.take o1++(cs.drop o2).take (m*sz)++cs.drop (o1+m*sz)=cs') (h:Walk P ops draw K rest ((l.length,⟨some d,.call ⟨.builtin .copy,#[x,y],#[T,T2]⟩,ty,pos,aft,gd⟩,⟨XQ ops gd++[(x,.rs β o1 n1 c1),(y,.rs β o2 n2 c2)],some (d,ai m),[(β,.raw cs none)],[(β,.raw cs' none)],[]⟩)::l)
   ⟨S.n,(d,ai m)::S.τ,(β,.raw cs' none)::S.L⟩) (hg:XR ops S gd:=by exact JAa) (hx:S.ev x= .rs β o1 n1 c1:=by exact rfl) (hy:S.ev y= .rs β o2 n2 c2:=by exact rfl) (hL:S.obj β= .raw cs none:=by exact rfl) (hm:m=min n2 n1:=by exact JAf) (h2:o2+m*sz≤cs.length:=by exact JAb) (h1:o1+m*sz≤cs.length:=by exact JAb) (hT:Ui P T sz=true:=by exact rfl) (hd:Nat.blt d S.n=true:=by exact rfl):Walk P ops draw K (⟨some d,.call ⟨.builtin .copy,#[x,y],#[T,T2]⟩,ty,pos,aft,gd⟩::rest) l S:=XnX (hx:=hx) (hy:=hy) (hL:=hL) (hm:=hm) (hc:=hc) (h2:=h2) (h1:=h1) (hcs:=hcs) (hT:=hT) (hd:=hd) (hg:=hg) (h:=h)
theorem Ze {x y:Operand}{yv:AVal}{T T2:TypeId}{β o1 n1 c1 sz m:Nat}{ys:List (List D)}{cs cs':List (Option D)} (hcs:cs.take o1++(ys.take m).flatten.map some++cs.drop (o1+m*sz)=cs') (h:Walk P ops draw K rest ((l.length,⟨some d,.call ⟨.builtin .copy,#[x,y],#[T,T2]⟩,ty,pos,aft,gd⟩,⟨XQ ops gd++[(x,.rs β o1 n1 c1),(y,yv)],some (d,ai m),[(β,.raw cs none)],[(β,.raw cs' none)],[]⟩)::l)
   ⟨S.n,(d,ai m)::S.τ,(β,.raw cs' none)::S.L⟩) (hg:XR ops S gd:=by exact JAa) (hx:S.ev x= .rs β o1 n1 c1:=by exact rfl) (hL:S.obj β= .raw cs none:=by exact rfl) (hy:S.ev y=yv:=by exact rfl) (hsrc:SrcV P yv sz ys:=by(first|((exact XeV))|((exact XdI))|fail)) (hm:m=min ys.length n1:=by exact JAf) (h1:o1+m*sz≤cs.length:=by exact JAb) (hT:Ui P T sz=true:=by exact rfl) (hd:Nat.blt d S.n=true:=by exact rfl):Walk P ops draw K (⟨some d,.call ⟨.builtin .copy,#[x,y],#[T,T2]⟩,ty,pos,aft,gd⟩::rest) l S:=XmH (hx:=hx) (hL:=hL) (hy:=hy) (hsrc:=hsrc) (hm:=hm) (h1:=h1) (hcs:=hcs) (hT:=hT) (hd:=hd) (hg:=hg) (h:=h)
theorem Zf {x y:Operand}{T T2:TypeId}{β γ n1 c1 sz bytes n' m:Nat}{kd:IntKind}{cs:List (Option D)}{xs:List (List D)}{zs:List Value} (hxs:cs.take (n1*sz)=xs.flatten.map some) (hxl:xs.length=n1) (hxz:∀r∈xs,r.length=sz) (h:Walk P ops draw K rest ((l.length,⟨some d,.call ⟨.builtin .append,#[x,y],#[T,T2]⟩,ty,pos,aft,gd⟩,⟨XQ ops gd++[(x,.rs β 0 n1 c1),(y,.d (.v (.int kd (m:Nat))))],some (d,.own γ n'),[(β,.raw cs none),(γ,.dead)],[(γ,.row sz (xs++List.replicate m (zD zs)))],[γ]⟩)::l)
   ((S.set d (.own γ n')).own γ (.row sz (xs++List.replicate m (zD zs))))) (hg:XR ops S gd:=by exact JAa) (hx:S.ev x= .rs β 0 n1 c1:=by exact rfl) (hy:S.ev y= .d (.v (.int kd (m:Nat))):=by exact rfl) (hL:S.obj β= .raw cs none:=by exact rfl) (hfull:¬n1+m≤c1:=by exact JAb) (hn':n1+m=n':=by exact JAf) (hm:0<m:=by exact JAb) (hle:n1*sz≤cs.length:=by exact JAb) (hz:X14 P T=some zs:=by exact rfl) (hB:elB P T=bytes:=by conv=>lhs;whnf) (hT:X0K P T sz bytes=true:=by exact rfl) (hT2:X8H P T2=true:=by exact rfl) (hb0:Nat.beq bytes 0=false:=by exact rfl) (hs0:Nat.beq sz 0=false:=by exact rfl) (hcap:n'*bytes≤70368744177664:=by exact JAb) (hold:c1<n':=by exact JAb) (hdead:S.obj γ= .dead:=by exact rfl) (hf:S.free γ=true:=by exact rfl) (hd:Nat.blt d S.n=true:=by exact rfl):Walk P ops draw K (⟨some d,.call ⟨.builtin .append,#[x,y],#[T,T2]⟩,ty,pos,aft,gd⟩::rest) l S:=Xmq (hx:=hx) (hy:=hy) (hL:=hL) (hfull:=hfull) (hn':=hn') (hm:=hm) (hxs:=hxs) (hxl:=hxl) (hxz:=hxz) (hle:=hle) (hz:=hz) (hB:=hB) (hT:=hT) (hT2:=hT2) (hb0:=hb0) (hs0:=hs0) (hcap:=hcap) (hold:=hold) (hdead:=hdead) (hf:=hf) (hd:=hd) (hg:=hg) (h:=h)
theorem Zg {x y:Operand}{T T2:TypeId}{β o1 n1 c1 o2 n2 c2 sz bytes n':Nat}{cs cs':List (Option D)} (hc:X0a ((cs.drop o2).take (n2*sz))=true) (hcs:cs.take (o1+n1*sz)++(cs.drop o2).take (n2*sz)++cs.drop (o1+n1*sz+n2*sz)=cs') (h:Walk P ops draw K rest ((l.length,⟨some d,.call ⟨.builtin .append,#[x,y],#[T,T2]⟩,ty,pos,aft,gd⟩,⟨XQ ops gd++[(x,.rs β o1 n1 c1),(y,.rs β o2 n2 c2)],some (d,.rs β o1 n' c1),[(β,.raw cs none)],[(β,.raw cs' none)],[]⟩)::l)
   ((S.set d (.rs β o1 n' c1)).own β (.raw cs' none))) (hg:XR ops S gd:=by exact JAa) (hx:S.ev x= .rs β o1 n1 c1:=by exact rfl) (hy:S.ev y= .rs β o2 n2 c2:=by exact rfl) (hL:S.obj β= .raw cs none:=by exact rfl) (hroom:n1+n2≤c1:=by exact JAb) (hn':n1+n2=n':=by exact JAf) (h2:o2+n2*sz≤cs.length:=by exact JAb) (h1:o1+n1*sz+n2*sz≤cs.length:=by exact JAb) (hB:elB P T=bytes:=by conv=>lhs;whnf) (hT:X0K P T sz bytes=true:=by exact rfl) (hT2:X2U P T2=true:=by exact rfl) (hd:Nat.blt d S.n=true:=by exact rfl):Walk P ops draw K (⟨some d,.call ⟨.builtin .append,#[x,y],#[T,T2]⟩,ty,pos,aft,gd⟩::rest) l S:=Xqp (hx:=hx) (hy:=hy) (hL:=hL) (hroom:=hroom) (hn':=hn') (hc:=hc) (h2:=h2) (h1:=h1) (hcs:=hcs) (hB:=hB) (hT:=hT) (hT2:=hT2) (hd:=hd) (hg:=hg) (h:=h)
theorem Zh {x i:Operand}{T:TypeId}{β o n c k sz p:Nat}{kd:IntKind}{m:Int} (h:Walk P ops draw K rest ((l.length,⟨some d,.indexAddr T x i,ty,pos,aft,gd⟩,⟨XQ ops gd++[(x,.rs β o n c),(i,.d (.v (.int kd m)))],some (d,.ptr β p),[],[],[]⟩)::l) (S.set d (.ptr β p))) (hg:XR ops S gd:=by exact JAa) (hx:S.ev x= .rs β o n c:=by exact rfl) (hi:S.ev i= .d (.v (.int kd m)):=by exact rfl) (hk:m=(k:Nat):=by exact JAh) (hlt:k<n:=by exact JAb) (hp:o+k*sz=p:=by exact rfl) (hT:Ui P T sz=true:=by exact rfl) (hd:Nat.blt d S.n=true:=by exact rfl):Walk P ops draw K (⟨some d,.indexAddr T x i,ty,pos,aft,gd⟩::rest) l S:=Xpg (hx:=hx) (hi:=hi) (hk:=hk) (hlt:=hlt) (hp:=hp) (hT:=hT) (hd:=hd) (hg:=hg) (h:=h)
theorem Zi {t:TypeId}{x v:Operand}{γ o:Nat}{cs cs':List (Option D)}{ho ho':Option (Nat×AVal)}{y:AVal} (hcs:Y6 cs' ho'=(Y6 cs ho).take o++y.parts++(Y6 cs ho).drop (o+y.parts.length)) (h:Walk P ops draw K rest ((l.length,⟨none,.store t x v,ty,pos,aft,gd⟩,⟨XQ ops gd++[(x,.ptr γ o),(v,y)],none,[(γ,.raw cs ho)],[(γ,.raw cs' ho')],[]⟩)::l)
   (S.own γ (.raw cs' ho'))) (hg:XR ops S gd:=by exact JAa) (hx:S.ev x= .ptr γ o:=by exact rfl) (hL:S.obj γ= .raw cs ho:=by exact rfl) (hv:S.ev v=y:=by conv=>lhs;whnf) (hc:X0S y.parts=true:=by exact rfl) (ht:X59 P t y.parts.length=true:=by exact rfl) (hb:o+y.parts.length≤cs.length:=by exact JAb):Walk P ops draw K (⟨none,.store t x v,ty,pos,aft,gd⟩::rest) l S:=Xrc (hx:=hx) (hL:=hL) (hv:=hv) (hc:=hc) (ht:=ht) (hb:=hb) (hcs:=hcs) (hg:=hg) (h:=h)
theorem Zj {op:BinOp}{xt yt:TypeId}{x y:Operand}{u v r:Value} (r':Value) (hr':r=r') (h:Walk P ops draw K rest ((l.length,⟨some d,.binOp op xt x y yt,ty,pos,aft,gd⟩,⟨XQ ops gd++[(x,.d (.v u)),(y,.d (.v v))],some (d,.d (.v r')),[],[],[]⟩)::l) (S.set d (.d (.v r')))) (hg:XR ops S gd:=by exact JAa) (hx:S.ev x= .d (.v u):=by exact rfl) (hy:S.ev y= .d (.v v):=by exact rfl) (hr:∀w,(do eqGuard op xt x y u v;binOp op xt u v:Sem Value).run P w= .ok r w:=by exact XiO) (h1:r'.oneCell'=true:=by exact rfl) (hd:Nat.blt d S.n=true:=by exact rfl):Walk P ops draw K (⟨some d,.binOp op xt x y yt,ty,pos,aft,gd⟩::rest) l S:=X4Z (r':=r') (hr':=hr') (hx:=hx) (hy:=hy) (hr:=hr) (h1:=h1) (hd:=hd) (hg:=hg) (h:=h)
theorem Zk {op:BinOp}{xt yt:TypeId}{x y:Operand}{u v r:Value} (r':Value) (hr':r=r') (h:Walk P ops draw K rest ((l.length,⟨some d,.binOp op xt x y yt,ty,pos,aft,gd⟩,⟨XQ ops gd++[(x,.d (.v u)),(y,.d (.v v))],some (d,.d (.v r')),[],[],[]⟩)::l) (S.set d (.d (.v r')))) (hg:XR ops S gd:=by exact JAa) (hx:S.ev x= .d (.v u):=by exact rfl) (hy:S.ev y= .d (.v v):=by exact rfl) (hr:∀w,(do eqGuard op xt x y u v;binOp op xt u v:Sem Value).run P w= .ok r w:=by exact Xiw) (h1:r'.oneCell'=true:=by exact rfl) (hd:Nat.blt d S.n=true:=by exact rfl):Walk P ops draw K (⟨some d,.binOp op xt x y yt,ty,pos,aft,gd⟩::rest) l S:=X4Z (r':=r') (hr':=hr') (hx:=hx) (hy:=hy) (hr:=hr) (h1:=h1) (hd:=hd) (hg:=hg) (h:=h)
theorem Zl {op:BinOp}{xt yt:TypeId}{x y:Operand}{u v r:Value} (r':Value) (hr':r=r') (h:Walk P ops draw K rest ((l.length,⟨some d,.binOp op xt x y yt,ty,pos,aft,gd⟩,⟨XQ ops gd++[(x,.d (.v u)),(y,.d (.v v))],some (d,.d (.v r')),[],[],[]⟩)::l) (S.set d (.d (.v r')))) (hg:XR ops S gd:=by exact JAa) (hx:S.ev x= .d (.v u):=by exact rfl) (hy:S.ev y= .d (.v v):=by exact rfl) (hr:∀w,(do eqGuard op xt x y u v;binOp op xt u v:Sem Value).run P w= .ok r w:=by exact Xd1) (h1:r'.oneCell'=true:=by exact rfl) (hd:Nat.blt d S.n=true:=by exact rfl):Walk P ops draw K (⟨some d,.binOp op xt x y yt,ty,pos,aft,gd⟩::rest) l S:=X4Z (r':=r') (hr':=hr') (hx:=hx) (hy:=hy) (hr:=hr) (h1:=h1) (hd:=hd) (hg:=hg) (h:=h)
theorem Zm {t:TypeId}{x:Operand}{γ o sz:Nat}{cs:List (Option D)}{ho:Option (Nat×AVal)}{ys:List AVal} (hy:((Y6 cs ho).drop o).take sz=ys) (h:Walk P ops draw K rest ((l.length,⟨some d,.load t x,ty,pos,aft,gd⟩,⟨XQ ops gd++[(x,.ptr γ o)],some (d,.agg ys),[(γ,.raw cs ho)],[],[]⟩)::l) (S.set d (.agg ys))) (hg:XR ops S gd:=by exact JAa) (hx:S.ev x= .ptr γ o:=by exact rfl) (hL:S.obj γ= .raw cs ho:=by exact rfl) (ht:X0I P t true sz=true:=by exact rfl) (hlen:ys.length=sz:=by exact rfl) (hd:Nat.blt d S.n=true:=by exact rfl):Walk P ops draw K (⟨some d,.load t x,ty,pos,aft,gd⟩::rest) l S:=Xq7 (hx:=hx) (hL:=hL) (ht:=ht) (hy:=hy) (hlen:=hlen) (hd:=hd) (hg:=hg) (h:=h)
theorem Zn {T:TypeId}{len sz γ:Nat}{parts:Array (Nat×Operand)}{pl:List (Nat×Operand)}{zs:List Value}{ps:List (Nat×AVal)}{out:List AVal}{xs:List (List D)} (hout:X28 (fun i=>some (i*sz,sz)) (dvL (Uj zs len)) ps=some out) (hxs:X2l sz len out=some xs) (h:Walk P ops draw K rest ((l.length,⟨some d,.buildSlice T len parts,ty,pos,aft,gd⟩,⟨XQ ops gd++X06 pl ps,some (d,.own γ len),[(γ,.dead)],[(γ,.row sz xs)],[γ]⟩)::l) ((S.set d (.own γ len)).own γ (.row sz xs))) (hg:XR ops S gd:=by exact JAa) (hpl:parts.toList=pl:=by exact rfl) (hps:evL S pl=ps:=by exact rfl) (hz:X14 P T=some zs:=by exact rfl) (hS:zs.length=sz:=by conv=>lhs;whnf) (hT:Ui P T sz=true:=by exact rfl) (hzl:Nat.beq zs.length sz=true:=by exact rfl) (hz1:VZ (Uj zs len)=true:=by exact rfl) (hsmall:Nat.ble (len*sz) 16777216=true:=by exact rfl) (hsl:Nat.ble len 16777216=true:=by exact rfl) (hdead:S.obj γ= .dead:=by exact rfl) (hf:S.free γ=true:=by exact rfl) (hd:Nat.blt d S.n=true:=by exact rfl):Walk P ops draw K (⟨some d,.buildSlice T len parts,ty,pos,aft,gd⟩::rest) l S:=Xii (hpl:=hpl) (hps:=hps) (hz:=hz) (hS:=hS) (hT:=hT) (hzl:=hzl) (hz1:=hz1) (hsmall:=hsmall) (hsl:=hsl) (hout:=hout) (hxs:=hxs) (hdead:=hdead) (hf:=hf) (hd:=hd) (hg:=hg) (h:=h)
theorem Zo {src dst:TypeId}{x:Operand}{u r:Value} (h:Walk P ops draw K rest ((l.length,⟨some d,.convert src dst x,ty,pos,aft,gd⟩,⟨XQ ops gd++[(x,.d (.v u))],some (d,.d (.v r)),[],[],[]⟩)::l) (S.set d (.d (.v r)))) (hg:XR ops S gd:=by exact JAa) (hx:S.ev x= .d (.v u):=by exact rfl) (hr:∀w,(convert src dst u).run P w= .ok r w:=by(first|((exact Xjv rfl rfl))|((exact Xl2 rfl rfl (by omega)))|fail)) (h1:r.oneCell'=true:=by exact rfl) (hd:Nat.blt d S.n=true:=by exact rfl):Walk P ops draw K (⟨some d,.convert src dst x,ty,pos,aft,gd⟩::rest) l S:=Xim (hx:=hx) (hr:=hr) (h1:=h1) (hd:=hd) (hg:=hg) (h:=h)
end
section
variable {P:Program}{E:Env}{S:St}{Q:Exit→St→Prop}
theorem JD {ops:Array Oper}{draw:Bool}{K:Y4→St→Prop}{l:Y4} (k:K l S) (h:draw=true→X4k ops l=true:=by(first|exact fun h=>Bool.noConfusion h|exact fun _=>rfl|fail)):Walk P ops draw K [] l S:= .done h k
theorem JR {id:Nat}{ops:Array Oper}{draw:Bool} (h:Walk P ops draw (fun _=>Q .normal) ops.toList [] S) (hm:P.follows .mixedOrders=true:=by kernel_rfl):AWP P E (.region id ops draw) S Q:=Xrs hm h
theorem JT {c:Operand}{x y:Code}{b:Bool} (h:AWP P E x S Q) (hc:S.ev c= .d (.v (.bool b)):=by rfl) (hb:b=true:=by exact JAc):AWP P E (.cond c x y) S Q:=Xqt hc hb h
theorem JF {c:Operand}{x y:Code}{b:Bool} (h:AWP P E y S Q) (hc:S.ev c= .d (.v (.bool b)):=by rfl) (hb:b=false:=by exact JAc):AWP P E (.cond c x y) S Q:=Xno hc hb h
end
theorem JL {p:Prop} (h:p:=by(first|((exact AVal.le_refl _))|((exact AVal.le_nil _))|((refine AVal.le_agg ?_;((repeat (first|exact trivial|refine⟨(by(first|((exact AVal.le_refl _))|((exact AVal.le_nil _))|((refine AVal.le_of_eq ?_;(conv=>lhs;whnf);(first|((rfl))|((simp<;>fail))|fail)))|fail)),?_⟩|fail))<;>fail)))|((refine AVal.le_of_eq ?_;(conv=>lhs;whnf);(first|((rfl))|((simp<;>fail))|fail)))|fail)):p:=h
theorem JM {p:Prop} (h:p:=by((repeat (first|exact trivial|refine⟨(by(first|((exact AVal.le_refl _))|((exact AVal.le_nil _))|((refine AVal.le_agg ?_;((repeat (first|exact trivial|refine⟨(by(first|((exact AVal.le_refl _))|((exact AVal.le_nil _))|((refine AVal.le_of_eq ?_;(conv=>lhs;whnf);(first|((rfl))|((simp<;>fail))|fail)))|fail)),?_⟩|fail))<;>fail)))|((refine AVal.le_of_eq ?_;(conv=>lhs;whnf);(first|((rfl))|((simp<;>fail))|fail)))|fail)),?_⟩|fail))<;>fail)):p:=h
section
variable {P:Program}{ops:Array Oper}{draw:Bool}{K:Y4→St→Prop}{rest:List Oper}{l:Y4}{S:St}
variable {d:Nat}{ty:TypeId}{pos:String}{aft:Array Edge}{gd:Option (Nat×Bool)}
theorem JGa {o:Option Tmp}{a1:_} (h:Walk P ops draw K (⟨o,.move a1,ty,pos,aft,gd⟩::rest) l S):Walk P ops draw K (⟨o,.move a1,ty,pos,aft,gd⟩::rest) l S:=h
theorem JGb {o:Option Tmp}{a1:_}{a2:_} (h:Walk P ops draw K (⟨o,.load a1 a2,ty,pos,aft,gd⟩::rest) l S):Walk P ops draw K (⟨o,.load a1 a2,ty,pos,aft,gd⟩::rest) l S:=h
theorem JGc {o:Option Tmp}{a1:_} (h:Walk P ops draw K (⟨o,.assign a1,ty,pos,aft,gd⟩::rest) l S):Walk P ops draw K (⟨o,.assign a1,ty,pos,aft,gd⟩::rest) l S:=h
theorem JGd {o:Option Tmp}{a1:_}{a2:_}{a3:_} (h:Walk P ops draw K (⟨o,.fieldAddr a1 a2 a3,ty,pos,aft,gd⟩::rest) l S):Walk P ops draw K (⟨o,.fieldAddr a1 a2 a3,ty,pos,aft,gd⟩::rest) l S:=h
theorem JGe {o:Option Tmp}{a1:_}{a2:_} (h:Walk P ops draw K (⟨o,.call ⟨.builtin .len,a1,a2⟩,ty,pos,aft,gd⟩::rest) l S):Walk P ops draw K (⟨o,.call ⟨.builtin .len,a1,a2⟩,ty,pos,aft,gd⟩::rest) l S:=h
theorem JGf {o:Option Tmp}{a1:_}{a2:_}{a3:_}{a4:_} (h:Walk P ops draw K (⟨o,.binOp .lss a1 a2 a3 a4,ty,pos,aft,gd⟩::rest) l S):Walk P ops draw K (⟨o,.binOp .lss a1 a2 a3 a4,ty,pos,aft,gd⟩::rest) l S:=h
theorem JGg {o:Option Tmp}{a1:_}{a2:_}{a3:_}{a4:_} (h:Walk P ops draw K (⟨o,.binOp .leq a1 a2 a3 a4,ty,pos,aft,gd⟩::rest) l S):Walk P ops draw K (⟨o,.binOp .leq a1 a2 a3 a4,ty,pos,aft,gd⟩::rest) l S:=h
theorem JGh {o:Option Tmp}{a1:_}{a2:_}{a3:_}{a4:_} (h:Walk P ops draw K (⟨o,.binOp .gtr a1 a2 a3 a4,ty,pos,aft,gd⟩::rest) l S):Walk P ops draw K (⟨o,.binOp .gtr a1 a2 a3 a4,ty,pos,aft,gd⟩::rest) l S:=h
theorem JGi {o:Option Tmp}{a1:_}{a2:_}{a3:_}{a4:_} (h:Walk P ops draw K (⟨o,.binOp .geq a1 a2 a3 a4,ty,pos,aft,gd⟩::rest) l S):Walk P ops draw K (⟨o,.binOp .geq a1 a2 a3 a4,ty,pos,aft,gd⟩::rest) l S:=h
theorem JGj {o:Option Tmp}{a1:_}{a2:_}{a3:_}{a4:_} (h:Walk P ops draw K (⟨o,.binOp .eql a1 a2 a3 a4,ty,pos,aft,gd⟩::rest) l S):Walk P ops draw K (⟨o,.binOp .eql a1 a2 a3 a4,ty,pos,aft,gd⟩::rest) l S:=h
theorem JGk {o:Option Tmp}{a1:_}{a2:_}{a3:_}{a4:_} (h:Walk P ops draw K (⟨o,.binOp .neq a1 a2 a3 a4,ty,pos,aft,gd⟩::rest) l S):Walk P ops draw K (⟨o,.binOp .neq a1 a2 a3 a4,ty,pos,aft,gd⟩::rest) l S:=h
theorem JGl {o:Option Tmp}{a1:_}{a2:_}{a3:_}{a4:_} (h:Walk P ops draw K (⟨o,.binOp .rem a1 a2 a3 a4,ty,pos,aft,gd⟩::rest) l S):Walk P ops draw K (⟨o,.binOp .rem a1 a2 a3 a4,ty,pos,aft,gd⟩::rest) l S:=h
theorem JGm {o:Option Tmp}{a1:_}{a2:_}{a3:_}{a4:_} (h:Walk P ops draw K (⟨o,.binOp .add a1 a2 a3 a4,ty,pos,aft,gd⟩::rest) l S):Walk P ops draw K (⟨o,.binOp .add a1 a2 a3 a4,ty,pos,aft,gd⟩::rest) l S:=h
theorem JGn {o:Option Tmp}{a1:_}{a2:_}{a3:_}{a4:_} (h:Walk P ops draw K (⟨o,.binOp .sub a1 a2 a3 a4,ty,pos,aft,gd⟩::rest) l S):Walk P ops draw K (⟨o,.binOp .sub a1 a2 a3 a4,ty,pos,aft,gd⟩::rest) l S:=h
theorem JGo {o:Option Tmp}{a1:_}{a2:_}{a3:_} (h:Walk P ops draw K (⟨o,.indexAddr a1 a2 a3,ty,pos,aft,gd⟩::rest) l S):Walk P ops draw K (⟨o,.indexAddr a1 a2 a3,ty,pos,aft,gd⟩::rest) l S:=h
theorem JGp {o:Option Tmp}{a1:_}{a2:_} (h:Walk P ops draw K (⟨o,.extract a1 a2,ty,pos,aft,gd⟩::rest) l S):Walk P ops draw K (⟨o,.extract a1 a2,ty,pos,aft,gd⟩::rest) l S:=h
theorem JGq {o:Option Tmp}{a1:_} (h:Walk P ops draw K (⟨o,.nilCheck a1,ty,pos,aft,gd⟩::rest) l S):Walk P ops draw K (⟨o,.nilCheck a1,ty,pos,aft,gd⟩::rest) l S:=h
theorem JGr {o:Option Tmp}{a1:_}{a2:_}{a3:_} (h:Walk P ops draw K (⟨o,.store a1 a2 a3,ty,pos,aft,gd⟩::rest) l S):Walk P ops draw K (⟨o,.store a1 a2 a3,ty,pos,aft,gd⟩::rest) l S:=h
theorem JGs {o:Option Tmp}{a1:_}{a2:_} (h:Walk P ops draw K (⟨o,.box a1 a2,ty,pos,aft,gd⟩::rest) l S):Walk P ops draw K (⟨o,.box a1 a2,ty,pos,aft,gd⟩::rest) l S:=h
theorem JGt {o:Option Tmp}{a1:_} (h:Walk P ops draw K (⟨o,.alloc a1,ty,pos,aft,gd⟩::rest) l S):Walk P ops draw K (⟨o,.alloc a1,ty,pos,aft,gd⟩::rest) l S:=h
theorem JGu {o:Option Tmp}{a1:_}{a2:_}{a3:_} (h:Walk P ops draw K (⟨o,.unOp a1 a2 a3,ty,pos,aft,gd⟩::rest) l S):Walk P ops draw K (⟨o,.unOp a1 a2 a3,ty,pos,aft,gd⟩::rest) l S:=h
theorem JGv {o:Option Tmp}{a1:_}{a2:_} (h:Walk P ops draw K (⟨o,.build a1 a2,ty,pos,aft,gd⟩::rest) l S):Walk P ops draw K (⟨o,.build a1 a2,ty,pos,aft,gd⟩::rest) l S:=h
theorem JGw {o:Option Tmp}{a1:_}{a2:_}{a3:_} (h:Walk P ops draw K (⟨o,.buildSlice a1 a2 a3,ty,pos,aft,gd⟩::rest) l S):Walk P ops draw K (⟨o,.buildSlice a1 a2 a3,ty,pos,aft,gd⟩::rest) l S:=h
theorem JGx {o:Option Tmp}{a1:_}{a2:_}{a3:_} (h:Walk P ops draw K (⟨o,.makeFunc a1 a2 a3,ty,pos,aft,gd⟩::rest) l S):Walk P ops draw K (⟨o,.makeFunc a1 a2 a3,ty,pos,aft,gd⟩::rest) l S:=h
theorem JGy {o:Option Tmp}{a1:_}{a2:_}{a3:_} (h:Walk P ops draw K (⟨o,.makeSlice a1 a2 a3,ty,pos,aft,gd⟩::rest) l S):Walk P ops draw K (⟨o,.makeSlice a1 a2 a3,ty,pos,aft,gd⟩::rest) l S:=h
theorem JGz {o:Option Tmp}{a1:_}{a2:_}{a3:_}{a4:_}{a5:_} (h:Walk P ops draw K (⟨o,.slice a1 a2 a3 a4 a5,ty,pos,aft,gd⟩::rest) l S):Walk P ops draw K (⟨o,.slice a1 a2 a3 a4 a5,ty,pos,aft,gd⟩::rest) l S:=h
theorem JGA {o:Option Tmp}{a1:_}{a2:_} (h:Walk P ops draw K (⟨o,.call ⟨.builtin .append,a1,a2⟩,ty,pos,aft,gd⟩::rest) l S):Walk P ops draw K (⟨o,.call ⟨.builtin .append,a1,a2⟩,ty,pos,aft,gd⟩::rest) l S:=h
theorem JGB {o:Option Tmp}{a1:_}{a2:_}{a3:_} (h:Walk P ops draw K (⟨o,.convert a1 a2 a3,ty,pos,aft,gd⟩::rest) l S):Walk P ops draw K (⟨o,.convert a1 a2 a3,ty,pos,aft,gd⟩::rest) l S:=h
theorem JGC {o:Option Tmp}{a1:_}{a2:_} (h:Walk P ops draw K (⟨o,.range a1 a2,ty,pos,aft,gd⟩::rest) l S):Walk P ops draw K (⟨o,.range a1 a2,ty,pos,aft,gd⟩::rest) l S:=h
theorem JGD {o:Option Tmp}{a1:_}{a2:_} (h:Walk P ops draw K (⟨o,.next a1 a2,ty,pos,aft,gd⟩::rest) l S):Walk P ops draw K (⟨o,.next a1 a2,ty,pos,aft,gd⟩::rest) l S:=h
theorem JGE {o:Option Tmp}{a1:_}{a2:_}{a3:_} (h:Walk P ops draw K (⟨o,.index a1 a2 a3,ty,pos,aft,gd⟩::rest) l S):Walk P ops draw K (⟨o,.index a1 a2 a3,ty,pos,aft,gd⟩::rest) l S:=h
theorem JGF {o:Option Tmp}{a1:_}{a2:_} (h:Walk P ops draw K (⟨o,.call ⟨.builtin .max,a1,a2⟩,ty,pos,aft,gd⟩::rest) l S):Walk P ops draw K (⟨o,.call ⟨.builtin .max,a1,a2⟩,ty,pos,aft,gd⟩::rest) l S:=h
end
structure Yk (q:Prop):Prop where
 u:q
section
variable {p q:Prop}
theorem W1_ (k:q) (h:Yk q→p:=by intro k;(first|(refine JGa ?_;(first|refine X8 (hg:=JSa) (hx:=JSc) (hd:=JSb) ?_))|(refine JGb ?_;(first|refine X9 (hg:=JSa) (hx:=JSb) (hL:=JSb) (hy:=JSc) (ht:=JSb) (hd:=JSb) ?_|refine X9J (hg:=JSa) (hx:=JSb) (hL:=JSb) (hsz:=JSc) (ht:=JSb) (hy:=JSc) (hlen:=JSb) (hd:=JSb) ?_|refine X1b (hg:=JSa) (hx:=JSb) (ht:=JSb) (hd:=JSb) ?_|refine UO (hg:=JSa) (hx:=JSb) (hsz:=JSc) (ht:=JSb) (hy:=JSc) (hlen:=JSb) (hd:=JSb) ?_|refine Xrq (hg:=JSa) (hx:=JSb) (hL:=JSb) (hn:=JSe) (hy:=JSp) (ht:=JSb) (hd:=JSb) ?_))|(refine JGc ?_;(first|refine Xf (hg:=JSa) (hx:=JSc) (hd:=JSb) ?_))|(refine JGd ?_;(first|refine Xa (hg:=JSa) (hx:=JSb) (hoff:=JSc) (hf:=JSb) (hd:=JSb) ?_|refine X1o (hg:=JSa) (hx:=JSb) (hoff:=JSc) (hf:=JSb) (hd:=JSb) ?_))|(refine JGe ?_;(first|refine U7 (hg:=JSa) (hx:=JSb) (hT:=JSb) (hd:=JSb) ?_|refine Xq8 (hg:=JSa) (hx:=JSb) (hL:=JSb) (hn:=JSe) (hT:=JSb) (hd:=JSb) ?_|refine XbM (hg:=JSa) (hx:=JSb) (hT:=JSb) (hd:=JSb) ?_))|(refine JGf ?_;(first|refine X6 (op:= .lss) (u:= .int _ _) (v:= .int _ _) (hg:=JSa) (hx:=JSb) (hy:=JSb) (hr:=JSo) (h1:=JSb) (hd:=JSb) ?_))|(refine JGg ?_;(first|refine X6 (op:= .leq) (u:= .int _ _) (v:= .int _ _) (hg:=JSa) (hx:=JSb) (hy:=JSb) (hr:=JSn) (h1:=JSb) (hd:=JSb) ?_))|(refine JGh ?_;(first|refine X6 (op:= .gtr) (u:= .int _ _) (v:= .int _ _) (hg:=JSa) (hx:=JSb) (hy:=JSb) (hr:=JSk) (h1:=JSb) (hd:=JSb) ?_))|(refine JGi ?_;(first|refine X6 (op:= .geq) (u:= .int _ _) (v:= .int _ _) (hg:=JSa) (hx:=JSb) (hy:=JSb) (hr:=JSm) (h1:=JSb) (hd:=JSb) ?_))|(refine JGj ?_;(first|refine X6 (op:= .eql) (u:= .int _ _) (v:= .int _ _) (hg:=JSa) (hx:=JSb) (hy:=JSb) (hr:=JSl) (h1:=JSb) (hd:=JSb) ?_|refine X6 (op:= .eql) (u:= .string _) (v:= .string _) (hg:=JSa) (hx:=JSb) (hy:=JSb) (hr:=JSy) (h1:=JSb) (hd:=JSb) ?_|refine X6 (op:= .eql) (u:= .bool _) (v:= .bool _) (hg:=JSa) (hx:=JSb) (hy:=JSb) (hr:=JSz) (h1:=JSb) (hd:=JSb) ?_|refine Xji (hg:=JSa) (hx:=JSb) (ht:=JSb) (hd:=JSb) ?_))|(refine JGk ?_;(first|refine X6 (op:= .neq) (u:= .int _ _) (v:= .int _ _) (hg:=JSa) (hx:=JSb) (hy:=JSb) (hr:=JSi) (h1:=JSb) (hd:=JSb) ?_|refine X6 (op:= .neq) (u:= .string _) (v:= .string _) (hg:=JSa) (hx:=JSb) (hy:=JSb) (hr:=JSj) (h1:=JSb) (hd:=JSb) ?_|refine X6 (op:= .neq) (u:= .bool _) (v:= .bool _) (hg:=JSa) (hx:=JSb) (hy:=JSb) (hr:=JSA) (h1:=JSb) (hd:=JSb) ?_))|(refine JGl ?_;(first|refine X6 (op:= .rem) (u:= .int _ _) (v:= .int _ _) (hg:=JSa) (hx:=JSb) (hy:=JSb) (hr:=JSB) (h1:=JSb) (hd:=JSb) ?_))|(refine JGm ?_;(first|refine X6 (op:= .add) (u:= .int _ _) (v:= .int _ _) (hg:=JSa) (hx:=JSb) (hy:=JSb) (hr:=JSq) (h1:=JSb) (hd:=JSb) ?_))|(refine JGn ?_;(first|refine X6 (op:= .sub) (u:= .int _ _) (v:= .int _ _) (hg:=JSa) (hx:=JSb) (hy:=JSb) (hr:=JSC) (h1:=JSb) (hd:=JSb) ?_))|(refine JGo ?_;(first|refine U9 (hg:=JSa) (hx:=JSb) (hi:=JSb) (hk:=JSb) (hr:=JSp) (hT:=JSb) (hd:=JSb) ?_|refine XmM (hg:=JSa) (hx:=JSb) (hL:=JSb) (hi:=JSb) (hn:=JSe) (hk:=JSb) (hlt:=JSs) (hT:=JSb) (hd:=JSb) ?_))|(refine JGp ?_;(first|refine Xc5 (hg:=JSa) (hx:=JSb) (hy:=JSc) (hd:=JSb) ?_))|(refine JGq ?_;(first|refine Xpd (hg:=JSa) (hx:=JSb) (hd:=JSb) ?_))|(refine JGr ?_;(first|refine V6 (hg:=JSa) (hx:=JSb) (hL:=JSb) (hv:=JSc) (hc:=JSb) (ht:=JSb) (hb:=JSb) ?_|refine Xmz (hg:=JSa) (hx:=JSb) (hL:=JSb) (hv:=JSb) (hn:=JSe) (hlt:=JSs) (ht:=JSb) ?_))|(refine JGs ?_;(first|refine YA (γ:=100) (hg:=JSa) (hx:=JSc) (hc:=JSb) (hdead:=JSb) (hf:=JSb) (hm:=JSb) (hd:=JSb) ?_|refine YA (γ:=101) (hg:=JSa) (hx:=JSc) (hc:=JSb) (hdead:=JSb) (hf:=JSb) (hm:=JSb) (hd:=JSb) ?_|refine YA (γ:=102) (hg:=JSa) (hx:=JSc) (hc:=JSb) (hdead:=JSb) (hf:=JSb) (hm:=JSb) (hd:=JSb) ?_))|(refine JGt ?_;(first|refine UB (γ:=100) (hg:=JSa) (hz:=JSb) (h1:=JSb) (hdead:=JSb) (hf:=JSb) (hd:=JSb) ?_|refine UB (γ:=101) (hg:=JSa) (hz:=JSb) (h1:=JSb) (hdead:=JSb) (hf:=JSb) (hd:=JSb) ?_|refine UB (γ:=102) (hg:=JSa) (hz:=JSb) (h1:=JSb) (hdead:=JSb) (hf:=JSb) (hd:=JSb) ?_|refine UB (γ:=103) (hg:=JSa) (hz:=JSb) (h1:=JSb) (hdead:=JSb) (hf:=JSb) (hd:=JSb) ?_|refine UB (γ:=104) (hg:=JSa) (hz:=JSb) (h1:=JSb) (hdead:=JSb) (hf:=JSb) (hd:=JSb) ?_|refine UB (γ:=105) (hg:=JSa) (hz:=JSb) (h1:=JSb) (hdead:=JSb) (hf:=JSb) (hd:=JSb) ?_|refine UB (γ:=106) (hg:=JSa) (hz:=JSb) (h1:=JSb) (hdead:=JSb) (hf:=JSb) (hd:=JSb) ?_))|(refine JGu ?_;(first|refine Z6 ?_))|(refine JGv ?_;(first|refine Xe7 (hg:=JSa) (hpl:=JSb) (hps:=JSc) (hz:=JSb) (h1:=JSb) (ht:=JSb) (hout:=JSc) (hd:=JSb) ?_))|(refine JGw ?_;(first|refine Z9 (len:=0) (γ:=100) ?_|refine Xl6 (hg:=JSa) (hpl:=JSb) (hps:=JSc) (hz:=JSb) (hS:=JSc) (hT:=JSb) (hzl:=JSb) (hz1:=JSb) (hsmall:=JSb) (hsl:=JSb) (hout:=JSc) (hxs:=JSc) (hd:=JSb) ?_|refine Xpl (γ:=102) (hg:=JSa) (hpl:=JSb) (hps:=JSc) (hz:=JSb) (hS:=JSc) (hT:=JSb) (hz1:=JSb) (hsmall:=JSb) (hout:=JSc) (hc:=JSb) (hm:=JSb) (hdead:=JSb) (hf:=JSb) (hd:=JSb) ?_))|(refine JGx ?_;(first|refine XjR (hg:=JSa) (hxs:=JSb) (hys:=JSc) (hd:=JSb) ?_))|(refine JGy ?_;(first|refine Xnj (hg:=JSa) (hx:=JSb) (hy:=JSb) (hm:=JSb) (hm':=JSb) (hz:=JSb) (hB:=JSc) (hS:=JSc) (hT:=JSb) (h1:=JSb) (hl:=JSb) (hroom:=JSd) (hn:=JSd) (hd:=JSb) ?_))|(refine JGz ?_;(first|refine Xiz (hg:=JSa) (hx:=JSb) (hlo:=JSD) (hhi:=JSD) (hlh:=JSs) (hh:=JSs) (hT:=JSb) (hd:=JSb) ?_|refine Xeu (hg:=JSa) (hx:=JSb) (hlo:=JSb) (hhi:=JSb) (hmx:=JSb) (hlh:=JSs) (hh:=JSs) (hm:=JSs) (hT:=JSb) (hd:=JSb) ?_))|(refine JGA ?_;(first|refine Xjw (hg:=JSa) (hx:=JSb) (hL:=JSb) (hy:=JSb) (hn:=JSe) (hB:=JSc) (hT:=JSb) (hT2:=JSb) (hb0:=JSb) (hroom:=JSd) (hd:=JSb) ?_))|(refine JGB ?_;(first|refine XrD (hg:=JSa) (hx:=JSb) (hb:=JSs) (ht:=JSb) (hd:=JSb) ?_|refine Xm1 (hg:=JSa) (hx:=JSb) (ht:=JSb) (hd:=JSb) ?_|refine Zo ?_))|(refine JGC ?_;(first|refine XkM (γ:=100) (hg:=JSa) (hx:=JSb) (ht:=JSb) (hdead:=JSb) (hf:=JSb) (hd:=JSb) ?_))|(refine JGD ?_;(first|refine XmP (hg:=JSa) (hx:=JSb) (hL:=JSb) (hlt:=JSs) (hd:=JSb) ?_|refine Xjr (hg:=JSa) (hx:=JSb) (hL:=JSb) (hge:=JSs) (hd:=JSb) ?_))|(refine JGE ?_;(first|refine XmA (hg:=JSa) (hx:=JSb) (hi:=JSb) (hk:=JSr) (hc:=JSp) (ht:=JSb) (hd:=JSb) ?_))|(refine JGF ?_;(first|refine Xqd (hg:=JSa) (hx:=JSb) (hy:=JSb) (hd:=JSb) ?_))|refine X5 ?_|refine JR ?_|refine JD ?_|refine YB ?_|refine XP ?_|refine X57 ?_|refine Xn5 ?_);exact k.1):p:=h ⟨k⟩
theorem W2_ (k:q) (h:Yk q→p:=by intro k;(iterate 2 (refine W1_ ?_));exact k.1):p:=h ⟨k⟩
theorem W3_ (k:q) (h:Yk q→p:=by intro k;(iterate 3 (refine W1_ ?_));exact k.1):p:=h ⟨k⟩
theorem W4_ (k:q) (h:Yk q→p:=by intro k;(iterate 4 (refine W1_ ?_));exact k.1):p:=h ⟨k⟩
theorem W5_ (k:q) (h:Yk q→p:=by intro k;(iterate 5 (refine W1_ ?_));exact k.1):p:=h ⟨k⟩
theorem W6_ (k:q) (h:Yk q→p:=by intro k;(iterate 6 (refine W1_ ?_));exact k.1):p:=h ⟨k⟩
theorem W7_ (k:q) (h:Yk q→p:=by intro k;(iterate 7 (refine W1_ ?_));exact k.1):p:=h ⟨k⟩
theorem W8_ (k:q) (h:Yk q→p:=by intro k;(iterate 8 (refine W1_ ?_));exact k.1):p:=h ⟨k⟩
theorem W9_ (k:q) (h:Yk q→p:=by intro k;(iterate 9 (refine W1_ ?_));exact k.1):p:=h ⟨k⟩
theorem Xj (k:q) (h:Yk q→p:=by intro k;(iterate 10 (refine W1_ ?_));exact k.1):p:=h ⟨k⟩
theorem Xi (k:q) (h:Yk q→p:=by intro k;(iterate 11 (refine W1_ ?_));exact k.1):p:=h ⟨k⟩
theorem Xt (k:q) (h:Yk q→p:=by intro k;(iterate 12 (refine W1_ ?_));exact k.1):p:=h ⟨k⟩
theorem Xr (k:q) (h:Yk q→p:=by intro k;(iterate 13 (refine W1_ ?_));exact k.1):p:=h ⟨k⟩
theorem XC (k:q) (h:Yk q→p:=by intro k;(iterate 14 (refine W1_ ?_));exact k.1):p:=h ⟨k⟩
theorem XA (k:q) (h:Yk q→p:=by intro k;(iterate 15 (refine W1_ ?_));exact k.1):p:=h ⟨k⟩
theorem Yc (k:q) (h:Yk q→p:=by intro k;(iterate 16 (refine W1_ ?_));exact k.1):p:=h ⟨k⟩
theorem XD (k:q) (h:Yk q→p:=by intro k;(iterate 17 (refine W1_ ?_));exact k.1):p:=h ⟨k⟩
theorem Us (k:q) (h:Yk q→p:=by intro k;(iterate 18 (refine W1_ ?_));exact k.1):p:=h ⟨k⟩
theorem Yw (k:q) (h:Yk q→p:=by intro k;(iterate 19 (refine W1_ ?_));exact k.1):p:=h ⟨k⟩
theorem X5m (k:q) (h:Yk q→p:=by intro k;(iterate 20 (refine W1_ ?_));exact k.1):p:=h ⟨k⟩
theorem UY (k:q) (h:Yk q→p:=by intro k;(iterate 21 (refine W1_ ?_));exact k.1):p:=h ⟨k⟩
theorem X87 (k:q) (h:Yk q→p:=by intro k;(iterate 22 (refine W1_ ?_));exact k.1):p:=h ⟨k⟩
theorem X2a (k:q) (h:Yk q→p:=by intro k;(iterate 23 (refine W1_ ?_));exact k.1):p:=h ⟨k⟩
theorem XqW (k:q) (h:Yk q→p:=by intro k;(iterate 24 (refine W1_ ?_));exact k.1):p:=h ⟨k⟩
theorem X1a (k:q) (h:Yk q→p:=by intro k;(iterate 25 (refine W1_ ?_));exact k.1):p:=h ⟨k⟩
theorem X1S (k:q) (h:Yk q→p:=by intro k;(iterate 26 (refine W1_ ?_));exact k.1):p:=h ⟨k⟩
theorem X1g (k:q) (h:Yk q→p:=by intro k;(iterate 27 (refine W1_ ?_));exact k.1):p:=h ⟨k⟩
theorem Xb9 (k:q) (h:Yk q→p:=by intro k;(iterate 28 (refine W1_ ?_));exact k.1):p:=h ⟨k⟩
theorem XnD (k:q) (h:Yk q→p:=by intro k;(iterate 30 (refine W1_ ?_));exact k.1):p:=h ⟨k⟩
theorem XfF (k:q) (h:Yk q→p:=by intro k;(iterate 32 (refine W1_ ?_));exact k.1):p:=h ⟨k⟩
theorem X76 (k:q) (h:Yk q→p:=by intro k;(iterate 33 (refine W1_ ?_));exact k.1):p:=h ⟨k⟩
end
structure ZwB (q:Prop):Prop where
  zq:q
section
variable {p q:Prop}
theorem Qa (h:p:=by exact absurd (congrArg (fun r=>r.2.2) h) (by simp)):p:=h
theorem Qb (zk:q) (h:ZwB q→p:=by intro zk;refine JT ?_;refine W6_ ?_;exact zk.1):p:=h ⟨zk⟩
theorem Qc (zk:q) (h:ZwB q→p:=by intro zk;refine JF ?_;refine W5_ ?_;exact zk.1):p:=h ⟨zk⟩
theorem Qd (zk:q) (h:ZwB q→p:=by intro zk;refine Eq.trans (b:=AVal.own 130 (_+_)) rfl ?_;exact zk.1):p:=h ⟨zk⟩
theorem Qe (zk:q) (h:ZwB q→p:=by intro zk;refine JT ?_;refine W4_ ?_;exact zk.1):p:=h ⟨zk⟩
theorem Qf (h:p:=by exact X1 ⟨_,St.le_refl _,⟨rfl,trivial⟩,Xn ⟨rfl,trivial⟩⟩):p:=h
theorem Qg (zk:q) (h:ZwB q→p:=by intro zk;refine JF ?_;refine W4_ ?_;exact zk.1):p:=h ⟨zk⟩
theorem Qh (h:p:=by refine W2_ ?_;exact Qf):p:=h
theorem Qi (zk:q) (h:ZwB q→p:=by intro zk;refine W8_ ?_;refine JT ?_;exact zk.1):p:=h ⟨zk⟩
theorem Qj (zk:q) (h:ZwB q→p:=by intro zk;refine X5T (γ:=131) (hg:=JSa) (hx:=JSb) (hy:=JSb) (hm:=JSb) (hm':=JSb) (hz:=JSb) (hB:=JSc) (hS:=JSc) (hT:=JSb) (h1:=JSb) (hl:=JSb) (hroom:=JSd) (hn:=JSd) (hdead:=JSb) (hf:=JSb) (hd:=JSb) ?_;exact zk.1):p:=h ⟨zk⟩
theorem Qk (zk:q) (h:ZwB q→p:=by intro zk;refine W5_ ?_;refine JT ?_;exact zk.1):p:=h ⟨zk⟩
theorem Ql (zk:q) (h:ZwB q→p:=by intro zk;refine Qk ?_;refine Xr ?_;exact zk.1):p:=h ⟨zk⟩
theorem Qm (zk:q) (h:ZwB q→p:=by intro zk;refine JT ?_;refine W2_ ?_;exact zk.1):p:=h ⟨zk⟩
theorem Qn (h:p:=by exact⟨k+1,by omega,by omega,Xd rfl ⟨JL,JL,JL,(by rw[hv1,hb];exact AVal.le_refl _),JL,trivial⟩ trivial⟩):p:=h
theorem Qo (zk:q) (h:ZwB q→p:=by intro zk;refine JF ?_;refine W2_ ?_;exact zk.1):p:=h ⟨zk⟩
theorem Qp (h:p:=by exact X1 ⟨_,St.le_refl _,⟨rfl,trivial⟩,X2 _⟩):p:=h
theorem Qq (h:p:=by refine W2_ ?_;exact Qp):p:=h
theorem Qr (zk:q) (h:ZwB q→p:=by intro zk;refine X4 (hg:=JSa) (hc:=JSb) (hb:=JSg) (hx:=JSc) (hd:=JSb) ?_;exact zk.1):p:=h ⟨zk⟩
theorem Qs (zk:q) (h:ZwB q→p:=by intro zk;refine Qr ?_;refine W1_ ?_;exact zk.1):p:=h ⟨zk⟩
theorem Qt (zk:q) (h:ZwB q→p:=by intro zk;refine Xi ?_;refine Qs ?_;exact zk.1):p:=h ⟨zk⟩
theorem Qu (zk:q) (h:ZwB q→p:=by intro zk;refine X0 (hg:=JSh) (hd:=JSb) ?_;exact zk.1):p:=h ⟨zk⟩
theorem Qv (zk:q) (h:ZwB q→p:=by intro zk;refine Qu ?_;refine Qu ?_;exact zk.1):p:=h ⟨zk⟩
theorem Qw (zk:q) (h:ZwB q→p:=by intro zk;refine Qv ?_;refine Qu ?_;exact zk.1):p:=h ⟨zk⟩
theorem Qx (zk:q) (h:ZwB q→p:=by intro zk;refine X7 (hgd:=JSb) (hj:=JSb) (ht:=JSb) (hd:=JSb) ?_;refine X7 (hgd:=JSb) (hj:=JSb) (ht:=JSb) (hd:=JSb) ?_;exact zk.1):p:=h ⟨zk⟩
theorem Qy (zk:q) (h:ZwB q→p:=by intro zk;refine Qw ?_;refine Qx ?_;refine Qu ?_;exact zk.1):p:=h ⟨zk⟩
theorem Qz (zk:q) (h:ZwB q→p:=by intro zk;refine Qr ?_;refine W2_ ?_;exact zk.1):p:=h ⟨zk⟩
theorem QA (h:p:=by first|exact X1 ⟨_,St.le_refl _,⟨rfl,trivial⟩,X2 _⟩|exact X1 ⟨_,Xw 2 (y:=ab true) (AVal.le_of_eq (by refine Eq.trans (b:=ab (decide _)) rfl ?_;exact congrArg ab (by simp;omega))),⟨rfl,trivial⟩,X2 _⟩|fail):p:=h
theorem QB (h:p:=by refine Qz ?_;exact QA):p:=h
theorem QC (zk:q) (h:ZwB q→p:=by intro zk;refine Xi ?_;refine Qr ?_;exact zk.1):p:=h ⟨zk⟩
theorem QD (zk:q) (h:ZwB q→p:=by intro zk;refine W6_ ?_;refine Qr ?_;exact zk.1):p:=h ⟨zk⟩
theorem QE (zk:q) (h:ZwB q→p:=by intro zk;refine X3 (hg:=JSa) (hc:=JSb) (hb:=JSg) (hx:=JSc) (hd:=JSb) ?_;exact zk.1):p:=h ⟨zk⟩
theorem QF (zk:q) (h:ZwB q→p:=by intro zk;refine QE ?_;refine W2_ ?_;exact zk.1):p:=h ⟨zk⟩
theorem QG (h:p:=by first|exact X1 ⟨_,St.le_refl _,⟨rfl,trivial⟩,X2 _⟩|exact X1 ⟨_,Xw 2 (y:=ab false) (AVal.le_of_eq (by refine Eq.trans (b:=ab (decide _)) rfl ?_;exact congrArg ab (by simp;omega))),⟨rfl,trivial⟩,X2 _⟩|fail):p:=h
theorem QH (h:p:=by refine QF ?_;exact QG):p:=h
theorem QI (zk:q) (h:ZwB q→p:=by intro zk;refine Qv ?_;refine QE ?_;exact zk.1):p:=h ⟨zk⟩
theorem QJ (h:p:=by refine QF ?_;exact QA):p:=h
theorem QK (zk:q) (h:ZwB q→p:=by intro zk;refine Qw ?_;refine Qs ?_;exact zk.1):p:=h ⟨zk⟩
theorem QL (zk:q) (h:ZwB q→p:=by intro zk;refine Qv ?_;refine Qv ?_;exact zk.1):p:=h ⟨zk⟩
theorem QM (h:p:=by refine Qe ?_;exact Qp):p:=h
theorem QN (h:p:=by refine Qs ?_;exact QM):p:=h
theorem QO (h:p:=by refine QL ?_;exact QN):p:=h
theorem QP (zk:q) (h:ZwB q→p:=by intro zk;refine QE ?_;refine W1_ ?_;exact zk.1):p:=h ⟨zk⟩
theorem QQ (zk:q) (h:ZwB q→p:=by intro zk;refine QE ?_;refine W3_ ?_;exact zk.1):p:=h ⟨zk⟩
theorem QR (zk:q) (h:ZwB q→p:=by intro zk;refine Z3 (hcon:=hl) ?_;exact zk.1):p:=h ⟨zk⟩
theorem QS (h:p:=by refine QP ?_;exact QM):p:=h
theorem QT (h:p:=by refine W1_ ?_;exact QS):p:=h
theorem QU (zk:q) (h:ZwB q→p:=by intro zk;refine QP ?_;refine JF ?_;exact zk.1):p:=h ⟨zk⟩
theorem QV (h:p:=by refine Qc ?_;exact Qp):p:=h
theorem QW (zk:q) (h:ZwB q→p:=by intro zk;refine QL ?_;refine Qu ?_;exact zk.1):p:=h ⟨zk⟩
theorem QX (zk:q) (h:ZwB q→p:=by intro zk;refine Qx ?_;refine Qx ?_;exact zk.1):p:=h ⟨zk⟩
theorem QY (zk:q) (h:ZwB q→p:=by intro zk;refine QX ?_;refine Qu ?_;exact zk.1):p:=h ⟨zk⟩
theorem QZ (zk:q) (h:ZwB q→p:=by intro zk;refine QP ?_;refine Qc ?_;exact zk.1):p:=h ⟨zk⟩
theorem Qaa (h:p:=by exact⟨i+1,⟨by omega,hnx⟩,by omega,Xd rfl ⟨JL,JL,JL,trivial⟩ trivial⟩):p:=h
theorem Qba (zk:q) (h:ZwB q→p:=by intro zk;refine QE ?_;refine Qs ?_;exact zk.1):p:=h ⟨zk⟩
theorem Qca (zk:q) (h:ZwB q→p:=by intro zk;refine QE ?_;refine Qr ?_;exact zk.1):p:=h ⟨zk⟩
theorem Qda (zk:q) (h:ZwB q→p:=by intro zk;refine QL ?_;refine Qr ?_;exact zk.1):p:=h ⟨zk⟩
theorem Qea (zk:q) (h:ZwB q→p:=by intro zk;refine JT ?_;refine W1_ ?_;exact zk.1):p:=h ⟨zk⟩
theorem Qfa (h:p:=by exact X1 ⟨_,St.le_refl _,⟨⟨100,0,_,rfl,rfl,.inr ⟨3,_,rfl,rfl,rfl,rfl⟩⟩,rfl,trivial⟩,X2 _⟩):p:=h
theorem Qga (h:p:=by refine Qb ?_;exact Qfa):p:=h
theorem Qha (zk:q) (h:ZwB q→p:=by intro zk;refine XD ?_;refine Qc ?_;exact zk.1):p:=h ⟨zk⟩
theorem Qia (zk:q) (h:ZwB q→p:=by intro zk;refine JF ?_;refine W6_ ?_;exact zk.1):p:=h ⟨zk⟩
theorem Qja (zk:q) (h:ZwB q→p:=by intro zk;refine Qia ?_;refine Qea ?_;exact zk.1):p:=h ⟨zk⟩
theorem Qka (zk:q) (h:ZwB q→p:=by intro zk;refine Qia ?_;refine Qg ?_;exact zk.1):p:=h ⟨zk⟩
theorem Qla (zk:q) (h:ZwB q→p:=by intro zk;refine Qha ?_;refine Qg ?_;refine Qka ?_;exact zk.1):p:=h ⟨zk⟩
theorem Qma (zk:q) (h:ZwB q→p:=by intro zk;refine JF ?_;refine W7_ ?_;exact zk.1):p:=h ⟨zk⟩
theorem Qna (zk:q) (h:ZwB q→p:=by intro zk;refine Qc ?_;refine Qc ?_;exact zk.1):p:=h ⟨zk⟩
theorem Qoa (zk:q) (h:ZwB q→p:=by intro zk;refine W9_ ?_;refine Qv ?_;exact zk.1):p:=h ⟨zk⟩
theorem Qpa (h:p:=by exact X1 ⟨_,Xw 2 (y:=ab true) (AVal.le_of_eq (by refine Eq.trans (b:=ab (decide (n≤1000000000000000))) rfl ?_;rw[decide_eq_true h2])),⟨rfl,trivial⟩,X2 _⟩):p:=h
theorem Qqa (h:p:=by exact X1 ⟨_,Xw 2 (y:=ab false) (AVal.le_of_eq (by refine Eq.trans (b:=ab (decide (n≤1000000000000000))) rfl ?_;rw[decide_eq_false h2])),⟨rfl,trivial⟩,X2 _⟩):p:=h
theorem Qra (h:p:=by exact⟨(y,x%y),by simp only;rw[←hg,Nat.gcd_comm x y,Nat.gcd_rec y x,Nat.gcd_comm],Nat.mod_lt _ (by omega),Xd rfl ⟨JL,JL,trivial⟩ trivial⟩):p:=h
theorem Qsa (zk:q) (h:ZwB q→p:=by intro zk;refine Qw ?_;refine QP ?_;exact zk.1):p:=h ⟨zk⟩
theorem Qta (zk:q) (h:ZwB q→p:=by intro zk;refine QL ?_;refine Qv ?_;exact zk.1):p:=h ⟨zk⟩
theorem Qua (h:p:=by refine QF ?_;exact Qp):p:=h
theorem Qva (h:p:=by refine Qta ?_;exact Qua):p:=h
theorem Qwa (zk:q) (h:ZwB q→p:=by intro zk;refine Qr ?_;refine W3_ ?_;exact zk.1):p:=h ⟨zk⟩
theorem Qxa (zk:q) (h:ZwB q→p:=by intro zk;refine W1_ ?_;refine Qz ?_;exact zk.1):p:=h ⟨zk⟩
theorem Qya (h:p:=by refine Qw ?_;exact Qua):p:=h
theorem Qza (h:p:=by refine Qsa ?_;refine QL ?_;exact Qya):p:=h
theorem QAa (zk:q) (h:ZwB q→p:=by intro zk;refine Qr ?_;refine W4_ ?_;exact zk.1):p:=h ⟨zk⟩
theorem QBa (h:p:=by refine Qz ?_;exact Qp):p:=h
theorem QCa (zk:q) (h:ZwB q→p:=by intro zk;refine JT ?_;refine W5_ ?_;exact zk.1):p:=h ⟨zk⟩
theorem QDa (h:p:=by refine QCa ?_;exact Qp):p:=h
theorem QEa (h:p:=by refine Qw ?_;exact QN):p:=h
theorem QFa (zk:q) (h:ZwB q→p:=by intro zk;refine Qk ?_;refine Yc ?_;refine Z1 (op:= .rem) (r':=nj 0) (u:=nj i) (v:=nj 2) ?_ (hr':=by exact congrArg nj hpar) (hr:=by exact US (by omega));exact zk.1):p:=h ⟨zk⟩
theorem QGa (h:p:=by refine Z3 (hcon:=hvx) ?_;exact QT):p:=h
theorem QHa (zk:q) (h:ZwB q→p:=by intro zk;refine Qk ?_;refine Yc ?_;refine Z1 (op:= .rem) (r':=nj 1) (u:=nj i) (v:=nj 2) ?_ (hr':=by exact congrArg nj hpar) (hr:=by exact US (by omega));exact zk.1):p:=h ⟨zk⟩
theorem QIa (zk:q) (h:ZwB q→p:=by intro zk;refine X5 ?_;refine JR ?_;exact zk.1):p:=h ⟨zk⟩
theorem QJa (zk:q) (h:ZwB q→p:=by intro zk;refine Xf (hg:=JSa) (hx:=JSc) (hd:=JSb) ?_;exact zk.1):p:=h ⟨zk⟩
theorem QKa (zk:q) (h:ZwB q→p:=by intro zk;refine QJa ?_;refine JD ?_;exact zk.1):p:=h ⟨zk⟩
theorem QLa (zk:q) (h:ZwB q→p:=by intro zk;refine QIa ?_;refine YA (γ:=100) (hg:=JSa) (hx:=JSc) (hc:=JSb) (hdead:=JSb) (hf:=JSb) (hm:=JSb) (hd:=JSb) ?_;refine QKa ?_;exact zk.1):p:=h ⟨zk⟩
theorem QMa (zk:q) (h:ZwB q→p:=by intro zk;refine Xa (hg:=JSa) (hx:=JSb) (hoff:=JSc) (hf:=JSb) (hd:=JSb) ?_;refine X9 (hg:=JSa) (hx:=JSb) (hL:=JSb) (hy:=JSc) (ht:=JSb) (hd:=JSb) ?_;exact zk.1):p:=h ⟨zk⟩
theorem QNa (zk:q) (h:ZwB q→p:=by intro zk;refine X5 ?_;refine QIa ?_;refine QMa ?_;exact zk.1):p:=h ⟨zk⟩
theorem QOa (zk:q) (h:ZwB q→p:=by intro zk;refine X6 (op:= .neq) (u:= .int _ _) (v:= .int _ _) (hg:=JSa) (hx:=JSb) (hy:=JSb) (hr:=JSi) (h1:=JSb) (hd:=JSb) ?_;exact zk.1):p:=h ⟨zk⟩
theorem QPa (zk:q) (h:ZwB q→p:=by intro zk;refine QLa ?_;refine QNa ?_;refine QOa ?_;exact zk.1):p:=h ⟨zk⟩
theorem QQa (zk:q) (h:ZwB q→p:=by intro zk;refine X8 (hg:=JSa) (hx:=JSc) (hd:=JSb) ?_;exact zk.1):p:=h ⟨zk⟩
theorem QRa (zk:q) (h:ZwB q→p:=by intro zk;refine QQa ?_;refine QMa ?_;exact zk.1):p:=h ⟨zk⟩
theorem QSa (zk:q) (h:ZwB q→p:=by intro zk;refine QRa ?_;refine QOa ?_;exact zk.1):p:=h ⟨zk⟩
theorem QTa (zk:q) (h:ZwB q→p:=by intro zk;refine QQa ?_;refine QL ?_;exact zk.1):p:=h ⟨zk⟩
theorem QUa (zk:q) (h:ZwB q→p:=by intro zk;refine Qx ?_;refine X7 (hgd:=JSb) (hj:=JSb) (ht:=JSb) (hd:=JSb) ?_;exact zk.1):p:=h ⟨zk⟩
theorem QVa (zk:q) (h:ZwB q→p:=by intro zk;refine QUa ?_;refine Qu ?_;exact zk.1):p:=h ⟨zk⟩
theorem QWa (h:p:=by refine QKa ?_;exact Qp):p:=h
theorem QXa (h:p:=by refine JD ?_;refine JT ?_;refine QIa ?_;exact QWa):p:=h
theorem QYa (h:p:=by refine Qr ?_;exact QXa):p:=h
theorem QZa (h:p:=by refine QTa ?_;refine QUa ?_;refine Qv ?_;refine QY ?_;exact QYa):p:=h
theorem Qab (h:p:=by refine QPa ?_;refine QSa ?_;refine Qr ?_;refine QTa ?_;refine QVa ?_;refine Qr ?_;exact QZa):p:=h
theorem Qbb (zk:q) (h:ZwB q→p:=by intro zk;refine QPa ?_;refine QSa ?_;refine Qr ?_;refine QSa ?_;exact zk.1):p:=h ⟨zk⟩
theorem Qcb (zk:q) (h:ZwB q→p:=by intro zk;refine Qr ?_;refine QE ?_;exact zk.1):p:=h ⟨zk⟩
theorem Qdb (zk:q) (h:ZwB q→p:=by intro zk;refine QRa ?_;refine X6 (op:= .neq) (u:= .string _) (v:= .string _) (hg:=JSa) (hx:=JSb) (hy:=JSb) (hr:=JSj) (h1:=JSb) (hd:=JSb) ?_;refine Qcb ?_;exact zk.1):p:=h ⟨zk⟩
theorem Qeb (h:p:=by refine Qbb ?_;refine Qdb ?_;exact QZa):p:=h
theorem Qfb (zk:q) (h:ZwB q→p:=by intro zk;refine QSa ?_;refine QSa ?_;refine Qr ?_;exact zk.1):p:=h ⟨zk⟩
theorem Qgb (zk:q) (h:ZwB q→p:=by intro zk;refine X6 (op:= .gtr) (u:= .int _ _) (v:= .int _ _) (hg:=JSa) (hx:=JSb) (hy:=JSb) (hr:=JSk) (h1:=JSb) (hd:=JSb) ?_;exact zk.1):p:=h ⟨zk⟩
theorem Qhb (zk:q) (h:ZwB q→p:=by intro zk;refine U7 (hg:=JSa) (hx:=JSb) (hT:=JSb) (hd:=JSb) ?_;refine Qgb ?_;exact zk.1):p:=h ⟨zk⟩
theorem Qib (zk:q) (h:ZwB q→p:=by intro zk;refine Qfb ?_;refine QRa ?_;refine Qhb ?_;refine Qcb ?_;exact zk.1):p:=h ⟨zk⟩
theorem Qjb (h:p:=by refine Qbb ?_;refine Qdb ?_;refine Qib ?_;exact QXa):p:=h
theorem Qkb (zk:q) (h:ZwB q→p:=by intro zk;refine JD ?_;refine JF ?_;refine XP ?_;refine QNa ?_;exact zk.1):p:=h ⟨zk⟩
theorem Qlb (zk:q) (h:ZwB q→p:=by intro zk;refine Qbb ?_;refine Qdb ?_;refine Qib ?_;refine Qkb ?_;exact zk.1):p:=h ⟨zk⟩
theorem Qmb (zk:q) (h:ZwB q→p:=by intro zk;refine X6 (op:= .eql) (u:= .int _ _) (v:= .int _ _) (hg:=JSa) (hx:=JSb) (hy:=JSb) (hr:=JSl) (h1:=JSb) (hd:=JSb) ?_;exact zk.1):p:=h ⟨zk⟩
theorem Qnb (zk:q) (h:ZwB q→p:=by intro zk;refine Qmb ?_;refine QKa ?_;exact zk.1):p:=h ⟨zk⟩
theorem Qob (zk:q) (h:ZwB q→p:=by intro zk;refine QIa ?_;refine Qnb ?_;refine JT ?_;refine QIa ?_;refine QMa ?_;exact zk.1):p:=h ⟨zk⟩
theorem Qpb (zk:q) (h:ZwB q→p:=by intro zk;refine QIa ?_;refine Qnb ?_;refine JF ?_;exact zk.1):p:=h ⟨zk⟩
theorem Qqb (zk:q) (h:ZwB q→p:=by intro zk;refine Qob ?_;refine Qmb ?_;exact zk.1):p:=h ⟨zk⟩
theorem Qrb (zk:q) (h:ZwB q→p:=by intro zk;refine Qw ?_;refine Qr ?_;exact zk.1):p:=h ⟨zk⟩
theorem Qsb (zk:q) (h:ZwB q→p:=by intro zk;refine QQa ?_;refine Qrb ?_;exact zk.1):p:=h ⟨zk⟩
theorem Qtb (h:p:=by exact X1 ⟨_,Xw 4 (y:=ab true) (AVal.le_of_eq (by refine Eq.trans (b:=ab (decide (n=1))) rfl ?_;exact congrArg ab (decide_eq_true hn1))),⟨rfl,trivial⟩,X2 _⟩):p:=h
theorem Qub (h:p:=by exact X1 ⟨_,Xw 4 (y:=ab false) (AVal.le_of_eq (by refine Eq.trans (b:=ab (decide (n=1))) rfl ?_;exact congrArg ab (decide_eq_false hn1))),⟨rfl,trivial⟩,X2 _⟩):p:=h
theorem Qvb (zk:q) (h:ZwB q→p:=by intro zk;refine JD ?_;refine YB ?_;refine Qpb ?_;refine Qpb ?_;exact zk.1):p:=h ⟨zk⟩
theorem Qwb (zk:q) (h:ZwB q→p:=by intro zk;refine Qw ?_;refine QE ?_;exact zk.1):p:=h ⟨zk⟩
theorem Qxb (zk:q) (h:ZwB q→p:=by intro zk;refine QQa ?_;refine Qwb ?_;exact zk.1):p:=h ⟨zk⟩
theorem Qyb (zk:q) (h:ZwB q→p:=by intro zk;refine QPa ?_;refine Qxb ?_;refine QSa ?_;refine Qdb ?_;exact zk.1):p:=h ⟨zk⟩
theorem Qzb (zk:q) (h:ZwB q→p:=by intro zk;refine X6 (op:= .geq) (u:= .int _ _) (v:= .int _ _) (hg:=JSa) (hx:=JSb) (hy:=JSb) (hr:=JSm) (h1:=JSb) (hd:=JSb) ?_;exact zk.1):p:=h ⟨zk⟩
theorem QAb (zk:q) (h:ZwB q→p:=by intro zk;refine Qbb ?_;refine Qxb ?_;refine QE ?_;refine Qib ?_;refine Qkb ?_;refine Qvb ?_;refine Qpb ?_;refine Qpb ?_;exact zk.1):p:=h ⟨zk⟩
theorem QBb (zk:q) (h:ZwB q→p:=by intro zk;refine QTa ?_;refine QE ?_;exact zk.1):p:=h ⟨zk⟩
theorem QCb (zk:q) (h:ZwB q→p:=by intro zk;refine X6 (op:= .leq) (u:= .int _ _) (v:= .int _ _) (hg:=JSa) (hx:=JSb) (hy:=JSb) (hr:=JSn) (h1:=JSb) (hd:=JSb) ?_;exact zk.1):p:=h ⟨zk⟩
theorem QDb (zk:q) (h:ZwB q→p:=by intro zk;refine QCb ?_;refine Qr ?_;exact zk.1):p:=h ⟨zk⟩
theorem QEb (zk:q) (h:ZwB q→p:=by intro zk;refine X6 (op:= .lss) (u:= .int _ _) (v:= .int _ _) (hg:=JSa) (hx:=JSb) (hy:=JSb) (hr:=JSo) (h1:=JSb) (hd:=JSb) ?_;exact zk.1):p:=h ⟨zk⟩
theorem QFb (zk:q) (h:ZwB q→p:=by intro zk;refine JT ?_;refine QIa ?_;refine QMa ?_;refine Qzb ?_;exact zk.1):p:=h ⟨zk⟩
theorem QGb (zk:q) (h:ZwB q→p:=by intro zk;refine Qvb ?_;refine Qpb ?_;refine Qpb ?_;refine Qpb ?_;refine X5 ?_;refine QIa ?_;refine Qnb ?_;refine JF ?_;refine JR ?_;exact zk.1):p:=h ⟨zk⟩
theorem QHb (zk:q) (h:ZwB q→p:=by intro zk;refine QE ?_;refine Qkb ?_;exact zk.1):p:=h ⟨zk⟩
theorem QIb (zk:q) (h:ZwB q→p:=by intro zk;refine QBb ?_;refine QHb ?_;refine QGb ?_;refine Qnb ?_;refine JF ?_;exact zk.1):p:=h ⟨zk⟩
theorem QJb (zk:q) (h:ZwB q→p:=by intro zk;refine Qbb ?_;refine Qdb ?_;refine QSa ?_;refine Qxb ?_;refine QIb ?_;refine QIa ?_;refine Qnb ?_;refine JT ?_;refine QNa ?_;refine QOa ?_;exact zk.1):p:=h ⟨zk⟩
theorem QKb (zk:q) (h:ZwB q→p:=by intro zk;refine QJb ?_;refine QRa ?_;refine Qhb ?_;refine QE ?_;exact zk.1):p:=h ⟨zk⟩
theorem QLb (zk:q) (h:ZwB q→p:=by intro zk;refine QQa ?_;refine QQa ?_;exact zk.1):p:=h ⟨zk⟩
theorem QMb (h:p:=by refine QE ?_;exact QXa):p:=h
theorem QNb (zk:q) (h:ZwB q→p:=by intro zk;refine U7 (hg:=JSa) (hx:=JSb) (hT:=JSb) (hd:=JSb) ?_;refine QQa ?_;refine JD ?_;refine YB ?_;exact zk.1):p:=h ⟨zk⟩
theorem QOb (zk:q) (h:ZwB q→p:=by intro zk;refine QEb ?_;refine JD ?_;exact zk.1):p:=h ⟨zk⟩
theorem QPb (zk:q) (h:ZwB q→p:=by intro zk;refine QIa ?_;refine QOb ?_;refine X5 ?_;refine JT ?_;refine XP ?_;refine X5 ?_;refine YB ?_;exact zk.1):p:=h ⟨zk⟩
theorem QQb (zk:q) (h:ZwB q→p:=by intro zk;refine U9 (hg:=JSa) (hx:=JSb) (hi:=JSb) (hk:=JSb) (hr:=JSp) (hT:=JSb) (hd:=JSb) ?_;refine UO (hg:=JSa) (hx:=JSb) (hsz:=JSc) (ht:=JSb) (hy:=JSc) (hlen:=JSb) (hd:=JSb) ?_;exact zk.1):p:=h ⟨zk⟩
theorem QRb (zk:q) (h:ZwB q→p:=by intro zk;refine V6 (hg:=JSa) (hx:=JSb) (hL:=JSb) (hv:=JSc) (hc:=JSb) (ht:=JSb) (hb:=JSb) ?_;refine JD ?_;exact zk.1):p:=h ⟨zk⟩
theorem QSb (zk:q) (h:ZwB q→p:=by intro zk;refine JD ?_;refine JF ?_;refine XP ?_;refine JR ?_;refine X6 (op:= .add) (u:= .int _ _) (v:= .int _ _) (hg:=JSa) (hx:=JSb) (hy:=JSb) (hr:=JSq) (h1:=JSb) (hd:=JSb) ?_;refine QQa ?_;refine JD ?_;exact zk.1):p:=h ⟨zk⟩
theorem QTb (zk:q) (h:ZwB q→p:=by intro zk;refine QIa ?_;refine QOb ?_;refine X5 ?_;refine JF ?_;refine X57 ?_;exact zk.1):p:=h ⟨zk⟩
theorem QUb (zk:q) (h:ZwB q→p:=by intro zk;refine Qi ?_;refine Xj ?_;exact zk.1):p:=h ⟨zk⟩
theorem QVb (zk:q) (h:ZwB q→p:=by intro zk;refine QP ?_;refine Qia ?_;exact zk.1):p:=h ⟨zk⟩
theorem QWb (zk:q) (h:ZwB q→p:=by intro zk;refine JF ?_;refine W8_ ?_;exact zk.1):p:=h ⟨zk⟩
theorem QXb (zk:q) (h:ZwB q→p:=by intro zk;refine QU ?_;refine W7_ ?_;exact zk.1):p:=h ⟨zk⟩
theorem QYb (zk:q) (h:ZwB q→p:=by intro zk;refine Qi ?_;refine Xi ?_;refine Z1 (op:= .rem) (r':=nj 0) (u:=nj i) (v:=nj 2) ?_ (hr':=by exact congrArg nj hpar) (hr:=by exact US (by omega));refine W2_ ?_;exact zk.1):p:=h ⟨zk⟩
theorem QZb (zk:q) (h:ZwB q→p:=by intro zk;refine JF ?_;refine Xi ?_;exact zk.1):p:=h ⟨zk⟩
theorem Qac (zk:q) (h:ZwB q→p:=by intro zk;refine Qi ?_;refine Xi ?_;refine Z1 (op:= .rem) (r':=nj 1) (u:=nj i) (v:=nj 2) ?_ (hr':=by exact congrArg nj hpar) (hr:=by exact US (by omega));refine W2_ ?_;refine JT ?_;exact zk.1):p:=h ⟨zk⟩
theorem Qbc (h:p:=by refine W8_ ?_;exact QV):p:=h
theorem Qcc (h:p:=by refine W2_ ?_;exact QM):p:=h
theorem Qdc (zk:q) (h:ZwB q→p:=by intro zk;refine QP ?_;refine Qv ?_;exact zk.1):p:=h ⟨zk⟩
theorem Qec (h:p:=by refine QVa ?_;refine QP ?_;refine Qv ?_;refine QY ?_;exact Qua):p:=h
theorem Qfc (h:p:=by refine Xt ?_;refine Qdc ?_;refine QVa ?_;refine Qdc ?_;exact Qec):p:=h
theorem Qgc (h:p:=by refine W6_ ?_;refine QE ?_;refine Qs ?_;refine Qv ?_;exact Qec):p:=h
theorem Qhc (h:p:=by refine Xt ?_;refine QE ?_;exact Qgc):p:=h
theorem Qic (zk:q) (h:ZwB q→p:=by intro zk;refine Xt ?_;refine QE ?_;refine W6_ ?_;refine Qca ?_;exact zk.1):p:=h ⟨zk⟩
theorem Qjc (h:p:=by refine W6_ ?_;refine Qba ?_;refine Qv ?_;refine QY ?_;exact Qua):p:=h
theorem Qkc (zk:q) (h:ZwB q→p:=by intro zk;refine QE ?_;refine Qz ?_;exact zk.1):p:=h ⟨zk⟩
theorem Qlc (h:p:=by exact X1 ⟨_,Xw 10 (y:=ab false) (AVal.le_of_eq (by refine Eq.trans (b:=ab (decide (((XU l).length:Int)=0))) rfl ?_;exact congrArg ab (decide_eq_false (by rw[hlen];exact hl')))),⟨rfl,trivial⟩,X2 _⟩):p:=h
theorem Qmc (h:p:=by refine W6_ ?_;refine Qca ?_;refine W7_ ?_;refine Qkc ?_;exact Qlc):p:=h
theorem Qnc (h:p:=by exact X1 ⟨_,Xw 10 (y:=ab true) (AVal.le_of_eq (by refine Eq.trans (b:=ab (decide (((XU l).length:Int)=0))) rfl ?_;exact congrArg ab (decide_eq_true (by omega)))),⟨rfl,trivial⟩,X2 _⟩):p:=h
theorem Qoc (h:p:=by refine W6_ ?_;refine Qca ?_;refine W7_ ?_;refine Qkc ?_;exact Qnc):p:=h
theorem Qpc (zk:q) (h:ZwB q→p:=by intro zk;refine W3_ ?_;refine Qrb ?_;refine Qr ?_;exact zk.1):p:=h ⟨zk⟩
theorem Qqc (zk:q) (h:ZwB q→p:=by intro zk;refine JT ?_;refine W3_ ?_;exact zk.1):p:=h ⟨zk⟩
theorem Qrc (zk:q) (h:ZwB q→p:=by intro zk;refine Qqc ?_;refine Z3 (hcon:=hb) ?_;exact zk.1):p:=h ⟨zk⟩
theorem Qsc (h:p:=by refine XD ?_;refine Qrc ?_;exact Qq):p:=h
theorem Qtc (zk:q) (h:ZwB q→p:=by intro zk;refine Qrc ?_;refine W1_ ?_;exact zk.1):p:=h ⟨zk⟩
theorem Quc (zk:q) (h:ZwB q→p:=by intro zk;refine QL ?_;refine QVa ?_;exact zk.1):p:=h ⟨zk⟩
theorem Qvc (h:p:=by refine Qha ?_;refine Qtc ?_;refine Quc ?_;exact Qua):p:=h
theorem Qwc (zk:q) (h:ZwB q→p:=by intro zk;refine XD ?_;refine Qna ?_;exact zk.1):p:=h ⟨zk⟩
theorem Qxc (h:p:=by refine Qwc ?_;refine Qtc ?_;exact Qya):p:=h
theorem Qyc (h:p:=by refine Qwc ?_;refine Qna ?_;refine Qtc ?_;exact Qya):p:=h
theorem Qzc (h:p:=by refine Qwc ?_;refine Qna ?_;refine Qja ?_;refine Qtc ?_;refine Qsa ?_;exact Qya):p:=h
theorem QAc (zk:q) (h:ZwB q→p:=by intro zk;refine Qwc ?_;refine Qna ?_;refine Qka ?_;exact zk.1):p:=h ⟨zk⟩
theorem QBc (h:p:=by refine QAc ?_;refine Qtc ?_;refine Qsa ?_;exact Qya):p:=h
theorem QCc (h:p:=by refine QAc ?_;refine Qc ?_;refine Qtc ?_;exact Qya):p:=h
theorem QDc (h:p:=by refine QAc ?_;refine Qna ?_;refine Qtc ?_;refine QL ?_;exact Qua):p:=h
theorem QEc (zk:q) (h:ZwB q→p:=by intro zk;refine W7_ ?_;refine Z3 (hcon:=n1) ?_;refine W5_ ?_;refine Z3 (hcon:=n2) ?_;refine W7_ ?_;refine Qia ?_;refine QWb ?_;exact zk.1):p:=h ⟨zk⟩
theorem QFc (zk:q) (h:ZwB q→p:=by intro zk;refine W1_ ?_;refine Qia ?_;exact zk.1):p:=h ⟨zk⟩
theorem QGc (zk:q) (h:ZwB q→p:=by intro zk;refine W5_ ?_;refine Qia ?_;exact zk.1):p:=h ⟨zk⟩
theorem QHc (zk:q) (h:ZwB q→p:=by intro zk;refine Qk ?_;refine XA ?_;exact zk.1):p:=h ⟨zk⟩
theorem QIc (zk:q) (h:ZwB q→p:=by intro zk;refine X5T (γ:=130) (hg:=JSa) (hx:=JSb) (hy:=JSb) (hm:=JSb) (hm':=JSb) (hz:=JSb) (hB:=JSc) (hS:=JSc) (hT:=JSb) (h1:=JSb) (hl:=JSb) (hroom:=JSd) (hn:=JSd) (hdead:=JSb) (hf:=JSb) (hd:=JSb) ?_;exact zk.1):p:=h ⟨zk⟩
theorem QJc (zk:q) (h:ZwB q→p:=by intro zk;refine W8_ ?_;refine Qia ?_;exact zk.1):p:=h ⟨zk⟩
theorem QKc (zk:q) (h:ZwB q→p:=by intro zk;refine Qs ?_;refine JT ?_;exact zk.1):p:=h ⟨zk⟩
theorem QLc (zk:q) (h:ZwB q→p:=by intro zk;refine Z2 (op:= .rem) (r':=nj ((carry+x+dg*(c%1000))%1000)) (u:=nj (carry+x+dg*(c%1000))) (v:=nj 1000) ?_ (hr:=by exact US (by omega));exact zk.1):p:=h ⟨zk⟩
theorem QMc (h:p:=by exact⟨(l2.set k ((carry+x+dg*(c%1000))%1000),c/1000,(carry+x+dg*(c%1000))/1000,k+1),⟨by rw[List.length_set];exact hl2,Xef hlow2 k (by omega),hstep,hck2,by show(carry+x+dg*(c%1000))/1000≤999;omega,by show c/1000≤b;omega⟩,by show 20-(k+1)<20-k;omega,Xd rfl ⟨JL,JL,JL,JL,JL,JL,JL,JL,trivial⟩ ⟨congrArg (AObj.row 1) hs,trivial⟩⟩):p:=h
theorem QNc (zk:q) (h:ZwB q→p:=by intro zk;refine JT ?_;refine Yc ?_;exact zk.1):p:=h ⟨zk⟩
theorem QOc (h:p:=by exact X1 ⟨_,St.le_refl _,⟨rfl,rfl,trivial⟩,X2 _⟩):p:=h
theorem QPc (h:p:=by refine W3_ ?_;exact QOc):p:=h
theorem QQc (h:p:=by exact X1 ⟨_,St.le_refl _,⟨rfl,rfl,rfl,trivial⟩,X2 _⟩):p:=h
theorem QRc (h:p:=by refine Qb ?_;exact QQc):p:=h
theorem QSc (zk:q) (h:ZwB q→p:=by intro zk;refine Yc ?_;refine QU ?_;exact zk.1):p:=h ⟨zk⟩
theorem QTc (h:p:=by exact⟨i+1,⟨Xb3 hbg hc hge,by omega,by omega⟩,by omega,Xd rfl ⟨JL,JL,JL,JL,JL,JL,trivial⟩ trivial⟩):p:=h
theorem QUc (zk:q) (h:ZwB q→p:=by intro zk;refine JF ?_;refine Xj ?_;exact zk.1):p:=h ⟨zk⟩
theorem QVc (zk:q) (h:ZwB q→p:=by intro zk;refine W8_ ?_;refine QUc ?_;refine Qz ?_;refine Qma ?_;refine Qz ?_;exact zk.1):p:=h ⟨zk⟩
theorem QWc (zk:q) (h:ZwB q→p:=by intro zk;refine JT ?_;refine W7_ ?_;exact zk.1):p:=h ⟨zk⟩
theorem QXc (h:p:=by refine QWc ?_;exact QQc):p:=h
theorem QYc (h:p:=by refine JF ?_;refine Xt ?_;exact X1 ⟨_,Xw 5 (y:=ai ((k:Int)+i+1)) (AVal.le_of_eq (by refine Eq.trans (b:=ai _) rfl ?_;simp)),⟨rfl,rfl,rfl,trivial⟩,X2 _⟩):p:=h
theorem QZc (zk:q) (h:ZwB q→p:=by intro zk;refine W8_ ?_;refine QWb ?_;refine Qv ?_;refine QF ?_;refine Qma ?_;refine Qz ?_;exact zk.1):p:=h ⟨zk⟩
theorem Qad (zk:q) (h:ZwB q→p:=by intro zk;refine QF ?_;refine Qc ?_;exact zk.1):p:=h ⟨zk⟩
theorem Qbd (zk:q) (h:ZwB q→p:=by intro zk;refine Xj ?_;refine Z3 (hcon:=hr) ?_;refine Yc ?_;exact zk.1):p:=h ⟨zk⟩
theorem Qcd (h:p:=by refine W5_ ?_;exact QQc):p:=h
theorem Qdd (zk:q) (h:ZwB q→p:=by intro zk;refine Xj ?_;refine Z3 (hcon:=hr) ?_;refine XC ?_;exact zk.1):p:=h ⟨zk⟩
theorem Qed (zk:q) (h:ZwB q→p:=by intro zk;refine JF ?_;refine W9_ ?_;exact zk.1):p:=h ⟨zk⟩
theorem Qfd (zk:q) (h:ZwB q→p:=by intro zk;refine Z7 (lb:=f) (hb:=f+n) (ys:=((b.drop f).take n).map Xc) ?_ (hys:=by exact hsl);exact zk.1):p:=h ⟨zk⟩
theorem Qgd (h:p:=by exact X1 ⟨_,Xw 4 (y:= .d (Xk [])) (AVal.le_nil 1),⟨rfl,rfl,rfl,trivial⟩,X2 _⟩):p:=h
theorem Qhd (h:p:=by refine Qb ?_;exact Qgd):p:=h
theorem Qid (zk:q) (h:ZwB q→p:=by intro zk;refine Eq.trans (b:=AVal.own 0 (_+_)) rfl ?_;exact zk.1):p:=h ⟨zk⟩
theorem Qjd (zk:q) (h:ZwB q→p:=by intro zk;refine Eq.trans (b:=AObj.row 1 (_++_)) rfl ?_;exact zk.1):p:=h ⟨zk⟩
theorem Qkd (zk:q) (h:ZwB q→p:=by intro zk;refine Z0 (u:=nj 1) (r:=n8 1) ?_ (hr:=by exact U8 rfl rfl);exact zk.1):p:=h ⟨zk⟩
theorem Qld (zk:q) (h:ZwB q→p:=by intro zk;refine QCa ?_;refine Z3 (hcon:=hpi) ?_;refine W3_ ?_;exact zk.1):p:=h ⟨zk⟩
theorem Qmd (zk:q) (h:ZwB q→p:=by intro zk;refine Eq.trans (b:=AObj.row 1 (_++_++_)) rfl ?_;exact zk.1):p:=h ⟨zk⟩
theorem Qnd (zk:q) (h:ZwB q→p:=by intro zk;refine Z0 (u:=nj 2) (r:=n8 2) ?_ (hr:=by exact U8 rfl rfl);exact zk.1):p:=h ⟨zk⟩
theorem Qod (zk:q) (h:ZwB q→p:=by intro zk;refine Z0 (u:=nj 3) (r:=n8 3) ?_ (hr:=by exact U8 rfl rfl);exact zk.1):p:=h ⟨zk⟩
theorem Qpd (zk:q) (h:ZwB q→p:=by intro zk;refine Qc ?_;refine QCa ?_;exact zk.1):p:=h ⟨zk⟩
theorem Qqd (zk:q) (h:ZwB q→p:=by intro zk;refine Z0 (u:=nj 4) (r:=n8 4) ?_ (hr:=by exact U8 rfl rfl);exact zk.1):p:=h ⟨zk⟩
theorem Qrd (zk:q) (h:ZwB q→p:=by intro zk;refine Z0 (u:=nj 5) (r:=n8 5) ?_ (hr:=by exact U8 rfl rfl);exact zk.1):p:=h ⟨zk⟩
theorem Qsd (zk:q) (h:ZwB q→p:=by intro zk;refine Z0 (u:=nj 6) (r:=n8 6) ?_ (hr:=by exact U8 rfl rfl);exact zk.1):p:=h ⟨zk⟩
theorem Qtd (zk:q) (h:ZwB q→p:=by intro zk;refine Z0 (u:=nj 7) (r:=n8 7) ?_ (hr:=by exact U8 rfl rfl);exact zk.1):p:=h ⟨zk⟩
theorem Qud (h:p:=by refine QGc ?_;exact Qf):p:=h
theorem Qvd (zk:q) (h:ZwB q→p:=by intro zk;refine Z0 (u:=nj 8) (r:=n8 8) ?_ (hr:=by exact U8 rfl rfl);exact zk.1):p:=h ⟨zk⟩
theorem Qwd (h:p:=by refine W2_ ?_;refine Qe ?_;exact X1 ⟨_,Xw 2 (y:= .d (Xk [])) (AVal.le_nil 1),⟨rfl,trivial⟩,X2 _⟩):p:=h
theorem Qxd (h:p:=by refine W2_ ?_;refine Qg ?_;refine Z3 (hcon:=hp) ?_;exact Qq):p:=h
theorem Qyd (zk:q) (h:ZwB q→p:=by intro zk;refine Z3 (hcon:=hv) ?_;exact zk.1):p:=h ⟨zk⟩
theorem Qzd (zk:q) (h:ZwB q→p:=by intro zk;refine W2_ ?_;refine Qc ?_;exact zk.1):p:=h ⟨zk⟩
theorem QAd (zk:q) (h:ZwB q→p:=by intro zk;refine Z3 (hcon:=hsz) ?_;refine W2_ ?_;refine Z3 (hcon:=ht) ?_;exact zk.1):p:=h ⟨zk⟩
theorem QBd (zk:q) (h:ZwB q→p:=by intro zk;refine Xj ?_;refine Qyd ?_;refine W2_ ?_;exact zk.1):p:=h ⟨zk⟩
theorem QCd (zk:q) (h:ZwB q→p:=by intro zk;refine JT ?_;refine W8_ ?_;exact zk.1):p:=h ⟨zk⟩
theorem QDd (zk:q) (h:ZwB q→p:=by intro zk;refine XA ?_;refine Qc ?_;exact zk.1):p:=h ⟨zk⟩
theorem QEd (zk:q) (h:ZwB q→p:=by intro zk;refine W9_ ?_;refine Qyd ?_;refine W1_ ?_;refine Qyd ?_;refine Xj ?_;exact zk.1):p:=h ⟨zk⟩
theorem QFd (zk:q) (h:ZwB q→p:=by intro zk;refine Qz ?_;refine Qe ?_;exact zk.1):p:=h ⟨zk⟩
theorem QGd (zk:q) (h:ZwB q→p:=by intro zk;refine W9_ ?_;refine Qyd ?_;refine W1_ ?_;refine Z3 (hcon:=hz) ?_;refine Xj ?_;exact zk.1):p:=h ⟨zk⟩
theorem QHd (h:p:=by refine W3_ ?_;exact Qp):p:=h
theorem QId (h:p:=by exact X1 ⟨_,St.le_refl _,⟨⟨101,0,_,rfl,rfl,.inr ⟨2,_,rfl,rfl,rfl,rfl⟩⟩,rfl,trivial⟩,X2 _⟩):p:=h
theorem QJd (zk:q) (h:ZwB q→p:=by intro zk;refine Z3 (hcon:=hc) ?_;exact zk.1):p:=h ⟨zk⟩
theorem QKd (zk:q) (h:ZwB q→p:=by intro zk;refine QJd ?_;refine W7_ ?_;exact zk.1):p:=h ⟨zk⟩
theorem QLd (zk:q) (h:ZwB q→p:=by intro zk;refine Z3 (hcon:=hn) ?_;exact zk.1):p:=h ⟨zk⟩
theorem QMd (zk:q) (h:ZwB q→p:=by intro zk;refine Z3 (hcon:=hs) ?_;exact zk.1):p:=h ⟨zk⟩
theorem QNd (zk:q) (h:ZwB q→p:=by intro zk;refine Z3 (hcon:=hf) ?_;exact zk.1):p:=h ⟨zk⟩
theorem QOd (zk:q) (h:ZwB q→p:=by intro zk;refine Qw ?_;refine Qz ?_;refine Qyd ?_;exact zk.1):p:=h ⟨zk⟩
theorem QPd (h:p:=by refine Qz ?_;exact QG):p:=h
theorem QQd (zk:q) (h:ZwB q→p:=by intro zk;refine QE ?_;refine W4_ ?_;exact zk.1):p:=h ⟨zk⟩
theorem QRd (zk:q) (h:ZwB q→p:=by intro zk;refine W2_ ?_;refine QMd ?_;refine W2_ ?_;exact zk.1):p:=h ⟨zk⟩
theorem QSd (zk:q) (h:ZwB q→p:=by intro zk;refine W2_ ?_;refine Z3 (hcon:=hd) ?_;refine W1_ ?_;refine Qba ?_;exact zk.1):p:=h ⟨zk⟩
theorem QTd (zk:q) (h:ZwB q→p:=by intro zk;refine QL ?_;refine QE ?_;exact zk.1):p:=h ⟨zk⟩
theorem QUd (zk:q) (h:ZwB q→p:=by intro zk;refine W1_ ?_;refine Qs ?_;exact zk.1):p:=h ⟨zk⟩
theorem QVd (zk:q) (h:ZwB q→p:=by intro zk;refine Z3 (hcon:=hz) ?_;refine QUd ?_;exact zk.1):p:=h ⟨zk⟩
theorem QWd (zk:q) (h:ZwB q→p:=by intro zk;refine QL ?_;refine Qad ?_;exact zk.1):p:=h ⟨zk⟩
theorem QXd (zk:q) (h:ZwB q→p:=by intro zk;refine W2_ ?_;refine Z3 (hcon:=hp) ?_;refine Qxa ?_;exact zk.1):p:=h ⟨zk⟩
theorem QYd (zk:q) (h:ZwB q→p:=by intro zk;refine W1_ ?_;refine Qr ?_;exact zk.1):p:=h ⟨zk⟩
theorem QZd (zk:q) (h:ZwB q→p:=by intro zk;refine W2_ ?_;refine Z3 (hcon:=hz) ?_;refine QYd ?_;refine QF ?_;exact zk.1):p:=h ⟨zk⟩
theorem Qae (zk:q) (h:ZwB q→p:=by intro zk;refine QW ?_;refine QY ?_;refine QE ?_;refine W9_ ?_;exact zk.1):p:=h ⟨zk⟩
theorem Qbe (zk:q) (h:ZwB q→p:=by intro zk;refine Us ?_;refine Qc ?_;refine Qg ?_;exact zk.1):p:=h ⟨zk⟩
theorem Qce (zk:q) (h:ZwB q→p:=by intro zk;refine W1_ ?_;refine Qe ?_;exact zk.1):p:=h ⟨zk⟩
theorem Qde (zk:q) (h:ZwB q→p:=by intro zk;refine W6_ ?_;refine Z3 (hcon:=hk) ?_;refine Qxa ?_;exact zk.1):p:=h ⟨zk⟩
theorem Qee (zk:q) (h:ZwB q→p:=by intro zk;refine W2_ ?_;refine QMd ?_;refine Qxa ?_;exact zk.1):p:=h ⟨zk⟩
theorem Qfe (zk:q) (h:ZwB q→p:=by intro zk;refine W2_ ?_;refine Z3 (hcon:=hd) ?_;refine Qxa ?_;exact zk.1):p:=h ⟨zk⟩
theorem Qge (zk:q) (h:ZwB q→p:=by intro zk;refine QWd ?_;refine QLd ?_;refine W3_ ?_;exact zk.1):p:=h ⟨zk⟩
theorem Qhe (zk:q) (h:ZwB q→p:=by intro zk;refine W9_ ?_;refine QJd ?_;exact zk.1):p:=h ⟨zk⟩
theorem Qie (zk:q) (h:ZwB q→p:=by intro zk;refine W9_ ?_;refine Qma ?_;exact zk.1):p:=h ⟨zk⟩
theorem Qje (zk:q) (h:ZwB q→p:=by intro zk;refine JT ?_;refine Xi ?_;exact zk.1):p:=h ⟨zk⟩
theorem Qke (zk:q) (h:ZwB q→p:=by intro zk;refine Z3 (hcon:=hcall) ?_;refine W7_ ?_;exact zk.1):p:=h ⟨zk⟩
theorem Qle (h:p:=by exact(show Xy _ _ _ _ _ from⟨_,St.le_refl _,trivial,Xn ⟨rfl,trivial⟩⟩)):p:=h
theorem Qme (h:p:=by refine QWc ?_;exact Qle):p:=h
theorem Qne (h:p:=by refine JF ?_;refine W1_ ?_;exact Qle):p:=h
theorem Qoe (zk:q) (h:ZwB q→p:=by intro zk;refine Xr ?_;refine JF ?_;exact zk.1):p:=h ⟨zk⟩
theorem Qpe (zk:q) (h:ZwB q→p:=by intro zk;refine XA ?_;refine JF ?_;exact zk.1):p:=h ⟨zk⟩
theorem Qqe (h:p:=by refine JT ?_;refine Xj ?_;exact Qf):p:=h
theorem Qre (zk:q) (h:ZwB q→p:=by intro zk;refine Z3 (hcon:=hu) ?_;exact zk.1):p:=h ⟨zk⟩
theorem Qse (zk:q) (h:ZwB q→p:=by intro zk;refine XC ?_;refine Qre ?_;exact zk.1):p:=h ⟨zk⟩
theorem Qte (h:p:=by refine W6_ ?_;exact Qf):p:=h
theorem Que (zk:q) (h:ZwB q→p:=by intro zk;refine Qr ?_;refine QP ?_;exact zk.1):p:=h ⟨zk⟩
theorem Qve (h:p:=by refine Qje ?_;exact Qf):p:=h
theorem Qwe (h:p:=by refine Qw ?_;refine QVa ?_;refine Qs ?_;exact Qve):p:=h
theorem Qxe (zk:q) (h:ZwB q→p:=by intro zk;refine QI ?_;refine QE ?_;exact zk.1):p:=h ⟨zk⟩
theorem Qye (h:p:=by refine QU ?_;refine XD ?_;exact Qf):p:=h
theorem Qze (zk:q) (h:ZwB q→p:=by intro zk;refine W9_ ?_;refine Z3 (hcon:=hk) ?_;exact zk.1):p:=h ⟨zk⟩
theorem QAe (zk:q) (h:ZwB q→p:=by intro zk;refine Qze ?_;refine Qoe ?_;refine XC ?_;exact zk.1):p:=h ⟨zk⟩
theorem QBe (zk:q) (h:ZwB q→p:=by intro zk;refine Qna ?_;refine Qg ?_;exact zk.1):p:=h ⟨zk⟩
theorem QCe (zk:q) (h:ZwB q→p:=by intro zk;refine QAe ?_;refine QBe ?_;refine Qna ?_;exact zk.1):p:=h ⟨zk⟩
theorem QDe (zk:q) (h:ZwB q→p:=by intro zk;refine Qs ?_;refine JF ?_;exact zk.1):p:=h ⟨zk⟩
theorem QEe (zk:q) (h:ZwB q→p:=by intro zk;refine Xj ?_;refine Qw ?_;refine QVb ?_;exact zk.1):p:=h ⟨zk⟩
theorem QFe (h:p:=by exact X1 ⟨_,XF 100 (cs:=[ai 8,ai 0,ai 0,.d (.v (.string (Xb []))),ani]) (cs':=[ai 8,ai 0,ai 0,.d (.v (.string (Xb []))),.d (.sl 5 [])]) rfl ⟨AVal.le_refl _,AVal.le_refl _,AVal.le_refl _,AVal.le_refl _,AVal.le_nil 5,trivial⟩ rfl,⟨⟨100,0,_,rfl,rfl,.inr ⟨5,_,rfl,rfl,rfl,rfl⟩⟩,trivial⟩,Xn ⟨rfl,trivial⟩⟩):p:=h
theorem QGe (zk:q) (h:ZwB q→p:=by intro zk;refine W7_ ?_;refine QW ?_;refine QU ?_;exact zk.1):p:=h ⟨zk⟩
theorem QHe (zk:q) (h:ZwB q→p:=by intro zk;refine Xq (Yg 121 rfl) ?_;refine Xq (X0v 101 4 121 (cs:=[ai 8,ai 0,ai 0,.d (.v (.string (Xb []))),.own 121 l.length]) (sz:=5) (xs:=XU l) rfl rfl rfl hlen.symm) ?_;exact zk.1):p:=h ⟨zk⟩
theorem QIe (h:p:=by exact X1 ⟨_,St.le_refl _,⟨⟨100,0,_,rfl,rfl,.inr ⟨5,_,rfl,rfl,rfl,rfl⟩⟩,trivial⟩,Xn ⟨rfl,trivial⟩⟩):p:=h
theorem QJe (h:p:=by refine QEe ?_;exact QIe):p:=h
theorem QKe (zk:q) (h:ZwB q→p:=by intro zk;refine Z3 (hcon:=hval) ?_;refine QUd ?_;exact zk.1):p:=h ⟨zk⟩
theorem QLe (h:p:=by exact congrArg (AObj.row 5) (X8W l xk xn xd xs xl)):p:=h
theorem QMe (h:p:=by exact X1 ⟨_,XF 100 (cs:=[ai 7,ai 0,ai 0,.d (.v (.string (Xb []))),ani]) (cs':=[ai 7,ai 0,ai 0,.d (.v (.string (Xb []))),.d (.sl 5 [])]) rfl ⟨AVal.le_refl _,AVal.le_refl _,AVal.le_refl _,AVal.le_refl _,AVal.le_nil 5,trivial⟩ rfl,⟨⟨100,0,_,rfl,rfl,.inr ⟨5,_,rfl,rfl,rfl,rfl⟩⟩,trivial⟩,Xn ⟨rfl,trivial⟩⟩):p:=h
theorem QNe (zk:q) (h:ZwB q→p:=by intro zk;refine Xq (Yg 121 rfl) ?_;refine Xq (X0v 101 4 121 (cs:=[ai 7,ai 0,ai 0,.d (.v (.string (Xb []))),.own 121 l.length]) (sz:=5) (xs:=XU l) rfl rfl rfl hlen.symm) ?_;exact zk.1):p:=h ⟨zk⟩
theorem QOe (h:p:=by exact X1 ⟨_,XF 100 (cs:=[ai 0,ai 0,ai 0,.d (.v (.string (Xb []))),ani]) (cs':=[ai 0,ai 0,ai 0,.d (.v (.string (Xb []))),.d (.sl 5 [])]) rfl ⟨AVal.le_refl _,AVal.le_refl _,AVal.le_refl _,AVal.le_refl _,AVal.le_nil 5,trivial⟩ rfl,⟨⟨100,0,_,rfl,rfl,.inr ⟨5,_,rfl,rfl,rfl,rfl⟩⟩,trivial⟩,Xn ⟨rfl,trivial⟩⟩):p:=h
theorem QPe (zk:q) (h:ZwB q→p:=by intro zk;refine Qea ?_;refine Qm ?_;refine QLd ?_;refine Xr ?_;refine QKe ?_;refine Qje ?_;exact zk.1):p:=h ⟨zk⟩
theorem QQe (h:p:=by exact X1 ⟨_,XF 100 (cs:=[ai 1,ai n,ai 0,.d (.v (.string (Xb []))),ani]) (cs':=[ai 1,ai n,ai 0,.d (.v (.string (Xb []))),.d (.sl 5 [])]) rfl ⟨AVal.le_refl _,AVal.le_refl _,AVal.le_refl _,AVal.le_refl _,AVal.le_nil 5,trivial⟩ rfl,⟨⟨100,0,_,rfl,rfl,.inr ⟨5,_,rfl,rfl,rfl,rfl⟩⟩,trivial⟩,Xn ⟨rfl,trivial⟩⟩):p:=h
theorem QRe (zk:q) (h:ZwB q→p:=by intro zk;refine Qea ?_;refine Qm ?_;refine QLd ?_;refine Xr ?_;refine QKe ?_;refine Qia ?_;exact zk.1):p:=h ⟨zk⟩
theorem QSe (zk:q) (h:ZwB q→p:=by intro zk;refine Qea ?_;refine Qm ?_;refine QLd ?_;refine Xt ?_;refine Qw ?_;refine QVb ?_;exact zk.1):p:=h ⟨zk⟩
theorem QTe (h:p:=by exact X1 ⟨_,XF 100 (cs:=[ai 2,ai n,ai 0,.d (.v (.string (Xb []))),ani]) (cs':=[ai 2,ai n,ai 0,.d (.v (.string (Xb []))),.d (.sl 5 [])]) rfl ⟨AVal.le_refl _,AVal.le_refl _,AVal.le_refl _,AVal.le_refl _,AVal.le_nil 5,trivial⟩ rfl,⟨⟨100,0,_,rfl,rfl,.inr ⟨5,_,rfl,rfl,rfl,rfl⟩⟩,trivial⟩,Xn ⟨rfl,trivial⟩⟩):p:=h
theorem QUe (h:p:=by exact X1 ⟨_,XF 100 (cs:=[ai 5,ai n,ai 0,.d (.v (.string (Xb []))),ani]) (cs':=[ai 5,ai n,ai 0,.d (.v (.string (Xb []))),.d (.sl 5 [])]) rfl ⟨AVal.le_refl _,AVal.le_refl _,AVal.le_refl _,AVal.le_refl _,AVal.le_nil 5,trivial⟩ rfl,⟨⟨100,0,_,rfl,rfl,.inr ⟨5,_,rfl,rfl,rfl,rfl⟩⟩,trivial⟩,Xn ⟨rfl,trivial⟩⟩):p:=h
theorem QVe (zk:q) (h:ZwB q→p:=by intro zk;refine QAe ?_;refine QBe ?_;refine Qm ?_;refine QLd ?_;exact zk.1):p:=h ⟨zk⟩
theorem QWe (h:p:=by exact X1 ⟨_,XF 100 (cs:=[ai 6,ai n,ai 0,.d (.v (.string (Xb []))),ani]) (cs':=[ai 6,ai n,ai 0,.d (.v (.string (Xb []))),.d (.sl 5 [])]) rfl ⟨AVal.le_refl _,AVal.le_refl _,AVal.le_refl _,AVal.le_refl _,AVal.le_nil 5,trivial⟩ rfl,⟨⟨100,0,_,rfl,rfl,.inr ⟨5,_,rfl,rfl,rfl,rfl⟩⟩,trivial⟩,Xn ⟨rfl,trivial⟩⟩):p:=h
theorem QXe (zk:q) (h:ZwB q→p:=by intro zk;refine QAe ?_;refine QBe ?_;refine Qc ?_;refine Qqc ?_;refine QLd ?_;refine W5_ ?_;refine Z3 (hcon:=hn2) ?_;exact zk.1):p:=h ⟨zk⟩
theorem QYe (h:p:=by exact X1 ⟨_,XF 100 (cs:=[ai 3,ai n,ai d,.d (.v (.string (Xb []))),ani]) (cs':=[ai 3,ai n,ai d,.d (.v (.string (Xb []))),.d (.sl 5 [])]) rfl ⟨AVal.le_refl _,AVal.le_refl _,AVal.le_refl _,AVal.le_refl _,AVal.le_nil 5,trivial⟩ rfl,⟨⟨100,0,_,rfl,rfl,.inr ⟨5,_,rfl,rfl,rfl,rfl⟩⟩,trivial⟩,Xn ⟨rfl,trivial⟩⟩):p:=h
theorem QZe (h:p:=by exact X1 ⟨_,XF 100 (cs:=[ai 4,ai 0,ai 0,.d (.v (.string (Xb s))),ani]) (cs':=[ai 4,ai 0,ai 0,.d (.v (.string (Xb s))),.d (.sl 5 [])]) rfl ⟨AVal.le_refl _,AVal.le_refl _,AVal.le_refl _,AVal.le_refl _,AVal.le_nil 5,trivial⟩ rfl,⟨⟨100,0,_,rfl,rfl,.inr ⟨5,_,rfl,rfl,rfl,rfl⟩⟩,trivial⟩,Xn ⟨rfl,trivial⟩⟩):p:=h
theorem Qaf (zk:q) (h:ZwB q→p:=by intro zk;refine Qs ?_;refine QWc ?_;exact zk.1):p:=h ⟨zk⟩
theorem Qbf (h:p:=by exact X1 ⟨_,XF 100 (cs:=[ai 0,ai 0,ai 0,.d (.v (.string (Xb []))),ani]) (cs':=[ai 0,ai 0,ai 0,.d (.v (.string (Xb []))),.d (.sl 5 [])]) rfl ⟨AVal.le_refl _,AVal.le_refl _,AVal.le_refl _,AVal.le_refl _,AVal.le_nil 5,trivial⟩ rfl,⟨⟨100,0,_,rfl,rfl,.inr ⟨5,_,rfl,rfl,rfl,rfl⟩⟩,rfl,rfl,trivial⟩,X2 _⟩):p:=h
theorem Qcf (h:p:=by refine Qaf ?_;exact Qbf):p:=h
theorem Qdf (h:p:=by refine QWc ?_;exact Qbf):p:=h
theorem Qef (h:p:=by exact X1 ⟨_,St.le_refl _,⟨⟨100,0,_,rfl,rfl,.inr ⟨5,_,rfl,rfl,rfl,rfl⟩⟩,rfl,rfl,trivial⟩,X2 _⟩):p:=h
theorem Qff (zk:q) (h:ZwB q→p:=by intro zk;refine W5_ ?_;refine QCa ?_;refine X7h (hg:=JSa) (hx:=JSb) (hi:=JSb) (hk:=JSr) (hlt:=JSs) (hT:=JSb) (hd:=JSb) ?_;refine W6_ ?_;exact zk.1):p:=h ⟨zk⟩
theorem Qgf (h:p:=by exact X1 ⟨_,St.le_refl _,⟨⟨100,0,_,rfl,rfl,.inr ⟨6,_,rfl,rfl,rfl,rfl⟩⟩,trivial⟩,Xn ⟨rfl,trivial⟩⟩):p:=h
theorem Qhf (h:p:=by exact X1 ⟨_,St.le_refl _,⟨⟨100,0,_,rfl,rfl,.inr ⟨6,_,rfl,rfl,rfl,rfl⟩⟩,rfl,rfl,trivial⟩,X2 _⟩):p:=h
theorem Qif (zk:q) (h:ZwB q→p:=by intro zk;refine QSc ?_;refine Xt ?_;refine Z3 (hcon:=hr) ?_;refine Xt ?_;exact zk.1):p:=h ⟨zk⟩
theorem Qjf (zk:q) (h:ZwB q→p:=by intro zk;refine Qif ?_;refine Qqc ?_;refine QJd ?_;exact zk.1):p:=h ⟨zk⟩
theorem Qkf (zk:q) (h:ZwB q→p:=by intro zk;refine X6 (op:= .lss) (u:= .string _) (v:= .string _) (hg:=JSa) (hx:=JSb) (hy:=JSb) (hr:=JSt) (h1:=JSb) (hd:=JSb) ?_;exact zk.1):p:=h ⟨zk⟩
theorem Qlf (zk:q) (h:ZwB q→p:=by intro zk;refine W7_ ?_;refine Z3 (hcon:=n1) ?_;refine W5_ ?_;refine Z3 (hcon:=n2) ?_;refine W7_ ?_;refine Qia ?_;refine Qia ?_;refine Qkf ?_;exact zk.1):p:=h ⟨zk⟩
theorem Qmf (zk:q) (h:ZwB q→p:=by intro zk;refine W2_ ?_;refine X6 (op:= .leq) (u:= .string _) (v:= .string _) (hg:=JSa) (hx:=JSb) (hy:=JSb) (hr:=JSv) (h1:=JSb) (hd:=JSb) ?_;exact zk.1):p:=h ⟨zk⟩
theorem Qnf (h:p:=by exact⟨j+1+1,⟨by omega,by omega,by rw[Nat.add_sub_cancel];exact hg⟩,by omega,Xd rfl ⟨JL,JL,trivial⟩ trivial⟩):p:=h
theorem Qof (zk:q) (h:ZwB q→p:=by intro zk;refine Xq (Yg 130 rfl) ?_;exact zk.1):p:=h ⟨zk⟩
theorem Qpf (zk:q) (h:ZwB q→p:=by intro zk;refine W2_ ?_;refine Z3 (hcon:=hc1) ?_;refine W2_ ?_;refine Z3 (hcon:=hc2) ?_;refine QZ ?_;refine Z3 (hcon:=hr1) ?_;exact zk.1):p:=h ⟨zk⟩
theorem Qqf (h:p:=by refine W2_ ?_;exact QEa):p:=h
theorem Qrf (h:p:=by exact⟨i+1,⟨by omega,hg⟩,by omega,Xd rfl JM trivial⟩):p:=h
theorem Qsf (zk:q) (h:ZwB q→p:=by intro zk;refine QIa ?_;refine QQa ?_;exact zk.1):p:=h ⟨zk⟩
theorem Qtf (zk:q) (h:ZwB q→p:=by intro zk;refine X5 ?_;refine QIa ?_;refine QQa ?_;refine QQa ?_;exact zk.1):p:=h ⟨zk⟩
theorem Quf (zk:q) (h:ZwB q→p:=by intro zk;refine QEb ?_;refine JD ?_;refine JF ?_;exact zk.1):p:=h ⟨zk⟩
theorem Qvf (zk:q) (h:ZwB q→p:=by intro zk;refine QLb ?_;refine QQb ?_;refine QQa ?_;refine Z5 (hcon:=hc) ?_;exact zk.1):p:=h ⟨zk⟩
theorem Qwf (zk:q) (h:ZwB q→p:=by intro zk;refine Z1 (op:= .shr) (r':=_) (u:=n64 (i+j)) (v:=n64 1) ?_ (hr':=by exact e2) (hr:=by exact X0D (by decide));exact zk.1):p:=h ⟨zk⟩
theorem Qxf (h:p:=by exact⟨((i+j)/2+1,j),⟨by simp only;omega,h2,hinv,h4⟩,by simp only;omega,Xd rfl JM trivial⟩):p:=h
theorem Qyf (h:p:=by exact⟨(i,(i+j)/2),⟨by simp only;omega,by simp only;omega,h3,hinv⟩,by simp only;omega,Xd rfl JM trivial⟩):p:=h
theorem Qzf (zk:q) (h:ZwB q→p:=by intro zk;refine QLa ?_;refine QNa ?_;refine Qhb ?_;refine QRa ?_;refine Qhb ?_;refine QHb ?_;refine QEb ?_;exact zk.1):p:=h ⟨zk⟩
theorem QAf (zk:q) (h:ZwB q→p:=by intro zk;refine QRa ?_;refine Qgb ?_;exact zk.1):p:=h ⟨zk⟩
theorem QBf (zk:q) (h:ZwB q→p:=by intro zk;refine Qzf ?_;refine QAf ?_;refine QE ?_;refine QRa ?_;refine QEb ?_;refine QE ?_;exact zk.1):p:=h ⟨zk⟩
theorem QCf (zk:q) (h:ZwB q→p:=by intro zk;refine QPb ?_;refine Qsf ?_;refine QQb ?_;refine UB (γ:=101) (hg:=JSa) (hz:=JSb) (h1:=JSb) (hdead:=JSb) (hf:=JSb) (hd:=JSb) ?_;refine QJa ?_;refine QRb ?_;refine X5 ?_;refine QIa ?_;refine QQa ?_;refine Qgb ?_;exact zk.1):p:=h ⟨zk⟩
theorem QDf (zk:q) (h:ZwB q→p:=by intro zk;refine QCf ?_;refine QTa ?_;refine QL ?_;refine QI ?_;exact zk.1):p:=h ⟨zk⟩
theorem QEf (zk:q) (h:ZwB q→p:=by intro zk;refine Qkb ?_;refine QEb ?_;exact zk.1):p:=h ⟨zk⟩
theorem QFf (h:p:=by refine QEf ?_;refine QQa ?_;refine QW ?_;exact QYa):p:=h
theorem QGf (zk:q) (h:ZwB q→p:=by intro zk;refine QEf ?_;refine QRa ?_;refine QMa ?_;refine Qzb ?_;exact zk.1):p:=h ⟨zk⟩
theorem QHf (zk:q) (h:ZwB q→p:=by intro zk;refine Z3 (hcon:=hpc) ?_;refine QKa ?_;refine Qsf ?_;refine QOa ?_;exact zk.1):p:=h ⟨zk⟩
theorem QIf (zk:q) (h:ZwB q→p:=by intro zk;refine QE ?_;refine JD ?_;refine JF ?_;refine XP ?_;refine QIa ?_;refine QMa ?_;refine QMa ?_;refine QHf ?_;exact zk.1):p:=h ⟨zk⟩
theorem QJf (h:p:=by refine JD ?_;refine JT ?_;refine QIa ?_;refine QQa ?_;exact QWa):p:=h
theorem QKf (zk:q) (h:ZwB q→p:=by intro zk;refine QCf ?_;refine QRa ?_;refine QMa ?_;refine QQa ?_;exact zk.1):p:=h ⟨zk⟩
theorem QLf (zk:q) (h:ZwB q→p:=by intro zk;refine U9 (hg:=JSa) (hx:=JSb) (hi:=JSb) (hk:=JSb) (hr:=JSp) (hT:=JSb) (hd:=JSb) ?_;refine X1o (hg:=JSa) (hx:=JSb) (hoff:=JSc) (hf:=JSb) (hd:=JSb) ?_;refine X1b (hg:=JSa) (hx:=JSb) (ht:=JSb) (hd:=JSb) ?_;exact zk.1):p:=h ⟨zk⟩
theorem QMf (zk:q) (h:ZwB q→p:=by intro zk;refine QLf ?_;refine QDb ?_;exact zk.1):p:=h ⟨zk⟩
theorem QNf (zk:q) (h:ZwB q→p:=by intro zk;refine QGf ?_;refine QHb ?_;refine QMa ?_;refine Z3 (hcon:=hs1) ?_;refine Z6 ?_;exact zk.1):p:=h ⟨zk⟩
theorem QOf (zk:q) (h:ZwB q→p:=by intro zk;refine QNf ?_;refine QRa ?_;refine QMa ?_;refine Z3 (hcon:=hs2) ?_;refine Z6 ?_;exact zk.1):p:=h ⟨zk⟩
theorem QPf (zk:q) (h:ZwB q→p:=by intro zk;refine QOf ?_;refine QHb ?_;refine Z3 (hcon:=hnm) ?_;refine Z6 ?_;exact zk.1):p:=h ⟨zk⟩
theorem QQf (zk:q) (h:ZwB q→p:=by intro zk;refine QPf ?_;refine JD ?_;refine JF ?_;refine XP ?_;refine QIa ?_;refine QMa ?_;refine QHf ?_;exact zk.1):p:=h ⟨zk⟩
theorem QRf (zk:q) (h:ZwB q→p:=by intro zk;refine W9_ ?_;refine JT ?_;exact zk.1):p:=h ⟨zk⟩
theorem QSf (zk:q) (h:ZwB q→p:=by intro zk;refine QE ?_;refine W5_ ?_;exact zk.1):p:=h ⟨zk⟩
theorem QTf (h:p:=by refine QW ?_;exact QN):p:=h
theorem QUf (zk:q) (h:ZwB q→p:=by intro zk;refine Xi ?_;refine QDe ?_;refine W1_ ?_;exact zk.1):p:=h ⟨zk⟩
theorem QVf (h:p:=by exact Xd rfl ⟨JL,JL,AVal.le_of_eq (by refine Eq.trans (b:=AVal.own 130 (_+_)) rfl ?_;simp only[List.length_append,List.length_map,List.length_cons,List.length_nil]),JL,trivial⟩ ⟨rfl,trivial⟩):p:=h
theorem QWf (zk:q) (h:ZwB q→p:=by intro zk;refine W7_ ?_;refine Qb ?_;exact zk.1):p:=h ⟨zk⟩
theorem QXf (h:p:=by exact X1 ⟨_,Xw 4 (y:= .d (Xk [])) (AVal.le_nil 1),⟨rfl,rfl,trivial⟩,X2 _⟩):p:=h
theorem QYf (zk:q) (h:ZwB q→p:=by intro zk;refine Z3 (hcon:=hck) ?_;refine W7_ ?_;refine Qc ?_;refine Z3 (hcon:=hvl) ?_;refine W2_ ?_;exact zk.1):p:=h ⟨zk⟩
theorem QZf (h:p:=by exact Xd rfl ⟨JL,JL,JL,AVal.le_of_eq (by refine Eq.trans (b:=AVal.own 131 (_+_)) rfl ?_;simp only[List.length_append,List.length_cons,List.length_nil]),JL,trivial⟩ ⟨rfl,rfl,trivial⟩):p:=h
theorem Qag (zk:q) (h:ZwB q→p:=by intro zk;refine W9_ ?_;refine JF ?_;exact zk.1):p:=h ⟨zk⟩
theorem Qbg (h:p:=by refine W1_ ?_;exact Qle):p:=h
theorem Qcg (h:p:=by refine W8_ ?_;refine QL ?_;refine Qta ?_;refine QU ?_;exact Qbg):p:=h
theorem Qdg (h:p:=by refine Us ?_;refine Qs ?_;refine Qb ?_;exact Qle):p:=h
theorem Qeg (h:p:=by refine Us ?_;refine QDe ?_;refine W1_ ?_;exact Qle):p:=h
theorem Qfg (zk:q) (h:ZwB q→p:=by intro zk;refine XD ?_;refine JF ?_;refine XD ?_;refine Z5 (hcon:=hf) ?_;refine Yw ?_;refine JT ?_;refine Xt ?_;exact zk.1):p:=h ⟨zk⟩
theorem Qgg (zk:q) (h:ZwB q→p:=by intro zk;refine XD ?_;refine JF ?_;refine XD ?_;refine Z5 (hcon:=hf) ?_;refine Yw ?_;refine Qia ?_;exact zk.1):p:=h ⟨zk⟩
theorem Qhg (h:p:=by refine Qof ?_;refine Xq (Yx 2 130 rfl rfl rfl) ?_;exact Qf):p:=h
theorem Qig (h:p:=by exact X1 ⟨_,St.le_refl _,⟨⟨100,0,_,rfl,rfl,.inr ⟨3,_,rfl,rfl,rfl,rfl⟩⟩,trivial⟩,Xn ⟨rfl,trivial⟩⟩):p:=h
theorem Qjg (zk:q) (h:ZwB q→p:=by intro zk;refine Xj ?_;refine QJd ?_;exact zk.1):p:=h ⟨zk⟩
theorem Qkg (h:p:=by exact X1 ⟨_,XF 100 (cs':=[.d (Xk (b.drop 4)),.d (Xk []),ai 0,ai 0]) rfl JM rfl,⟨rfl,trivial⟩,Xn ⟨rfl,trivial⟩⟩):p:=h
theorem Qlg (h:p:=by exact X1 ⟨_,XF 100 (cs':=[.d (Xk []),.d (Xk []),ai 0,ai 2]) rfl JM rfl,⟨rfl,trivial⟩,Xn ⟨rfl,trivial⟩⟩):p:=h
theorem Qmg (zk:q) (h:ZwB q→p:=by intro zk;refine W6_ ?_;refine QW ?_;refine QU ?_;refine W1_ ?_;exact zk.1):p:=h ⟨zk⟩
theorem Qng (h:p:=by exact Xd rfl JM ⟨rfl,rfl,rfl,trivial⟩):p:=h
theorem Qog (zk:q) (h:ZwB q→p:=by intro zk;refine W4_ ?_;refine QNd ?_;refine W7_ ?_;exact zk.1):p:=h ⟨zk⟩
theorem Qpg (h:p:=by exact X1 ⟨_,St.le_trans (XF 100 (cs':=[.d (.sl 3 []),.d (.sl 5 []),ai 0,ai 0]) rfl JM rfl) (Xw 3 (y:= .d (.sl 6 [])) (AVal.le_nil 6)),⟨⟨100,0,_,rfl,rfl,.inr ⟨4,_,rfl,rfl,rfl,rfl⟩⟩,rfl,rfl,trivial⟩,X2 _⟩):p:=h
theorem Qqg (zk:q) (h:ZwB q→p:=by intro zk;refine W8_ ?_;refine X1f (k:=xs.length) (hg:=JSa) (hx:=JSb) (hL:=JSb) (hlo:=JSb) (hn:=JSe) (hT:=JSb) (hd:=JSb) ?_ (hk:=by exact Nat.le_refl _);refine Qoe ?_;refine XC ?_;refine QWc ?_;exact zk.1):p:=h ⟨zk⟩
theorem Qrg (zk:q) (h:ZwB q→p:=by intro zk;refine VG (hg:=JSa) (hx:=JSb) (hT:=JSb) (hd:=JSb) ?_;exact zk.1):p:=h ⟨zk⟩
theorem Qsg (zk:q) (h:ZwB q→p:=by intro zk;refine Xr ?_;refine Qg ?_;refine Qrg ?_;refine W9_ ?_;refine Qia ?_;exact zk.1):p:=h ⟨zk⟩
theorem Qtg (zk:q) (h:ZwB q→p:=by intro zk;refine W1_ ?_;refine X3v (hg:=JSa) (hx:=JSb) (hT:=JSb) (hd:=JSb) ?_;refine W2_ ?_;refine Qia ?_;exact zk.1):p:=h ⟨zk⟩
theorem Qug (zk:q) (h:ZwB q→p:=by intro zk;refine Zc (lb:=0) (hb:=xs.length+1) (m:=xs.length+1) (c':=c) (o':=0) ?_ (ho':=by exact s0);refine W9_ ?_;exact zk.1):p:=h ⟨zk⟩
theorem Qvg (zk:q) (h:ZwB q→p:=by intro zk;refine Xq (X0J 6 120 110 (xs.take i++v::xs.drop i) (by conv=>lhs;whnf) (by conv=>lhs;whnf) e4 hln hok hroom hc2 (by omega) rfl rfl) ?_;exact zk.1):p:=h ⟨zk⟩
theorem Qwg (zk:q) (h:ZwB q→p:=by intro zk;refine W1_ ?_;refine X3v (hg:=JSa) (hx:=JSb) (hT:=JSb) (hd:=JSb) ?_;refine W2_ ?_;refine Qe ?_;refine Zc (lb:=0) (hb:=i) (m:=i) (c':=c) (o':=0) ?_ (ho':=by exact s0);refine W2_ ?_;exact zk.1):p:=h ⟨zk⟩
theorem Qxg (zk:q) (h:ZwB q→p:=by intro zk;refine Xq (X0J 0 120 121 xs (by conv=>lhs;whnf) (by conv=>lhs;whnf) e6 rfl hz hc1 hc2 (by omega) rfl rfl) ?_;refine Xq (Yg 121 rfl) ?_;refine Xq (Yx 0 121 rfl rfl rfl) ?_;refine W3_ ?_;exact zk.1):p:=h ⟨zk⟩
theorem Qyg (zk:q) (h:ZwB q→p:=by intro zk;refine Xj ?_;refine Qrg ?_;exact zk.1):p:=h ⟨zk⟩
theorem Qzg (zk:q) (h:ZwB q→p:=by intro zk;refine W8_ ?_;refine Qg ?_;refine Qrg ?_;refine W6_ ?_;refine Zc (lb:=0) (hb:=i) (m:=i) (c':=c) (o':=0) ?_ (ho':=by exact s0);refine W2_ ?_;refine Zc (lb:=i+1) (hb:=xs.length) (m:=xs.length-(i+1)) (c':=c-(i+1)) (o':=off) ?_ (ho':=by exact ho);exact zk.1):p:=h ⟨zk⟩
theorem QAg (zk:q) (h:ZwB q→p:=by intro zk;refine W6_ ?_;refine Qrg ?_;refine W1_ ?_;exact zk.1):p:=h ⟨zk⟩
theorem QBg (zk:q) (h:ZwB q→p:=by intro zk;refine Xq (X0J 6 120 110 (xs.take i++xs.drop (i+1)) (by conv=>lhs;whnf) (by conv=>lhs;whnf) (e4 _) hln hok (by omega) hc2 (by simp only[List.length_append,List.length_take,List.length_drop,List.length_replicate];omega) rfl rfl) ?_;exact zk.1):p:=h ⟨zk⟩
theorem QCg (zk:q) (h:ZwB q→p:=by intro zk;refine W7_ ?_;refine JF ?_;refine XC ?_;refine Z5 (hcon:=hc) ?_;refine QYd ?_;refine W3_ ?_;exact zk.1):p:=h ⟨zk⟩
theorem QDg (h:p:=by refine Xj ?_;refine Z5 (hcon:=hc) ?_;refine W2_ ?_;refine QCa ?_;exact Qxf):p:=h
theorem QEg (h:p:=by refine Xj ?_;refine Z5 (hcon:=hc) ?_;refine W2_ ?_;refine Qg ?_;exact Qyf):p:=h
theorem QFg (zk:q) (h:ZwB q→p:=by intro zk;refine W5_ ?_;refine JF ?_;refine W1_ ?_;exact zk.1):p:=h ⟨zk⟩
theorem QGg (zk:q) (h:ZwB q→p:=by intro zk;refine Qhe ?_;refine Xi ?_;refine Z3 (hcon:=hz) ?_;exact zk.1):p:=h ⟨zk⟩
theorem QHg (zk:q) (h:ZwB q→p:=by intro zk;refine W1_ ?_;refine Qu ?_;refine QF ?_;refine JF ?_;refine W3_ ?_;refine Z3 (hcon:=hz) ?_;exact zk.1):p:=h ⟨zk⟩
theorem QIg (zk:q) (h:ZwB q→p:=by intro zk;refine W9_ ?_;refine Z3 (hcon:=hN) ?_;refine Xr ?_;refine Qg ?_;refine Z3 (hcon:=hm10) ?_;exact zk.1):p:=h ⟨zk⟩
theorem QJg (zk:q) (h:ZwB q→p:=by intro zk;refine X4Q (hg:=JSa) (hx:=JSb) (hL:=JSb) (hi:=JSb) (hn:=JSe) (hk:=JSr) (hlt:=JSs) (hT:=JSb) (hd:=JSb) ?_;exact zk.1):p:=h ⟨zk⟩
theorem QKg (zk:q) (h:ZwB q→p:=by intro zk;refine W5_ ?_;refine QCa ?_;refine QJg ?_;refine X8Y (q:=5) (ys:=[.v (.int .i64 y.1.id),.v (.int .i64 y.1.src),.v (.int .i64 y.1.dst),.v (.string (Xb y.1.typ)),.v y.2]) (hg:=JSa) (hx:=JSb) (hL:=JSb) (hn:=JSe) (h0:=JSs) (ht:=JSb) (hd:=JSb) ?_ (hb:=by exact hroom) (hys:=by exact hpart);exact zk.1):p:=h ⟨zk⟩
theorem QLg (zk:q) (h:ZwB q→p:=by intro zk;refine Zk (op:= .neq) (r':= .bool true) (u:= .int .i64 y.1.src) (v:= .int .i64 id) ?_ (hr':=by exact congrArg Value.bool (decide_eq_true n1));refine W5_ ?_;exact zk.1):p:=h ⟨zk⟩
theorem QMg (h:p:=by exact⟨_,St.le_refl _,trivial,Xn ⟨rfl,rfl,rfl,rfl,trivial⟩⟩):p:=h
theorem QNg (zk:q) (h:ZwB q→p:=by intro zk;refine VF (hg:=JSa) (hx:=JSb) (hL:=JSb) (ht:=JSb) (hd:=JSb) ?_ (hy:=by exact hrd0);exact zk.1):p:=h ⟨zk⟩
theorem QOg (zk:q) (h:ZwB q→p:=by intro zk;refine QNg ?_;refine W2_ ?_;refine Z3 (hcon:=hS) ?_;exact zk.1):p:=h ⟨zk⟩
theorem QPg (zk:q) (h:ZwB q→p:=by intro zk;refine W7_ ?_;refine Zh (sz:=3) ?_;refine Xr ?_;refine Qpd ?_;refine QOg ?_;exact zk.1):p:=h ⟨zk⟩
theorem QQg (zk:q) (h:ZwB q→p:=by intro zk;refine QNg ?_;refine W4_ ?_;exact zk.1):p:=h ⟨zk⟩
theorem QRg (zk:q) (h:ZwB q→p:=by intro zk;refine Xq (X3g 120 210 (i*3+1) 121 (A:=Y0 (xs.take i)) (B:=(v,6,x1.props.map Xh)::Y0 (xs.drop (i+1))) rfl (X2K _ hz3 hRi rfl) (Eq.trans (b:= .bag (Y0 xs)) (by conv=>lhs;whnf) (by rw[eB0])) rfl rfl) ?_;exact zk.1):p:=h ⟨zk⟩
theorem QSg (zk:q) (h:ZwB q→p:=by intro zk;refine W7_ ?_;refine Zh (sz:=3) ?_;refine Xr ?_;refine Qna ?_;exact zk.1):p:=h ⟨zk⟩
theorem QTg (zk:q) (h:ZwB q→p:=by intro zk;refine Xq (X3g 120 210 (i*3+2) 121 (A:=Y0 (xs.take i)++[(u,1,x1.labels.map Xl)]) (B:=Y0 (xs.drop (i+1))) rfl (X2K _ hz3 hRi rfl) (Eq.trans (b:= .bag (Y0 xs)) (by conv=>lhs;whnf) (by rw[eB0,List.append_assoc];rfl)) rfl rfl) ?_;exact zk.1):p:=h ⟨zk⟩
theorem QUg (zk:q) (h:ZwB q→p:=by intro zk;refine W9_ ?_;refine Z3 (hcon:=hE) ?_;refine XD ?_;refine Qe ?_;refine Z3 (hcon:=hm7) ?_;refine W6_ ?_;refine Z3 (hcon:=hNs) ?_;refine Xi ?_;refine Z3 (hcon:=hNd) ?_;exact zk.1):p:=h ⟨zk⟩
theorem QVg (zk:q) (h:ZwB q→p:=by intro zk;refine W9_ ?_;refine Z3 (hcon:=hE) ?_;refine Qha ?_;exact zk.1):p:=h ⟨zk⟩
theorem QWg (zk:q) (h:ZwB q→p:=by intro zk;refine Xq (X3g 120 211 (i*5+4) 121 (A:=YC (ys.take i)) (B:=YC (ys.drop (i+1))) rfl (X2K _ hz5 hRi rfl) (Eq.trans (b:= .bag (YC ys)) (by conv=>lhs;whnf) (by rw[eB0])) rfl rfl) ?_;exact zk.1):p:=h ⟨zk⟩
theorem QXg (zk:q) (h:ZwB q→p:=by intro zk;refine X0X 1 rfl (fun _=>rfl) ?_;refine W1_ ?_;exact zk.1):p:=h ⟨zk⟩
theorem QYg (zk:q) (h:ZwB q→p:=by intro zk;refine X2x ?_;refine W3_ ?_;refine Z3 (hcon:=hk) ?_;refine W7_ ?_;refine JF ?_;refine W1_ ?_;exact zk.1):p:=h ⟨zk⟩
theorem QZg (zk:q) (h:ZwB q→p:=by intro zk;refine X8D (T:=⟨21,[(0,.ptr 0 0),(3,.ptr 100 0),(4,.ptr 50 0)],[(0,.box [.own 3 g.nodes.length,.own 4 g.edges.length,ai g.nn,ai g.ne]),(3,.nest 3 (g.nodes.map cNN)),(4,.nest 5 (g.edges.map cNE)),(100,.box [ai op,ai id,ai src,ai dst,.d (.v (.string (Xb name))),ai k0,ai k1,ai k2,.d (.v (.string (Xb k3))),.d (.sl 5 (XU k4))]),(50,.box [ai 0])]⟩) (Xd rfl JM ⟨rfl,rfl,rfl,rfl,rfl,trivial⟩) ?_;refine X7L ?_;exact zk.1):p:=h ⟨zk⟩
theorem Qah (h:p:=by exact(show Leaves _ _ _ _ _ _ _ from XhL (β:=50) (t:=4) (ty:=29) (e:=e) (e0:=0) (x:={v:= .iface 164 (.int .i64 e),recovered:=true}) rfl hds' hb (by decide) rfl rfl rfl hconv rfl (fun p e0 w=>Xe0 p e e0 w) rfl rfl Xc8 hs)):p:=h
theorem Qbh (h:p:=by exact Xd rfl JM ⟨rfl,rfl,rfl,rfl,trivial⟩):p:=h
theorem Qch (zk:q) (h:ZwB q→p:=by intro zk;refine Xi ?_;refine Z3 (hcon:=hk) ?_;refine W7_ ?_;exact zk.1):p:=h ⟨zk⟩
theorem Qdh (zk:q) (h:ZwB q→p:=by intro zk;refine QHc ?_;refine QMd ?_;exact zk.1):p:=h ⟨zk⟩
theorem Qeh (h:p:=by exact⟨k+1,by omega,by omega,Xd rfl ⟨JL,JL,(by rw[hv1,hb];exact AVal.le_refl _),JL,trivial⟩ trivial⟩):p:=h
theorem Qfh (h:p:=by refine Qs ?_;refine Qv ?_;refine Qs ?_;refine Qv ?_;exact QB):p:=h
theorem Qgh (zk:q) (h:ZwB q→p:=by intro zk;refine Xi ?_;refine QQ ?_;refine QQ ?_;refine QQ ?_;exact zk.1):p:=h ⟨zk⟩
theorem Qhh (h:p:=by exact⟨i+1,⟨by omega,by omega,hnx⟩,by omega,Xd rfl ⟨JL,JL,trivial⟩ trivial⟩):p:=h
theorem Qih (zk:q) (h:ZwB q→p:=by intro zk;refine Qi ?_;refine W8_ ?_;refine QR ?_;refine QD ?_;exact zk.1):p:=h ⟨zk⟩
theorem Qjh (h:p:=by refine W8_ ?_;refine Qyd ?_;refine W1_ ?_;refine QL ?_;refine QUa ?_;refine Qv ?_;refine QVa ?_;exact QH):p:=h
theorem Qkh (zk:q) (h:ZwB q→p:=by intro zk;refine QW ?_;refine QVa ?_;refine Qs ?_;refine QW ?_;refine QY ?_;refine Qs ?_;refine Qe ?_;exact zk.1):p:=h ⟨zk⟩
theorem Qlh (zk:q) (h:ZwB q→p:=by intro zk;refine QU ?_;refine W8_ ?_;exact zk.1):p:=h ⟨zk⟩
theorem Qmh (zk:q) (h:ZwB q→p:=by intro zk;refine W4_ ?_;refine Quc ?_;refine QE ?_;refine QVb ?_;exact zk.1):p:=h ⟨zk⟩
theorem Qnh (zk:q) (h:ZwB q→p:=by intro zk;refine QNd ?_;refine W3_ ?_;refine QLd ?_;refine QUd ?_;exact zk.1):p:=h ⟨zk⟩
theorem Qoh (zk:q) (h:ZwB q→p:=by intro zk;refine W2_ ?_;refine Z3 (hcon:=hp) ?_;refine QUd ?_;exact zk.1):p:=h ⟨zk⟩
theorem Qph (zk:q) (h:ZwB q→p:=by intro zk;refine QL ?_;refine QX ?_;refine QY ?_;refine Qs ?_;refine Qe ?_;exact zk.1):p:=h ⟨zk⟩
theorem Qqh (zk:q) (h:ZwB q→p:=by intro zk;refine W1_ ?_;refine QL ?_;refine QP ?_;refine QL ?_;refine QZ ?_;exact zk.1):p:=h ⟨zk⟩
theorem Qrh (zk:q) (h:ZwB q→p:=by intro zk;refine QNd ?_;refine W1_ ?_;refine QL ?_;refine QVb ?_;refine Z3 (hcon:=hw) ?_;exact zk.1):p:=h ⟨zk⟩
theorem Qsh (h:p:=by exact Xd rfl ⟨JL,AVal.le_of_eq (by refine Eq.trans (b:=AVal.own 130 (_+_)) rfl ?_;simp only[List.length_append,List.length_map,List.length_cons,List.length_nil]),JL,trivial⟩ ⟨rfl,trivial⟩):p:=h
theorem Qth (zk:q) (h:ZwB q→p:=by intro zk;refine XC ?_;refine QP ?_;refine Qg ?_;refine Z3 (hcon:=hk) ?_;refine W6_ ?_;refine Z3 (hcon:=hc1) ?_;exact zk.1):p:=h ⟨zk⟩
theorem Quh (zk:q) (h:ZwB q→p:=by intro zk;refine Qth ?_;refine W3_ ?_;refine Z3 (hcon:=hc2) ?_;refine W1_ ?_;refine QZ ?_;refine Z3 (hcon:=hr1) ?_;exact zk.1):p:=h ⟨zk⟩
theorem Qvh (h:p:=by refine QRf ?_;refine XC ?_;refine Qia ?_;exact⟨i+1,⟨by omega,hg⟩,by omega,Xd rfl JM ⟨rfl,rfl,trivial⟩⟩):p:=h
theorem Qwh (h:p:=by exact X1 ⟨_,St.le_refl _,⟨⟨101,0,_,rfl,rfl,.inr ⟨3,_,rfl,rfl,rfl,rfl⟩⟩,rfl,trivial⟩,X2 _⟩):p:=h
theorem Qxh (zk:q) (h:ZwB q→p:=by intro zk;refine UY ?_;refine QL ?_;refine Qta ?_;refine QU ?_;refine Xr ?_;exact zk.1):p:=h ⟨zk⟩
theorem Qyh (h:p:=by refine Z3 (hcon:=hpc) ?_;exact Qq):p:=h
theorem Qzh (zk:q) (h:ZwB q→p:=by intro zk;refine Qxh ?_;refine QVb ?_;refine Z3 (hcon:=hs1) ?_;refine Xt ?_;refine Z3 (hcon:=hs2) ?_;exact zk.1):p:=h ⟨zk⟩
theorem QAh (zk:q) (h:ZwB q→p:=by intro zk;refine XA ?_;refine QVb ?_;refine Z3 (hcon:=hnm) ?_;exact zk.1):p:=h ⟨zk⟩
theorem QBh (zk:q) (h:ZwB q→p:=by intro zk;refine W4_ ?_;refine QDe ?_;refine Xr ?_;refine QVb ?_;refine Z3 (hcon:=hs1) ?_;refine Xt ?_;refine Z3 (hcon:=hs2) ?_;exact zk.1):p:=h ⟨zk⟩
theorem QCh (h:p:=by exact⟨i+1,⟨by omega,hg⟩,by omega,Xd rfl JM ⟨rfl,trivial⟩⟩):p:=h
theorem QDh (h:p:=by exact Xd rfl ⟨JL,JL,JL,AVal.le_of_eq (by refine Eq.trans (b:=AVal.own 130 (_+_)) rfl ?_;simp),JL,JL,trivial⟩ ⟨rfl,rfl,trivial⟩):p:=h
theorem QEh (zk:q) (h:ZwB q→p:=by intro zk;refine Qi ?_;refine XA ?_;refine X6 (op:= .geq) (u:= .string _) (v:= .string _) (hg:=JSa) (hx:=JSb) (hy:=JSb) (hr:=JSx) (h1:=JSb) (hd:=JSb) ?_;exact zk.1):p:=h ⟨zk⟩
theorem QFh (zk:q) (h:ZwB q→p:=by intro zk;refine QEh ?_;refine Qaf ?_;refine Z3 (hcon:=hnu) ?_;exact zk.1):p:=h ⟨zk⟩
theorem QGh (zk:q) (h:ZwB q→p:=by intro zk;refine Qof ?_;refine Xq (Yx 5 130 rfl rfl (by simp)) ?_;refine UY ?_;exact zk.1):p:=h ⟨zk⟩
theorem QHh (zk:q) (h:ZwB q→p:=by intro zk;refine QRf ?_;refine W9_ ?_;refine QL ?_;refine QW ?_;refine QU ?_;refine Xr ?_;exact zk.1):p:=h ⟨zk⟩
theorem QIh (h:p:=by exact Xd rfl ⟨JL,JL,JL,AVal.le_of_eq (by refine Eq.trans (b:=AVal.own 130 (_+_)) rfl ?_;simp),JL,JL,trivial⟩ ⟨rfl,rfl,rfl,rfl,trivial⟩):p:=h
theorem QJh (zk:q) (h:ZwB q→p:=by intro zk;refine QRf ?_;refine Us ?_;refine QKc ?_;refine X2a ?_;exact zk.1):p:=h ⟨zk⟩
theorem QKh (h:p:=by exact Xd rfl JM ⟨rfl,rfl,trivial⟩):p:=h
theorem QLh (zk:q) (h:ZwB q→p:=by intro zk;refine Zh (sz:=3) ?_;refine W1_ ?_;refine VF (hg:=JSa) (hx:=JSb) (hL:=JSb) (ht:=JSb) (hd:=JSb) ?_ (hy:=by exact hr1);exact zk.1):p:=h ⟨zk⟩
theorem QMh (zk:q) (h:ZwB q→p:=by intro zk;refine Xr ?_;refine Z3 (hcon:=hlb) ?_;refine XC ?_;exact zk.1):p:=h ⟨zk⟩
theorem QNh (h:p:=by exact⟨(i+1,out),⟨by simp only;omega,hg⟩,by simp only;omega,Xd rfl JM ⟨rfl,rfl,rfl,rfl,rfl,trivial⟩⟩):p:=h
theorem QOh (h:p:=by exact Xd rfl ⟨JL,JL,JL,JL,AVal.le_of_eq (by refine Eq.trans (b:=AVal.own 130 (_+_)) rfl ?_;simp only[List.length_append,List.length_map,List.length_cons,List.length_nil]),JL,trivial⟩ ⟨rfl,rfl,rfl,rfl,rfl,trivial⟩):p:=h
theorem QPh (zk:q) (h:ZwB q→p:=by intro zk;refine Qch ?_;refine Qia ?_;refine Z3 (hcon:=hN1) ?_;refine Xt ?_;refine Z3 (hcon:=hE) ?_;refine Yw ?_;exact zk.1):p:=h ⟨zk⟩
theorem QQh (zk:q) (h:ZwB q→p:=by intro zk;refine QPh ?_;refine Qpd ?_;refine Z3 (hcon:=hN2) ?_;refine Xt ?_;refine Z3 (hcon:=hN3) ?_;refine Xt ?_;refine Qed ?_;exact zk.1):p:=h ⟨zk⟩
theorem QRh (h:p:=by exact⟨(i+1,⟨ns',es',nn',ne'⟩),⟨by simp only;omega,hg',hr⟩,by simp only;omega,Xd rfl JM ⟨rfl,rfl,trivial⟩⟩):p:=h
theorem QSh (zk:q) (h:ZwB q→p:=by intro zk;refine W7_ ?_;refine Z3 (hcon:=hk) ?_;refine W8_ ?_;refine QNd ?_;refine Xi ?_;refine Z3 (hcon:=hi) ?_;exact zk.1):p:=h ⟨zk⟩
theorem QTh (zk:q) (h:ZwB q→p:=by intro zk;refine QSh ?_;refine QJc ?_;refine Qm ?_;refine QMd ?_;exact zk.1):p:=h ⟨zk⟩
theorem QUh (h:p:=by refine QSh ?_;refine QJc ?_;refine Qia ?_;refine QW ?_;refine QVb ?_;exact X1 ⟨_,XF 100 (cs':=[ai _,ai id,ai 0,ai 0,XH [],ai 0,ai 0,ai 0,XH [],.d (.sl 5 [])]) rfl JM rfl,⟨⟨100,0,_,rfl,rfl,.inr ⟨10,_,rfl,rfl,rfl,rfl⟩⟩,trivial⟩,Xn ⟨rfl,trivial⟩⟩):p:=h
theorem QVh (h:p:=by exact X1 ⟨_,XF 100 (cs':=[ai _,ai id,ai 0,ai 0,XH name,ai 0,ai 0,ai 0,XH [],.d (.sl 5 [])]) rfl JM rfl,⟨⟨100,0,_,rfl,rfl,.inr ⟨10,_,rfl,rfl,rfl,rfl⟩⟩,trivial⟩,Xn ⟨rfl,trivial⟩⟩):p:=h
theorem QWh (h:p:=by exact X1 ⟨_,St.le_refl _,⟨⟨100,0,_,rfl,rfl,.inr ⟨10,_,rfl,rfl,rfl,rfl⟩⟩,trivial⟩,Xn ⟨rfl,trivial⟩⟩):p:=h
theorem QXh (h:p:=by exact X1 ⟨_,XF 100 (cs':=[ai 0,ai 0,ai 0,ai 0,XH [],ai 0,ai 0,ai 0,XH [],.d (.sl 5 [])]) rfl JM rfl,⟨⟨100,0,_,rfl,rfl,.inr ⟨10,_,rfl,rfl,rfl,rfl⟩⟩,rfl,rfl,trivial⟩,X2 _⟩):p:=h
theorem QYh (h:p:=by exact X1 ⟨_,St.le_refl _,⟨⟨100,0,_,rfl,rfl,.inr ⟨10,_,rfl,rfl,rfl,rfl⟩⟩,rfl,rfl,trivial⟩,X2 _⟩):p:=h
theorem QZh (zk:q) (h:ZwB q→p:=by intro zk;refine Xj ?_;refine Z3 (hcon:=k0) ?_;refine W5_ ?_;refine Z3 (hcon:=ko) ?_;refine W4_ ?_;refine Z3 (hcon:=h1) ?_;exact zk.1):p:=h ⟨zk⟩
theorem Qai (zk:q) (h:ZwB q→p:=by intro zk;refine QZh ?_;refine W1_ ?_;refine Z3 (hcon:=h2) ?_;refine W6_ ?_;refine Z3 (hcon:=ks) ?_;exact zk.1):p:=h ⟨zk⟩
theorem Qbi (h:p:=by exact X1 ⟨_,St.le_trans (XF 101 (cs':=[.d (.sl 3 []),.d (.sl 5 []),ai 0,ai 0]) rfl JM rfl) (Xw 7 (y:=ai 0) (AVal.le_refl _)),⟨⟨101,0,_,rfl,rfl,.inr ⟨4,_,rfl,rfl,rfl,rfl⟩⟩,rfl,rfl,trivial⟩,X2 _⟩):p:=h
theorem Qci (h:p:=by refine QCd ?_;exact Qbi):p:=h
theorem Qdi (h:p:=by refine QNd ?_;refine W7_ ?_;exact Qci):p:=h
theorem Qei (h:p:=by refine St.le_trans (Yg 130 rfl) ?_;refine St.le_trans (Yx 12 130 rfl rfl rfl) ?_;exact Qng):p:=h
theorem Qfi (h:p:=by exact X1 ⟨_,St.le_refl _,⟨⟨101,0,_,rfl,rfl,.inr ⟨4,_,rfl,rfl,rfl,rfl⟩⟩,rfl,rfl,trivial⟩,X2 _⟩):p:=h
theorem Qgi (zk:q) (h:ZwB q→p:=by intro zk;refine W9_ ?_;refine QNd ?_;refine Xt ?_;exact zk.1):p:=h ⟨zk⟩
theorem Qhi (zk:q) (h:ZwB q→p:=by intro zk;refine Z9 (γ:=130) ?_;refine W2_ ?_;refine Z3 (hcon:=hpi) ?_;refine QJc ?_;refine Qia ?_;refine Qia ?_;exact zk.1):p:=h ⟨zk⟩
theorem Qii (zk:q) (h:ZwB q→p:=by intro zk;refine Z9 (γ:=130) ?_;refine W2_ ?_;refine Z3 (hcon:=hpi) ?_;refine QJc ?_;refine Qe ?_;exact zk.1):p:=h ⟨zk⟩
theorem Qji (zk:q) (h:ZwB q→p:=by intro zk;refine XA ?_;refine QVb ?_;refine Z3 (hcon:=hgc) ?_;refine W7_ ?_;exact zk.1):p:=h ⟨zk⟩
theorem Qki (zk:q) (h:ZwB q→p:=by intro zk;refine W9_ ?_;refine Z3 (hcon:=hk) ?_;refine W7_ ?_;exact zk.1):p:=h ⟨zk⟩
theorem Qli (zk:q) (h:ZwB q→p:=by intro zk;refine Qki ?_;refine QZb ?_;refine QR ?_;refine W1_ ?_;exact zk.1):p:=h ⟨zk⟩
theorem Qmi (zk:q) (h:ZwB q→p:=by intro zk;refine Xi ?_;refine Qyd ?_;refine Xi ?_;exact zk.1):p:=h ⟨zk⟩
theorem Qni (zk:q) (h:ZwB q→p:=by intro zk;refine XD ?_;refine QJd ?_;refine XC ?_;exact zk.1):p:=h ⟨zk⟩
theorem Qoi (h:p:=by exact X1 ⟨_,XF 100 (cs:=[ai 8,ai 0,ai 0,.d (.v (.string (Xb []))),ani]) (cs':=[ai 8,ai 0,ai 0,.d (.v (.string (Xb []))),.d (.sl 5 [])]) rfl ⟨AVal.le_refl _,AVal.le_refl _,AVal.le_refl _,AVal.le_refl _,AVal.le_nil 5,trivial⟩ rfl,⟨⟨100,0,_,rfl,rfl,.inr ⟨5,_,rfl,rfl,rfl,rfl⟩⟩,rfl,rfl,trivial⟩,X2 _⟩):p:=h
theorem Qpi (h:p:=by refine Qed ?_;exact Qef):p:=h
theorem Qqi (h:p:=by exact X1 ⟨_,XF 100 (cs:=[ai 7,ai 0,ai 0,.d (.v (.string (Xb []))),ani]) (cs':=[ai 7,ai 0,ai 0,.d (.v (.string (Xb []))),.d (.sl 5 [])]) rfl ⟨AVal.le_refl _,AVal.le_refl _,AVal.le_refl _,AVal.le_refl _,AVal.le_nil 5,trivial⟩ rfl,⟨⟨100,0,_,rfl,rfl,.inr ⟨5,_,rfl,rfl,rfl,rfl⟩⟩,rfl,rfl,trivial⟩,X2 _⟩):p:=h
theorem Qri (zk:q) (h:ZwB q→p:=by intro zk;refine Za (op:= .rem) (r':= .int .i64 ((N%2:Nat):Int)) (u:= .int .i64 N) (v:= .int .i64 2) ?_ (hr':=by exact congrArg (Value.int .i64) (show((N:Int)%2)=((N%2:Nat):Int) by omega));exact zk.1):p:=h ⟨zk⟩
theorem Qsi (zk:q) (h:ZwB q→p:=by intro zk;refine Qea ?_;refine Qe ?_;refine QLd ?_;refine X2a ?_;exact zk.1):p:=h ⟨zk⟩
theorem Qti (zk:q) (h:ZwB q→p:=by intro zk;refine Qw ?_;refine QUa ?_;refine Qv ?_;refine Qx ?_;refine Qu ?_;exact zk.1):p:=h ⟨zk⟩
theorem Qui (zk:q) (h:ZwB q→p:=by intro zk;refine W5_ ?_;refine Za (op:= .rem) (r':= .int .i64 ((i%2:Nat):Int)) (u:= .int .i64 i) (v:= .int .i64 2) ?_ (hr':=by exact congrArg (Value.int .i64) (show((i:Int)%2)=((i%2:Nat):Int) by omega));exact zk.1):p:=h ⟨zk⟩
theorem Qvi (zk:q) (h:ZwB q→p:=by intro zk;refine QSc ?_;refine Qag ?_;refine Yw ?_;exact zk.1):p:=h ⟨zk⟩
theorem Qwi (zk:q) (h:ZwB q→p:=by intro zk;refine QSc ?_;refine Qag ?_;refine UY ?_;refine Qcb ?_;refine W4_ ?_;refine Qsa ?_;exact zk.1):p:=h ⟨zk⟩
theorem Qxi (zk:q) (h:ZwB q→p:=by intro zk;refine Qxe ?_;refine W4_ ?_;refine Qsa ?_;exact zk.1):p:=h ⟨zk⟩
theorem Qyi (h:p:=by refine XA ?_;refine QCd ?_;exact Qbf):p:=h
theorem Qzi (h:p:=by refine QI ?_;refine Qlh ?_;refine Z3 (hcon:=hcall) ?_;exact Qyi):p:=h
theorem QAi (zk:q) (h:ZwB q→p:=by intro zk;refine QI ?_;refine Qlh ?_;refine Z3 (hcon:=hcall) ?_;refine QDd ?_;refine Z3 (hcon:=hvalid) ?_;refine W2_ ?_;exact zk.1):p:=h ⟨zk⟩
theorem QBi (zk:q) (h:ZwB q→p:=by intro zk;refine Qvi ?_;refine Qxe ?_;refine Qui ?_;refine QYd ?_;refine W3_ ?_;refine Qcb ?_;refine Qui ?_;refine QUd ?_;exact zk.1):p:=h ⟨zk⟩
theorem QCi (zk:q) (h:ZwB q→p:=by intro zk;refine Qvi ?_;refine Qxe ?_;refine Qui ?_;refine QUd ?_;refine Qxe ?_;refine Qui ?_;refine QYd ?_;refine W3_ ?_;refine Qr ?_;refine Qlh ?_;refine Z3 (hcon:=hcall) ?_;exact zk.1):p:=h ⟨zk⟩
theorem QDi (h:p:=by refine Xr ?_;refine Qb ?_;exact Qwh):p:=h
theorem QEi (h:p:=by refine Qje ?_;exact Qwh):p:=h
theorem QFi (h:p:=by exact X1 ⟨_,St.le_refl _,⟨⟨101,0,_,rfl,rfl,.inr ⟨3,_,rfl,rfl,rfl,rfl⟩⟩,⟨102,0,_,rfl,rfl,.inr ⟨5,_,rfl,rfl,rfl,rfl⟩⟩,trivial⟩,X2 _⟩):p:=h
theorem QGi (zk:q) (h:ZwB q→p:=by intro zk;refine Xr ?_;refine Z3 (hcon:=hk) ?_;refine XA ?_;refine Z3 (hcon:=hi) ?_;refine Us ?_;refine Qc ?_;refine QNd ?_;refine W1_ ?_;exact zk.1):p:=h ⟨zk⟩
theorem QHi (h:p:=by exact X1 ⟨_,XF 100 (cs':=[.d (Xk B),.d (Xk []),ai 4,ai 0,ai 2]) rfl JM rfl,⟨rfl,trivial⟩,Xn ⟨rfl,trivial⟩⟩):p:=h
theorem QIi (zk:q) (h:ZwB q→p:=by intro zk;refine Z3 (hcon:=ha) ?_;refine Qz ?_;exact zk.1):p:=h ⟨zk⟩
theorem QJi (h:p:=by exact⟨_,rfl,Xcp hW' rfl rfl rfl rfl rfl Tryz.underlying4 hk kids full (by decide+kernel)⟩):p:=h
theorem QKi (zk:q) (h:ZwB q→p:=by intro zk;refine W9_ ?_;refine Z3 (hcon:=hval) ?_;refine Qzd ?_;exact zk.1):p:=h ⟨zk⟩
theorem QLi (zk:q) (h:ZwB q→p:=by intro zk;refine Z9 (γ:=130) ?_;refine XA ?_;exact zk.1):p:=h ⟨zk⟩
theorem QMi (zk:q) (h:ZwB q→p:=by intro zk;refine Qof ?_;refine Xq (Yx 2 130 rfl rfl (by first|rfl|(simp only[List.length_append,List.length_map,List.length_cons,List.length_nil]<;>omega))) ?_;exact zk.1):p:=h ⟨zk⟩
theorem QNi (zk:q) (h:ZwB q→p:=by intro zk;refine Qhe ?_;refine Qzd ?_;exact zk.1):p:=h ⟨zk⟩
theorem QOi (zk:q) (h:ZwB q→p:=by intro zk;refine Z9 (γ:=130) ?_;refine W7_ ?_;refine Z3 (hcon:=hpi) ?_;refine Xj ?_;refine Qia ?_;refine QNd ?_;exact zk.1):p:=h ⟨zk⟩
theorem QPi (zk:q) (h:ZwB q→p:=by intro zk;refine Qof ?_;refine Xq (Yx 2 130 rfl rfl (by first|rfl|(simp only[List.length_append,List.length_map,List.length_cons,List.length_nil]<;>omega)|fail)) ?_;exact zk.1):p:=h ⟨zk⟩
theorem QQi (zk:q) (h:ZwB q→p:=by intro zk;refine Z3 (hcon:=hw) ?_;refine QFc ?_;refine QPi ?_;exact zk.1):p:=h ⟨zk⟩
theorem QRi (zk:q) (h:ZwB q→p:=by intro zk;refine QOi ?_;refine Qce ?_;refine Z3 (hcon:=hpn) ?_;refine W8_ ?_;exact zk.1):p:=h ⟨zk⟩
theorem QSi (zk:q) (h:ZwB q→p:=by intro zk;refine Z1 (op:= .sub) (r':= .int .i64 W) (u:= .int .i64 ts) (v:= .int .i64 (i:Nat)) ?_ (hr':=by exact congrArg (Value.int .i64) hW) (hr:=by exact XaK);exact zk.1):p:=h ⟨zk⟩
theorem QTi (zk:q) (h:ZwB q→p:=by intro zk;refine W9_ ?_;refine Z3 (hcon:=hsm) ?_;refine Qzd ?_;refine Z3 (hcon:=h1) ?_;exact zk.1):p:=h ⟨zk⟩
end
end Go.Fw
