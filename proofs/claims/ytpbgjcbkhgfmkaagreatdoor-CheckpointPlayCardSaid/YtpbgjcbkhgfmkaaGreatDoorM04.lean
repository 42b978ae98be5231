/- Steps of a walk with the usual proofs of their side goals. -/
import Derived.Test.YtpbgjcbkhgfmkaaGreatDoorM03
namespace Go.Fw
open Go List
variable{p:Prop}{Li Lo:List (Nat×AObj)}{args:Array Operand}{bytes c1 c2 hb lb m n n' n1 n2 o1 o2 sz β γ:Nat}{cs cs':List (Option D)}{f:FuncId}{hi lo:Option Operand}{ho:Option (Nat×AVal)}{kd:IntKind}{op:BinOp}{r u v:Value}{res:AVal}{c x y:Operand}{xs ys:List (List D)}{zs:List Value}{P:Program}{fn:Func}{rs:List ResultVar}{b draw:Bool}{ops:Array Oper}{o:Option Tmp}
theorem JAa (h:p:=by exact(by(first|((exact True.intro))|((exact⟨rfl,rfl⟩))|((exact⟨rfl,CG ab (by(first|((rfl))|((assumption))|((simp only[LM,LT,LA,decide_eq_true_eq,decide_eq_false_iff_not,ne_eq,Classical.not_not];omega))|((simp<;>fail))|((simp[*]<;>fail))|((simp;omega))|fail))⟩))|fail))):p:=h
theorem JAb (h:p:=by(first|((omega))|((simp;omega))|((assumption))|fail)):p:=h
theorem JAc (h:p:=by(first|((omega))|((simp only[LM,LT,LD,LA,LC,length_nil,length_replicate,length_set]<;>omega))|((simp;omega))|((simp at*;omega))|fail)):p:=h
theorem JAd (h:p:=by(first|((rfl))|((assumption))|((simp only[LM,LT,LA,decide_eq_true_eq,decide_eq_false_iff_not,ne_eq,Classical.not_not];omega))|((simp<;>fail))|((simp[*]<;>fail))|((simp;omega))|fail)):p:=h
theorem JAe (h:p:=by(first|((exact rfl))|((simp<;>fail))|((simp only[LM,LT,LD,LA,LC,length_nil,length_replicate,length_set]<;>omega))|((assumption))|fail)):p:=h
theorem JAf (h:p:=by(first|((exact rfl))|((omega))|((assumption))|((simp;omega))|fail)):p:=h
theorem JAg (h:p:=by(repeat (first|exact trivial|refine⟨rfl,?_⟩|fail))<;>fail):p:=h
theorem JAh (h:p:=by(first|((exact rfl))|((exact(show(0:Int)=((0:Nat):Int) from rfl)))|fail)):p:=h
set_option linter.unusedVariables false
theorem JSE (h:p:=by(first|((exact⟨rfl,rfl⟩))|((exact⟨rfl,CG ab (by(first|((rfl))|((assumption))|((simp only[LM,LT,LA,decide_eq_true_eq,decide_eq_false_iff_not,ne_eq,Classical.not_not];omega))|((simp<;>fail))|((simp[*]<;>fail))|((simp;omega))|fail))⟩))|fail)):p:=h
theorem JSD (h:p:=by(first|((trivial))|((exact rfl))|fail)):p:=h
theorem JSC (h:p:=by exact(by(first|((rfl))|((assumption))|((simp only[LM,LT,LA,decide_eq_true_eq,decide_eq_false_iff_not,ne_eq,Classical.not_not];omega))|((simp<;>fail))|((simp[*]<;>fail))|((simp;omega))|fail))):p:=h
theorem JSB (h:p:=by exact XoF (by unfold X2i;(first|((omega))|((simp;omega))|fail))):p:=h
theorem JSA (h:p:=by exact X71 (by unfold X2i;(first|((omega))|((simp;omega))|fail))):p:=h
theorem JSz (h:p:=by exact XgJ (by unfold X2i;(first|((omega))|((simp;omega))|fail))):p:=h
theorem JSy (h:p:=by exact Xd4 (by omega) (by omega)):p:=h
theorem JSx (h:p:=by exact Xsx rfl):p:=h
theorem JSw (h:p:=by exact Xwy):p:=h
theorem JSv (h:p:=by exact XhS):p:=h
theorem JSu (h:p:=by exact Xx2 rfl):p:=h
theorem JSt (h:p:=by exact XrH):p:=h
theorem JSs (h:p:=by exact XkP):p:=h
theorem JSr (h:p:=by exact Xpg):p:=h
theorem JSq (h:p:=by exact Xxz):p:=h
theorem JSp (h:p:=by exact XvJ):p:=h
theorem JSo (h:p:=by exact Xnf):p:=h
theorem JSn (h:p:=by(first|((exact XM (by assumption)))|((assumption))|((exact rfl))|fail)):p:=h
theorem JSl (h:p:=by decide):p:=h
theorem JSk (h:p:=by exact Xu5):p:=h
theorem JSj (h:p:=by exact XuG):p:=h
theorem JSi (h:p:=by exact XvE):p:=h
theorem JSh (h:p:=by exact JAb):p:=h
theorem JSg (h:p:=by exact JAh):p:=h
theorem JSf (h:p:=by(first|((exact Xj2))|((exact XgX))|fail)):p:=h
theorem JSe (h:p:=by exact JAe):p:=h
theorem JSd (h:p:=by exact JAc):p:=h
theorem JSc (h:p:=by conv=>lhs;whnf):p:=h
theorem JSb (h:p:=by exact rfl):p:=h
theorem JSa (h:p:=by exact JAa):p:=h
section
variable {P:Program}{ops:Array Oper}{draw:Bool}{K:XW->St->Prop}{rest:List Oper}{l:XW}{S:St}
variable {d:Nat}{ty:TypeId}{pos:String}{ah:Array Edge}{gd:Option (Nat×Bool)}
theorem Z0 {src dst:TypeId} (hr:∀w,(convert src dst u).run P w= .ok r w) (h:Walk P ops draw K rest ((l.length,⟨some d,.convert src dst x,ty,pos,ah,gd⟩,⟨XF ops gd++[(x,.d (.v u))],some (d,.d (.v r)),[],[],[]⟩)::l) (S.set d (.d (.v r)))) (hg:XH ops S gd:=by exact JAa) (hx:S.ev x= .d (.v u):=by exact rfl) (h1:r.oneCell'=true:=by exact rfl) (hd:Nat.blt d S.n=true:=by exact rfl):Walk P ops draw K (⟨some d,.convert src dst x,ty,pos,ah,gd⟩::rest) l S:=XmM (hx:=hx) (hr:=hr) (h1:=h1) (hd:=hd) (hg:=hg) (h:=h)
theorem Z1 {xt yt:TypeId} (r':Value) (hr':r=r') (hr:∀w,(do eqGuard op xt x y u v;binOp op xt u v:Sem Value).run P w= .ok r w) (h:Walk P ops draw K rest ((l.length,⟨some d,.binOp op xt x y yt,ty,pos,ah,gd⟩,⟨XF ops gd++[(x,.d (.v u)),(y,.d (.v v))],some (d,.d (.v r')),[],[],[]⟩)::l) (S.set d (.d (.v r')))) (hg:XH ops S gd:=by exact JAa) (hx:S.ev x= .d (.v u):=by exact rfl) (hy:S.ev y= .d (.v v):=by exact rfl) (h1:r'.oneCell'=true:=by exact rfl) (hd:Nat.blt d S.n=true:=by exact rfl):Walk P ops draw K (⟨some d,.binOp op xt x y yt,ty,pos,ah,gd⟩::rest) l S:=X3q (r':=r') (hr':=hr') (hx:=hx) (hy:=hy) (hr:=hr) (h1:=h1) (hd:=hd) (hg:=hg) (h:=h)
theorem Z2 {xt yt:TypeId} (r':Value) (hr:∀w,(do eqGuard op xt x y u v;binOp op xt u v:Sem Value).run P w= .ok r w) (h:Walk P ops draw K rest ((l.length,⟨some d,.binOp op xt x y yt,ty,pos,ah,gd⟩,⟨XF ops gd++[(x,.d (.v u)),(y,.d (.v v))],some (d,.d (.v r')),[],[],[]⟩)::l) (S.set d (.d (.v r')))) (hg:XH ops S gd:=by exact JAa) (hr':r=r':=by exact rfl) (hx:S.ev x= .d (.v u):=by exact rfl) (hy:S.ev y= .d (.v v):=by exact rfl) (h1:r'.oneCell'=true:=by exact rfl) (hd:Nat.blt d S.n=true:=by exact rfl):Walk P ops draw K (⟨some d,.binOp op xt x y yt,ty,pos,ah,gd⟩::rest) l S:=X3q (r':=r') (hr':=hr') (hx:=hx) (hy:=hy) (hr:=hr) (h1:=h1) (hd:=hd) (hg:=hg) (h:=h)
theorem Z3 {tys:Array TypeId}{xs:List Operand}{ys zs:List AVal} (af:Con P f Li zs Lo res) (h:Walk P ops draw K rest ((l.length,⟨some d,.call ⟨.value (.func f),args,tys⟩,ty,pos,ah,gd⟩,⟨XF ops gd++X5N xs ys,some (d,res),Li++X48 (X0f Li Lo),Lo,X0f Li Lo⟩)::l)
   ((S.set d res).cat Lo)) (hg:XH ops S gd:=by exact JAa) (hxs:args.toList=xs:=by exact rfl) (hys:evA S xs=ys:=by conv=>lhs;whnf) (hle:leL ys zs:=by((repeat (first|exact trivial|refine⟨(by(first|((exact AVal.le_refl _))|((exact AVal.le_nil _))|((refine AVal.le_agg ?_;((repeat (first|exact trivial|refine⟨(by(first|((exact AVal.le_refl _))|((exact AVal.le_nil _))|((refine AVal.le_of_eq ?_;(conv=>lhs;whnf);(first|((rfl))|((simp<;>fail))|fail)))|fail)),?_⟩|fail))<;>fail)))|((refine AVal.le_of_eq ?_;(conv=>lhs;whnf);(first|((rfl))|((simp<;>fail))|fail)))|fail)),?_⟩|fail))<;>fail)) (hf:X2J P f=true:=by exact rfl) (bH:Vq S Li:=by exact JAg) (hin:X4A Li Lo=true:=by exact rfl) (dM:X4k Lo Lo=true:=by exact rfl) (hres:res.within Lo=true:=by exact rfl) (hnew:X2R S (X0f Li Lo):=by exact JAg) (av:Vq S (X48 (X0f Li Lo)):=by exact JAg) (hd:Nat.blt d S.n=true:=by exact rfl):Walk P ops draw K (⟨some d,.call ⟨.value (.func f),args,tys⟩,ty,pos,ah,gd⟩::rest) l S:=XuT (hxs:=hxs) (hys:=hys) (hle:=hle) (af:=af) (hf:=hf) (bH:=bH) (hin:=hin) (dM:=dM) (hres:=hres) (hnew:=hnew) (av:=av) (hd:=hd) (hg:=hg) (h:=h)
theorem Z4 {op:UnOp}{xt:TypeId} (hr:∀w,(Op.unary op u).run P w= .ok r w) (h:Walk P ops draw K rest ((l.length,⟨some d,.unOp op xt x,ty,pos,ah,gd⟩,⟨XF ops gd++[(x,.d (.v u))],some (d,.d (.v r)),[],[],[]⟩)::l) (S.set d (.d (.v r)))) (hg:XH ops S gd:=by exact JAa) (hx:S.ev x= .d (.v u):=by exact rfl) (h1:r.oneCell'=true:=by exact rfl) (hd:Nat.blt d S.n=true:=by exact rfl):Walk P ops draw K (⟨some d,.unOp op xt x,ty,pos,ah,gd⟩::rest) l S:=Xl5 (hx:=hx) (hr:=hr) (h1:=h1) (hd:=hd) (hg:=hg) (h:=h)
theorem Z5 {t:Tmp}{caps:List AVal}{tys:Array TypeId}{xs:List Operand}{ys zs:List AVal} (af:Con P f Li zs Lo res) (h:Walk P ops draw K rest ((l.length,⟨some d,.call ⟨.value (.tmp t),args,tys⟩,ty,pos,ah,gd⟩,⟨XF ops gd++((.tmp t,.fn f caps)::X5N xs ys),some (d,res),Li++X48 (X0f Li Lo),Lo,X0f Li Lo⟩)::l)
   ((S.set d res).cat Lo)) (hg:XH ops S gd:=by exact JAa) (ht:S.ev (.tmp t)= .fn f caps:=by exact rfl) (hxs:args.toList=xs:=by exact rfl) (hys:evA S xs=ys:=by conv=>lhs;whnf) (hle:leL (ys++caps) zs:=by((repeat (first|exact trivial|refine⟨(by(first|((exact AVal.le_refl _))|((exact AVal.le_nil _))|((refine AVal.le_agg ?_;((repeat (first|exact trivial|refine⟨(by(first|((exact AVal.le_refl _))|((exact AVal.le_nil _))|((refine AVal.le_of_eq ?_;(conv=>lhs;whnf);(first|((rfl))|((simp<;>fail))|fail)))|fail)),?_⟩|fail))<;>fail)))|((refine AVal.le_of_eq ?_;(conv=>lhs;whnf);(first|((rfl))|((simp<;>fail))|fail)))|fail)),?_⟩|fail))<;>fail)) (hf:X2J P f=true:=by exact rfl) (bH:Vq S Li:=by exact JAg) (hin:X4A Li Lo=true:=by exact rfl) (dM:X4k Lo Lo=true:=by exact rfl) (hres:res.within Lo=true:=by exact rfl) (hnew:X2R S (X0f Li Lo):=by exact JAg) (av:Vq S (X48 (X0f Li Lo)):=by exact JAg) (hd:Nat.blt d S.n=true:=by exact rfl):Walk P ops draw K (⟨some d,.call ⟨.value (.tmp t),args,tys⟩,ty,pos,ah,gd⟩::rest) l S:=XpD (ht:=ht) (hxs:=hxs) (hys:=hys) (hle:=hle) (af:=af) (hf:=hf) (bH:=bH) (hin:=hin) (dM:=dM) (hres:=hres) (hnew:=hnew) (av:=av) (hd:=hd) (hg:=hg) (h:=h)
theorem Z6 {T:TypeId} (hys:(xs.take hb).drop lb=ys) (h:Walk P ops draw K rest ((l.length,⟨some d,.slice T x lo hi none,ty,pos,ah,gd⟩,⟨XF ops gd++((x,.d (.sl sz xs))::(X2N lo lb++X2N hi hb)),some (d,.d (.sl sz ys)),[],[],[]⟩)::l) (S.set d (.d (.sl sz ys)))) (hg:XH ops S gd:=by exact JAa) (hx:S.ev x= .d (.sl sz xs):=by exact rfl) (hlo:X90 S lo lb:=by(first|((trivial))|((exact rfl))|fail)) (hhi:X99 S xs.length hi hb:=by(first|((trivial))|((exact rfl))|fail)) (c8:lb<=hb:=by exact JAb) (hh:hb<=xs.length:=by exact JAb) (hT:UF P T sz=true:=by exact rfl) (hd:Nat.blt d S.n=true:=by exact rfl):Walk P ops draw K (⟨some d,.slice T x lo hi none,ty,pos,ah,gd⟩::rest) l S:=XsY (hx:=hx) (hlo:=hlo) (hhi:=hhi) (c8:=c8) (hh:=hh) (hys:=hys) (hT:=hT) (hd:=hd) (hg:=hg) (h:=h)
theorem Z7 {T:TypeId}{lo hi mx:Operand}{mb:Nat} (hys:(xs.take hb).drop lb=ys) (h:Walk P ops draw K rest ((l.length,⟨some d,.slice T x (some lo) (some hi) (some mx),ty,pos,ah,gd⟩,⟨XF ops gd++[(x,.d (.sl sz xs)),(lo,ai lb),(hi,ai hb),(mx,ai mb)],some (d,.d (.sl sz ys)),[],[],[]⟩)::l) (S.set d (.d (.sl sz ys)))) (hg:XH ops S gd:=by exact JAa) (hx:S.ev x= .d (.sl sz xs):=by exact rfl) (hlo:S.ev lo=ai lb:=by exact rfl) (hhi:S.ev hi=ai hb:=by exact rfl) (cN:S.ev mx=ai mb:=by exact rfl) (c8:lb<=hb:=by exact JAb) (hh:hb<=mb:=by exact JAb) (hm:mb<=xs.length:=by exact JAb) (hT:UF P T sz=true:=by exact rfl) (hd:Nat.blt d S.n=true:=by exact rfl):Walk P ops draw K (⟨some d,.slice T x (some lo) (some hi) (some mx),ty,pos,ah,gd⟩::rest) l S:=Xru (hx:=hx) (hlo:=hlo) (hhi:=hhi) (cN:=cN) (c8:=c8) (hh:=hh) (hm:=hm) (hys:=hys) (hT:=hT) (hd:=hd) (hg:=hg) (h:=h)
theorem Z8 {T:TypeId}{len:Nat}{parts:Array (Nat×Operand)}{pl:List (Nat×Operand)}{ps:List (Nat×AVal)}{out:List AVal} (h:Walk P ops draw K rest ((l.length,⟨some d,.buildSlice T len parts,ty,pos,ah,gd⟩,⟨XF ops gd++X39 pl ps,some (d,.own γ len),[(γ,.dead)],[(γ,.row sz xs)],[γ]⟩)::l) ((S.set d (.own γ len)).own γ (.row sz xs))) (hg:XH ops S gd:=by exact JAa) (bf:parts.toList=pl:=by exact rfl) (hps:evL S pl=ps:=by conv=>lhs;whnf) (hz:X2K P T=some zs:=by exact rfl) (hS:zs.length=sz:=by conv=>lhs;whnf) (hT:UF P T sz=true:=by exact rfl) (hzl:Nat.beq zs.length sz=true:=by exact rfl) (bR:X1x (Vn zs len)=true:=by exact rfl) (hsmall:Nat.ble (len*sz) 16777216=true:=by exact rfl) (aK:Nat.ble len 16777216=true:=by exact rfl) (hout:X4d (fun i=>some (i*sz,sz)) (dvL (Vn zs len)) ps=some out:=by conv=>lhs;whnf) (hxs:X4R sz len out=some xs:=by conv=>lhs;whnf) (av:S.obj γ= .dead:=by exact rfl) (hf:S.free γ=true:=by exact rfl) (hd:Nat.blt d S.n=true:=by exact rfl):Walk P ops draw K (⟨some d,.buildSlice T len parts,ty,pos,ah,gd⟩::rest) l S:=Xuk (bf:=bf) (hps:=hps) (hz:=hz) (hS:=hS) (hT:=hT) (hzl:=hzl) (bR:=bR) (hsmall:=hsmall) (aK:=aK) (hout:=hout) (hxs:=hxs) (av:=av) (hf:=hf) (hd:=hd) (hg:=hg) (h:=h)
theorem Z9 {xt yt:TypeId} (r':Value) (hr':r=r') (h:Walk P ops draw K rest ((l.length,⟨some d,.binOp op xt x y yt,ty,pos,ah,gd⟩,⟨XF ops gd++[(x,.d (.v u)),(y,.d (.v v))],some (d,.d (.v r')),[],[],[]⟩)::l) (S.set d (.d (.v r')))) (hg:XH ops S gd:=by exact JAa) (hx:S.ev x= .d (.v u):=by exact rfl) (hy:S.ev y= .d (.v v):=by exact rfl) (hr:∀w,(do eqGuard op xt x y u v;binOp op xt u v:Sem Value).run P w= .ok r w:=by exact Xd4 (by omega) (by omega)) (h1:r'.oneCell'=true:=by exact rfl) (hd:Nat.blt d S.n=true:=by exact rfl):Walk P ops draw K (⟨some d,.binOp op xt x y yt,ty,pos,ah,gd⟩::rest) l S:=X3q (r':=r') (hr':=hr') (hx:=hx) (hy:=hy) (hr:=hr) (h1:=h1) (hd:=hd) (hg:=hg) (h:=h)
theorem Za {T T2:TypeId} (h:Walk P ops draw K rest ((l.length,⟨some d,.call ⟨.builtin .append,#[x,y],#[T,T2]⟩,ty,pos,ah,gd⟩,⟨XF ops gd++[(x,.own γ n),(y,.d (.sl sz ys))],some (d,.d (.sl sz (xs++ys))),[(γ,.row sz xs)],[(γ,.froz sz (xs++ys))],[]⟩)::l)
   ((S.set d (.d (.sl sz (xs++ys)))).own γ (.froz sz (xs++ys)))) (hg:XH ops S gd:=by exact JAa) (hx:S.ev x= .own γ n:=by exact rfl) (hL:S.obj γ= .row sz xs:=by exact rfl) (hy:S.ev y= .d (.sl sz ys):=by exact rfl) (hn:n=xs.length:=by exact JAe) (hB:elB P T=bytes:=by conv=>lhs;whnf) (hT:X1b P T sz bytes=true:=by exact rfl) (bN:X4b P T2=true:=by exact rfl) (hb0:Nat.beq bytes 0=false:=by exact rfl) (hroom:(xs.length+ys.length)*bytes<=140737488355328:=by exact JAc) (hd:Nat.blt d S.n=true:=by exact rfl):Walk P ops draw K (⟨some d,.call ⟨.builtin .append,#[x,y],#[T,T2]⟩,ty,pos,ah,gd⟩::rest) l S:=Xq6 (hx:=hx) (hL:=hL) (hy:=hy) (hn:=hn) (hB:=hB) (hT:=hT) (bN:=bN) (hb0:=hb0) (hroom:=hroom) (hd:=hd) (hg:=hg) (h:=h)
theorem Zb {T T2:TypeId} (hne:ys≠[]) (h:Walk P ops draw K rest ((l.length,⟨some d,.call ⟨.builtin .append,#[x,y],#[T,T2]⟩,ty,pos,ah,gd⟩,⟨XF ops gd++[(x,.dx sz xs),(y,.d (.sl sz ys))],some (d,.own γ (xs.length+ys.length)),[(γ,.dead)],[(γ,.row sz (xs++ys))],[γ]⟩)::l) ((S.set d (.own γ (xs.length+ys.length))).own γ (.row sz (xs++ys)))) (hg:XH ops S gd:=by exact JAa) (hx:S.ev x= .dx sz xs:=by exact rfl) (hy:S.ev y= .d (.sl sz ys):=by exact rfl) (hB:elB P T=bytes:=by conv=>lhs;whnf) (hT:X1b P T sz bytes=true:=by exact rfl) (bN:cm P T2=true:=by exact rfl) (hb0:Nat.beq bytes 0=false:=by exact rfl) (hroom:(xs.length+ys.length)*bytes<=140737488355328:=by exact JAc) (av:S.obj γ= .dead:=by exact rfl) (hf:S.free γ=true:=by exact rfl) (hd:Nat.blt d S.n=true:=by exact rfl):Walk P ops draw K (⟨some d,.call ⟨.builtin .append,#[x,y],#[T,T2]⟩,ty,pos,ah,gd⟩::rest) l S:=Xrr (hx:=hx) (hy:=hy) (hne:=hne) (hB:=hB) (hT:=hT) (bN:=bN) (hb0:=hb0) (hroom:=hroom) (av:=av) (hf:=hf) (hd:=hd) (hg:=hg) (h:=h)
theorem Zc {T:TypeId}{o c o' c':Nat} (ho':(if c=lb then o else o+lb*sz)=o') (h:Walk P ops draw K rest ((l.length,⟨some d,.slice T x lo hi none,ty,pos,ah,gd⟩,⟨XF ops gd++((x,.rs β o n c)::(X2N lo lb++X2N hi hb)),some (d,.rs β o' m c'),[],[],[]⟩)::l) (S.set d (.rs β o' m c'))) (hg:XH ops S gd:=by exact JAa) (hx:S.ev x= .rs β o n c:=by exact rfl) (hlo:X90 S lo lb:=by(first|((trivial))|((exact rfl))|fail)) (hhi:X99 S n hi hb:=by(first|((trivial))|((exact rfl))|fail)) (c8:lb<=hb:=by exact JAb) (hh:hb<=c:=by exact JAb) (hm:hb-lb=m:=by exact JAf) (jP:c-lb=c':=by exact JAf) (hT:UF P T sz=true:=by exact rfl) (hd:Nat.blt d S.n=true:=by exact rfl):Walk P ops draw K (⟨some d,.slice T x lo hi none,ty,pos,ah,gd⟩::rest) l S:=XnS (hx:=hx) (hlo:=hlo) (hhi:=hhi) (c8:=c8) (hh:=hh) (hm:=hm) (jP:=jP) (ho':=ho') (hT:=hT) (hd:=hd) (hg:=hg) (h:=h)
theorem Zd {T T2:TypeId} (hc:X0S ((cs.drop o2).take (m*sz))=true) (hcs:cs.take o1++(cs.drop o2).take (m*sz)++cs.drop (o1+m*sz)=cs') (h:Walk P ops draw K rest ((l.length,⟨some d,.call ⟨.builtin .copy,#[x,y],#[T,T2]⟩,ty,pos,ah,gd⟩,⟨XF ops gd++[(x,.rs β o1 n1 c1),(y,.rs β o2 n2 c2)],some (d,ai m),[(β,.raw cs none)],[(β,.raw cs' none)],[]⟩)::l)
   ⟨S.n,(d,ai m)::S.τ,(β,.raw cs' none)::S.L⟩) (hg:XH ops S gd:=by exact JAa) (hx:S.ev x= .rs β o1 n1 c1:=by exact rfl) (hy:S.ev y= .rs β o2 n2 c2:=by exact rfl) (hL:S.obj β= .raw cs none:=by exact rfl) (hm:m=min n2 n1:=by exact JAf) (h2:o2+m*sz<=cs.length:=by exact JAb) (h1:o1+m*sz<=cs.length:=by exact JAb) (hT:UF P T sz=true:=by exact rfl) (hd:Nat.blt d S.n=true:=by exact rfl):Walk P ops draw K (⟨some d,.call ⟨.builtin .copy,#[x,y],#[T,T2]⟩,ty,pos,ah,gd⟩::rest) l S:=Xos (hx:=hx) (hy:=hy) (hL:=hL) (hm:=hm) (hc:=hc) (h2:=h2) (h1:=h1) (hcs:=hcs) (hT:=hT) (hd:=hd) (hg:=hg) (h:=h)
theorem Ze {yv:AVal}{T T2:TypeId} (hcs:cs.take o1++(ys.take m).flatten.map some++cs.drop (o1+m*sz)=cs') (h:Walk P ops draw K rest ((l.length,⟨some d,.call ⟨.builtin .copy,#[x,y],#[T,T2]⟩,ty,pos,ah,gd⟩,⟨XF ops gd++[(x,.rs β o1 n1 c1),(y,yv)],some (d,ai m),[(β,.raw cs none)],[(β,.raw cs' none)],[]⟩)::l)
   ⟨S.n,(d,ai m)::S.τ,(β,.raw cs' none)::S.L⟩) (hg:XH ops S gd:=by exact JAa) (hx:S.ev x= .rs β o1 n1 c1:=by exact rfl) (hL:S.obj β= .raw cs none:=by exact rfl) (hy:S.ev y=yv:=by exact rfl) (hsrc:SrcV P yv sz ys:=by(first|((exact Xj2))|((exact XgX))|fail)) (hm:m=min ys.length n1:=by exact JAf) (h1:o1+m*sz<=cs.length:=by exact JAb) (hT:UF P T sz=true:=by exact rfl) (hd:Nat.blt d S.n=true:=by exact rfl):Walk P ops draw K (⟨some d,.call ⟨.builtin .copy,#[x,y],#[T,T2]⟩,ty,pos,ah,gd⟩::rest) l S:=Xr0 (hx:=hx) (hL:=hL) (hy:=hy) (hsrc:=hsrc) (hm:=hm) (h1:=h1) (hcs:=hcs) (hT:=hT) (hd:=hd) (hg:=hg) (h:=h)
theorem Zf {T T2:TypeId} (hxs:cs.take (n1*sz)=xs.flatten.map some) (hxl:xs.length=n1) (hxz:∀r∈xs,r.length=sz) (h:Walk P ops draw K rest ((l.length,⟨some d,.call ⟨.builtin .append,#[x,y],#[T,T2]⟩,ty,pos,ah,gd⟩,⟨XF ops gd++[(x,.rs β 0 n1 c1),(y,.d (.v (.int kd (m:Nat))))],some (d,.own γ n'),[(β,.raw cs none),(γ,.dead)],[(γ,.row sz (xs++replicate m (zD zs)))],[γ]⟩)::l)
   ((S.set d (.own γ n')).own γ (.row sz (xs++replicate m (zD zs))))) (hg:XH ops S gd:=by exact JAa) (hx:S.ev x= .rs β 0 n1 c1:=by exact rfl) (hy:S.ev y= .d (.v (.int kd (m:Nat))):=by exact rfl) (hL:S.obj β= .raw cs none:=by exact rfl) (hfull:¬n1+m<=c1:=by exact JAb) (hn':n1+m=n':=by exact JAf) (hm:0<m:=by exact JAb) (hle:n1*sz<=cs.length:=by exact JAb) (hz:X2K P T=some zs:=by exact rfl) (hB:elB P T=bytes:=by conv=>lhs;whnf) (hT:X1b P T sz bytes=true:=by exact rfl) (bN:XaD P T2=true:=by exact rfl) (hb0:Nat.beq bytes 0=false:=by exact rfl) (hs0:Nat.beq sz 0=false:=by exact rfl) (hcap:n'*bytes<=70368744177664:=by exact JAb) (hold:c1<n':=by exact JAb) (av:S.obj γ= .dead:=by exact rfl) (hf:S.free γ=true:=by exact rfl) (hd:Nat.blt d S.n=true:=by exact rfl):Walk P ops draw K (⟨some d,.call ⟨.builtin .append,#[x,y],#[T,T2]⟩,ty,pos,ah,gd⟩::rest) l S:=Xut (hx:=hx) (hy:=hy) (hL:=hL) (hfull:=hfull) (hn':=hn') (hm:=hm) (hxs:=hxs) (hxl:=hxl) (hxz:=hxz) (hle:=hle) (hz:=hz) (hB:=hB) (hT:=hT) (bN:=bN) (hb0:=hb0) (hs0:=hs0) (hcap:=hcap) (hold:=hold) (av:=av) (hf:=hf) (hd:=hd) (hg:=hg) (h:=h)
theorem Zg {T T2:TypeId} (hc:X0S ((cs.drop o2).take (n2*sz))=true) (hcs:cs.take (o1+n1*sz)++(cs.drop o2).take (n2*sz)++cs.drop (o1+n1*sz+n2*sz)=cs') (h:Walk P ops draw K rest ((l.length,⟨some d,.call ⟨.builtin .append,#[x,y],#[T,T2]⟩,ty,pos,ah,gd⟩,⟨XF ops gd++[(x,.rs β o1 n1 c1),(y,.rs β o2 n2 c2)],some (d,.rs β o1 n' c1),[(β,.raw cs none)],[(β,.raw cs' none)],[]⟩)::l)
   ((S.set d (.rs β o1 n' c1)).own β (.raw cs' none))) (hg:XH ops S gd:=by exact JAa) (hx:S.ev x= .rs β o1 n1 c1:=by exact rfl) (hy:S.ev y= .rs β o2 n2 c2:=by exact rfl) (hL:S.obj β= .raw cs none:=by exact rfl) (hroom:n1+n2<=c1:=by exact JAb) (hn':n1+n2=n':=by exact JAf) (h2:o2+n2*sz<=cs.length:=by exact JAb) (h1:o1+n1*sz+n2*sz<=cs.length:=by exact JAb) (hB:elB P T=bytes:=by conv=>lhs;whnf) (hT:X1b P T sz bytes=true:=by exact rfl) (bN:X4b P T2=true:=by exact rfl) (hd:Nat.blt d S.n=true:=by exact rfl):Walk P ops draw K (⟨some d,.call ⟨.builtin .append,#[x,y],#[T,T2]⟩,ty,pos,ah,gd⟩::rest) l S:=XuK (hx:=hx) (hy:=hy) (hL:=hL) (hroom:=hroom) (hn':=hn') (hc:=hc) (h2:=h2) (h1:=h1) (hcs:=hcs) (hB:=hB) (hT:=hT) (bN:=bN) (hd:=hd) (hg:=hg) (h:=h)
theorem Zh {i:Operand}{T:TypeId}{o c k p:Nat}{m:Int} (h:Walk P ops draw K rest ((l.length,⟨some d,.indexAddr T x i,ty,pos,ah,gd⟩,⟨XF ops gd++[(x,.rs β o n c),(i,.d (.v (.int kd m)))],some (d,.ptr β p),[],[],[]⟩)::l) (S.set d (.ptr β p))) (hg:XH ops S gd:=by exact JAa) (hx:S.ev x= .rs β o n c:=by exact rfl) (hi:S.ev i= .d (.v (.int kd m)):=by exact rfl) (hk:m=(k:Nat):=by exact JAh) (hlt:k<n:=by exact JAb) (hp:o+k*sz=p:=by exact rfl) (hT:UF P T sz=true:=by exact rfl) (hd:Nat.blt d S.n=true:=by exact rfl):Walk P ops draw K (⟨some d,.indexAddr T x i,ty,pos,ah,gd⟩::rest) l S:=XvP (hx:=hx) (hi:=hi) (hk:=hk) (hlt:=hlt) (hp:=hp) (hT:=hT) (hd:=hd) (hg:=hg) (h:=h)
theorem Zi {t:TypeId}{v:Operand}{o:Nat}{ho':Option (Nat×AVal)}{y:AVal} (hcs:Yi cs' ho'=(Yi cs ho).take o++y.parts++(Yi cs ho).drop (o+y.parts.length)) (h:Walk P ops draw K rest ((l.length,⟨none,.store t x v,ty,pos,ah,gd⟩,⟨XF ops gd++[(x,.ptr γ o),(v,y)],none,[(γ,.raw cs ho)],[(γ,.raw cs' ho')],[]⟩)::l)
   (S.own γ (.raw cs' ho'))) (hg:XH ops S gd:=by exact JAa) (hx:S.ev x= .ptr γ o:=by exact rfl) (hL:S.obj γ= .raw cs ho:=by exact rfl) (hv:S.ev v=y:=by conv=>lhs;whnf) (hc:X2H y.parts=true:=by exact rfl) (ht:X6o P t y.parts.length=true:=by exact rfl) (hb:o+y.parts.length<=cs.length:=by exact JAb):Walk P ops draw K (⟨none,.store t x v,ty,pos,ah,gd⟩::rest) l S:=Xp1 (hx:=hx) (hL:=hL) (hv:=hv) (hc:=hc) (ht:=ht) (hb:=hb) (hcs:=hcs) (hg:=hg) (h:=h)
theorem Zj {xt yt:TypeId} (r':Value) (hr':r=r') (h:Walk P ops draw K rest ((l.length,⟨some d,.binOp op xt x y yt,ty,pos,ah,gd⟩,⟨XF ops gd++[(x,.d (.v u)),(y,.d (.v v))],some (d,.d (.v r')),[],[],[]⟩)::l) (S.set d (.d (.v r')))) (hg:XH ops S gd:=by exact JAa) (hx:S.ev x= .d (.v u):=by exact rfl) (hy:S.ev y= .d (.v v):=by exact rfl) (hr:∀w,(do eqGuard op xt x y u v;binOp op xt u v:Sem Value).run P w= .ok r w:=by exact Xnf) (h1:r'.oneCell'=true:=by exact rfl) (hd:Nat.blt d S.n=true:=by exact rfl):Walk P ops draw K (⟨some d,.binOp op xt x y yt,ty,pos,ah,gd⟩::rest) l S:=X3q (r':=r') (hr':=hr') (hx:=hx) (hy:=hy) (hr:=hr) (h1:=h1) (hd:=hd) (hg:=hg) (h:=h)
theorem Zk {xt yt:TypeId} (r':Value) (hr':r=r') (h:Walk P ops draw K rest ((l.length,⟨some d,.binOp op xt x y yt,ty,pos,ah,gd⟩,⟨XF ops gd++[(x,.d (.v u)),(y,.d (.v v))],some (d,.d (.v r')),[],[],[]⟩)::l) (S.set d (.d (.v r')))) (hg:XH ops S gd:=by exact JAa) (hx:S.ev x= .d (.v u):=by exact rfl) (hy:S.ev y= .d (.v v):=by exact rfl) (hr:∀w,(do eqGuard op xt x y u v;binOp op xt u v:Sem Value).run P w= .ok r w:=by exact XhS) (h1:r'.oneCell'=true:=by exact rfl) (hd:Nat.blt d S.n=true:=by exact rfl):Walk P ops draw K (⟨some d,.binOp op xt x y yt,ty,pos,ah,gd⟩::rest) l S:=X3q (r':=r') (hr':=hr') (hx:=hx) (hy:=hy) (hr:=hr) (h1:=h1) (hd:=hd) (hg:=hg) (h:=h)
theorem Zl {xt yt:TypeId} (r':Value) (hr':r=r') (h:Walk P ops draw K rest ((l.length,⟨some d,.binOp op xt x y yt,ty,pos,ah,gd⟩,⟨XF ops gd++[(x,.d (.v u)),(y,.d (.v v))],some (d,.d (.v r')),[],[],[]⟩)::l) (S.set d (.d (.v r')))) (hg:XH ops S gd:=by exact JAa) (hx:S.ev x= .d (.v u):=by exact rfl) (hy:S.ev y= .d (.v v):=by exact rfl) (hr:∀w,(do eqGuard op xt x y u v;binOp op xt u v:Sem Value).run P w= .ok r w:=by exact XkP) (h1:r'.oneCell'=true:=by exact rfl) (hd:Nat.blt d S.n=true:=by exact rfl):Walk P ops draw K (⟨some d,.binOp op xt x y yt,ty,pos,ah,gd⟩::rest) l S:=X3q (r':=r') (hr':=hr') (hx:=hx) (hy:=hy) (hr:=hr) (h1:=h1) (hd:=hd) (hg:=hg) (h:=h)
theorem Zm {t:TypeId}{o:Nat}{ys:List AVal} (hy:((Yi cs ho).drop o).take sz=ys) (h:Walk P ops draw K rest ((l.length,⟨some d,.load t x,ty,pos,ah,gd⟩,⟨XF ops gd++[(x,.ptr γ o)],some (d,.agg ys),[(γ,.raw cs ho)],[],[]⟩)::l) (S.set d (.agg ys))) (hg:XH ops S gd:=by exact JAa) (hx:S.ev x= .ptr γ o:=by exact rfl) (hL:S.obj γ= .raw cs ho:=by exact rfl) (ht:X1g P t true sz=true:=by exact rfl) (hlen:ys.length=sz:=by exact rfl) (hd:Nat.blt d S.n=true:=by exact rfl):Walk P ops draw K (⟨some d,.load t x,ty,pos,ah,gd⟩::rest) l S:=Xso (hx:=hx) (hL:=hL) (ht:=ht) (hy:=hy) (hlen:=hlen) (hd:=hd) (hg:=hg) (h:=h)
theorem Zo {op:UnOp}{xt:TypeId} (h:Walk P ops draw K rest ((l.length,⟨some d,.unOp op xt x,ty,pos,ah,gd⟩,⟨XF ops gd++[(x,.d (.v u))],some (d,.d (.v r)),[],[],[]⟩)::l) (S.set d (.d (.v r)))) (hg:XH ops S gd:=by exact JAa) (hx:S.ev x= .d (.v u):=by exact rfl) (hr:∀w,(Op.unary op u).run P w= .ok r w:=by(first|((exact Xwu))|((exact Xil (by omega)))|fail)) (h1:r.oneCell'=true:=by exact rfl) (hd:Nat.blt d S.n=true:=by exact rfl):Walk P ops draw K (⟨some d,.unOp op xt x,ty,pos,ah,gd⟩::rest) l S:=Xl5 (hx:=hx) (hr:=hr) (h1:=h1) (hd:=hd) (hg:=hg) (h:=h)
theorem Zp {src dst:TypeId} (h:Walk P ops draw K rest ((l.length,⟨some d,.convert src dst x,ty,pos,ah,gd⟩,⟨XF ops gd++[(x,.d (.v u))],some (d,.d (.v r)),[],[],[]⟩)::l) (S.set d (.d (.v r)))) (hg:XH ops S gd:=by exact JAa) (hx:S.ev x= .d (.v u):=by exact rfl) (hr:∀w,(convert src dst u).run P w= .ok r w:=by(first|((exact Xx0 rfl rfl))|((exact rc_in64 rfl rfl (by omega)))|fail)) (h1:r.oneCell'=true:=by exact rfl) (hd:Nat.blt d S.n=true:=by exact rfl):Walk P ops draw K (⟨some d,.convert src dst x,ty,pos,ah,gd⟩::rest) l S:=XmM (hx:=hx) (hr:=hr) (h1:=h1) (hd:=hd) (hg:=hg) (h:=h)
end
section
variable {P:Program}{E:Env}{S:St}{Q:Exit->St->Prop}
theorem JD {K:XW->St->Prop}{l:XW} (k:K l S) (h:draw=true->X6J ops l=true:=by(first|exact fun h=>Bool.noConfusion h|exact fun _=>rfl|fail)):Walk P ops draw K [] l S:= .done h k
theorem JR {id:Nat} (h:Walk P ops draw (fun _=>Q .normal) ops.toList [] S) (hm:P.follows .mixedOrders=true:=by kernel_rfl):AWP P E (.region id ops draw) S Q:=Xvp hm h
theorem JT {x y:Code} (h:AWP P E x S Q) (hc:S.ev c= .d (.v (.bool b)):=by rfl) (hb:b=true:=by exact JAd):AWP P E (.cond c x y) S Q:=XsF hc hb h
theorem JF {x y:Code} (h:AWP P E y S Q) (hc:S.ev c= .d (.v (.bool b)):=by rfl) (hb:b=false:=by exact JAd):AWP P E (.cond c x y) S Q:=Xtx hc hb h
end
theorem JL (h:p:=by(first|((exact AVal.le_refl _))|((exact AVal.le_nil _))|((refine AVal.le_agg ?_;((repeat (first|exact trivial|refine⟨(by(first|((exact AVal.le_refl _))|((exact AVal.le_nil _))|((refine AVal.le_of_eq ?_;(conv=>lhs;whnf);(first|((rfl))|((simp<;>fail))|fail)))|fail)),?_⟩|fail))<;>fail)))|((refine AVal.le_of_eq ?_;(conv=>lhs;whnf);(first|((rfl))|((simp<;>fail))|fail)))|fail)):p:=h
theorem JM (h:p:=by((repeat (first|exact trivial|refine⟨(by(first|((exact AVal.le_refl _))|((exact AVal.le_nil _))|((refine AVal.le_agg ?_;((repeat (first|exact trivial|refine⟨(by(first|((exact AVal.le_refl _))|((exact AVal.le_nil _))|((refine AVal.le_of_eq ?_;(conv=>lhs;whnf);(first|((rfl))|((simp<;>fail))|fail)))|fail)),?_⟩|fail))<;>fail)))|((refine AVal.le_of_eq ?_;(conv=>lhs;whnf);(first|((rfl))|((simp<;>fail))|fail)))|fail)),?_⟩|fail))<;>fail)):p:=h
section
variable {P:Program}{ops:Array Oper}{draw:Bool}{K:XW->St->Prop}{rest:List Oper}{l:XW}{S:St}
variable {d:Nat}{ty:TypeId}{pos:String}{ah:Array Edge}{gd:Option (Nat×Bool)}
theorem ZBa {xt yt:TypeId} (a b z:Int) (h:Walk P ops draw K rest ((l.length,⟨some d,.binOp .add xt x y yt,ty,pos,ah,gd⟩,⟨XF ops gd++[(x,.d (.v (.int .i64 a))),(y,.d (.v (.int .i64 b)))],some (d,.d (.v (.int .i64 z))),[],[],[]⟩)::l) (S.set d (.d (.v (.int .i64 z))))) (e:a+b=z:=by omega) (hc:X2i (a+b):=by unfold X2i;omega) (hg:XH ops S gd:=by exact JAa) (hx:S.ev x= .d (.v (.int .i64 a)):=by exact rfl) (hy:S.ev y= .d (.v (.int .i64 b)):=by exact rfl) (hd:Nat.blt d S.n=true:=by exact rfl):Walk P ops draw K (⟨some d,.binOp .add xt x y yt,ty,pos,ah,gd⟩::rest) l S:=X3q (r':= .int .i64 z) (hr':=CG (Value.int .i64) e) (hx:=hx) (hy:=hy) (hr:=XgJ hc) (h1:=rfl) (hd:=hd) (hg:=hg) (h:=h)
theorem ZBs {xt yt:TypeId} (a b z:Int) (h:Walk P ops draw K rest ((l.length,⟨some d,.binOp .sub xt x y yt,ty,pos,ah,gd⟩,⟨XF ops gd++[(x,.d (.v (.int .i64 a))),(y,.d (.v (.int .i64 b)))],some (d,.d (.v (.int .i64 z))),[],[],[]⟩)::l) (S.set d (.d (.v (.int .i64 z))))) (e:a-b=z:=by omega) (hc:X2i (a-b):=by unfold X2i;omega) (hg:XH ops S gd:=by exact JAa) (hx:S.ev x= .d (.v (.int .i64 a)):=by exact rfl) (hy:S.ev y= .d (.v (.int .i64 b)):=by exact rfl) (hd:Nat.blt d S.n=true:=by exact rfl):Walk P ops draw K (⟨some d,.binOp .sub xt x y yt,ty,pos,ah,gd⟩::rest) l S:=X3q (r':= .int .i64 z) (hr':=CG (Value.int .i64) e) (hx:=hx) (hy:=hy) (hr:=X71 hc) (h1:=rfl) (hd:=hd) (hg:=hg) (h:=h)
theorem ZBA {xt yt:TypeId} (a b:Nat) (h:Walk P ops draw K rest ((l.length,⟨some d,.binOp .add xt x y yt,ty,pos,ah,gd⟩,⟨XF ops gd++[(x,.d (.v (.int .i64 (a:Nat)))),(y,.d (.v (.int .i64 (b:Nat))))],some (d,.d (.v (.int .i64 ((a+b:Nat):Int)))),[],[],[]⟩)::l) (S.set d (.d (.v (.int .i64 ((a+b:Nat):Int)))))) (hc:a+b<2^X0K .i64:=by rw[YO];omega) (hg:XH ops S gd:=by exact JAa) (hx:S.ev x= .d (.v (.int .i64 (a:Nat))):=by exact rfl) (hy:S.ev y= .d (.v (.int .i64 (b:Nat))):=by exact rfl) (hd:Nat.blt d S.n=true:=by exact rfl):Walk P ops draw K (⟨some d,.binOp .add xt x y yt,ty,pos,ah,gd⟩::rest) l S:=X3q (r':= .int .i64 ((a+b:Nat):Int)) (hr':=rfl) (hx:=hx) (hy:=hy) (hr:=X1s hc) (h1:=rfl) (hd:=hd) (hg:=hg) (h:=h)
theorem ZBM {xt yt:TypeId} (a b:Nat) (h:Walk P ops draw K rest ((l.length,⟨some d,.binOp .mul xt x y yt,ty,pos,ah,gd⟩,⟨XF ops gd++[(x,.d (.v (.int .i64 (a:Nat)))),(y,.d (.v (.int .i64 (b:Nat))))],some (d,.d (.v (.int .i64 ((a*b:Nat):Int)))),[],[],[]⟩)::l) (S.set d (.d (.v (.int .i64 ((a*b:Nat):Int)))))) (hc:a*b<2^X0K .i64:=by rw[YO];omega) (hg:XH ops S gd:=by exact JAa) (hx:S.ev x= .d (.v (.int .i64 (a:Nat))):=by exact rfl) (hy:S.ev y= .d (.v (.int .i64 (b:Nat))):=by exact rfl) (hd:Nat.blt d S.n=true:=by exact rfl):Walk P ops draw K (⟨some d,.binOp .mul xt x y yt,ty,pos,ah,gd⟩::rest) l S:=X3q (r':= .int .i64 ((a*b:Nat):Int)) (hr':=rfl) (hx:=hx) (hy:=hy) (hr:=X4j hc) (h1:=rfl) (hd:=hd) (hg:=hg) (h:=h)
theorem ZBq {xt yt:TypeId} (a b:Nat) (h:Walk P ops draw K rest ((l.length,⟨some d,.binOp .quo xt x y yt,ty,pos,ah,gd⟩,⟨XF ops gd++[(x,.d (.v (.int .i64 (a:Nat)))),(y,.d (.v (.int .i64 (b:Nat))))],some (d,.d (.v (.int .i64 ((a/b:Nat):Int)))),[],[],[]⟩)::l) (S.set d (.d (.v (.int .i64 ((a/b:Nat):Int)))))) (hb:b≠0:=by omega) (hc:a<2^X0K .i64:=by rw[YO];omega) (hg:XH ops S gd:=by exact JAa) (hx:S.ev x= .d (.v (.int .i64 (a:Nat))):=by exact rfl) (hy:S.ev y= .d (.v (.int .i64 (b:Nat))):=by exact rfl) (hd:Nat.blt d S.n=true:=by exact rfl):Walk P ops draw K (⟨some d,.binOp .quo xt x y yt,ty,pos,ah,gd⟩::rest) l S:=X3q (r':= .int .i64 ((a/b:Nat):Int)) (hr':=rfl) (hx:=hx) (hy:=hy) (hr:=X2m hb hc) (h1:=rfl) (hd:=hd) (hg:=hg) (h:=h)
end
section
variable {P:Program}{ops:Array Oper}{draw:Bool}{K:XW->St->Prop}{rest:List Oper}{l:XW}{S:St}
variable {d:Nat}{ty:TypeId}{pos:String}{ah:Array Edge}{gd:Option (Nat×Bool)}
theorem JGa {a1:_} (h:Walk P ops draw K (⟨o,.move a1,ty,pos,ah,gd⟩::rest) l S):Walk P ops draw K (⟨o,.move a1,ty,pos,ah,gd⟩::rest) l S:=h
theorem JGb {a1:_}{a2:_} (h:Walk P ops draw K (⟨o,.load a1 a2,ty,pos,ah,gd⟩::rest) l S):Walk P ops draw K (⟨o,.load a1 a2,ty,pos,ah,gd⟩::rest) l S:=h
theorem JGc {a1:_} (h:Walk P ops draw K (⟨o,.assign a1,ty,pos,ah,gd⟩::rest) l S):Walk P ops draw K (⟨o,.assign a1,ty,pos,ah,gd⟩::rest) l S:=h
theorem JGd {a1:_}{a2:_}{a3:_} (h:Walk P ops draw K (⟨o,.fieldAddr a1 a2 a3,ty,pos,ah,gd⟩::rest) l S):Walk P ops draw K (⟨o,.fieldAddr a1 a2 a3,ty,pos,ah,gd⟩::rest) l S:=h
theorem JGe {a1:_}{a2:_} (h:Walk P ops draw K (⟨o,.call ⟨.builtin .len,a1,a2⟩,ty,pos,ah,gd⟩::rest) l S):Walk P ops draw K (⟨o,.call ⟨.builtin .len,a1,a2⟩,ty,pos,ah,gd⟩::rest) l S:=h
theorem JGf {a1:_}{a2:_}{a3:_}{a4:_} (h:Walk P ops draw K (⟨o,.binOp .lss a1 a2 a3 a4,ty,pos,ah,gd⟩::rest) l S):Walk P ops draw K (⟨o,.binOp .lss a1 a2 a3 a4,ty,pos,ah,gd⟩::rest) l S:=h
theorem JGg {a1:_}{a2:_}{a3:_}{a4:_} (h:Walk P ops draw K (⟨o,.binOp .leq a1 a2 a3 a4,ty,pos,ah,gd⟩::rest) l S):Walk P ops draw K (⟨o,.binOp .leq a1 a2 a3 a4,ty,pos,ah,gd⟩::rest) l S:=h
theorem JGh {a1:_}{a2:_}{a3:_}{a4:_} (h:Walk P ops draw K (⟨o,.binOp .gtr a1 a2 a3 a4,ty,pos,ah,gd⟩::rest) l S):Walk P ops draw K (⟨o,.binOp .gtr a1 a2 a3 a4,ty,pos,ah,gd⟩::rest) l S:=h
theorem JGi {a1:_}{a2:_}{a3:_}{a4:_} (h:Walk P ops draw K (⟨o,.binOp .geq a1 a2 a3 a4,ty,pos,ah,gd⟩::rest) l S):Walk P ops draw K (⟨o,.binOp .geq a1 a2 a3 a4,ty,pos,ah,gd⟩::rest) l S:=h
theorem JGj {a1:_}{a2:_}{a3:_}{a4:_} (h:Walk P ops draw K (⟨o,.binOp .eql a1 a2 a3 a4,ty,pos,ah,gd⟩::rest) l S):Walk P ops draw K (⟨o,.binOp .eql a1 a2 a3 a4,ty,pos,ah,gd⟩::rest) l S:=h
theorem JGk {a1:_}{a2:_}{a3:_}{a4:_} (h:Walk P ops draw K (⟨o,.binOp .neq a1 a2 a3 a4,ty,pos,ah,gd⟩::rest) l S):Walk P ops draw K (⟨o,.binOp .neq a1 a2 a3 a4,ty,pos,ah,gd⟩::rest) l S:=h
theorem JGl {a1:_}{a2:_}{a3:_}{a4:_} (h:Walk P ops draw K (⟨o,.binOp .rem a1 a2 a3 a4,ty,pos,ah,gd⟩::rest) l S):Walk P ops draw K (⟨o,.binOp .rem a1 a2 a3 a4,ty,pos,ah,gd⟩::rest) l S:=h
theorem JGm {a1:_}{a2:_}{a3:_}{a4:_} (h:Walk P ops draw K (⟨o,.binOp .add a1 a2 a3 a4,ty,pos,ah,gd⟩::rest) l S):Walk P ops draw K (⟨o,.binOp .add a1 a2 a3 a4,ty,pos,ah,gd⟩::rest) l S:=h
theorem JGn {a1:_}{a2:_}{a3:_}{a4:_} (h:Walk P ops draw K (⟨o,.binOp .sub a1 a2 a3 a4,ty,pos,ah,gd⟩::rest) l S):Walk P ops draw K (⟨o,.binOp .sub a1 a2 a3 a4,ty,pos,ah,gd⟩::rest) l S:=h
theorem JGo {a1:_}{a2:_}{a3:_}{a4:_} (h:Walk P ops draw K (⟨o,.binOp .mul a1 a2 a3 a4,ty,pos,ah,gd⟩::rest) l S):Walk P ops draw K (⟨o,.binOp .mul a1 a2 a3 a4,ty,pos,ah,gd⟩::rest) l S:=h
theorem JGp {a1:_}{a2:_}{a3:_} (h:Walk P ops draw K (⟨o,.indexAddr a1 a2 a3,ty,pos,ah,gd⟩::rest) l S):Walk P ops draw K (⟨o,.indexAddr a1 a2 a3,ty,pos,ah,gd⟩::rest) l S:=h
theorem JGq {a1:_}{a2:_} (h:Walk P ops draw K (⟨o,.extract a1 a2,ty,pos,ah,gd⟩::rest) l S):Walk P ops draw K (⟨o,.extract a1 a2,ty,pos,ah,gd⟩::rest) l S:=h
theorem JGr {a1:_} (h:Walk P ops draw K (⟨o,.nilCheck a1,ty,pos,ah,gd⟩::rest) l S):Walk P ops draw K (⟨o,.nilCheck a1,ty,pos,ah,gd⟩::rest) l S:=h
theorem JGs {a1:_}{a2:_}{a3:_} (h:Walk P ops draw K (⟨o,.store a1 a2 a3,ty,pos,ah,gd⟩::rest) l S):Walk P ops draw K (⟨o,.store a1 a2 a3,ty,pos,ah,gd⟩::rest) l S:=h
theorem JGt {a1:_}{a2:_} (h:Walk P ops draw K (⟨o,.box a1 a2,ty,pos,ah,gd⟩::rest) l S):Walk P ops draw K (⟨o,.box a1 a2,ty,pos,ah,gd⟩::rest) l S:=h
theorem JGu {a1:_} (h:Walk P ops draw K (⟨o,.alloc a1,ty,pos,ah,gd⟩::rest) l S):Walk P ops draw K (⟨o,.alloc a1,ty,pos,ah,gd⟩::rest) l S:=h
theorem JGv {a1:_}{a2:_}{a3:_} (h:Walk P ops draw K (⟨o,.unOp a1 a2 a3,ty,pos,ah,gd⟩::rest) l S):Walk P ops draw K (⟨o,.unOp a1 a2 a3,ty,pos,ah,gd⟩::rest) l S:=h
theorem JGw {a1:_}{a2:_} (h:Walk P ops draw K (⟨o,.build a1 a2,ty,pos,ah,gd⟩::rest) l S):Walk P ops draw K (⟨o,.build a1 a2,ty,pos,ah,gd⟩::rest) l S:=h
theorem JGx {a1:_}{a2:_}{a3:_} (h:Walk P ops draw K (⟨o,.pick a1 a2 a3,ty,pos,ah,gd⟩::rest) l S):Walk P ops draw K (⟨o,.pick a1 a2 a3,ty,pos,ah,gd⟩::rest) l S:=h
theorem JGy {a1:_}{a2:_}{a3:_} (h:Walk P ops draw K (⟨o,.buildSlice a1 a2 a3,ty,pos,ah,gd⟩::rest) l S):Walk P ops draw K (⟨o,.buildSlice a1 a2 a3,ty,pos,ah,gd⟩::rest) l S:=h
theorem JGz {a1:_}{a2:_}{a3:_} (h:Walk P ops draw K (⟨o,.makeFunc a1 a2 a3,ty,pos,ah,gd⟩::rest) l S):Walk P ops draw K (⟨o,.makeFunc a1 a2 a3,ty,pos,ah,gd⟩::rest) l S:=h
theorem JGA {a1:_}{a2:_}{a3:_} (h:Walk P ops draw K (⟨o,.makeSlice a1 a2 a3,ty,pos,ah,gd⟩::rest) l S):Walk P ops draw K (⟨o,.makeSlice a1 a2 a3,ty,pos,ah,gd⟩::rest) l S:=h
theorem JGB {a1:_}{a2:_}{a3:_}{a4:_}{a5:_} (h:Walk P ops draw K (⟨o,.slice a1 a2 a3 a4 a5,ty,pos,ah,gd⟩::rest) l S):Walk P ops draw K (⟨o,.slice a1 a2 a3 a4 a5,ty,pos,ah,gd⟩::rest) l S:=h
theorem JGC {a1:_}{a2:_} (h:Walk P ops draw K (⟨o,.call ⟨.builtin .append,a1,a2⟩,ty,pos,ah,gd⟩::rest) l S):Walk P ops draw K (⟨o,.call ⟨.builtin .append,a1,a2⟩,ty,pos,ah,gd⟩::rest) l S:=h
theorem JGD {a1:_}{a2:_} (h:Walk P ops draw K (⟨o,.call ⟨.builtin .copy,a1,a2⟩,ty,pos,ah,gd⟩::rest) l S):Walk P ops draw K (⟨o,.call ⟨.builtin .copy,a1,a2⟩,ty,pos,ah,gd⟩::rest) l S:=h
theorem JGE {a1:_}{a2:_}{a3:_} (h:Walk P ops draw K (⟨o,.convert a1 a2 a3,ty,pos,ah,gd⟩::rest) l S):Walk P ops draw K (⟨o,.convert a1 a2 a3,ty,pos,ah,gd⟩::rest) l S:=h
theorem JGF {a1:_}{a2:_} (h:Walk P ops draw K (⟨o,.range a1 a2,ty,pos,ah,gd⟩::rest) l S):Walk P ops draw K (⟨o,.range a1 a2,ty,pos,ah,gd⟩::rest) l S:=h
theorem JGG {a1:_}{a2:_} (h:Walk P ops draw K (⟨o,.next a1 a2,ty,pos,ah,gd⟩::rest) l S):Walk P ops draw K (⟨o,.next a1 a2,ty,pos,ah,gd⟩::rest) l S:=h
theorem JGH {a1:_}{a2:_}{a3:_} (h:Walk P ops draw K (⟨o,.index a1 a2 a3,ty,pos,ah,gd⟩::rest) l S):Walk P ops draw K (⟨o,.index a1 a2 a3,ty,pos,ah,gd⟩::rest) l S:=h
theorem JGI {a1:_}{a2:_} (h:Walk P ops draw K (⟨o,.call ⟨.builtin .max,a1,a2⟩,ty,pos,ah,gd⟩::rest) l S):Walk P ops draw K (⟨o,.call ⟨.builtin .max,a1,a2⟩,ty,pos,ah,gd⟩::rest) l S:=h
theorem JGZ {a1:FuncId}{a2 a3:_} (h:Walk P ops draw K (⟨o,.call ⟨.value (.func a1),a2,a3⟩,ty,pos,ah,gd⟩::rest) l S):Walk P ops draw K (⟨o,.call ⟨.value (.func a1),a2,a3⟩,ty,pos,ah,gd⟩::rest) l S:=h
end
structure Yk (q:Prop):Prop where
 u:q
section
variable {p q:Prop}
theorem W1_ (k:q) (h:Yk q->p:=by intro k;(first|(refine JGa ?_;(first|refine Xun (hg:=JSa) (hx:=JSc) (hd:=JSb) ?_))|(refine JGb ?_;(first|refine Xxm (hg:=JSa) (hx:=JSb) (hL:=JSb) (hy:=JSc) (ht:=JSb) (hd:=JSb) ?_|refine Xol (hg:=JSa) (hx:=JSb) (hL:=JSb) (hsz:=JSc) (ht:=JSb) (hy:=JSc) (hlen:=JSb) (hd:=JSb) ?_|refine Xqb (hg:=JSa) (hx:=JSb) (ht:=JSb) (hd:=JSb) ?_|refine Xrq (hg:=JSa) (hx:=JSb) (hsz:=JSc) (ht:=JSb) (hy:=JSc) (hlen:=JSb) (hd:=JSb) ?_|refine XpM (hg:=JSa) (hx:=JSb) (hL:=JSb) (hn:=JSe) (hlt:=JSh) (ht:=JSb) (hd:=JSb) ?_|refine Xoz (hg:=JSa) (hx:=JSb) (hL:=JSb) (hn:=JSe) (hy:=JSn) (ht:=JSb) (hd:=JSb) ?_))|(refine JGc ?_;(first|refine Xtr (hg:=JSa) (hx:=JSc) (hd:=JSb) ?_))|(refine JGd ?_;(first|refine XrZ (hg:=JSa) (hx:=JSb) (hoff:=JSc) (hf:=JSb) (hd:=JSb) ?_|refine XoO (hg:=JSa) (hx:=JSb) (hoff:=JSc) (hf:=JSb) (hd:=JSb) ?_))|(refine JGe ?_;(first|refine Xwi (hg:=JSa) (hx:=JSb) (hT:=JSb) (hd:=JSb) ?_|refine XvI (hg:=JSa) (hx:=JSb) (hL:=JSb) (hn:=JSe) (hT:=JSb) (hd:=JSb) ?_|refine Xx3 (hg:=JSa) (hx:=JSb) (hT:=JSb) (hd:=JSb) ?_))|(refine JGf ?_;(first|refine V0 (op:= .lss) (u:= .int _ _) (v:= .int _ _) (hg:=JSa) (hx:=JSb) (hy:=JSb) (hr:=JSo) (h1:=JSb) (hd:=JSb) ?_))|(refine JGg ?_;(first|refine V0 (op:= .leq) (u:= .int _ _) (v:= .int _ _) (hg:=JSa) (hx:=JSb) (hy:=JSb) (hr:=JSp) (h1:=JSb) (hd:=JSb) ?_))|(refine JGh ?_;(first|refine V0 (op:= .gtr) (u:= .int _ _) (v:= .int _ _) (hg:=JSa) (hx:=JSb) (hy:=JSb) (hr:=JSq) (h1:=JSb) (hd:=JSb) ?_))|(refine JGi ?_;(first|refine V0 (op:= .geq) (u:= .int _ _) (v:= .int _ _) (hg:=JSa) (hx:=JSb) (hy:=JSb) (hr:=JSr) (h1:=JSb) (hd:=JSb) ?_))|(refine JGj ?_;(first|refine V0 (op:= .eql) (u:= .int _ _) (v:= .int _ _) (hg:=JSa) (hx:=JSb) (hy:=JSb) (hr:=JSs) (h1:=JSb) (hd:=JSb) ?_|refine V0 (op:= .eql) (u:= .string _) (v:= .string _) (hg:=JSa) (hx:=JSb) (hy:=JSb) (hr:=JSt) (h1:=JSb) (hd:=JSb) ?_|refine V0 (op:= .eql) (u:= .bool _) (v:= .bool _) (hg:=JSa) (hx:=JSb) (hy:=JSb) (hr:=JSu) (h1:=JSb) (hd:=JSb) ?_|refine XrG (hg:=JSa) (hx:=JSb) (ht:=JSb) (hd:=JSb) ?_))|(refine JGk ?_;(first|refine V0 (op:= .neq) (u:= .int _ _) (v:= .int _ _) (hg:=JSa) (hx:=JSb) (hy:=JSb) (hr:=JSv) (h1:=JSb) (hd:=JSb) ?_|refine V0 (op:= .neq) (u:= .string _) (v:= .string _) (hg:=JSa) (hx:=JSb) (hy:=JSb) (hr:=JSw) (h1:=JSb) (hd:=JSb) ?_|refine V0 (op:= .neq) (u:= .bool _) (v:= .bool _) (hg:=JSa) (hx:=JSb) (hy:=JSb) (hr:=JSx) (h1:=JSb) (hd:=JSb) ?_))|(refine JGl ?_;(first|refine V0 (op:= .rem) (u:= .int _ _) (v:= .int _ _) (hg:=JSa) (hx:=JSb) (hy:=JSb) (hr:=JSy) (h1:=JSb) (hd:=JSb) ?_))|(refine JGZ ?_;refine Z3 (af:=(by assumption)) ?_)|(refine JGm ?_;(first|refine V0 (op:= .add) (u:= .int _ _) (v:= .int _ _) (hg:=JSa) (hx:=JSb) (hy:=JSb) (hr:=JSz) (h1:=JSb) (hd:=JSb) ?_))|(refine JGn ?_;(first|refine V0 (op:= .sub) (u:= .int _ _) (v:= .int _ _) (hg:=JSa) (hx:=JSb) (hy:=JSb) (hr:=JSA) (h1:=JSb) (hd:=JSb) ?_))|(refine JGo ?_;(first|refine V0 (op:= .mul) (u:= .int _ _) (v:= .int _ _) (hg:=JSa) (hx:=JSb) (hy:=JSb) (hr:=JSB) (h1:=JSb) (hd:=JSb) ?_))|(refine JGp ?_;(first|refine XoK (hg:=JSa) (hx:=JSb) (hi:=JSb) (hk:=JSb) (hr:=JSn) (hT:=JSb) (hd:=JSb) ?_|refine Xpa (hg:=JSa) (hx:=JSb) (hL:=JSb) (hi:=JSb) (hn:=JSe) (hk:=JSb) (hlt:=JSh) (hT:=JSb) (hd:=JSb) ?_|refine Xhz (hg:=JSa) (hx:=JSb) (hL:=JSb) (hi:=JSb) (hn:=JSe) (hk:=JSb) (hlt:=JSh) (hT:=JSb) (hd:=JSb) ?_))|(refine JGq ?_;(first|refine Xqh (hg:=JSa) (hx:=JSb) (hy:=JSc) (hd:=JSb) ?_))|(refine JGr ?_;(first|refine Xsc (hg:=JSa) (hx:=JSb) (hd:=JSb) ?_))|(refine JGs ?_;(first|refine Xv8 (hg:=JSa) (hx:=JSb) (hL:=JSb) (hv:=JSc) (hc:=JSb) (ht:=JSb) (hb:=JSb) ?_|refine XoB (hg:=JSa) (hx:=JSb) (hL:=JSb) (hv:=JSb) (hn:=JSe) (hlt:=JSh) (ht:=JSb) ?_))|(refine JGt ?_;(first|refine XfI (γ:=100) (hg:=JSa) (hx:=JSc) (hc:=JSb) (av:=JSb) (hf:=JSb) (hm:=JSb) (hd:=JSb) ?_|refine XfI (γ:=101) (hg:=JSa) (hx:=JSc) (hc:=JSb) (av:=JSb) (hf:=JSb) (hm:=JSb) (hd:=JSb) ?_|refine XfI (γ:=102) (hg:=JSa) (hx:=JSc) (hc:=JSb) (av:=JSb) (hf:=JSb) (hm:=JSb) (hd:=JSb) ?_))|(refine JGu ?_;(first|refine X5P (γ:=100) (hg:=JSa) (hz:=JSb) (h1:=JSb) (av:=JSb) (hf:=JSb) (hd:=JSb) ?_|refine X5P (γ:=101) (hg:=JSa) (hz:=JSb) (h1:=JSb) (av:=JSb) (hf:=JSb) (hd:=JSb) ?_|refine X5P (γ:=102) (hg:=JSa) (hz:=JSb) (h1:=JSb) (av:=JSb) (hf:=JSb) (hd:=JSb) ?_|refine X5P (γ:=103) (hg:=JSa) (hz:=JSb) (h1:=JSb) (av:=JSb) (hf:=JSb) (hd:=JSb) ?_|refine X5P (γ:=104) (hg:=JSa) (hz:=JSb) (h1:=JSb) (av:=JSb) (hf:=JSb) (hd:=JSb) ?_|refine X5P (γ:=105) (hg:=JSa) (hz:=JSb) (h1:=JSb) (av:=JSb) (hf:=JSb) (hd:=JSb) ?_|refine X5P (γ:=106) (hg:=JSa) (hz:=JSb) (h1:=JSb) (av:=JSb) (hf:=JSb) (hd:=JSb) ?_|refine X5P (γ:=107) (hg:=JSa) (hz:=JSb) (h1:=JSb) (av:=JSb) (hf:=JSb) (hd:=JSb) ?_))|(refine JGv ?_;(first|refine Zo ?_))|(refine JGw ?_;(first|refine XsX (hg:=JSa) (bf:=JSb) (hps:=JSc) (hz:=JSb) (h1:=JSb) (ht:=JSb) (hout:=JSc) (hd:=JSb) ?_))|(refine JGx ?_;(first|refine XpG (hg:=JSa) (hc:=JSb) (hb:=JSC) (hx:=JSc) (hd:=JSb) ?_|refine Xwz (hg:=JSa) (hc:=JSb) (hb:=JSC) (hx:=JSc) (hd:=JSb) ?_))|(refine JGy ?_;(first|refine Z8 (len:=0) (γ:=100) ?_|refine Z8 (len:=0) (γ:=101) ?_|refine Z8 (len:=0) (γ:=103) ?_|refine Xt2 (hg:=JSa) (bf:=JSb) (hps:=JSc) (hz:=JSb) (hS:=JSc) (hT:=JSb) (hzl:=JSb) (bR:=JSb) (hsmall:=JSb) (aK:=JSb) (hout:=JSc) (hxs:=JSc) (hd:=JSb) ?_|refine Xni (γ:=102) (hg:=JSa) (bf:=JSb) (hps:=JSc) (hz:=JSb) (hS:=JSc) (hT:=JSb) (bR:=JSb) (hsmall:=JSb) (hout:=JSc) (hc:=JSb) (hm:=JSb) (av:=JSb) (hf:=JSb) (hd:=JSb) ?_|refine Xni (γ:=103) (hg:=JSa) (bf:=JSb) (hps:=JSc) (hz:=JSb) (hS:=JSc) (hT:=JSb) (bR:=JSb) (hsmall:=JSb) (hout:=JSc) (hc:=JSb) (hm:=JSb) (av:=JSb) (hf:=JSb) (hd:=JSb) ?_))|(refine JGz ?_;(first|refine XpS (hg:=JSa) (hxs:=JSb) (hys:=JSc) (hd:=JSb) ?_))|(refine JGA ?_;(first|refine Xti (hg:=JSa) (hx:=JSb) (hy:=JSb) (hm:=JSb) (hm':=JSb) (hz:=JSb) (hB:=JSc) (hS:=JSc) (hT:=JSb) (h1:=JSb) (hl:=JSb) (hroom:=JSd) (hn:=JSd) (hd:=JSb) ?_))|(refine JGB ?_;(first|refine XjE (hg:=JSa) (hx:=JSb) (hlo:=JSD) (hhi:=JSD) (c8:=JSh) (hh:=JSh) (hT:=JSb) (hd:=JSb) ?_|refine Xka (hg:=JSa) (hx:=JSb) (hlo:=JSb) (hhi:=JSb) (cN:=JSb) (c8:=JSh) (hh:=JSh) (hm:=JSh) (hT:=JSb) (hd:=JSb) ?_))|(refine JGC ?_;(first|refine XqI (hg:=JSa) (hx:=JSb) (hL:=JSb) (hy:=JSb) (jN:=JSb) (h2:=JSb) (hn:=JSe) (hn2:=JSe) (hB:=JSc) (hT:=JSb) (bN:=JSb) (hb0:=JSb) (hroom:=JSd) (hd:=JSb) ?_|refine Xp3 (hg:=JSa) (hx:=JSb) (hL:=JSb) (hy:=JSb) (hn:=JSe) (hB:=JSc) (hT:=JSb) (bN:=JSb) (hb0:=JSb) (hroom:=JSd) (hd:=JSb) ?_))|(refine JGD ?_;(first|refine X9O (hg:=JSa) (hx:=JSb) (hL:=JSb) (hn:=JSe) (hy:=JSb) (hm:=JSb) (hT:=JSb) (hd:=JSb) ?_|refine Xub (hg:=JSa) (hx:=JSb) (hL:=JSb) (hr:=JSn) (hy:=JSb) (hm:=JSb) (hT:=JSb) (hd:=JSb) ?_))|(refine JGE ?_;(first|refine XsH (hg:=JSa) (hx:=JSb) (hb:=JSh) (ht:=JSb) (hd:=JSb) ?_|refine Xx7 (hg:=JSa) (hx:=JSb) (ht:=JSb) (hd:=JSb) ?_|refine Zp ?_))|(refine JGF ?_;(first|refine XtD (γ:=100) (hg:=JSa) (hx:=JSb) (ht:=JSb) (av:=JSb) (hf:=JSb) (hd:=JSb) ?_))|(refine JGG ?_;(first|refine Xqd (hg:=JSa) (hx:=JSb) (hL:=JSb) (hlt:=JSh) (hd:=JSb) ?_|refine XuE (hg:=JSa) (hx:=JSb) (hL:=JSb) (hge:=JSh) (hd:=JSb) ?_))|(refine JGH ?_;(first|refine Xpq (hg:=JSa) (hx:=JSb) (hi:=JSb) (hk:=JSg) (hc:=JSn) (ht:=JSb) (hd:=JSb) ?_))|(refine JGI ?_;(first|refine Xt6 (hg:=JSa) (hx:=JSb) (hy:=JSb) (hd:=JSb) ?_))|refine XnV (hg:=JSE) (hd:=JSb) ?_|refine X8n ?_|refine JR ?_|refine JD ?_|refine XfC ?_|refine Xoe ?_|refine Xu9 ?_|refine awp_scope ?_|refine JT ?_|refine JF ?_);exact k.1):p:=h ⟨k⟩
theorem W2_ (k:q) (h:Yk q->p:=by intro k;(iterate 2 (refine W1_ ?_));exact k.1):p:=h ⟨k⟩
theorem W3_ (k:q) (h:Yk q->p:=by intro k;(iterate 3 (refine W1_ ?_));exact k.1):p:=h ⟨k⟩
theorem W4_ (k:q) (h:Yk q->p:=by intro k;(iterate 4 (refine W1_ ?_));exact k.1):p:=h ⟨k⟩
theorem W5_ (k:q) (h:Yk q->p:=by intro k;(iterate 5 (refine W1_ ?_));exact k.1):p:=h ⟨k⟩
theorem W6_ (k:q) (h:Yk q->p:=by intro k;(iterate 6 (refine W1_ ?_));exact k.1):p:=h ⟨k⟩
theorem W7_ (k:q) (h:Yk q->p:=by intro k;(iterate 7 (refine W1_ ?_));exact k.1):p:=h ⟨k⟩
theorem W8_ (k:q) (h:Yk q->p:=by intro k;(iterate 8 (refine W1_ ?_));exact k.1):p:=h ⟨k⟩
theorem W9_ (k:q) (h:Yk q->p:=by intro k;(iterate 9 (refine W1_ ?_));exact k.1):p:=h ⟨k⟩
theorem XA (k:q) (h:Yk q->p:=by intro k;(iterate 10 (refine W1_ ?_));exact k.1):p:=h ⟨k⟩
theorem XK (k:q) (h:Yk q->p:=by intro k;(iterate 11 (refine W1_ ?_));exact k.1):p:=h ⟨k⟩
theorem XR (k:q) (h:Yk q->p:=by intro k;(iterate 12 (refine W1_ ?_));exact k.1):p:=h ⟨k⟩
theorem XQ (k:q) (h:Yk q->p:=by intro k;(iterate 13 (refine W1_ ?_));exact k.1):p:=h ⟨k⟩
theorem XG (k:q) (h:Yk q->p:=by intro k;(iterate 14 (refine W1_ ?_));exact k.1):p:=h ⟨k⟩
theorem Yx (k:q) (h:Yk q->p:=by intro k;(iterate 15 (refine W1_ ?_));exact k.1):p:=h ⟨k⟩
theorem Yg (k:q) (h:Yk q->p:=by intro k;(iterate 16 (refine W1_ ?_));exact k.1):p:=h ⟨k⟩
theorem Yv (k:q) (h:Yk q->p:=by intro k;(iterate 17 (refine W1_ ?_));exact k.1):p:=h ⟨k⟩
theorem Yf (k:q) (h:Yk q->p:=by intro k;(iterate 18 (refine W1_ ?_));exact k.1):p:=h ⟨k⟩
theorem YR (k:q) (h:Yk q->p:=by intro k;(iterate 19 (refine W1_ ?_));exact k.1):p:=h ⟨k⟩
theorem U8 (k:q) (h:Yk q->p:=by intro k;(iterate 20 (refine W1_ ?_));exact k.1):p:=h ⟨k⟩
theorem Ye (k:q) (h:Yk q->p:=by intro k;(iterate 21 (refine W1_ ?_));exact k.1):p:=h ⟨k⟩
theorem Yw (k:q) (h:Yk q->p:=by intro k;(iterate 22 (refine W1_ ?_));exact k.1):p:=h ⟨k⟩
theorem UU (k:q) (h:Yk q->p:=by intro k;(iterate 23 (refine W1_ ?_));exact k.1):p:=h ⟨k⟩
theorem Yq (k:q) (h:Yk q->p:=by intro k;(iterate 24 (refine W1_ ?_));exact k.1):p:=h ⟨k⟩
theorem Vl (k:q) (h:Yk q->p:=by intro k;(iterate 25 (refine W1_ ?_));exact k.1):p:=h ⟨k⟩
theorem XY (k:q) (h:Yk q->p:=by intro k;(iterate 26 (refine W1_ ?_));exact k.1):p:=h ⟨k⟩
theorem U1 (k:q) (h:Yk q->p:=by intro k;(iterate 27 (refine W1_ ?_));exact k.1):p:=h ⟨k⟩
theorem YY (k:q) (h:Yk q->p:=by intro k;(iterate 28 (refine W1_ ?_));exact k.1):p:=h ⟨k⟩
theorem YT (k:q) (h:Yk q->p:=by intro k;(iterate 29 (refine W1_ ?_));exact k.1):p:=h ⟨k⟩
theorem Vb (k:q) (h:Yk q->p:=by intro k;(iterate 30 (refine W1_ ?_));exact k.1):p:=h ⟨k⟩
theorem UP (k:q) (h:Yk q->p:=by intro k;(iterate 31 (refine W1_ ?_));exact k.1):p:=h ⟨k⟩
theorem UV (k:q) (h:Yk q->p:=by intro k;(iterate 32 (refine W1_ ?_));exact k.1):p:=h ⟨k⟩
theorem UD (k:q) (h:Yk q->p:=by intro k;(iterate 33 (refine W1_ ?_));exact k.1):p:=h ⟨k⟩
theorem X00 (k:q) (h:Yk q->p:=by intro k;(iterate 34 (refine W1_ ?_));exact k.1):p:=h ⟨k⟩
theorem UX (k:q) (h:Yk q->p:=by intro k;(iterate 35 (refine W1_ ?_));exact k.1):p:=h ⟨k⟩
theorem X07 (k:q) (h:Yk q->p:=by intro k;(iterate 36 (refine W1_ ?_));exact k.1):p:=h ⟨k⟩
theorem X0Z (k:q) (h:Yk q->p:=by intro k;(iterate 37 (refine W1_ ?_));exact k.1):p:=h ⟨k⟩
theorem X1V (k:q) (h:Yk q->p:=by intro k;(iterate 38 (refine W1_ ?_));exact k.1):p:=h ⟨k⟩
theorem X17 (k:q) (h:Yk q->p:=by intro k;(iterate 39 (refine W1_ ?_));exact k.1):p:=h ⟨k⟩
theorem X7 (k:q) (h:Yk q->p:=by intro k;(iterate 40 (refine W1_ ?_));exact k.1):p:=h ⟨k⟩
end
theorem ZC1 {c:Code}{args:List AVal}{x:AVal} (hf:P.funcs[f]? =some fn) (hn:fn.ntmps=n) (h:∀E,AWP P E c (X2G n args Li) (Xfb (Xa P rs Lo [x]))) (hb:fn.body=some c:=by exact rfl) (hr:fn.results.toList=rs:=by exact rfl) (hl:Nat.ble args.length n=true:=by exact rfl) (hk:X5o Li=true:=by exact rfl):Con P f Li args Lo x:=X0I (xs:=[x]) hf hb hn hr hl hk h
theorem ZCt {c:Code}{args:List AVal}{x y:AVal}{l:List AVal} (hf:P.funcs[f]? =some fn) (hn:fn.ntmps=n) (h:∀E,AWP P E c (X2G n args Li) (Xfb (Xa P rs Lo (x::y::l)))) (hb:fn.body=some c:=by exact rfl) (hr:fn.results.toList=rs:=by exact rfl) (hl:Nat.ble args.length n=true:=by exact rfl) (hk:X5o Li=true:=by exact rfl):Con P f Li args Lo (.tup (x::y::l)):=X0I (xs:=x::y::l) hf hb hn hr hl hk h
theorem ZL0 (h:p:=by exact Xb rfl JM (by repeat' (first|exact trivial|exact rfl|refine⟨?_,?_⟩))):p:=h
theorem Zr0 (h:p:=by exact X2 ⟨_,St.le_refl _,⟨rfl,TV⟩,X4 _⟩):p:=h
structure ZwB (q:Prop):Prop where
  zq:q
section
variable {p q:Prop}
theorem Qa (zk:q) (h:ZwB q->p:=by intro zk;refine Eq.trans (b:=AVal.own 130 (_+_)) rfl ?_;exact zk.1):p:=h ⟨zk⟩
theorem Qb (h:p:=by exact X2 ⟨_,St.le_refl _,⟨rfl,TV⟩,Xj ⟨rfl,TV⟩⟩):p:=h
theorem Qc (h:p:=by refine W2_ ?_;exact Qb):p:=h
theorem Qd (zk:q) (h:ZwB q->p:=by intro zk;refine X73 (γ:=131) (hg:=JSa) (hx:=JSb) (hy:=JSb) (hm:=JSb) (hm':=JSb) (hz:=JSb) (hB:=JSc) (hS:=JSc) (hT:=JSb) (h1:=JSb) (hl:=JSb) (hroom:=JSd) (hn:=JSd) (av:=JSb) (hf:=JSb) (hd:=JSb) ?_;exact zk.1):p:=h ⟨zk⟩
theorem Qe (h:p:=by exact⟨k+1,by omega,by omega,Xb rfl ⟨JL,JL,JL,(by rw[ji,hb];exact AVal.le_refl _),JL,TV⟩ TV⟩):p:=h
theorem Qf (zk:q) (h:ZwB q->p:=by intro zk;refine X3 (hgd:=JSb) (hj:=JSb) (ht:=JSb) (hd:=JSb) ?_;exact zk.1):p:=h ⟨zk⟩
theorem Qg (zk:q) (h:ZwB q->p:=by intro zk;refine Qf ?_;refine Qf ?_;exact zk.1):p:=h ⟨zk⟩
theorem Qh (h:p:=by first|exact Zr0|exact X2 ⟨_,Xe 2 (y:=ab true) (AVal.le_of_eq (by refine Eq.trans (b:=ab (decide _)) rfl ?_;exact CG ab (by simp;omega))),⟨rfl,TV⟩,X4 _⟩|fail):p:=h
theorem Qi (h:p:=by first|exact Zr0|exact X2 ⟨_,Xe 2 (y:=ab false) (AVal.le_of_eq (by refine Eq.trans (b:=ab (decide _)) rfl ?_;exact CG ab (by simp;omega))),⟨rfl,TV⟩,X4 _⟩|fail):p:=h
theorem Qj (h:p:=by refine Yw ?_;exact Qi):p:=h
theorem Qk (h:p:=by refine XY ?_;exact Zr0):p:=h
theorem Ql (h:p:=by refine XK ?_;exact Zr0):p:=h
theorem Qm (zk:q) (h:ZwB q->p:=by intro zk;refine Qg ?_;refine Qg ?_;exact zk.1):p:=h ⟨zk⟩
theorem Qn (h:p:=by exact⟨i+1,⟨by omega,eO⟩,by omega,Xb rfl ⟨JL,JL,JL,TV⟩ TV⟩):p:=h
theorem Qo (zk:q) (h:ZwB q->p:=by intro zk;refine X7 ?_;refine W6_ ?_;exact zk.1):p:=h ⟨zk⟩
theorem Qp (zk:q) (h:ZwB q->p:=by intro zk;refine X7 ?_;refine W5_ ?_;exact zk.1):p:=h ⟨zk⟩
theorem Qq (h:p:=by exact X2 ⟨_,St.le_refl _,⟨⟨100,0,_,rfl,rfl,.inr ⟨3,_,rfl,rfl,rfl,rfl⟩⟩,rfl,TV⟩,X4 _⟩):p:=h
theorem Qr (zk:q) (h:ZwB q->p:=by intro zk;refine X7 ?_;refine W4_ ?_;exact zk.1):p:=h ⟨zk⟩
theorem Qs (h:p:=by refine XG ?_;exact Qh):p:=h
theorem Qt (h:p:=by refine XG ?_;exact Qi):p:=h
theorem Qu (h:p:=by exact X2 ⟨_,Xe 2 (y:=ab true) (AVal.le_of_eq (by refine Eq.trans (b:=ab (decide (n<=1000000000000000))) rfl ?_;rw[DT h2])),⟨rfl,TV⟩,X4 _⟩):p:=h
theorem Qv (h:p:=by exact X2 ⟨_,Xe 2 (y:=ab false) (AVal.le_of_eq (by refine Eq.trans (b:=ab (decide (n<=1000000000000000))) rfl ?_;rw[DF h2])),⟨rfl,TV⟩,X4 _⟩):p:=h
theorem Qw (h:p:=by refine XQ ?_;exact Zr0):p:=h
theorem Qx (h:p:=by exact⟨(y,x%y),by simp only;rw[<-hg,Nat.gcd_comm x y,Nat.gcd_rec y x,Nat.gcd_comm],Nat.mod_lt _ (by omega),Xb rfl ⟨JL,JL,TV⟩ TV⟩):p:=h
theorem Qy (h:p:=by refine XG ?_;exact Zr0):p:=h
theorem Qz (h:p:=by refine XR ?_;exact Zr0):p:=h
theorem QA (h:p:=by refine Yw ?_;exact Zr0):p:=h
theorem QB (zk:q) (h:ZwB q->p:=by intro zk;refine Yw ?_;refine Z1 (op:= .rem) (r':=nj 0) (u:=nj i) (v:=nj 2) ?_ (hr':=by exact CG nj hpar) (hr:=by exact Vh (by omega));exact zk.1):p:=h ⟨zk⟩
theorem QC (h:p:=by refine Ye ?_;exact Zr0):p:=h
theorem QD (h:p:=by refine W8_ ?_;exact Zr0):p:=h
theorem QE (h:p:=by refine Z3 (af:=bW) ?_;exact QD):p:=h
theorem QF (zk:q) (h:ZwB q->p:=by intro zk;refine Yw ?_;refine Z1 (op:= .rem) (r':=nj 1) (u:=nj i) (v:=nj 2) ?_ (hr':=by exact CG nj hpar) (hr:=by exact Vh (by omega));exact zk.1):p:=h ⟨zk⟩
theorem QG (zk:q) (h:ZwB q->p:=by intro zk;refine Qg ?_;refine Qf ?_;exact zk.1):p:=h ⟨zk⟩
theorem QH (zk:q) (h:ZwB q->p:=by intro zk;refine W4_ ?_;refine QG ?_;exact zk.1):p:=h ⟨zk⟩
theorem QI (h:p:=by refine W7_ ?_;exact Zr0):p:=h
theorem QJ (zk:q) (h:ZwB q->p:=by intro zk;refine U8 ?_;refine Z1 (op:= .rem) (r':=nj 0) (u:=nj i) (v:=nj 2) ?_ (hr':=by exact CG nj hpar) (hr:=by exact Vh (by omega));exact zk.1):p:=h ⟨zk⟩
theorem QK (h:p:=by refine U1 ?_;exact Zr0):p:=h
theorem QL (zk:q) (h:ZwB q->p:=by intro zk;refine U8 ?_;refine Z1 (op:= .rem) (r':=nj 1) (u:=nj i) (v:=nj 2) ?_ (hr':=by exact CG nj hpar) (hr:=by exact Vh (by omega));exact zk.1):p:=h ⟨zk⟩
theorem QM (h:p:=by refine U8 ?_;exact Zr0):p:=h
theorem QN (h:p:=by refine W4_ ?_;exact Zr0):p:=h
theorem QO (h:p:=by refine Yg ?_;refine QG ?_;refine W5_ ?_;refine QG ?_;refine W5_ ?_;refine Qm ?_;exact QN):p:=h
theorem QP (h:p:=by refine Yq ?_;refine QG ?_;refine W5_ ?_;refine Qm ?_;exact QN):p:=h
theorem QQ (h:p:=by refine UV ?_;refine Qm ?_;exact QN):p:=h
theorem QR (h:p:=by refine X7 ?_;exact X2 ⟨_,Xe 10 (y:=ab false) (AVal.le_of_eq (by refine Eq.trans (b:=ab (decide (((XX l).length:Int)=0))) rfl ?_;exact CG ab (DF (by rw[hlen];exact hl')))),⟨rfl,TV⟩,X4 _⟩):p:=h
theorem QS (h:p:=by refine X7 ?_;exact X2 ⟨_,Xe 10 (y:=ab true) (AVal.le_of_eq (by refine Eq.trans (b:=ab (decide (((XX l).length:Int)=0))) rfl ?_;exact CG ab (DT (by omega)))),⟨rfl,TV⟩,X4 _⟩):p:=h
theorem QT (h:p:=by refine Yq ?_;exact Zr0):p:=h
theorem QU (h:p:=by refine UD ?_;refine QG ?_;exact QN):p:=h
theorem QV (zk:q) (h:ZwB q->p:=by intro zk;refine X7 ?_;refine W1_ ?_;exact zk.1):p:=h ⟨zk⟩
theorem QW (h:p:=by refine Yx ?_;exact Zr0):p:=h
theorem QX (zk:q) (h:ZwB q->p:=by intro zk;refine X7 ?_;refine XK ?_;exact zk.1):p:=h ⟨zk⟩
theorem QY (zk:q) (h:ZwB q->p:=by intro zk;refine X7 ?_;refine W9_ ?_;exact zk.1):p:=h ⟨zk⟩
theorem QZ (h:p:=by refine X7 ?_;refine Vb ?_;exact Zr0):p:=h
theorem Qaa (h:p:=by refine X7 ?_;refine UP ?_;exact Zr0):p:=h
theorem Qba (zk:q) (h:ZwB q->p:=by intro zk;refine W7_ ?_;refine Z3 (af:=n1) ?_;refine W5_ ?_;refine Z3 (af:=n2) ?_;exact zk.1):p:=h ⟨zk⟩
theorem Qca (zk:q) (h:ZwB q->p:=by intro zk;refine X73 (γ:=130) (hg:=JSa) (hx:=JSb) (hy:=JSb) (hm:=JSb) (hm':=JSb) (hz:=JSb) (hB:=JSc) (hS:=JSc) (hT:=JSb) (h1:=JSb) (hl:=JSb) (hroom:=JSd) (hn:=JSd) (av:=JSb) (hf:=JSb) (hd:=JSb) ?_;exact zk.1):p:=h ⟨zk⟩
theorem Qda (zk:q) (h:ZwB q->p:=by intro zk;refine Z2 (op:= .rem) (r':=nj ((carry+x+dg*(c%1000))%1000)) (u:=nj (carry+x+dg*(c%1000))) (v:=nj 1000) ?_ (hr:=by exact Vh (by omega));exact zk.1):p:=h ⟨zk⟩
theorem Qea (h:p:=by exact⟨(l2.set k ((carry+x+dg*(c%1000))%1000),c/1000,(carry+x+dg*(c%1000))/1000,k+1),⟨by rw[length_set];exact bM,Xkx iJ k (by omega),hstep,qD,by show(carry+x+dg*(c%1000))/1000<=999;omega,by show c/1000<=b;omega⟩,by show 20-(k+1)<20-k;omega,Xb rfl ⟨JL,JL,JL,JL,JL,JL,JL,JL,TV⟩ ⟨CG (AObj.row 1) hs,TV⟩⟩):p:=h
theorem Qfa (h:p:=by refine W3_ ?_;exact X2 ⟨_,St.le_refl _,⟨rfl,rfl,TV⟩,X4 _⟩):p:=h
theorem Qga (h:p:=by exact X2 ⟨_,St.le_refl _,⟨rfl,rfl,rfl,TV⟩,X4 _⟩):p:=h
theorem Qha (zk:q) (h:ZwB q->p:=by intro zk;refine W1_ ?_;refine ZBM 7 i ?_;exact zk.1):p:=h ⟨zk⟩
theorem Qia (h:p:=by exact⟨i+1,⟨XiS hbg hc hge,by omega,by omega⟩,by omega,Xb rfl ⟨JL,JL,JL,JL,JL,JL,TV⟩ TV⟩):p:=h
theorem Qja (h:p:=by refine QV ?_;exact Qga):p:=h
theorem Qka (h:p:=by refine Qo ?_;exact X2 ⟨_,Xe 5 (y:=ai ((k:Int)+i+1)) (AVal.le_of_eq (by refine Eq.trans (b:=ai _) rfl ?_;simp)),⟨rfl,rfl,rfl,TV⟩,X4 _⟩):p:=h
theorem Qla (zk:q) (h:ZwB q->p:=by intro zk;refine X7 ?_;refine XR ?_;exact zk.1):p:=h ⟨zk⟩
theorem Qma (zk:q) (h:ZwB q->p:=by intro zk;refine X7 ?_;refine W2_ ?_;exact zk.1):p:=h ⟨zk⟩
theorem Qna (h:p:=by exact X2 ⟨_,Xe 4 (y:= .d (Xg [])) (AVal.le_nil 1),⟨rfl,rfl,rfl,TV⟩,X4 _⟩):p:=h
theorem Qoa (zk:q) (h:ZwB q->p:=by intro zk;refine Eq.trans (b:=AVal.own 0 (_+_)) rfl ?_;exact zk.1):p:=h ⟨zk⟩
theorem Qpa (zk:q) (h:ZwB q->p:=by intro zk;refine Eq.trans (b:=AObj.row 1 (_++_)) rfl ?_;exact zk.1):p:=h ⟨zk⟩
theorem Qqa (zk:q) (h:ZwB q->p:=by intro zk;refine Z3 (af:=dH) ?_;refine W3_ ?_;exact zk.1):p:=h ⟨zk⟩
theorem Qra (zk:q) (h:ZwB q->p:=by intro zk;refine Eq.trans (b:=AObj.row 1 (_++_++_)) rfl ?_;exact zk.1):p:=h ⟨zk⟩
theorem Qsa (zk:q) (h:ZwB q->p:=by intro zk;refine Z0 (u:=nj 4) (r:=n8 4) ?_ (hr:=by exact Uf rfl rfl);exact zk.1):p:=h ⟨zk⟩
theorem Qta (zk:q) (h:ZwB q->p:=by intro zk;refine Z0 (u:=nj 5) (r:=n8 5) ?_ (hr:=by exact Uf rfl rfl);exact zk.1):p:=h ⟨zk⟩
theorem Qua (zk:q) (h:ZwB q->p:=by intro zk;refine Z0 (u:=nj 6) (r:=n8 6) ?_ (hr:=by exact Uf rfl rfl);exact zk.1):p:=h ⟨zk⟩
theorem Qva (zk:q) (h:ZwB q->p:=by intro zk;refine Z0 (u:=nj 7) (r:=n8 7) ?_ (hr:=by exact Uf rfl rfl);exact zk.1):p:=h ⟨zk⟩
theorem Qwa (zk:q) (h:ZwB q->p:=by intro zk;refine Z0 (u:=nj 8) (r:=n8 8) ?_ (hr:=by exact Uf rfl rfl);exact zk.1):p:=h ⟨zk⟩
theorem Qxa (h:p:=by refine Yv ?_;exact X2 ⟨_,Xe 2 (y:= .d (Xg [])) (AVal.le_nil 1),⟨rfl,TV⟩,X4 _⟩):p:=h
theorem Qya (zk:q) (h:ZwB q->p:=by intro zk;refine X7 ?_;refine Yv ?_;exact zk.1):p:=h ⟨zk⟩
theorem Qza (zk:q) (h:ZwB q->p:=by intro zk;refine W9_ ?_;refine Z3 (af:=hv) ?_;refine W1_ ?_;refine Z3 (af:=hz) ?_;exact zk.1):p:=h ⟨zk⟩
theorem QAa (h:p:=by exact X2 ⟨_,St.le_refl _,⟨⟨101,0,_,rfl,rfl,.inr ⟨2,_,rfl,rfl,rfl,rfl⟩⟩,rfl,TV⟩,X4 _⟩):p:=h
theorem QBa (zk:q) (h:ZwB q->p:=by intro zk;refine Z3 (af:=hn) ?_;exact zk.1):p:=h ⟨zk⟩
theorem QCa (zk:q) (h:ZwB q->p:=by intro zk;refine X7 ?_;refine X7 ?_;exact zk.1):p:=h ⟨zk⟩
theorem QDa (h:p:=by refine W6_ ?_;exact Zr0):p:=h
theorem QEa (h:p:=by refine XY ?_;exact Qh):p:=h
theorem QFa (h:p:=by refine XY ?_;exact Qi):p:=h
theorem QGa (zk:q) (h:ZwB q->p:=by intro zk;refine W2_ ?_;refine Z3 (af:=hs) ?_;refine W2_ ?_;exact zk.1):p:=h ⟨zk⟩
theorem QHa (zk:q) (h:ZwB q->p:=by intro zk;refine W2_ ?_;refine Z3 (af:=hd) ?_;refine W4_ ?_;exact zk.1):p:=h ⟨zk⟩
theorem QIa (zk:q) (h:ZwB q->p:=by intro zk;refine Qm ?_;refine Qm ?_;exact zk.1):p:=h ⟨zk⟩
theorem QJa (zk:q) (h:ZwB q->p:=by intro zk;refine W5_ ?_;refine Qm ?_;refine XK ?_;exact zk.1):p:=h ⟨zk⟩
theorem QKa (zk:q) (h:ZwB q->p:=by intro zk;refine Z8 (γ:=130) ?_;exact zk.1):p:=h ⟨zk⟩
theorem QLa (zk:q) (h:ZwB q->p:=by intro zk;refine QKa ?_;refine W2_ ?_;refine Z3 (af:=dH) ?_;exact zk.1):p:=h ⟨zk⟩
theorem QMa (zk:q) (h:ZwB q->p:=by intro zk;refine X7 ?_;refine W3_ ?_;exact zk.1):p:=h ⟨zk⟩
theorem QNa (zk:q) (h:ZwB q->p:=by intro zk;refine QBa ?_;refine W3_ ?_;exact zk.1):p:=h ⟨zk⟩
theorem QOa (zk:q) (h:ZwB q->p:=by intro zk;refine W6_ ?_;refine Z3 (af:=hk) ?_;refine W4_ ?_;exact zk.1):p:=h ⟨zk⟩
theorem QPa (zk:q) (h:ZwB q->p:=by intro zk;refine W2_ ?_;refine Z3 (af:=hs) ?_;refine W4_ ?_;exact zk.1):p:=h ⟨zk⟩
theorem QQa (h:p:=by exact(show Xa _ _ _ _ _ from⟨_,St.le_refl _,TV,Xj ⟨rfl,TV⟩⟩)):p:=h
theorem QRa (h:p:=by refine Ye ?_;exact Qb):p:=h
theorem QSa (h:p:=by refine QV ?_;exact Qb):p:=h
theorem QTa (zk:q) (h:ZwB q->p:=by intro zk;refine X7 ?_;refine UV ?_;exact zk.1):p:=h ⟨zk⟩
theorem QUa (zk:q) (h:ZwB q->p:=by intro zk;refine X7 ?_;refine Ye ?_;exact zk.1):p:=h ⟨zk⟩
theorem QVa (h:p:=by refine QG ?_;refine Yx ?_;exact Qb):p:=h
theorem QWa (h:p:=by refine QCa ?_;refine W7_ ?_;exact Qb):p:=h
theorem QXa (h:p:=by exact X2 ⟨_,Xq 100 (cs:=[ai 8,ai 0,ai 0,.d (.v (.string (X6 []))),aq]) (cs':=[ai 8,ai 0,ai 0,.d (.v (.string (X6 []))),.d (.sl 5 [])]) rfl ⟨AVal.le_refl _,AVal.le_refl _,AVal.le_refl _,AVal.le_refl _,AVal.le_nil 5,TV⟩ rfl,⟨⟨100,0,_,rfl,rfl,.inr ⟨5,_,rfl,rfl,rfl,rfl⟩⟩,TV⟩,Xj ⟨rfl,TV⟩⟩):p:=h
theorem QYa (h:p:=by exact X2 ⟨_,St.le_refl _,⟨⟨100,0,_,rfl,rfl,.inr ⟨5,_,rfl,rfl,rfl,rfl⟩⟩,TV⟩,Xj ⟨rfl,TV⟩⟩):p:=h
theorem QZa (h:p:=by refine X0Z ?_;exact QYa):p:=h
theorem Qab (h:p:=by exact X2 ⟨_,Xq 100 (cs:=[ai 7,ai 0,ai 0,.d (.v (.string (X6 []))),aq]) (cs':=[ai 7,ai 0,ai 0,.d (.v (.string (X6 []))),.d (.sl 5 [])]) rfl ⟨AVal.le_refl _,AVal.le_refl _,AVal.le_refl _,AVal.le_refl _,AVal.le_nil 5,TV⟩ rfl,⟨⟨100,0,_,rfl,rfl,.inr ⟨5,_,rfl,rfl,rfl,rfl⟩⟩,TV⟩,Xj ⟨rfl,TV⟩⟩):p:=h
theorem Qbb (h:p:=by exact X2 ⟨_,Xq 100 (cs:=[ai 0,ai 0,ai 0,.d (.v (.string (X6 []))),aq]) (cs':=[ai 0,ai 0,ai 0,.d (.v (.string (X6 []))),.d (.sl 5 [])]) rfl ⟨AVal.le_refl _,AVal.le_refl _,AVal.le_refl _,AVal.le_refl _,AVal.le_nil 5,TV⟩ rfl,⟨⟨100,0,_,rfl,rfl,.inr ⟨5,_,rfl,rfl,rfl,rfl⟩⟩,TV⟩,Xj ⟨rfl,TV⟩⟩):p:=h
theorem Qcb (h:p:=by exact X2 ⟨_,Xq 100 (cs:=[ai 1,ai n,ai 0,.d (.v (.string (X6 []))),aq]) (cs':=[ai 1,ai n,ai 0,.d (.v (.string (X6 []))),.d (.sl 5 [])]) rfl ⟨AVal.le_refl _,AVal.le_refl _,AVal.le_refl _,AVal.le_refl _,AVal.le_nil 5,TV⟩ rfl,⟨⟨100,0,_,rfl,rfl,.inr ⟨5,_,rfl,rfl,rfl,rfl⟩⟩,TV⟩,Xj ⟨rfl,TV⟩⟩):p:=h
theorem Qdb (zk:q) (h:ZwB q->p:=by intro zk;refine QBa ?_;refine Yq ?_;exact zk.1):p:=h ⟨zk⟩
theorem Qeb (h:p:=by exact X2 ⟨_,Xq 100 (cs:=[ai 2,ai n,ai 0,.d (.v (.string (X6 []))),aq]) (cs':=[ai 2,ai n,ai 0,.d (.v (.string (X6 []))),.d (.sl 5 [])]) rfl ⟨AVal.le_refl _,AVal.le_refl _,AVal.le_refl _,AVal.le_refl _,AVal.le_nil 5,TV⟩ rfl,⟨⟨100,0,_,rfl,rfl,.inr ⟨5,_,rfl,rfl,rfl,rfl⟩⟩,TV⟩,Xj ⟨rfl,TV⟩⟩):p:=h
theorem Qfb (h:p:=by exact X2 ⟨_,Xq 100 (cs:=[ai 5,ai n,ai 0,.d (.v (.string (X6 []))),aq]) (cs':=[ai 5,ai n,ai 0,.d (.v (.string (X6 []))),.d (.sl 5 [])]) rfl ⟨AVal.le_refl _,AVal.le_refl _,AVal.le_refl _,AVal.le_refl _,AVal.le_nil 5,TV⟩ rfl,⟨⟨100,0,_,rfl,rfl,.inr ⟨5,_,rfl,rfl,rfl,rfl⟩⟩,TV⟩,Xj ⟨rfl,TV⟩⟩):p:=h
theorem Qgb (h:p:=by exact X2 ⟨_,Xq 100 (cs:=[ai 6,ai n,ai 0,.d (.v (.string (X6 []))),aq]) (cs':=[ai 6,ai n,ai 0,.d (.v (.string (X6 []))),.d (.sl 5 [])]) rfl ⟨AVal.le_refl _,AVal.le_refl _,AVal.le_refl _,AVal.le_refl _,AVal.le_nil 5,TV⟩ rfl,⟨⟨100,0,_,rfl,rfl,.inr ⟨5,_,rfl,rfl,rfl,rfl⟩⟩,TV⟩,Xj ⟨rfl,TV⟩⟩):p:=h
theorem Qhb (h:p:=by exact X2 ⟨_,Xq 100 (cs:=[ai 3,ai n,ai d,.d (.v (.string (X6 []))),aq]) (cs':=[ai 3,ai n,ai d,.d (.v (.string (X6 []))),.d (.sl 5 [])]) rfl ⟨AVal.le_refl _,AVal.le_refl _,AVal.le_refl _,AVal.le_refl _,AVal.le_nil 5,TV⟩ rfl,⟨⟨100,0,_,rfl,rfl,.inr ⟨5,_,rfl,rfl,rfl,rfl⟩⟩,TV⟩,Xj ⟨rfl,TV⟩⟩):p:=h
theorem Qib (zk:q) (h:ZwB q->p:=by intro zk;refine X7 ?_;refine Vl ?_;refine QBa ?_;refine W5_ ?_;refine Z3 (af:=hn2) ?_;refine Yq ?_;exact zk.1):p:=h ⟨zk⟩
theorem Qjb (h:p:=by exact X2 ⟨_,Xq 100 (cs:=[ai 4,ai 0,ai 0,.d (.v (.string (X6 s))),aq]) (cs':=[ai 4,ai 0,ai 0,.d (.v (.string (X6 s))),.d (.sl 5 [])]) rfl ⟨AVal.le_refl _,AVal.le_refl _,AVal.le_refl _,AVal.le_refl _,AVal.le_nil 5,TV⟩ rfl,⟨⟨100,0,_,rfl,rfl,.inr ⟨5,_,rfl,rfl,rfl,rfl⟩⟩,TV⟩,Xj ⟨rfl,TV⟩⟩):p:=h
theorem Qkb (h:p:=by exact X2 ⟨_,Xq 100 (cs:=[ai 0,ai 0,ai 0,.d (.v (.string (X6 []))),aq]) (cs':=[ai 0,ai 0,ai 0,.d (.v (.string (X6 []))),.d (.sl 5 [])]) rfl ⟨AVal.le_refl _,AVal.le_refl _,AVal.le_refl _,AVal.le_refl _,AVal.le_nil 5,TV⟩ rfl,⟨⟨100,0,_,rfl,rfl,.inr ⟨5,_,rfl,rfl,rfl,rfl⟩⟩,rfl,rfl,TV⟩,X4 _⟩):p:=h
theorem Qlb (zk:q) (h:ZwB q->p:=by intro zk;refine YY ?_;refine Z3 (af:=hi) ?_;refine Yf ?_;refine Z3 (af:=hs) ?_;exact zk.1):p:=h ⟨zk⟩
theorem Qmb (h:p:=by refine YY ?_;refine Z3 (af:=hi) ?_;refine X07 ?_;exact X2 ⟨_,Xq 100 (cs':=[ai _,ai id,ai 0,ai 0,Xi [],ai 0,ai 0,ai 0,Xi [],.d (.sl 5 [])]) rfl JM rfl,⟨⟨100,0,_,rfl,rfl,.inr ⟨10,_,rfl,rfl,rfl,rfl⟩⟩,TV⟩,Xj ⟨rfl,TV⟩⟩):p:=h
theorem Qnb (h:p:=by refine Qlb ?_;refine Yw ?_;exact X2 ⟨_,Xq 100 (cs':=[ai _,ai id,ai 0,ai 0,Xi name,ai 0,ai 0,ai 0,Xi [],.d (.sl 5 [])]) rfl JM rfl,⟨⟨100,0,_,rfl,rfl,.inr ⟨10,_,rfl,rfl,rfl,rfl⟩⟩,TV⟩,Xj ⟨rfl,TV⟩⟩):p:=h
theorem Qob (h:p:=by exact X2 ⟨_,St.le_refl _,⟨⟨100,0,_,rfl,rfl,.inr ⟨10,_,rfl,rfl,rfl,rfl⟩⟩,TV⟩,Xj ⟨rfl,TV⟩⟩):p:=h
theorem Qpb (zk:q) (h:ZwB q->p:=by intro zk;refine XK ?_;refine Xc1 (hg:=JSa) (hx:=JSb) (hi:=JSb) (hk:=JSg) (hlt:=JSh) (hT:=JSb) (hd:=JSb) ?_;refine W6_ ?_;exact zk.1):p:=h ⟨zk⟩
theorem Qqb (h:p:=by exact X2 ⟨_,St.le_refl _,⟨⟨100,0,_,rfl,rfl,.inr ⟨6,_,rfl,rfl,rfl,rfl⟩⟩,TV⟩,Xj ⟨rfl,TV⟩⟩):p:=h
theorem Qrb (zk:q) (h:ZwB q->p:=by intro zk;refine X51 (us:=[.int .i64 k,.int .i64 n,.string (X6 name),.string (X6 key),.string (X6 src),.string (X6 dst)]) (vs:=[.int .i64 0,.int .i64 0,.string (X6 []),.string (X6 []),.string (X6 []),.string (X6 [])]) (r:=z) (hg:=JSa) (hx:=JSb) (hy:=JSb) (hcs:=JSb) (aO:=JSb) (hu:=JSb) (hv:=JSb) (hd:=JSb) ?_ (hk:=by exact X54) (hr:=by exact hz);exact zk.1):p:=h ⟨zk⟩
theorem Qsb (zk:q) (h:ZwB q->p:=by intro zk;refine Qrb ?_;refine Yq ?_;exact zk.1):p:=h ⟨zk⟩
theorem Qtb (h:p:=by exact⟨i+1,⟨by omega,hg⟩,by omega,ZL0⟩):p:=h
theorem Qub (zk:q) (h:ZwB q->p:=by intro zk;refine Yf ?_;refine Z0 (u:=nj 3) (r:=n8 3) ?_ (hr:=by exact Uf rfl rfl);exact zk.1):p:=h ⟨zk⟩
theorem Qvb (zk:q) (h:ZwB q->p:=by intro zk;refine QKa ?_;refine W2_ ?_;refine Z3 (af:=jR) ?_;exact zk.1):p:=h ⟨zk⟩
theorem Qwb (zk:q) (h:ZwB q->p:=by intro zk;refine X8 (XP 130 rfl) ?_;exact zk.1):p:=h ⟨zk⟩
theorem Qxb (zk:q) (h:ZwB q->p:=by intro zk;refine Qwb ?_;refine X8 (Y7 2 130 rfl rfl (by first|rfl|(simp only[LA,LM,LC,length_nil]<;>omega)|fail)) ?_;exact zk.1):p:=h ⟨zk⟩
theorem Qyb (h:p:=by exact X2 ⟨_,Xe 2 (y:= .d (Xg (UInt8.ofNat 3::w0))) (AVal.le_of_eq (by refine Eq.trans (b:=AVal.d (.sl 1 (_))) rfl ?_;show _=AVal.d (.sl 1 ((UInt8.ofNat 3::w0).map X5));simp only[map_append,map_cons,map_nil,AS,cons_append,nil_append,append_nil]<;>rfl)),⟨rfl,TV⟩,X4 _⟩):p:=h
theorem Qzb (zk:q) (h:ZwB q->p:=by intro zk;refine Yf ?_;refine Z0 (u:=nj 2) (r:=n8 2) ?_ (hr:=by exact Uf rfl rfl);exact zk.1):p:=h ⟨zk⟩
theorem QAb (h:p:=by exact X2 ⟨_,Xe 2 (y:= .d (Xg (UInt8.ofNat 2::(w0++(w1++[1]))))) (AVal.le_of_eq (by refine Eq.trans (b:=AVal.d (.sl 1 (_))) rfl ?_;show _=AVal.d (.sl 1 ((UInt8.ofNat 2::(w0++(w1++[1]))).map X5));simp only[map_append,map_cons,map_nil,AS,cons_append,nil_append,append_nil]<;>rfl)),⟨rfl,TV⟩,X4 _⟩):p:=h
theorem QBb (h:p:=by exact X2 ⟨_,Xe 2 (y:= .d (Xg (UInt8.ofNat 2::(w0++(w1++[0]))))) (AVal.le_of_eq (by refine Eq.trans (b:=AVal.d (.sl 1 (_))) rfl ?_;show _=AVal.d (.sl 1 ((UInt8.ofNat 2::(w0++(w1++[0]))).map X5));simp only[map_append,map_cons,map_nil,AS,cons_append,nil_append,append_nil]<;>rfl)),⟨rfl,TV⟩,X4 _⟩):p:=h
theorem QCb (zk:q) (h:ZwB q->p:=by intro zk;refine Yf ?_;refine Z0 (u:=nj 1) (r:=n8 1) ?_ (hr:=by exact Uf rfl rfl);exact zk.1):p:=h ⟨zk⟩
theorem QDb (zk:q) (h:ZwB q->p:=by intro zk;refine XR ?_;refine Qwb ?_;exact zk.1):p:=h ⟨zk⟩
theorem QEb (h:p:=by refine X8 (Y7 2 130 rfl rfl rfl) ?_;exact Zr0):p:=h
theorem QFb (h:p:=by exact X2 ⟨_,Xq 100 (cs':=[ai 0,ai 0,ai 0,ai 0,Xi [],ai 0,ai 0,ai 0,Xi [],.d (.sl 5 [])]) rfl JM rfl,⟨⟨100,0,_,rfl,rfl,.inr ⟨10,_,rfl,rfl,rfl,rfl⟩⟩,rfl,rfl,TV⟩,X4 _⟩):p:=h
theorem QGb (h:p:=by exact X2 ⟨_,St.le_refl _,⟨⟨100,0,_,rfl,rfl,.inr ⟨6,_,rfl,rfl,rfl,rfl⟩⟩,rfl,rfl,TV⟩,X4 _⟩):p:=h
theorem QHb (h:p:=by exact X2 ⟨_,Xq 100 (cs':=[ai 0,ai 0,.d (.sl 10 []),ai 0,ai 0,Xi [],Xi [],Xi [],Xi [],ab false]) rfl JM rfl,⟨⟨100,0,_,rfl,rfl,.inr ⟨10,_,rfl,rfl,rfl,rfl⟩⟩,rfl,TV⟩,X4 _⟩):p:=h
theorem QIb (zk:q) (h:ZwB q->p:=by intro zk;refine U8 ?_;refine ZBs (((j+1:Nat):Int)) (1) (((j:Nat):Int)) ?_;refine W2_ ?_;refine V0 (op:= .leq) (u:= .string _) (v:= .string _) (hg:=JSa) (hx:=JSb) (hy:=JSb) (hr:=JSi) (h1:=JSb) (hd:=JSb) ?_;exact zk.1):p:=h ⟨zk⟩
theorem QJb (h:p:=by exact⟨j+1+1,⟨by omega,by omega,by rw[Nat.add_sub_cancel];exact hg⟩,by omega,Xb rfl ⟨JL,JL,TV⟩ TV⟩):p:=h
theorem QKb (zk:q) (h:ZwB q->p:=by intro zk;refine W2_ ?_;refine Z3 (af:=aI) ?_;refine W2_ ?_;refine Z3 (af:=aW) ?_;refine W8_ ?_;refine Z3 (af:=fL) ?_;exact zk.1):p:=h ⟨zk⟩
theorem QLb (h:p:=by refine YT ?_;exact Qtb):p:=h
theorem QMb (zk:q) (h:ZwB q->p:=by intro zk;refine V0 (op:= .lss) (u:= .string _) (v:= .string _) (hg:=JSa) (hx:=JSb) (hy:=JSb) (hr:=JSj) (h1:=JSb) (hd:=JSb) ?_;exact zk.1):p:=h ⟨zk⟩
theorem QNb (zk:q) (h:ZwB q->p:=by intro zk;refine QMb ?_;refine W8_ ?_;refine V0 (op:= .gtr) (u:= .string _) (v:= .string _) (hg:=JSa) (hx:=JSb) (hy:=JSb) (hr:=JSk) (h1:=JSb) (hd:=JSb) ?_;exact zk.1):p:=h ⟨zk⟩
theorem QOb (h:p:=by exact⟨0+1,⟨by omega,hg⟩,by omega,ZL0⟩):p:=h
theorem QPb (zk:q) (h:ZwB q->p:=by intro zk;refine YT ?_;refine ZBs (((j+1:Nat):Int)) (1) (((j:Nat):Int)) ?_;exact zk.1):p:=h ⟨zk⟩
theorem QQb (h:p:=by exact⟨j+1+1,⟨by omega,hg⟩,by omega,ZL0⟩):p:=h
theorem QRb (zk:q) (h:ZwB q->p:=by intro zk;refine Yw ?_;refine Z5 (af:=hc) ?_;refine W5_ ?_;exact zk.1):p:=h ⟨zk⟩
theorem QSb (zk:q) (h:ZwB q->p:=by intro zk;refine XG ?_;refine ZBA i j ?_;exact zk.1):p:=h ⟨zk⟩
theorem QTb (zk:q) (h:ZwB q->p:=by intro zk;refine Z1 (op:= .shr) (r':=_) (u:=n64 (i+j)) (v:=n64 1) ?_ (hr':=by exact e2) (hr:=by exact X1C (by decide));exact zk.1):p:=h ⟨zk⟩
theorem QUb (h:p:=by refine XA ?_;refine Z5 (af:=hc) ?_;refine W8_ ?_;exact⟨((i+j)/2+1,j),⟨by simp only;omega,h2,hinv,h4⟩,by simp only;omega,ZL0⟩):p:=h
theorem QVb (h:p:=by exact⟨(i,(i+j)/2),⟨by simp only;omega,by simp only;omega,h3,hinv⟩,by simp only;omega,ZL0⟩):p:=h
theorem QWb (h:p:=by refine XA ?_;refine Z5 (af:=hc) ?_;refine W7_ ?_;exact QVb):p:=h
theorem QXb (h:p:=by refine X7 ?_;exact QD):p:=h
theorem QYb (zk:q) (h:ZwB q->p:=by intro zk;refine QUa ?_;refine Z3 (af:=hs1) ?_;refine W6_ ?_;refine Z3 (af:=bV) ?_;exact zk.1):p:=h ⟨zk⟩
theorem QZb (zk:q) (h:ZwB q->p:=by intro zk;refine QPb ?_;refine UP ?_;refine Z3 (af:=hs1) ?_;refine W6_ ?_;refine Z3 (af:=bV) ?_;exact zk.1):p:=h ⟨zk⟩
theorem Qac (h:p:=by exact⟨i+1,hil,by omega,ZL0⟩):p:=h
theorem Qbc (zk:q) (h:ZwB q->p:=by intro zk;refine Qm ?_;refine W8_ ?_;exact zk.1):p:=h ⟨zk⟩
theorem Qcc (h:p:=by exact X2 ⟨_,Xe 2 (AVal.le_of_eq (by rw[hv];rfl)),⟨rfl,TV⟩,X4 _⟩):p:=h
theorem Qdc (h:p:=by refine UX ?_;exact Qcc):p:=h
theorem Qec (h:p:=by refine XY ?_;exact Xb rfl ⟨JL,TV⟩ ⟨rfl,TV⟩):p:=h
theorem Qfc (h:p:=by exact X2 ⟨_,Xe 2 (AVal.le_of_eq (by simp only[V8,hv];rfl)),⟨rfl,TV⟩,X4 _⟩):p:=h
theorem Qgc (h:p:=by exact X2 ⟨_,Xq 101 (cs:=[ai 0,aq,aq]) (cs':=[ai 0,.d (.sl 1 []),.d (.sl 6 [])]) rfl ⟨AVal.le_refl _,AVal.le_nil 1,AVal.le_nil 6,TV⟩ rfl,⟨⟨101,0,_,rfl,rfl,.inr ⟨3,_,rfl,rfl,rfl,rfl⟩⟩,rfl,TV⟩,X4 _⟩):p:=h
theorem Qhc (h:p:=by exact X2 ⟨_,Xq 101 (cs:=[ai 0,ai 0,ai 0,Xi [],aq]) (cs':=[ai 0,ai 0,ai 0,Xi [],.d (.sl 6 [])]) rfl ⟨AVal.le_refl _,AVal.le_refl _,AVal.le_refl _,AVal.le_refl _,AVal.le_nil 6,TV⟩ rfl,⟨⟨101,0,_,rfl,rfl,.inr ⟨5,_,rfl,rfl,rfl,rfl⟩⟩,rfl,TV⟩,X4 _⟩):p:=h
theorem Qic (h:p:=by exact(show Xa _ _ _ _ _ from⟨_,St.le_refl _,TV,Xj ⟨(by refine Eq.trans (b:=AObj.box [.own 1 (_+_)]) rfl ?_;rw[LA]),rfl,TV⟩⟩)):p:=h
theorem Qjc (h:p:=by refine W7_ ?_;exact(show Xa _ _ _ _ _ from⟨_,St.le_refl _,TV,Xj ⟨rfl,rfl,TV⟩⟩)):p:=h
theorem Qkc (zk:q) (h:ZwB q->p:=by intro zk;refine XA ?_;refine Z3 (af:=X3E d) ?_;exact zk.1):p:=h ⟨zk⟩
theorem Qlc (h:p:=by exact X2 ⟨_,St.le_refl _,⟨⟨101,0,_,rfl,rfl,.inr ⟨3,_,rfl,rfl,rfl,rfl⟩⟩,rfl,TV⟩,X4 _⟩):p:=h
theorem Qmc (h:p:=by refine W3_ ?_;exact Qlc):p:=h
theorem Qnc (h:p:=by exact X2 ⟨_,Xq 101 (cs:=[aq,aq,ab false]) (cs':=[.d (XL []),.d (XS []),ab false]) rfl ⟨AVal.le_nil 1,AVal.le_nil 2,AVal.le_refl _,TV⟩ rfl,⟨⟨101,0,_,rfl,rfl,.inr ⟨3,_,rfl,rfl,rfl,rfl⟩⟩,rfl,TV⟩,X4 _⟩):p:=h
theorem Qoc (h:p:=by refine Yx ?_;exact Qnc):p:=h
theorem Qpc (h:p:=by refine X00 ?_;exact Qnc):p:=h
theorem Qqc (h:p:=by exact X2 ⟨_,St.le_refl _,⟨⟨101,0,_,rfl,rfl,.inr ⟨3,_,rfl,rfl,rfl,rfl⟩⟩,TV⟩,X4 _⟩):p:=h
theorem Qrc (h:p:=by refine Yw ?_;exact X2 ⟨_,Xq 100 (cs:=[aq,aq,ab false]) (cs':=[.d (XL []),.d (XS []),ab false]) rfl ⟨AVal.le_nil 1,AVal.le_nil 2,AVal.le_refl _,TV⟩ rfl,⟨⟨100,0,_,rfl,rfl,.inr ⟨3,_,rfl,rfl,rfl,rfl⟩⟩,rfl,TV⟩,X4 _⟩):p:=h
theorem Qsc (h:p:=by exact X2 ⟨_,Xe 4 (y:= .d (Xg [])) (AVal.le_nil 1),⟨rfl,rfl,TV⟩,X4 _⟩):p:=h
theorem Qtc (h:p:=by refine YY ?_;exact Qsc):p:=h
theorem Quc (zk:q) (h:ZwB q->p:=by intro zk;refine Qwb ?_;refine X8 (Y7 4 130 rfl rfl rfl) ?_;exact zk.1):p:=h ⟨zk⟩
theorem Qvc (h:p:=by exact Xb rfl ⟨JL,AVal.le_of_eq (by refine Eq.trans (b:=AVal.own 130 (_+_)) rfl ?_;simp only[LA,LM,LC,length_nil]),JL,JL,JL,TV⟩ ⟨rfl,rfl,TV⟩):p:=h
theorem Qwc (h:p:=by exact⟨i+1,⟨hil,hg⟩,by omega,ZL0⟩):p:=h
theorem Qxc (h:p:=by exact Xb rfl ⟨AVal.le_of_eq (by refine Eq.trans (b:=AVal.own 131 (_+_)) rfl ?_;simp only[LA,LM,LC,length_nil]),JL,JL,JL,TV⟩ ⟨rfl,TV⟩):p:=h
theorem Qyc (h:p:=by exact Xb rfl ⟨JL,AVal.le_of_eq (by refine Eq.trans (b:=AVal.own 130 (_+_)) rfl ?_;rw[LA]),JL,TV⟩ ⟨rfl,TV⟩):p:=h
theorem Qzc (zk:q) (h:ZwB q->p:=by intro zk;refine Qm ?_;refine Qf ?_;exact zk.1):p:=h ⟨zk⟩
theorem QAc (zk:q) (h:ZwB q->p:=by intro zk;refine XY ?_;refine ZBa ((i:Int)) (1) (((i+1:Nat):Int)) ?_;exact zk.1):p:=h ⟨zk⟩
theorem QBc (zk:q) (h:ZwB q->p:=by intro zk;refine W5_ ?_;refine Z6 (lb:=i) (hb:=(B.map X5).length) (ys:=(B.drop i).map X5) ?_ (hys:=by exact bX);exact zk.1):p:=h ⟨zk⟩
theorem QCc (h:p:=by exact Xb rfl ⟨JL,JL,AVal.le_of_eq (by refine Eq.trans (b:=AVal.own 130 (_+_)) rfl ?_;rw[LA]),JL,TV⟩ ⟨rfl,TV⟩):p:=h
theorem QDc (zk:q) (h:ZwB q->p:=by intro zk;refine XgO (lb:=(T/64*64)) (hb:=T) (ys:=X.map X5) (hg:=JSa) (hx:=JSb) (hlo:=JSb) (hhi:=JSb) (cN:=JSb) (c8:=JSh) (hm:=JSh) (hT:=JSb) (hd:=JSb) ?_ (hys:=by exact sK);exact zk.1):p:=h ⟨zk⟩
theorem QEc (h:p:=by exact X2 ⟨_,St.le_refl _,⟨⟨100,0,_,rfl,rfl,.inr ⟨4,_,rfl,rfl,rfl,rfl⟩⟩,rfl,TV⟩,X4 _⟩):p:=h
theorem QFc (h:p:=by refine X17 ?_;refine Z3 (af:=n0) ?_;refine W6_ ?_;refine Z3 (af:=n1) ?_;refine W6_ ?_;refine Z3 (af:=n2) ?_;refine W6_ ?_;refine Z3 (af:=n3) ?_;refine YT ?_;exact QEc):p:=h
theorem QGc (zk:q) (h:ZwB q->p:=by intro zk;refine W8_ ?_;refine X1H (k:=xs.length) (hg:=JSa) (hx:=JSb) (hL:=JSb) (hlo:=JSb) (hn:=JSe) (hT:=JSb) (hd:=JSb) ?_ (hk:=by exact Nat.le_refl _);refine X07 ?_;exact zk.1):p:=h ⟨zk⟩
theorem QHc (zk:q) (h:ZwB q->p:=by intro zk;refine X8 (X84 6 1 110 rfl rfl (by simp) rfl rfl) ?_;exact zk.1):p:=h ⟨zk⟩
theorem QIc (zk:q) (h:ZwB q->p:=by intro zk;refine X06 (hg:=JSa) (hx:=JSb) (hT:=JSb) (hd:=JSb) ?_;exact zk.1):p:=h ⟨zk⟩
theorem QJc (zk:q) (h:ZwB q->p:=by intro zk;refine ZBa ((xs.length:Nat)) (([v].length:Nat)) (((xs.length+1:Nat):Int)) ?_ (e:=a1);exact zk.1):p:=h ⟨zk⟩
theorem QKc (zk:q) (h:ZwB q->p:=by intro zk;refine Yf ?_;refine QIc ?_;refine Yg ?_;refine QJc ?_;refine W1_ ?_;refine X4o (hg:=JSa) (hx:=JSb) (hT:=JSb) (hd:=JSb) ?_;exact zk.1):p:=h ⟨zk⟩
theorem QLc (zk:q) (h:ZwB q->p:=by intro zk;refine QKc ?_;refine W9_ ?_;refine QJc ?_;refine Zc (lb:=0) (hb:=xs.length+1) (m:=xs.length+1) (c':=c) (o':=0) ?_ (ho':=by exact s0);refine W9_ ?_;refine ZBa ((i:Nat)) (([v].length:Nat)) (((i+1:Nat):Int)) ?_ (e:=a2);exact zk.1):p:=h ⟨zk⟩
theorem QMc (zk:q) (h:ZwB q->p:=by intro zk;refine W8_ ?_;refine ZBa ((i:Nat)) (([v].length:Nat)) (((i+1:Nat):Int)) ?_ (e:=a2);exact zk.1):p:=h ⟨zk⟩
theorem QNc (zk:q) (h:ZwB q->p:=by intro zk;refine X8 (X14 6 120 110 (xs.take i++v::xs.drop i) (by conv=>lhs;whnf) (by conv=>lhs;whnf) e4 cz hok hroom aW (by omega) rfl rfl) ?_;exact zk.1):p:=h ⟨zk⟩
theorem QOc (zk:q) (h:ZwB q->p:=by intro zk;refine QKc ?_;refine W7_ ?_;refine Zc (lb:=0) (hb:=i) (m:=i) (c':=c) (o':=0) ?_ (ho':=by exact s0);refine W2_ ?_;refine QJc ?_;refine W1_ ?_;refine ZBs (((xs.length+1:Nat):Int)) ((i:Nat)) (((xs.length+1-i:Nat):Int)) ?_ (e:=a3);exact zk.1):p:=h ⟨zk⟩
theorem QPc (zk:q) (h:ZwB q->p:=by intro zk;refine X8 (X14 0 120 121 xs (by conv=>lhs;whnf) (by conv=>lhs;whnf) e6 rfl hz aI aW (by omega) rfl rfl) ?_;refine X8 (XP 121 rfl) ?_;refine X8 (Y7 0 121 rfl rfl rfl) ?_;refine W3_ ?_;exact zk.1):p:=h ⟨zk⟩
theorem QQc (zk:q) (h:ZwB q->p:=by intro zk;refine W6_ ?_;refine ZBa ((i:Nat)) (([v].length:Nat)) (((i+1:Nat):Int)) ?_ (e:=a2);exact zk.1):p:=h ⟨zk⟩
theorem QRc (zk:q) (h:ZwB q->p:=by intro zk;refine W8_ ?_;refine Zc (lb:=i) (hb:=xs.length) (m:=xs.length-i) (c':=c-i) (o':=i*6) ?_ (ho':=by exact s1);exact zk.1):p:=h ⟨zk⟩
theorem QSc (zk:q) (h:ZwB q->p:=by intro zk;refine Zc (lb:=i+1) (hb:=xs.length+1) (m:=xs.length-i) (c':=c-(i+1)) (o':=(i+1)*6) ?_ (ho':=by exact s3);exact zk.1):p:=h ⟨zk⟩
theorem QTc (zk:q) (h:ZwB q->p:=by intro zk;refine Zc (lb:=i) (hb:=xs.length+1) (m:=xs.length+1-i) (c':=c-i) (o':=i*6) ?_ (ho':=by exact s1);exact zk.1):p:=h ⟨zk⟩
theorem QUc (zk:q) (h:ZwB q->p:=by intro zk;refine XA ?_;refine QIc ?_;exact zk.1):p:=h ⟨zk⟩
theorem QVc (zk:q) (h:ZwB q->p:=by intro zk;refine XQ ?_;refine QIc ?_;refine W6_ ?_;refine Zc (lb:=0) (hb:=i) (m:=i) (c':=c) (o':=0) ?_ (ho':=by exact s0);refine W2_ ?_;refine Zc (lb:=i+1) (hb:=xs.length) (m:=xs.length-(i+1)) (c':=c-(i+1)) (o':=off) ?_ (ho':=by exact ho);exact zk.1):p:=h ⟨zk⟩
theorem QWc (zk:q) (h:ZwB q->p:=by intro zk;refine W6_ ?_;refine QIc ?_;refine W1_ ?_;exact zk.1):p:=h ⟨zk⟩
theorem QXc (zk:q) (h:ZwB q->p:=by intro zk;refine X8 (X14 6 120 110 (xs.take i++xs.drop (i+1)) (by conv=>lhs;whnf) (by conv=>lhs;whnf) (e4 _) cz hok (by omega) aW (by simp only[LA,LT,LD,length_replicate];omega) rfl rfl) ?_;exact zk.1):p:=h ⟨zk⟩
theorem QYc (zk:q) (h:ZwB q->p:=by intro zk;refine X92 (lb:=i) (hb:=i+1) (mb:=xs.length) (sz:=6) (hg:=JSa) (hx:=JSb) (hlo:=JSb) (hhi:=JSb) (cN:=JSb) (c8:=JSh) (hh:=JSh) (hm:=JSh) (hT:=JSb) (hd:=JSb) ?_;exact zk.1):p:=h ⟨zk⟩
theorem QZc (zk:q) (h:ZwB q->p:=by intro zk;refine ZBa ((i:Nat)) (1) (((i+1:Nat):Int)) ?_ (e:=rfl);exact zk.1):p:=h ⟨zk⟩
theorem Qad (zk:q) (h:ZwB q->p:=by intro zk;refine W9_ ?_;refine Z3 (af:=hN) ?_;exact zk.1):p:=h ⟨zk⟩
theorem Qbd (zk:q) (h:ZwB q->p:=by intro zk;refine X3m (hg:=JSa) (hx:=JSb) (hL:=JSb) (hi:=JSb) (hn:=JSe) (hk:=JSg) (hlt:=JSh) (hT:=JSb) (hd:=JSb) ?_;exact zk.1):p:=h ⟨zk⟩
theorem Qcd (zk:q) (h:ZwB q->p:=by intro zk;refine XK ?_;refine Qbd ?_;refine X4V (q:=5) (ys:=[.v (.int .i64 y.1.id),.v (.int .i64 y.1.src),.v (.int .i64 y.1.dst),.v (.string (X6 y.1.typ)),.v y.2]) (hg:=JSa) (hx:=JSb) (hL:=JSb) (hn:=JSe) (h0:=JSh) (ht:=JSb) (hd:=JSb) ?_ (hb:=by exact hroom) (hys:=by exact hpart);exact zk.1):p:=h ⟨zk⟩
theorem Qdd (zk:q) (h:ZwB q->p:=by intro zk;refine Zk (op:= .neq) (r':= .bool true) (u:= .int .i64 y.1.src) (v:= .int .i64 id) ?_ (hr':=by exact CG Value.bool (DT n1));refine W5_ ?_;exact zk.1):p:=h ⟨zk⟩
theorem Qed (h:p:=by exact⟨_,St.le_refl _,TV,Xj ⟨rfl,rfl,rfl,rfl,TV⟩⟩):p:=h
theorem Qfd (zk:q) (h:ZwB q->p:=by intro zk;refine Qad ?_;refine Yf ?_;refine Z3 (af:=cq) ?_;refine W2_ ?_;exact zk.1):p:=h ⟨zk⟩
theorem Qgd (zk:q) (h:ZwB q->p:=by intro zk;refine W7_ ?_;refine Zh (sz:=3) ?_;exact zk.1):p:=h ⟨zk⟩
theorem Qhd (zk:q) (h:ZwB q->p:=by intro zk;refine X0L (hg:=JSa) (hx:=JSb) (hL:=JSb) (ht:=JSb) (hd:=JSb) ?_ (hy:=by exact fj);exact zk.1):p:=h ⟨zk⟩
theorem Qid (zk:q) (h:ZwB q->p:=by intro zk;refine Qgd ?_;refine Vl ?_;refine Qhd ?_;exact zk.1):p:=h ⟨zk⟩
theorem Qjd (zk:q) (h:ZwB q->p:=by intro zk;refine Qhd ?_;refine W4_ ?_;exact zk.1):p:=h ⟨zk⟩
theorem Qkd (zk:q) (h:ZwB q->p:=by intro zk;refine X8 (X5t 120 210 (i*3+1) 121 (A:=Y0 (xs.take i)) (B:=(v,6,x1.props.map Xd)::Y0 (xs.drop (i+1))) rfl (X4l _ aT eu rfl) (Eq.trans (b:= .bag (Y0 xs)) (by conv=>lhs;whnf) (by rw[bQ])) rfl rfl) ?_;exact zk.1):p:=h ⟨zk⟩
theorem Qld (zk:q) (h:ZwB q->p:=by intro zk;refine X8 (X5t 120 210 (i*3+2) 121 (A:=Y0 (xs.take i)++[(u,1,x1.labels.map Xf)]) (B:=Y0 (xs.drop (i+1))) rfl (X4l _ aT eu rfl) (Eq.trans (b:= .bag (Y0 xs)) (by conv=>lhs;whnf) (by rw[bQ,AS];rfl)) rfl rfl) ?_;exact zk.1):p:=h ⟨zk⟩
theorem Qmd (zk:q) (h:ZwB q->p:=by intro zk;refine W9_ ?_;refine Z3 (af:=hE) ?_;exact zk.1):p:=h ⟨zk⟩
theorem Qnd (zk:q) (h:ZwB q->p:=by intro zk;refine Z3 (af:=gb) ?_;refine XK ?_;refine Z3 (af:=gf) ?_;exact zk.1):p:=h ⟨zk⟩
theorem Qod (zk:q) (h:ZwB q->p:=by intro zk;refine X8 (X5t 120 211 (i*5+4) 121 (A:=U0 (ys.take i)) (B:=U0 (ys.drop (i+1))) rfl (X4l _ kY eu rfl) (Eq.trans (b:= .bag (U0 ys)) (by conv=>lhs;whnf) (by rw[bQ])) rfl rfl) ?_;exact zk.1):p:=h ⟨zk⟩
theorem Qpd (zk:q) (h:ZwB q->p:=by intro zk;refine X2h 1 rfl (fun _=>rfl) ?_;refine W1_ ?_;exact zk.1):p:=h ⟨zk⟩
theorem Qqd (zk:q) (h:ZwB q->p:=by intro zk;refine Xaw (T:=⟨21,[(0,.ptr 0 0),(3,.ptr 100 0),(4,.ptr 50 0)],[(0,.box [.own 3 g.nodes.length,.own 4 g.aj.length,ai g.nn,ai g.ne]),(3,.nest 3 (g.nodes.map cNN)),(4,.nest 5 (g.aj.map cNE)),(100,.box [ai op,ai id,ai src,ai dst,.d (.v (.string (X6 name))),ai k0,ai k1,ai k2,.d (.v (.string (X6 k3))),.d (.sl 5 (XX k4))]),(50,.box [ai 0])]⟩) (ZL0) ?_;refine Xbk ?_;exact zk.1):p:=h ⟨zk⟩
theorem Qrd (h:p:=by exact(show Leaves _ _ _ _ _ _ _ from Xl2 (β:=50) (t:=4) (ty:=38) (e:=e) (e0:=0) (x:={v:= .iface 216 (.int .i64 e),recovered:=true}) rfl iq hb (by decide) rfl rfl rfl fQ rfl (fun p e0 w=>Xip p e e0 w) rfl rfl Xd2 hs)):p:=h
theorem Qsd (h:p:=by exact⟨by omega,by omega,by simp,hs,fun w hw=>by simp at hw⟩):p:=h
theorem Qtd (h:p:=by exact X2 ⟨_,Xq 101 (cs:=[aq,aq,ab false]) (cs':=[.d (XL []),.d (XS []),ab false]) rfl ⟨AVal.le_nil 1,AVal.le_nil 2,AVal.le_refl _,TV⟩ rfl,⟨⟨101,0,_,rfl,rfl,.inr ⟨3,_,rfl,rfl,rfl,rfl⟩⟩,rfl,rfl,TV⟩,X4 _⟩):p:=h
theorem Qud (zk:q) (h:ZwB q->p:=by intro zk;refine XQ ?_;refine Z3 (af:=aC) ?_;refine U8 ?_;refine ZBM SN 64 ?_;exact zk.1):p:=h ⟨zk⟩
theorem Qvd (h:p:=by exact X2 ⟨_,St.le_trans (Xq 102 (cs:=[aq,aq,ab false]) (cs':=[.d (XL []),.d (XS []),ab false]) rfl ⟨AVal.le_nil 1,AVal.le_nil 2,AVal.le_refl _,TV⟩ rfl) (Xq 103 (cs:=[aq,aq,ai 0,ai 0,aq,ai 0,ai 0,ai 0]) (cs':=[.d (.sl 3 []),.d (.sl 5 []),ai 0,ai 0,.d (.sl 6 []),ai 0,ai 0,ai 0]) rfl ⟨AVal.le_nil 3,AVal.le_nil 5,AVal.le_refl _,AVal.le_refl _,AVal.le_nil 6,AVal.le_refl _,AVal.le_refl _,AVal.le_refl _,TV⟩ rfl),⟨⟨102,0,_,rfl,rfl,.inr ⟨3,_,rfl,rfl,rfl,rfl⟩⟩,⟨103,0,_,rfl,rfl,.inr ⟨8,_,rfl,rfl,rfl,rfl⟩⟩,rfl,TV⟩,X4 _⟩):p:=h
theorem Qwd (zk:q) (h:ZwB q->p:=by intro zk;refine Z2 (op:= .rem) (r':=ni (EP%2)) (u:=ni EP) (v:=ni 2) ?_ (hr:=by exact Vh (by omega));exact zk.1):p:=h ⟨zk⟩
theorem Qxd (zk:q) (h:ZwB q->p:=by intro zk;refine X8S hb' jS rfl rfl rfl (by(first|((exact True.intro))|((exact⟨rfl,rfl⟩))|((exact⟨rfl,CG ab (by(first|((rfl))|((assumption))|((simp only[LM,LT,LA,decide_eq_true_eq,decide_eq_false_iff_not,ne_eq,Classical.not_not];omega))|((simp<;>fail))|((simp[*]<;>fail))|((simp;omega))|fail))⟩))|fail)) ?_;refine Z6 (lb:=64*k) (hb:=hb') (ys:=C) ?_ (hys:=by exact ir);exact zk.1):p:=h ⟨zk⟩
theorem Qyd (zk:q) (h:ZwB q->p:=by intro zk;refine ZBM (EP%2) SN ?_ (hc:=(by rw[YO];have:EP%2*SN<=1*SN:=Nat.mul_le_mul_right _ (by omega);omega));refine ZBA 2 (EP%2*SN) ?_ (hc:=(by rw[YO];have:EP%2*SN<=1*SN:=Nat.mul_le_mul_right _ (by omega);omega));refine W1_ ?_;exact zk.1):p:=h ⟨zk⟩
theorem Qzd (zk:q) (h:ZwB q->p:=by intro zk;refine ZBA (2+EP%2*SN) k ?_ (hc:=(by rw[YO];have:EP%2*SN<=1*SN:=Nat.mul_le_mul_right _ (by omega);omega));refine W1_ ?_;exact zk.1):p:=h ⟨zk⟩
theorem QAd (zk:q) (h:ZwB q->p:=by intro zk;refine Z3 (af:=hw) ?_;refine W8_ ?_;refine Z5 (af:=hs) ?_;exact zk.1):p:=h ⟨zk⟩
theorem QBd (h:p:=by exact X2 ⟨_,St.le_refl _,⟨⟨102,0,_,rfl,rfl,.inr ⟨3,_,rfl,rfl,rfl,rfl⟩⟩,⟨103,0,_,rfl,rfl,.inr ⟨8,_,rfl,rfl,rfl,rfl⟩⟩,rfl,TV⟩,X4 _⟩):p:=h
theorem QCd (h:p:=by exact X2 ⟨_,Xe 4 (AVal.le_nil 6),⟨rfl,rfl,TV⟩,X4 _⟩):p:=h
theorem QDd (h:p:=by refine YR ?_;exact QCd):p:=h
theorem QEd (h:p:=by refine X00 ?_;exact QCd):p:=h
theorem QFd (h:p:=by exact X2 ⟨_,Xq 102 (cs:=[aq,aq,ai 0,ai 0,aq,ai 0,ai 0,ai 0]) (cs':=[.d (.sl 3 []),.d (.sl 5 []),ai 0,ai 0,.d (.sl 6 []),ai 0,ai 0,ai 0]) rfl ⟨AVal.le_nil 3,AVal.le_nil 5,AVal.le_refl _,AVal.le_refl _,AVal.le_nil 6,AVal.le_refl _,AVal.le_refl _,AVal.le_refl _,TV⟩ rfl,⟨⟨102,0,_,rfl,rfl,.inr ⟨8,_,rfl,rfl,rfl,rfl⟩⟩,rfl,TV⟩,X4 _⟩):p:=h
theorem QGd (h:p:=by exact X2 ⟨_,St.le_refl _,⟨⟨102,0,_,rfl,rfl,.inr ⟨8,_,rfl,rfl,rfl,rfl⟩⟩,rfl,TV⟩,X4 _⟩):p:=h
theorem QHd (h:p:=by refine QCa ?_;refine YY ?_;exact QGd):p:=h
theorem QId (h:p:=by exact X2 ⟨_,St.le_refl _,⟨⟨101,0,_,rfl,rfl,.inr ⟨8,_,rfl,rfl,rfl,rfl⟩⟩,rfl,TV⟩,X4 _⟩):p:=h
theorem QJd (h:p:=by exact X2 ⟨_,Xq 101 (cs:=[aq,aq,ai 0,ai 0,aq,ai 0,ai 0,ai 0]) (cs':=[.d (.sl 3 []),.d (.sl 5 []),ai 0,ai 0,.d (.sl 6 []),ai 0,ai 0,ai 0]) rfl ⟨AVal.le_nil 3,AVal.le_nil 5,AVal.le_refl _,AVal.le_refl _,AVal.le_nil 6,AVal.le_refl _,AVal.le_refl _,AVal.le_refl _,TV⟩ rfl,⟨⟨101,0,_,rfl,rfl,.inr ⟨8,_,rfl,rfl,rfl,rfl⟩⟩,rfl,TV⟩,X4 _⟩):p:=h
theorem QKd (h:p:=by exact⟨(i+1,⟨⟨yn,ye,cB,cC⟩,yr,yt,yp,yl⟩),⟨by simp only;omega,hg,hy⟩,by simp only;omega,ZL0⟩):p:=h
theorem QLd (h:p:=by exact X2 ⟨_,St.le_trans (Xq 100 (cs:=[aq,aq,ab false]) (cs':=[.d (XL []),.d (XS []),ab false]) rfl ⟨AVal.le_nil 1,AVal.le_nil 2,AVal.le_refl _,TV⟩ rfl) (Xq 101 (cs:=[aq,aq,ai 0,ai 0,aq,ai 0,ai 0,ai 0]) (cs':=[.d (.sl 3 []),.d (.sl 5 []),ai 0,ai 0,.d (.sl 6 []),ai 0,ai 0,ai 0]) rfl ⟨AVal.le_nil 3,AVal.le_nil 5,AVal.le_refl _,AVal.le_refl _,AVal.le_nil 6,AVal.le_refl _,AVal.le_refl _,AVal.le_refl _,TV⟩ rfl),⟨⟨100,0,_,rfl,rfl,.inr ⟨3,_,rfl,rfl,rfl,rfl⟩⟩,⟨101,0,_,rfl,rfl,.inr ⟨8,_,rfl,rfl,rfl,rfl⟩⟩,rfl,TV⟩,X4 _⟩):p:=h
theorem QMd (h:p:=by refine Vb ?_;exact Qvd):p:=h
theorem QNd (zk:q) (h:ZwB q->p:=by intro zk;refine St.le_trans (X03 100 4 130 (cs:=[aq,aq,ai 0,ai 0,.own 130 (acc.map Xh).length,ai ts,ai ep,ai 0]) (sz:=6) (xs:=acc.map Xh) rfl rfl rfl rfl) ?_;exact zk.1):p:=h ⟨zk⟩
theorem QOd (zk:q) (h:ZwB q->p:=by intro zk;refine St.le_trans (Xq 100 (cs:=[aq,aq,ai 0,ai 0,.d (.sl 6 (acc.map Xh)),ai ts,ai ep,ai 0]) (cs':=[.d (.sl 3 []),.d (.sl 5 []),ai 0,ai 0,.d (.sl 6 (acc.map Xh)),ai ts,ai ep,ai 0]) rfl ⟨AVal.le_nil 3,AVal.le_nil 5,AVal.le_refl _,AVal.le_refl _,AVal.le_refl _,AVal.le_refl _,AVal.le_refl _,AVal.le_refl _,TV⟩ rfl) ?_;exact zk.1):p:=h ⟨zk⟩
theorem QPd (zk:q) (h:ZwB q->p:=by intro zk;refine W3_ ?_;refine Z3 (af:=kZ) ?_;refine W1_ ?_;refine Z3 (af:=jl) ?_;exact zk.1):p:=h ⟨zk⟩
theorem QQd (h:p:=by refine XA ?_;refine Z3 (af:=hrd) ?_;refine X7 ?_;refine UD ?_;exact QJd):p:=h
theorem QRd (zk:q) (h:ZwB q->p:=by intro zk;refine UU ?_;refine Z3 (af:=h0) ?_;refine XK ?_;refine Z3 (af:=h1) ?_;refine XG ?_;refine Qzc ?_;exact zk.1):p:=h ⟨zk⟩
theorem QSd (zk:q) (h:ZwB q->p:=by intro zk;refine UU ?_;refine Z3 (af:=h0) ?_;refine XK ?_;refine Z3 (af:=h1) ?_;refine QCa ?_;exact zk.1):p:=h ⟨zk⟩
theorem QTd (h:p:=by exact⟨i+1,⟨by omega,by omega,eO⟩,by omega,Xb rfl ⟨JL,JL,TV⟩ TV⟩):p:=h
theorem QUd (h:p:=by exact⟨0+1,⟨by omega,fun _=>by rw[oF];exact hh,eO⟩,by omega,Xb rfl ⟨JL,JL,TV⟩ TV⟩):p:=h
theorem QVd (h:p:=by refine QX ?_;refine QIa ?_;refine Qg ?_;refine W9_ ?_;exact Zr0):p:=h
theorem QWd (h:p:=by exact⟨i+1,⟨by omega,fun _=>hh,eO⟩,by omega,Xb rfl ⟨JL,JL,TV⟩ TV⟩):p:=h
theorem QXd (h:p:=by refine XG ?_;refine QG ?_;refine W2_ ?_;refine QG ?_;refine W4_ ?_;exact Qi):p:=h
theorem QYd (h:p:=by refine UX ?_;exact Qh):p:=h
theorem QZd (zk:q) (h:ZwB q->p:=by intro zk;refine W4_ ?_;refine Qm ?_;refine W7_ ?_;refine Qm ?_;refine W7_ ?_;refine Qbc ?_;exact zk.1):p:=h ⟨zk⟩
theorem Qae (zk:q) (h:ZwB q->p:=by intro zk;refine W4_ ?_;refine QIa ?_;refine W8_ ?_;exact zk.1):p:=h ⟨zk⟩
theorem Qbe (zk:q) (h:ZwB q->p:=by intro zk;refine YY ?_;refine Z3 (af:=aI) ?_;refine W3_ ?_;refine Z3 (af:=aW) ?_;refine W9_ ?_;refine Z3 (af:=fL) ?_;exact zk.1):p:=h ⟨zk⟩
theorem Qce (h:p:=by refine UP ?_;exact Qtb):p:=h
theorem Qde (zk:q) (h:ZwB q->p:=by intro zk;refine XY ?_;refine ZBs (((j+1:Nat):Int)) (1) (((j:Nat):Int)) ?_;exact zk.1):p:=h ⟨zk⟩
theorem Qee (zk:q) (h:ZwB q->p:=by intro zk;refine Z3 (af:=hs1) ?_;refine XR ?_;refine Z3 (af:=bV) ?_;exact zk.1):p:=h ⟨zk⟩
theorem Qfe (zk:q) (h:ZwB q->p:=by intro zk;refine Yq ?_;refine Z3 (af:=c2) ?_;refine Yg ?_;refine Z3 (af:=c3) ?_;exact zk.1):p:=h ⟨zk⟩
theorem Qge (h:p:=by exact X2 ⟨_,Xe 2 (y:=ab false) (AVal.le_of_eq (CG ab (by simp<;>omega))),⟨rfl,TV⟩,X4 _⟩):p:=h
theorem Qhe (zk:q) (h:ZwB q->p:=by intro zk;refine XA ?_;refine Z3 (af:=X3S d) ?_;exact zk.1):p:=h ⟨zk⟩
theorem Qie (h:p:=by exact⟨k+1,by omega,by omega,Xb rfl ⟨JL,JL,(by rw[ji,hb];exact AVal.le_refl _),JL,TV⟩ TV⟩):p:=h
theorem Qje (zk:q) (h:ZwB q->p:=by intro zk;refine Qwb ?_;refine X8 (Y7 2 130 rfl rfl (by first|rfl|(simp only[LA,LM,LC,length_nil]<;>omega))) ?_;exact zk.1):p:=h ⟨zk⟩
theorem Qke (zk:q) (h:ZwB q->p:=by intro zk;refine QKa ?_;refine W7_ ?_;refine Z3 (af:=dH) ?_;exact zk.1):p:=h ⟨zk⟩
theorem Qle (zk:q) (h:ZwB q->p:=by intro zk;refine Z3 (af:=c3) ?_;refine XG ?_;refine Z3 (af:=c4) ?_;refine XA ?_;refine Z3 (af:=c5) ?_;refine W8_ ?_;exact zk.1):p:=h ⟨zk⟩
theorem Qme (h:p:=by exact X2 ⟨_,Xq 102 (cs:=[aq,aq,ab false]) (cs':=[.d (XL []),.d (XS []),ab false]) rfl ⟨AVal.le_nil 1,AVal.le_nil 2,AVal.le_refl _,TV⟩ rfl,⟨⟨102,0,_,rfl,rfl,.inr ⟨3,_,rfl,rfl,rfl,rfl⟩⟩,rfl,TV⟩,X4 _⟩):p:=h
theorem Qne (h:p:=by exact X2 ⟨_,St.le_refl _,⟨⟨102,0,_,rfl,rfl,.inr ⟨3,_,rfl,rfl,rfl,rfl⟩⟩,rfl,TV⟩,X4 _⟩):p:=h
theorem Qoe (h:p:=by exact X2 ⟨_,Xe 4 (AVal.le_nil 3),⟨rfl,TV⟩,X4 _⟩):p:=h
theorem Qpe (h:p:=by exact⟨(i+1,out),⟨by simp only;omega,hg⟩,by simp only;omega,ZL0⟩):p:=h
theorem Qqe (h:p:=by exact Xb rfl ⟨JL,JL,JL,AVal.le_of_eq (by refine Eq.trans (b:=AVal.own 130 (_+_)) rfl ?_;simp),JL,JL,TV⟩ ⟨rfl,rfl,TV⟩):p:=h
theorem Qre (zk:q) (h:ZwB q->p:=by intro zk;refine Yq ?_;refine V0 (op:= .geq) (u:= .string _) (v:= .string _) (hg:=JSa) (hx:=JSb) (hy:=JSb) (hr:=JSm) (h1:=JSb) (hd:=JSb) ?_;exact zk.1):p:=h ⟨zk⟩
theorem Qse (zk:q) (h:ZwB q->p:=by intro zk;refine Qwb ?_;refine X8 (Y7 5 130 rfl rfl (by simp)) ?_;refine Ye ?_;exact zk.1):p:=h ⟨zk⟩
theorem Qte (h:p:=by exact Xb rfl ⟨JL,JL,JL,AVal.le_of_eq (by refine Eq.trans (b:=AVal.own 130 (_+_)) rfl ?_;simp),JL,JL,TV⟩ ⟨rfl,rfl,rfl,rfl,TV⟩):p:=h
theorem Que (zk:q) (h:ZwB q->p:=by intro zk;refine ZBs (((j+1:Nat):Int)) (1) ((j:Nat)) ?_ (e:=hsub);refine Zh (sz:=3) ?_;exact zk.1):p:=h ⟨zk⟩
theorem Qve (zk:q) (h:ZwB q->p:=by intro zk;refine Que ?_;refine W1_ ?_;refine X0L (hg:=JSa) (hx:=JSb) (hL:=JSb) (ht:=JSb) (hd:=JSb) ?_ (hy:=by exact fL);exact zk.1):p:=h ⟨zk⟩
theorem Qwe (h:p:=by exact Xb rfl ⟨JL,JL,JL,JL,AVal.le_of_eq (by refine Eq.trans (b:=AVal.own 130 (_+_)) rfl ?_;simp only[LA,LM,LC,length_nil]),JL,TV⟩ ⟨rfl,rfl,rfl,rfl,rfl,TV⟩):p:=h
theorem Qxe (zk:q) (h:ZwB q->p:=by intro zk;refine XY ?_;refine Z3 (af:=fk) ?_;exact zk.1):p:=h ⟨zk⟩
theorem Qye (zk:q) (h:ZwB q->p:=by intro zk;refine Qxe ?_;refine Qr ?_;refine Z3 (af:=kZ) ?_;refine XR ?_;refine Z3 (af:=jl) ?_;exact zk.1):p:=h ⟨zk⟩
theorem Qze (h:p:=by exact Xb rfl ⟨JL,JL,JL,JL,JL,AVal.le_of_eq (by rw[LA];rfl),JL,TV⟩ ⟨rfl,TV⟩):p:=h
theorem QAe (h:p:=by exact Xb rfl ⟨JL,JL,JL,AVal.le_of_eq (by rw[LA];rfl),JL,TV⟩ ⟨rfl,rfl,rfl,TV⟩):p:=h
theorem QBe (zk:q) (h:ZwB q->p:=by intro zk;refine X4V (q:=3) (ys:=[XL (DD k).aa,XS (DD k).pending,.v (.bool (DD k).on)]) (hg:=JSa) (hx:=JSb) (hL:=JSb) (hn:=JSe) (h0:=JSh) (ht:=JSb) (hd:=JSb) ?_ (hb:=by exact hroom) (hys:=by exact hys);exact zk.1):p:=h ⟨zk⟩
theorem QCe (zk:q) (h:ZwB q->p:=by intro zk;refine X4V (q:=3) (ys:=[XL (Z j).aa,XS (Z j).pending,.v (.bool (Z j).on)]) (hg:=JSa) (hx:=JSb) (hL:=JSb) (hn:=JSe) (h0:=JSh) (ht:=JSb) (hd:=JSb) ?_ (hb:=by exact hroom) (hys:=by exact hys);exact zk.1):p:=h ⟨zk⟩
theorem QDe (h:p:=by exact⟨_,rfl,X5X gW rfl rfl rfl rfl rfl Tryz.underlying4 hk kids full (by decide+kernel)⟩):p:=h
theorem QEe (h:p:=by exact contract H enc W base args ds gs before hval hW):p:=h
theorem QFe (zk:q) (h:ZwB q->p:=by intro zk;refine QKa ?_;refine W7_ ?_;refine Z3 (af:=jR) ?_;exact zk.1):p:=h ⟨zk⟩
theorem QGe (h:p:=by exact Xb rfl ⟨JL,AVal.le_of_eq (by refine Eq.trans (b:=AVal.own 131 (_+_)) rfl ?_;simp only[LA,LM,LC,length_nil]),JL,TV⟩ ⟨rfl,TV⟩):p:=h
end
end Go.Fw
