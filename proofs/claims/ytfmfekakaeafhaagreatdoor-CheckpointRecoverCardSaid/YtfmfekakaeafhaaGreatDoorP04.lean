/- Steps of a walk with the usual proofs of their side goals. -/
import Derived.Test.YtfmfekakaeafhaaGreatDoorP03
set_option linter.all false
namespace Go.Fw
open Go List
open List renaming length->J
variable{p:Prop}{Li Lo:List (Nat×AObj)}{args:Array Operand}{bytes c1 c2 hb lb m n n' n1 n2 o1 o2 sz β γ:Nat}{cs cs':List (Option D)}{f:FuncId}{hi lo:Option Operand}{ho:Option (Nat×AVal)}{kd:IntKind}{op:BinOp}{r u v:Value}{res:AVal}{c x y:Operand}{xs ys:List (List D)}{zs:List Value}{P:Program}{fn:Func}{rs:List ResultVar}{S:St}{b draw:Bool}{ops:Array Oper}{o:Option Tmp}
def JAa (h:p:=by exact(by(first|((exact True.intro))|((exact⟨rfl,rfl⟩))|((exact⟨rfl,CG ab (by(first|((rfl))|((assumption))|((simp only[LM,LT,LA,decide_eq_true_eq,decide_eq_false_iff_not,ne_eq,Classical.not_not];omega))|((simp<;>fail))|((simp[*]<;>fail))|((simp;omega))|fail))⟩))|fail))):p:=h
def JAb (h:p:=by(first|((omega))|((simp;omega))|((assumption))|fail)):p:=h
def JAc (h:p:=by(first|((omega))|((simp only[LM,LT,LD,LA,LC,length_nil,length_replicate,length_set]<;>omega))|((simp;omega))|((simp at*;omega))|fail)):p:=h
def JAd (h:p:=by(repeat (first|exact trivial|refine⟨rfl,?_⟩|fail))<;>fail):p:=h
def JAe (h:p:=by(first|((rfl))|((assumption))|((simp only[LM,LT,LA,decide_eq_true_eq,decide_eq_false_iff_not,ne_eq,Classical.not_not];omega))|((simp<;>fail))|((simp[*]<;>fail))|((simp;omega))|fail)):p:=h
def JAf (h:p:=by(first|((exact rfl))|((simp<;>fail))|((simp only[LM,LT,LD,LA,LC,length_nil,length_replicate,length_set]<;>omega))|((assumption))|fail)):p:=h
def JAg (h:p:=by(first|((exact rfl))|((omega))|((assumption))|((simp;omega))|fail)):p:=h
def JAh (h:p:=by(first|((exact rfl))|((exact(show(0:Int)=((0:Nat):Int) from rfl)))|fail)):p:=h
def JSE (h:p:=by(first|((exact⟨rfl,rfl⟩))|((exact⟨rfl,CG ab (by(first|((rfl))|((assumption))|((simp only[LM,LT,LA,decide_eq_true_eq,decide_eq_false_iff_not,ne_eq,Classical.not_not];omega))|((simp<;>fail))|((simp[*]<;>fail))|((simp;omega))|fail))⟩))|fail)):p:=h
def JSD (h:p:=by(first|((trivial))|((exact rfl))|fail)):p:=h
def JSC (h:p:=by exact(by(first|((rfl))|((assumption))|((simp only[LM,LT,LA,decide_eq_true_eq,decide_eq_false_iff_not,ne_eq,Classical.not_not];omega))|((simp<;>fail))|((simp[*]<;>fail))|((simp;omega))|fail))):p:=h
def JSB (h:p:=by exact Xw7 (by unfold X0S;(first|((omega))|((simp;omega))|fail))):p:=h
def JSA (h:p:=by exact X5G (by unfold X0S;(first|((omega))|((simp;omega))|fail))):p:=h
def JSz (h:p:=by exact XnL (by unfold X0S;(first|((omega))|((simp;omega))|fail))):p:=h
def JSy (h:p:=by exact Xj4 (by omega) (by omega)):p:=h
def JSx (h:p:=by exact Xu6 rfl):p:=h
def JSw (h:p:=by exact XvV):p:=h
def JSv (h:p:=by exact XlR):p:=h
def JSu (h:p:=by exact XxO rfl):p:=h
def JSt (h:p:=by exact XwZ):p:=h
def JSs (h:p:=by exact XoI):p:=h
def JSr (h:p:=by exact XtC):p:=h
def JSq (h:p:=by exact XwK):p:=h
def JSp (h:p:=by exact XzI):p:=h
def JSo (h:p:=by exact Xl8):p:=h
def JSn (h:p:=by(first|((exact XC (by assumption)))|((assumption))|((exact rfl))|fail)):p:=h
def JSl (h:p:=by decide):p:=h
def JSk (h:p:=by exact XqQ):p:=h
def JSj (h:p:=by exact Xub):p:=h
def JSi (h:p:=by exact Xu3):p:=h
def JSh (h:p:=by exact JAb):p:=h
def JSg (h:p:=by exact JAh):p:=h
def JSf (h:p:=by(first|((exact Xjb))|((exact Xm5))|fail)):p:=h
def JSe (h:p:=by exact JAf):p:=h
def JSd (h:p:=by exact JAc):p:=h
def JSc (h:p:=by conv=>lhs;whnf):p:=h
def JSb (h:p:=by exact rfl):p:=h
def JSa (h:p:=by exact JAa):p:=h
section
variable {P:Program}{ops:Array Oper}{draw:Bool}{K:XU->St->Prop}{rest:List Oper}{l:XU}{S:St}
variable {d:Nat}{ty:TypeId}{pos:String}{ah:Array Edge}{gd:Option (Nat×Bool)}
def Z1 {src dst:TypeId} (hr:∀w,(convert src dst u).run P w= .ok r w) (h:Walk P ops draw K rest ((J l,⟨some d,.convert src dst x,ty,pos,ah,gd⟩,⟨XH ops gd++[(x,.d (.v u))],some (d,.d (.v r)),[],[],[]⟩)::l) (S.set d (.d (.v r)))) (hg:XL ops S gd:=by exact JAa) (hx:S.ev x= .d (.v u):=by exact rfl) (h1:r.oneCell'=true:=by exact rfl) (hd:Nat.blt d S.n=true:=by exact rfl):Walk P ops draw K (⟨some d,.convert src dst x,ty,pos,ah,gd⟩::rest) l S:=XoF (hx:=hx) (hr:=hr) (h1:=h1) (hd:=hd) (hg:=hg) (h:=h)
def Z3 {xt yt:TypeId} (r':Value) (hr':r=r') (hr:∀w,(do eqGuard op xt x y u v;binOp op xt u v:Sem Value).run P w= .ok r w) (h:Walk P ops draw K rest ((J l,⟨some d,.binOp op xt x y yt,ty,pos,ah,gd⟩,⟨XH ops gd++[(x,.d (.v u)),(y,.d (.v v))],some (d,.d (.v r')),[],[],[]⟩)::l) (S.set d (.d (.v r')))) (hg:XL ops S gd:=by exact JAa) (hx:S.ev x= .d (.v u):=by exact rfl) (hy:S.ev y= .d (.v v):=by exact rfl) (h1:r'.oneCell'=true:=by exact rfl) (hd:Nat.blt d S.n=true:=by exact rfl):Walk P ops draw K (⟨some d,.binOp op xt x y yt,ty,pos,ah,gd⟩::rest) l S:=X3X (r':=r') (hr':=hr') (hx:=hx) (hy:=hy) (hr:=hr) (h1:=h1) (hd:=hd) (hg:=hg) (h:=h)
def Z4 {xt yt:TypeId} (r':Value) (hr:∀w,(do eqGuard op xt x y u v;binOp op xt u v:Sem Value).run P w= .ok r w) (h:Walk P ops draw K rest ((J l,⟨some d,.binOp op xt x y yt,ty,pos,ah,gd⟩,⟨XH ops gd++[(x,.d (.v u)),(y,.d (.v v))],some (d,.d (.v r')),[],[],[]⟩)::l) (S.set d (.d (.v r')))) (hg:XL ops S gd:=by exact JAa) (hr':r=r':=by exact rfl) (hx:S.ev x= .d (.v u):=by exact rfl) (hy:S.ev y= .d (.v v):=by exact rfl) (h1:r'.oneCell'=true:=by exact rfl) (hd:Nat.blt d S.n=true:=by exact rfl):Walk P ops draw K (⟨some d,.binOp op xt x y yt,ty,pos,ah,gd⟩::rest) l S:=X3X (r':=r') (hr':=hr') (hx:=hx) (hy:=hy) (hr:=hr) (h1:=h1) (hd:=hd) (hg:=hg) (h:=h)
def Z5 {tys:Array TypeId}{xs:List Operand}{ys zs:List AVal} (ag:Con P f Li zs Lo res) (h:Walk P ops draw K rest ((J l,⟨some d,.call ⟨.value (.func f),args,tys⟩,ty,pos,ah,gd⟩,⟨XH ops gd++X5U xs ys,some (d,res),Li++X3v (VU Li Lo),Lo,VU Li Lo⟩)::l)
   ((S.set d res).cat Lo)) (hg:XL ops S gd:=by exact JAa) (hxs:args.toList=xs:=by exact rfl) (hys:evA S xs=ys:=by conv=>lhs;whnf) (hle:leL ys zs:=by((repeat (first|exact trivial|refine⟨(by(first|((exact AVal.le_refl _))|((exact AVal.le_nil _))|((refine AVal.le_agg ?_;((repeat (first|exact trivial|refine⟨(by(first|((exact AVal.le_refl _))|((exact AVal.le_nil _))|((refine AVal.le_of_eq ?_;(conv=>lhs;whnf);(first|((rfl))|((simp<;>fail))|fail)))|fail)),?_⟩|fail))<;>fail)))|((refine AVal.le_of_eq ?_;(conv=>lhs;whnf);(first|((rfl))|((simp<;>fail))|fail)))|fail)),?_⟩|fail))<;>fail)) (hf:X2H P f=true:=by exact rfl) (bB:Vn S Li:=by exact JAd) (hin:X4j Li Lo=true:=by exact rfl) (dw:X4n Lo Lo=true:=by exact rfl) (hres:res.within Lo=true:=by exact rfl) (hnew:X33 S (VU Li Lo):=by exact JAd) (av:Vn S (X3v (VU Li Lo)):=by exact JAd) (hd:Nat.blt d S.n=true:=by exact rfl):Walk P ops draw K (⟨some d,.call ⟨.value (.func f),args,tys⟩,ty,pos,ah,gd⟩::rest) l S:=Xin (hxs:=hxs) (hys:=hys) (hle:=hle) (ag:=ag) (hf:=hf) (bB:=bB) (hin:=hin) (dw:=dw) (hres:=hres) (hnew:=hnew) (av:=av) (hd:=hd) (hg:=hg) (h:=h)
def Z6 {op:UnOp}{xt:TypeId} (hr:∀w,(Op.unary op u).run P w= .ok r w) (h:Walk P ops draw K rest ((J l,⟨some d,.unOp op xt x,ty,pos,ah,gd⟩,⟨XH ops gd++[(x,.d (.v u))],some (d,.d (.v r)),[],[],[]⟩)::l) (S.set d (.d (.v r)))) (hg:XL ops S gd:=by exact JAa) (hx:S.ev x= .d (.v u):=by exact rfl) (h1:r.oneCell'=true:=by exact rfl) (hd:Nat.blt d S.n=true:=by exact rfl):Walk P ops draw K (⟨some d,.unOp op xt x,ty,pos,ah,gd⟩::rest) l S:=Xj7 (hx:=hx) (hr:=hr) (h1:=h1) (hd:=hd) (hg:=hg) (h:=h)
def Z7 {t:Tmp}{caps:List AVal}{tys:Array TypeId}{xs:List Operand}{ys zs:List AVal} (ag:Con P f Li zs Lo res) (h:Walk P ops draw K rest ((J l,⟨some d,.call ⟨.value (.tmp t),args,tys⟩,ty,pos,ah,gd⟩,⟨XH ops gd++((.tmp t,.fn f caps)::X5U xs ys),some (d,res),Li++X3v (VU Li Lo),Lo,VU Li Lo⟩)::l)
   ((S.set d res).cat Lo)) (hg:XL ops S gd:=by exact JAa) (ht:S.ev (.tmp t)= .fn f caps:=by exact rfl) (hxs:args.toList=xs:=by exact rfl) (hys:evA S xs=ys:=by conv=>lhs;whnf) (hle:leL (ys++caps) zs:=by((repeat (first|exact trivial|refine⟨(by(first|((exact AVal.le_refl _))|((exact AVal.le_nil _))|((refine AVal.le_agg ?_;((repeat (first|exact trivial|refine⟨(by(first|((exact AVal.le_refl _))|((exact AVal.le_nil _))|((refine AVal.le_of_eq ?_;(conv=>lhs;whnf);(first|((rfl))|((simp<;>fail))|fail)))|fail)),?_⟩|fail))<;>fail)))|((refine AVal.le_of_eq ?_;(conv=>lhs;whnf);(first|((rfl))|((simp<;>fail))|fail)))|fail)),?_⟩|fail))<;>fail)) (hf:X2H P f=true:=by exact rfl) (bB:Vn S Li:=by exact JAd) (hin:X4j Li Lo=true:=by exact rfl) (dw:X4n Lo Lo=true:=by exact rfl) (hres:res.within Lo=true:=by exact rfl) (hnew:X33 S (VU Li Lo):=by exact JAd) (av:Vn S (X3v (VU Li Lo)):=by exact JAd) (hd:Nat.blt d S.n=true:=by exact rfl):Walk P ops draw K (⟨some d,.call ⟨.value (.tmp t),args,tys⟩,ty,pos,ah,gd⟩::rest) l S:=XpH (ht:=ht) (hxs:=hxs) (hys:=hys) (hle:=hle) (ag:=ag) (hf:=hf) (bB:=bB) (hin:=hin) (dw:=dw) (hres:=hres) (hnew:=hnew) (av:=av) (hd:=hd) (hg:=hg) (h:=h)
def Z8 {T:TypeId} (hys:(xs.take hb).drop lb=ys) (h:Walk P ops draw K rest ((J l,⟨some d,.slice T x lo hi none,ty,pos,ah,gd⟩,⟨XH ops gd++((x,.d (.sl sz xs))::(X2T lo lb++X2T hi hb)),some (d,.d (.sl sz ys)),[],[],[]⟩)::l) (S.set d (.d (.sl sz ys)))) (hg:XL ops S gd:=by exact JAa) (hx:S.ev x= .d (.sl sz xs):=by exact rfl) (hlo:X9y S lo lb:=by(first|((trivial))|((exact rfl))|fail)) (hhi:Xac S (J xs) hi hb:=by(first|((trivial))|((exact rfl))|fail)) (cg:lb<=hb:=by exact JAb) (hh:hb<=J xs:=by exact JAb) (hT:UT P T sz=true:=by exact rfl) (hd:Nat.blt d S.n=true:=by exact rfl):Walk P ops draw K (⟨some d,.slice T x lo hi none,ty,pos,ah,gd⟩::rest) l S:=Xx9 (hx:=hx) (hlo:=hlo) (hhi:=hhi) (cg:=cg) (hh:=hh) (hys:=hys) (hT:=hT) (hd:=hd) (hg:=hg) (h:=h)
def Z9 {T:TypeId}{lo hi mx:Operand}{mb:Nat} (hys:(xs.take hb).drop lb=ys) (h:Walk P ops draw K rest ((J l,⟨some d,.slice T x (some lo) (some hi) (some mx),ty,pos,ah,gd⟩,⟨XH ops gd++[(x,.d (.sl sz xs)),(lo,ai lb),(hi,ai hb),(mx,ai mb)],some (d,.d (.sl sz ys)),[],[],[]⟩)::l) (S.set d (.d (.sl sz ys)))) (hg:XL ops S gd:=by exact JAa) (hx:S.ev x= .d (.sl sz xs):=by exact rfl) (hlo:S.ev lo=ai lb:=by exact rfl) (hhi:S.ev hi=ai hb:=by exact rfl) (cU:S.ev mx=ai mb:=by exact rfl) (cg:lb<=hb:=by exact JAb) (hh:hb<=mb:=by exact JAb) (hm:mb<=J xs:=by exact JAb) (hT:UT P T sz=true:=by exact rfl) (hd:Nat.blt d S.n=true:=by exact rfl):Walk P ops draw K (⟨some d,.slice T x (some lo) (some hi) (some mx),ty,pos,ah,gd⟩::rest) l S:=XzA (hx:=hx) (hlo:=hlo) (hhi:=hhi) (cU:=cU) (cg:=cg) (hh:=hh) (hm:=hm) (hys:=hys) (hT:=hT) (hd:=hd) (hg:=hg) (h:=h)
def Za {T:TypeId}{len:Nat}{parts:Array (Nat×Operand)}{pl:List (Nat×Operand)}{ps:List (Nat×AVal)}{out:List AVal} (h:Walk P ops draw K rest ((J l,⟨some d,.buildSlice T len parts,ty,pos,ah,gd⟩,⟨XH ops gd++X3d pl ps,some (d,.own γ len),[(γ,.dead)],[(γ,.row sz xs)],[γ]⟩)::l) ((S.set d (.own γ len)).own γ (.row sz xs))) (hg:XL ops S gd:=by exact JAa) (aT:parts.toList=pl:=by exact rfl) (hps:evL S pl=ps:=by conv=>lhs;whnf) (hz:X34 P T=some zs:=by exact rfl) (hS:J zs=sz:=by conv=>lhs;whnf) (hT:UT P T sz=true:=by exact rfl) (hzl:Nat.beq (J zs) sz=true:=by exact rfl) (cE:X1Q (VC zs len)=true:=by exact rfl) (hsmall:Nat.ble (len*sz) 16777216=true:=by exact rfl) (aL:Nat.ble len 16777216=true:=by exact rfl) (hout:X4z (fun i=>some (i*sz,sz)) (dvL (VC zs len)) ps=some out:=by conv=>lhs;whnf) (hxs:X5b sz len out=some xs:=by conv=>lhs;whnf) (av:S.obj γ= .dead:=by exact rfl) (hf:S.free γ=true:=by exact rfl) (hd:Nat.blt d S.n=true:=by exact rfl):Walk P ops draw K (⟨some d,.buildSlice T len parts,ty,pos,ah,gd⟩::rest) l S:=Xqd (aT:=aT) (hps:=hps) (hz:=hz) (hS:=hS) (hT:=hT) (hzl:=hzl) (cE:=cE) (hsmall:=hsmall) (aL:=aL) (hout:=hout) (hxs:=hxs) (av:=av) (hf:=hf) (hd:=hd) (hg:=hg) (h:=h)
def Zb {xt yt:TypeId} (r':Value) (hr':r=r') (h:Walk P ops draw K rest ((J l,⟨some d,.binOp op xt x y yt,ty,pos,ah,gd⟩,⟨XH ops gd++[(x,.d (.v u)),(y,.d (.v v))],some (d,.d (.v r')),[],[],[]⟩)::l) (S.set d (.d (.v r')))) (hg:XL ops S gd:=by exact JAa) (hx:S.ev x= .d (.v u):=by exact rfl) (hy:S.ev y= .d (.v v):=by exact rfl) (hr:∀w,(do eqGuard op xt x y u v;binOp op xt u v:Sem Value).run P w= .ok r w:=by exact Xj4 (by omega) (by omega)) (h1:r'.oneCell'=true:=by exact rfl) (hd:Nat.blt d S.n=true:=by exact rfl):Walk P ops draw K (⟨some d,.binOp op xt x y yt,ty,pos,ah,gd⟩::rest) l S:=X3X (r':=r') (hr':=hr') (hx:=hx) (hy:=hy) (hr:=hr) (h1:=h1) (hd:=hd) (hg:=hg) (h:=h)
def Zc {T T2:TypeId} (h:Walk P ops draw K rest ((J l,⟨some d,.call ⟨.builtin .append,#[x,y],#[T,T2]⟩,ty,pos,ah,gd⟩,⟨XH ops gd++[(x,.own γ n),(y,.d (.sl sz ys))],some (d,.d (.sl sz (xs++ys))),[(γ,.row sz xs)],[(γ,.froz sz (xs++ys))],[]⟩)::l)
   ((S.set d (.d (.sl sz (xs++ys)))).own γ (.froz sz (xs++ys)))) (hg:XL ops S gd:=by exact JAa) (hx:S.ev x= .own γ n:=by exact rfl) (hL:S.obj γ= .row sz xs:=by exact rfl) (hy:S.ev y= .d (.sl sz ys):=by exact rfl) (hn:n=J xs:=by exact JAf) (hB:elB P T=bytes:=by conv=>lhs;whnf) (hT:X1w P T sz bytes=true:=by exact rfl) (bN:X4r P T2=true:=by exact rfl) (hb0:Nat.beq bytes 0=false:=by exact rfl) (hroom:(J xs+J ys)*bytes<=140737488355328:=by exact JAc) (hd:Nat.blt d S.n=true:=by exact rfl):Walk P ops draw K (⟨some d,.call ⟨.builtin .append,#[x,y],#[T,T2]⟩,ty,pos,ah,gd⟩::rest) l S:=XyA (hx:=hx) (hL:=hL) (hy:=hy) (hn:=hn) (hB:=hB) (hT:=hT) (bN:=bN) (hb0:=hb0) (hroom:=hroom) (hd:=hd) (hg:=hg) (h:=h)
def Zd {T:TypeId}{o c o' c':Nat} (ho':(if c=lb then o else o+lb*sz)=o') (h:Walk P ops draw K rest ((J l,⟨some d,.slice T x lo hi none,ty,pos,ah,gd⟩,⟨XH ops gd++((x,.rs β o n c)::(X2T lo lb++X2T hi hb)),some (d,.rs β o' m c'),[],[],[]⟩)::l) (S.set d (.rs β o' m c'))) (hg:XL ops S gd:=by exact JAa) (hx:S.ev x= .rs β o n c:=by exact rfl) (hlo:X9y S lo lb:=by(first|((trivial))|((exact rfl))|fail)) (hhi:Xac S n hi hb:=by(first|((trivial))|((exact rfl))|fail)) (cg:lb<=hb:=by exact JAb) (hh:hb<=c:=by exact JAb) (hm:hb-lb=m:=by exact JAg) (kq:c-lb=c':=by exact JAg) (hT:UT P T sz=true:=by exact rfl) (hd:Nat.blt d S.n=true:=by exact rfl):Walk P ops draw K (⟨some d,.slice T x lo hi none,ty,pos,ah,gd⟩::rest) l S:=XxC (hx:=hx) (hlo:=hlo) (hhi:=hhi) (cg:=cg) (hh:=hh) (hm:=hm) (kq:=kq) (ho':=ho') (hT:=hT) (hd:=hd) (hg:=hg) (h:=h)
def Ze {T T2:TypeId} (hc:X3b ((cs.drop o2).take (m*sz))=true) (hcs:cs.take o1++(cs.drop o2).take (m*sz)++cs.drop (o1+m*sz)=cs') (h:Walk P ops draw K rest ((J l,⟨some d,.call ⟨.builtin .copy,#[x,y],#[T,T2]⟩,ty,pos,ah,gd⟩,⟨XH ops gd++[(x,.rs β o1 n1 c1),(y,.rs β o2 n2 c2)],some (d,ai m),[(β,.raw cs none)],[(β,.raw cs' none)],[]⟩)::l)
   ⟨S.n,(d,ai m)::S.τ,(β,.raw cs' none)::S.L⟩) (hg:XL ops S gd:=by exact JAa) (hx:S.ev x= .rs β o1 n1 c1:=by exact rfl) (hy:S.ev y= .rs β o2 n2 c2:=by exact rfl) (hL:S.obj β= .raw cs none:=by exact rfl) (hm:m=min n2 n1:=by exact JAg) (h2:o2+m*sz<=J cs:=by exact JAb) (h1:o1+m*sz<=J cs:=by exact JAb) (hT:UT P T sz=true:=by exact rfl) (hd:Nat.blt d S.n=true:=by exact rfl):Walk P ops draw K (⟨some d,.call ⟨.builtin .copy,#[x,y],#[T,T2]⟩,ty,pos,ah,gd⟩::rest) l S:=XzE (hx:=hx) (hy:=hy) (hL:=hL) (hm:=hm) (hc:=hc) (h2:=h2) (h1:=h1) (hcs:=hcs) (hT:=hT) (hd:=hd) (hg:=hg) (h:=h)
def Zf {yv:AVal}{T T2:TypeId} (hcs:cs.take o1++(ys.take m).flatten.map some++cs.drop (o1+m*sz)=cs') (h:Walk P ops draw K rest ((J l,⟨some d,.call ⟨.builtin .copy,#[x,y],#[T,T2]⟩,ty,pos,ah,gd⟩,⟨XH ops gd++[(x,.rs β o1 n1 c1),(y,yv)],some (d,ai m),[(β,.raw cs none)],[(β,.raw cs' none)],[]⟩)::l)
   ⟨S.n,(d,ai m)::S.τ,(β,.raw cs' none)::S.L⟩) (hg:XL ops S gd:=by exact JAa) (hx:S.ev x= .rs β o1 n1 c1:=by exact rfl) (hL:S.obj β= .raw cs none:=by exact rfl) (hy:S.ev y=yv:=by exact rfl) (hsrc:SrcV P yv sz ys:=by(first|((exact Xjb))|((exact Xm5))|fail)) (hm:m=min (J ys) n1:=by exact JAg) (h1:o1+m*sz<=J cs:=by exact JAb) (hT:UT P T sz=true:=by exact rfl) (hd:Nat.blt d S.n=true:=by exact rfl):Walk P ops draw K (⟨some d,.call ⟨.builtin .copy,#[x,y],#[T,T2]⟩,ty,pos,ah,gd⟩::rest) l S:=Xtd (hx:=hx) (hL:=hL) (hy:=hy) (hsrc:=hsrc) (hm:=hm) (h1:=h1) (hcs:=hcs) (hT:=hT) (hd:=hd) (hg:=hg) (h:=h)
def Zg {T T2:TypeId} (hxs:cs.take (n1*sz)=xs.flatten.map some) (hxl:J xs=n1) (hxz:∀r∈xs,J r=sz) (h:Walk P ops draw K rest ((J l,⟨some d,.call ⟨.builtin .append,#[x,y],#[T,T2]⟩,ty,pos,ah,gd⟩,⟨XH ops gd++[(x,.rs β 0 n1 c1),(y,.d (.v (.int kd (m:Nat))))],some (d,.own γ n'),[(β,.raw cs none),(γ,.dead)],[(γ,.row sz (xs++replicate m (zD zs)))],[γ]⟩)::l)
   ((S.set d (.own γ n')).own γ (.row sz (xs++replicate m (zD zs))))) (hg:XL ops S gd:=by exact JAa) (hx:S.ev x= .rs β 0 n1 c1:=by exact rfl) (hy:S.ev y= .d (.v (.int kd (m:Nat))):=by exact rfl) (hL:S.obj β= .raw cs none:=by exact rfl) (hfull:¬n1+m<=c1:=by exact JAb) (hn':n1+m=n':=by exact JAg) (hm:0<m:=by exact JAb) (hle:n1*sz<=J cs:=by exact JAb) (hz:X34 P T=some zs:=by exact rfl) (hB:elB P T=bytes:=by conv=>lhs;whnf) (hT:X1w P T sz bytes=true:=by exact rfl) (bN:Xbf P T2=true:=by exact rfl) (hb0:Nat.beq bytes 0=false:=by exact rfl) (hs0:Nat.beq sz 0=false:=by exact rfl) (hcap:n'*bytes<=70368744177664:=by exact JAb) (hold:c1<n':=by exact JAb) (av:S.obj γ= .dead:=by exact rfl) (hf:S.free γ=true:=by exact rfl) (hd:Nat.blt d S.n=true:=by exact rfl):Walk P ops draw K (⟨some d,.call ⟨.builtin .append,#[x,y],#[T,T2]⟩,ty,pos,ah,gd⟩::rest) l S:=XuN (hx:=hx) (hy:=hy) (hL:=hL) (hfull:=hfull) (hn':=hn') (hm:=hm) (hxs:=hxs) (hxl:=hxl) (hxz:=hxz) (hle:=hle) (hz:=hz) (hB:=hB) (hT:=hT) (bN:=bN) (hb0:=hb0) (hs0:=hs0) (hcap:=hcap) (hold:=hold) (av:=av) (hf:=hf) (hd:=hd) (hg:=hg) (h:=h)
def Zh {T T2:TypeId} (hc:X3b ((cs.drop o2).take (n2*sz))=true) (hcs:cs.take (o1+n1*sz)++(cs.drop o2).take (n2*sz)++cs.drop (o1+n1*sz+n2*sz)=cs') (h:Walk P ops draw K rest ((J l,⟨some d,.call ⟨.builtin .append,#[x,y],#[T,T2]⟩,ty,pos,ah,gd⟩,⟨XH ops gd++[(x,.rs β o1 n1 c1),(y,.rs β o2 n2 c2)],some (d,.rs β o1 n' c1),[(β,.raw cs none)],[(β,.raw cs' none)],[]⟩)::l)
   ((S.set d (.rs β o1 n' c1)).own β (.raw cs' none))) (hg:XL ops S gd:=by exact JAa) (hx:S.ev x= .rs β o1 n1 c1:=by exact rfl) (hy:S.ev y= .rs β o2 n2 c2:=by exact rfl) (hL:S.obj β= .raw cs none:=by exact rfl) (hroom:n1+n2<=c1:=by exact JAb) (hn':n1+n2=n':=by exact JAg) (h2:o2+n2*sz<=J cs:=by exact JAb) (h1:o1+n1*sz+n2*sz<=J cs:=by exact JAb) (hB:elB P T=bytes:=by conv=>lhs;whnf) (hT:X1w P T sz bytes=true:=by exact rfl) (bN:X4r P T2=true:=by exact rfl) (hd:Nat.blt d S.n=true:=by exact rfl):Walk P ops draw K (⟨some d,.call ⟨.builtin .append,#[x,y],#[T,T2]⟩,ty,pos,ah,gd⟩::rest) l S:=Xpn (hx:=hx) (hy:=hy) (hL:=hL) (hroom:=hroom) (hn':=hn') (hc:=hc) (h2:=h2) (h1:=h1) (hcs:=hcs) (hB:=hB) (hT:=hT) (bN:=bN) (hd:=hd) (hg:=hg) (h:=h)
def Zi {i:Operand}{T:TypeId}{o c k p:Nat}{m:Int} (h:Walk P ops draw K rest ((J l,⟨some d,.indexAddr T x i,ty,pos,ah,gd⟩,⟨XH ops gd++[(x,.rs β o n c),(i,.d (.v (.int kd m)))],some (d,.ptr β p),[],[],[]⟩)::l) (S.set d (.ptr β p))) (hg:XL ops S gd:=by exact JAa) (hx:S.ev x= .rs β o n c:=by exact rfl) (hi:S.ev i= .d (.v (.int kd m)):=by exact rfl) (hk:m=(k:Nat):=by exact JAh) (hlt:k<n:=by exact JAb) (hp:o+k*sz=p:=by exact rfl) (hT:UT P T sz=true:=by exact rfl) (hd:Nat.blt d S.n=true:=by exact rfl):Walk P ops draw K (⟨some d,.indexAddr T x i,ty,pos,ah,gd⟩::rest) l S:=XtK (hx:=hx) (hi:=hi) (hk:=hk) (hlt:=hlt) (hp:=hp) (hT:=hT) (hd:=hd) (hg:=hg) (h:=h)
def Zj {t:TypeId}{v:Operand}{o:Nat}{ho':Option (Nat×AVal)}{y:AVal} (hcs:Yj cs' ho'=(Yj cs ho).take o++y.parts++(Yj cs ho).drop (o+J y.parts)) (h:Walk P ops draw K rest ((J l,⟨none,.store t x v,ty,pos,ah,gd⟩,⟨XH ops gd++[(x,.ptr γ o),(v,y)],none,[(γ,.raw cs ho)],[(γ,.raw cs' ho')],[]⟩)::l)
   (S.own γ (.raw cs' ho'))) (hg:XL ops S gd:=by exact JAa) (hx:S.ev x= .ptr γ o:=by exact rfl) (hL:S.obj γ= .raw cs ho:=by exact rfl) (hv:S.ev v=y:=by conv=>lhs;whnf) (hc:X31 y.parts=true:=by exact rfl) (ht:X7A P t (J y.parts)=true:=by exact rfl) (hb:o+J y.parts<=J cs:=by exact JAb):Walk P ops draw K (⟨none,.store t x v,ty,pos,ah,gd⟩::rest) l S:=XyO (hx:=hx) (hL:=hL) (hv:=hv) (hc:=hc) (ht:=ht) (hb:=hb) (hcs:=hcs) (hg:=hg) (h:=h)
def Zk {xt yt:TypeId} (r':Value) (hr':r=r') (h:Walk P ops draw K rest ((J l,⟨some d,.binOp op xt x y yt,ty,pos,ah,gd⟩,⟨XH ops gd++[(x,.d (.v u)),(y,.d (.v v))],some (d,.d (.v r')),[],[],[]⟩)::l) (S.set d (.d (.v r')))) (hg:XL ops S gd:=by exact JAa) (hx:S.ev x= .d (.v u):=by exact rfl) (hy:S.ev y= .d (.v v):=by exact rfl) (hr:∀w,(do eqGuard op xt x y u v;binOp op xt u v:Sem Value).run P w= .ok r w:=by exact Xl8) (h1:r'.oneCell'=true:=by exact rfl) (hd:Nat.blt d S.n=true:=by exact rfl):Walk P ops draw K (⟨some d,.binOp op xt x y yt,ty,pos,ah,gd⟩::rest) l S:=X3X (r':=r') (hr':=hr') (hx:=hx) (hy:=hy) (hr:=hr) (h1:=h1) (hd:=hd) (hg:=hg) (h:=h)
def Zl {xt yt:TypeId} (r':Value) (hr':r=r') (h:Walk P ops draw K rest ((J l,⟨some d,.binOp op xt x y yt,ty,pos,ah,gd⟩,⟨XH ops gd++[(x,.d (.v u)),(y,.d (.v v))],some (d,.d (.v r')),[],[],[]⟩)::l) (S.set d (.d (.v r')))) (hg:XL ops S gd:=by exact JAa) (hx:S.ev x= .d (.v u):=by exact rfl) (hy:S.ev y= .d (.v v):=by exact rfl) (hr:∀w,(do eqGuard op xt x y u v;binOp op xt u v:Sem Value).run P w= .ok r w:=by exact XlR) (h1:r'.oneCell'=true:=by exact rfl) (hd:Nat.blt d S.n=true:=by exact rfl):Walk P ops draw K (⟨some d,.binOp op xt x y yt,ty,pos,ah,gd⟩::rest) l S:=X3X (r':=r') (hr':=hr') (hx:=hx) (hy:=hy) (hr:=hr) (h1:=h1) (hd:=hd) (hg:=hg) (h:=h)
def Zm {xt yt:TypeId} (r':Value) (hr':r=r') (h:Walk P ops draw K rest ((J l,⟨some d,.binOp op xt x y yt,ty,pos,ah,gd⟩,⟨XH ops gd++[(x,.d (.v u)),(y,.d (.v v))],some (d,.d (.v r')),[],[],[]⟩)::l) (S.set d (.d (.v r')))) (hg:XL ops S gd:=by exact JAa) (hx:S.ev x= .d (.v u):=by exact rfl) (hy:S.ev y= .d (.v v):=by exact rfl) (hr:∀w,(do eqGuard op xt x y u v;binOp op xt u v:Sem Value).run P w= .ok r w:=by exact XoI) (h1:r'.oneCell'=true:=by exact rfl) (hd:Nat.blt d S.n=true:=by exact rfl):Walk P ops draw K (⟨some d,.binOp op xt x y yt,ty,pos,ah,gd⟩::rest) l S:=X3X (r':=r') (hr':=hr') (hx:=hx) (hy:=hy) (hr:=hr) (h1:=h1) (hd:=hd) (hg:=hg) (h:=h)
def Zn {t:TypeId}{o:Nat}{ys:List AVal} (hy:((Yj cs ho).drop o).take sz=ys) (h:Walk P ops draw K rest ((J l,⟨some d,.load t x,ty,pos,ah,gd⟩,⟨XH ops gd++[(x,.ptr γ o)],some (d,.agg ys),[(γ,.raw cs ho)],[],[]⟩)::l) (S.set d (.agg ys))) (hg:XL ops S gd:=by exact JAa) (hx:S.ev x= .ptr γ o:=by exact rfl) (hL:S.obj γ= .raw cs ho:=by exact rfl) (ht:X1u P t true sz=true:=by exact rfl) (hlen:J ys=sz:=by exact rfl) (hd:Nat.blt d S.n=true:=by exact rfl):Walk P ops draw K (⟨some d,.load t x,ty,pos,ah,gd⟩::rest) l S:=XpM (hx:=hx) (hL:=hL) (ht:=ht) (hy:=hy) (hlen:=hlen) (hd:=hd) (hg:=hg) (h:=h)
def Zq {T T2:TypeId} (hne:ys≠[]) (h:Walk P ops draw K rest ((J l,⟨some d,.call ⟨.builtin .append,#[x,y],#[T,T2]⟩,ty,pos,ah,gd⟩,⟨XH ops gd++[(x,.dx sz xs),(y,.d (.sl sz ys))],some (d,.own γ (J xs+J ys)),[(γ,.dead)],[(γ,.row sz (xs++ys))],[γ]⟩)::l) ((S.set d (.own γ (J xs+J ys))).own γ (.row sz (xs++ys)))) (hg:XL ops S gd:=by exact JAa) (hx:S.ev x= .dx sz xs:=by exact rfl) (hy:S.ev y= .d (.sl sz ys):=by exact rfl) (hB:elB P T=bytes:=by conv=>lhs;whnf) (hT:X1w P T sz bytes=true:=by exact rfl) (bN:cy P T2=true:=by exact rfl) (hb0:Nat.beq bytes 0=false:=by exact rfl) (hroom:(J xs+J ys)*bytes<=140737488355328:=by exact JAc) (av:S.obj γ= .dead:=by exact rfl) (hf:S.free γ=true:=by exact rfl) (hd:Nat.blt d S.n=true:=by exact rfl):Walk P ops draw K (⟨some d,.call ⟨.builtin .append,#[x,y],#[T,T2]⟩,ty,pos,ah,gd⟩::rest) l S:=XwI (hx:=hx) (hy:=hy) (hne:=hne) (hB:=hB) (hT:=hT) (bN:=bN) (hb0:=hb0) (hroom:=hroom) (av:=av) (hf:=hf) (hd:=hd) (hg:=hg) (h:=h)
def Zr {op:UnOp}{xt:TypeId} (h:Walk P ops draw K rest ((J l,⟨some d,.unOp op xt x,ty,pos,ah,gd⟩,⟨XH ops gd++[(x,.d (.v u))],some (d,.d (.v r)),[],[],[]⟩)::l) (S.set d (.d (.v r)))) (hg:XL ops S gd:=by exact JAa) (hx:S.ev x= .d (.v u):=by exact rfl) (hr:∀w,(Op.unary op u).run P w= .ok r w:=by(first|((exact Xu2))|((exact Xeh (by omega)))|fail)) (h1:r.oneCell'=true:=by exact rfl) (hd:Nat.blt d S.n=true:=by exact rfl):Walk P ops draw K (⟨some d,.unOp op xt x,ty,pos,ah,gd⟩::rest) l S:=Xj7 (hx:=hx) (hr:=hr) (h1:=h1) (hd:=hd) (hg:=hg) (h:=h)
def Zt {src dst:TypeId} (h:Walk P ops draw K rest ((J l,⟨some d,.convert src dst x,ty,pos,ah,gd⟩,⟨XH ops gd++[(x,.d (.v u))],some (d,.d (.v r)),[],[],[]⟩)::l) (S.set d (.d (.v r)))) (hg:XL ops S gd:=by exact JAa) (hx:S.ev x= .d (.v u):=by exact rfl) (hr:∀w,(convert src dst u).run P w= .ok r w:=by(first|((exact Xqb rfl rfl))|((exact rc_in64 rfl rfl (by omega)))|fail)) (h1:r.oneCell'=true:=by exact rfl) (hd:Nat.blt d S.n=true:=by exact rfl):Walk P ops draw K (⟨some d,.convert src dst x,ty,pos,ah,gd⟩::rest) l S:=XoF (hx:=hx) (hr:=hr) (h1:=h1) (hd:=hd) (hg:=hg) (h:=h)
section
variable {P:Program}{E:Env}{S:St}{Q:Exit->St->Prop}
def JD {K:XU->St->Prop}{l:XU} (k:K l S) (h:draw=true->X7l ops l=true:=by(first|exact fun h=>Bool.noConfusion h|exact fun _=>rfl|fail)):Walk P ops draw K [] l S:= .done h k
def JR {id:Nat} (h:Walk P ops draw (fun _=>Q .normal) ops.toList [] S) (hm:P.follows .mixedOrders=true:=by kernel_rfl):AWP P E (.region id ops draw) S Q:=Xrz hm h
def JT {x y:Code} (h:AWP P E x S Q) (hc:S.ev c= .d (.v (.bool b)):=by rfl) (hb:b=true:=by exact JAe):AWP P E (.cond c x y) S Q:=Xqj hc hb h
def JF {x y:Code} (h:AWP P E y S Q) (hc:S.ev c= .d (.v (.bool b)):=by rfl) (hb:b=false:=by exact JAe):AWP P E (.cond c x y) S Q:=Xr5 hc hb h
end
def JL (h:p:=by(first|((exact AVal.le_refl _))|((exact AVal.le_nil _))|((refine AVal.le_agg ?_;((repeat (first|exact trivial|refine⟨(by(first|((exact AVal.le_refl _))|((exact AVal.le_nil _))|((refine AVal.le_of_eq ?_;(conv=>lhs;whnf);(first|((rfl))|((simp<;>fail))|fail)))|fail)),?_⟩|fail))<;>fail)))|((refine AVal.le_of_eq ?_;(conv=>lhs;whnf);(first|((rfl))|((simp<;>fail))|fail)))|fail)):p:=h
def JM (h:p:=by((repeat (first|exact trivial|refine⟨(by(first|((exact AVal.le_refl _))|((exact AVal.le_nil _))|((refine AVal.le_agg ?_;((repeat (first|exact trivial|refine⟨(by(first|((exact AVal.le_refl _))|((exact AVal.le_nil _))|((refine AVal.le_of_eq ?_;(conv=>lhs;whnf);(first|((rfl))|((simp<;>fail))|fail)))|fail)),?_⟩|fail))<;>fail)))|((refine AVal.le_of_eq ?_;(conv=>lhs;whnf);(first|((rfl))|((simp<;>fail))|fail)))|fail)),?_⟩|fail))<;>fail)):p:=h
def ZLr:∀l:List AVal,leL l l
 |[]=>trivial
 |x::r=>⟨AVal.le_refl x,ZLr r⟩
def ZCA {tys:Array TypeId}{xs:List Operand}{ys:List AVal} (h:Walk P ops draw K rest ((J l,⟨some d,.call ⟨.value (.func f),args,tys⟩,ty,pos,ah,gd⟩,⟨XH ops gd++X5U xs ys,some (d,res),Li++X3v (VU Li Lo),Lo,VU Li Lo⟩)::l)
   ((S.set d res).cat Lo)) (hg:XL ops S gd:=by exact JAa) (hxs:args.toList=xs:=by exact rfl) (hys:evA S xs=ys:=by conv=>lhs;whnf) (ag:Con P f Li ys Lo res:=by assumption) (hf:X2H P f=true:=by exact rfl) (bB:Vn S Li:=by exact JAd) (hin:X4j Li Lo=true:=by exact rfl) (dw:X4n Lo Lo=true:=by exact rfl) (hres:res.within Lo=true:=by exact rfl) (hnew:X33 S (VU Li Lo):=by exact JAd) (av:Vn S (X3v (VU Li Lo)):=by exact JAd) (hd:Nat.blt d S.n=true:=by exact rfl):Walk P ops draw K (⟨some d,.call ⟨.value (.func f),args,tys⟩,ty,pos,ah,gd⟩::rest) l S:=Xin (hle:=ZLr ys) (hg:=hg) (hxs:=hxs) (hys:=hys) (ag:=ag) (hf:=hf) (bB:=bB) (hin:=hin) (dw:=dw) (hres:=hres) (hnew:=hnew) (av:=av) (hd:=hd) (h:=h)
def ZBa {xt yt:TypeId} (a b z:Int) (h:Walk P ops draw K rest ((J l,⟨some d,.binOp .add xt x y yt,ty,pos,ah,gd⟩,⟨XH ops gd++[(x,.d (.v (.int .i64 a))),(y,.d (.v (.int .i64 b)))],some (d,.d (.v (.int .i64 z))),[],[],[]⟩)::l) (S.set d (.d (.v (.int .i64 z))))) (e:a+b=z:=by omega) (hc:X0S (a+b):=by unfold X0S;omega) (hg:XL ops S gd:=by exact JAa) (hx:S.ev x= .d (.v (.int .i64 a)):=by exact rfl) (hy:S.ev y= .d (.v (.int .i64 b)):=by exact rfl) (hd:Nat.blt d S.n=true:=by exact rfl):Walk P ops draw K (⟨some d,.binOp .add xt x y yt,ty,pos,ah,gd⟩::rest) l S:=X3X (r':= .int .i64 z) (hr':=CG (Value.int .i64) e) (hx:=hx) (hy:=hy) (hr:=XnL hc) (h1:=rfl) (hd:=hd) (hg:=hg) (h:=h)
def ZBs {xt yt:TypeId} (a b z:Int) (h:Walk P ops draw K rest ((J l,⟨some d,.binOp .sub xt x y yt,ty,pos,ah,gd⟩,⟨XH ops gd++[(x,.d (.v (.int .i64 a))),(y,.d (.v (.int .i64 b)))],some (d,.d (.v (.int .i64 z))),[],[],[]⟩)::l) (S.set d (.d (.v (.int .i64 z))))) (e:a-b=z:=by omega) (hc:X0S (a-b):=by unfold X0S;omega) (hg:XL ops S gd:=by exact JAa) (hx:S.ev x= .d (.v (.int .i64 a)):=by exact rfl) (hy:S.ev y= .d (.v (.int .i64 b)):=by exact rfl) (hd:Nat.blt d S.n=true:=by exact rfl):Walk P ops draw K (⟨some d,.binOp .sub xt x y yt,ty,pos,ah,gd⟩::rest) l S:=X3X (r':= .int .i64 z) (hr':=CG (Value.int .i64) e) (hx:=hx) (hy:=hy) (hr:=X5G hc) (h1:=rfl) (hd:=hd) (hg:=hg) (h:=h)
def ZBA {xt yt:TypeId} (a b:Nat) (h:Walk P ops draw K rest ((J l,⟨some d,.binOp .add xt x y yt,ty,pos,ah,gd⟩,⟨XH ops gd++[(x,.d (.v (.int .i64 (a:Nat)))),(y,.d (.v (.int .i64 (b:Nat))))],some (d,.d (.v (.int .i64 ((a+b:Nat):Int)))),[],[],[]⟩)::l) (S.set d (.d (.v (.int .i64 ((a+b:Nat):Int)))))) (hc:a+b<2^X11 .i64:=by rw[YX];omega) (hg:XL ops S gd:=by exact JAa) (hx:S.ev x= .d (.v (.int .i64 (a:Nat))):=by exact rfl) (hy:S.ev y= .d (.v (.int .i64 (b:Nat))):=by exact rfl) (hd:Nat.blt d S.n=true:=by exact rfl):Walk P ops draw K (⟨some d,.binOp .add xt x y yt,ty,pos,ah,gd⟩::rest) l S:=X3X (r':= .int .i64 ((a+b:Nat):Int)) (hr':=rfl) (hx:=hx) (hy:=hy) (hr:=X2e hc) (h1:=rfl) (hd:=hd) (hg:=hg) (h:=h)
def ZBM {xt yt:TypeId} (a b:Nat) (h:Walk P ops draw K rest ((J l,⟨some d,.binOp .mul xt x y yt,ty,pos,ah,gd⟩,⟨XH ops gd++[(x,.d (.v (.int .i64 (a:Nat)))),(y,.d (.v (.int .i64 (b:Nat))))],some (d,.d (.v (.int .i64 ((a*b:Nat):Int)))),[],[],[]⟩)::l) (S.set d (.d (.v (.int .i64 ((a*b:Nat):Int)))))) (hc:a*b<2^X11 .i64:=by rw[YX];omega) (hg:XL ops S gd:=by exact JAa) (hx:S.ev x= .d (.v (.int .i64 (a:Nat))):=by exact rfl) (hy:S.ev y= .d (.v (.int .i64 (b:Nat))):=by exact rfl) (hd:Nat.blt d S.n=true:=by exact rfl):Walk P ops draw K (⟨some d,.binOp .mul xt x y yt,ty,pos,ah,gd⟩::rest) l S:=X3X (r':= .int .i64 ((a*b:Nat):Int)) (hr':=rfl) (hx:=hx) (hy:=hy) (hr:=X3C hc) (h1:=rfl) (hd:=hd) (hg:=hg) (h:=h)
def ZBq {xt yt:TypeId} (a b:Nat) (h:Walk P ops draw K rest ((J l,⟨some d,.binOp .quo xt x y yt,ty,pos,ah,gd⟩,⟨XH ops gd++[(x,.d (.v (.int .i64 (a:Nat)))),(y,.d (.v (.int .i64 (b:Nat))))],some (d,.d (.v (.int .i64 ((a/b:Nat):Int)))),[],[],[]⟩)::l) (S.set d (.d (.v (.int .i64 ((a/b:Nat):Int)))))) (hb:b≠0:=by omega) (hc:a<2^X11 .i64:=by rw[YX];omega) (hg:XL ops S gd:=by exact JAa) (hx:S.ev x= .d (.v (.int .i64 (a:Nat))):=by exact rfl) (hy:S.ev y= .d (.v (.int .i64 (b:Nat))):=by exact rfl) (hd:Nat.blt d S.n=true:=by exact rfl):Walk P ops draw K (⟨some d,.binOp .quo xt x y yt,ty,pos,ah,gd⟩::rest) l S:=X3X (r':= .int .i64 ((a/b:Nat):Int)) (hr':=rfl) (hx:=hx) (hy:=hy) (hr:=X23 hb hc) (h1:=rfl) (hd:=hd) (hg:=hg) (h:=h)
def JGa {a1:_} (h:Walk P ops draw K (⟨o,.move a1,ty,pos,ah,gd⟩::rest) l S):Walk P ops draw K (⟨o,.move a1,ty,pos,ah,gd⟩::rest) l S:=h
def JGb {a1:_}{a2:_} (h:Walk P ops draw K (⟨o,.load a1 a2,ty,pos,ah,gd⟩::rest) l S):Walk P ops draw K (⟨o,.load a1 a2,ty,pos,ah,gd⟩::rest) l S:=h
def JGc {a1:_} (h:Walk P ops draw K (⟨o,.assign a1,ty,pos,ah,gd⟩::rest) l S):Walk P ops draw K (⟨o,.assign a1,ty,pos,ah,gd⟩::rest) l S:=h
def JGd {a1:_}{a2:_}{a3:_} (h:Walk P ops draw K (⟨o,.fieldAddr a1 a2 a3,ty,pos,ah,gd⟩::rest) l S):Walk P ops draw K (⟨o,.fieldAddr a1 a2 a3,ty,pos,ah,gd⟩::rest) l S:=h
def JGe {a1:_}{a2:_} (h:Walk P ops draw K (⟨o,.call ⟨.builtin .len,a1,a2⟩,ty,pos,ah,gd⟩::rest) l S):Walk P ops draw K (⟨o,.call ⟨.builtin .len,a1,a2⟩,ty,pos,ah,gd⟩::rest) l S:=h
def JGf {a1:_}{a2:_}{a3:_}{a4:_} (h:Walk P ops draw K (⟨o,.binOp .lss a1 a2 a3 a4,ty,pos,ah,gd⟩::rest) l S):Walk P ops draw K (⟨o,.binOp .lss a1 a2 a3 a4,ty,pos,ah,gd⟩::rest) l S:=h
def JGg {a1:_}{a2:_}{a3:_}{a4:_} (h:Walk P ops draw K (⟨o,.binOp .leq a1 a2 a3 a4,ty,pos,ah,gd⟩::rest) l S):Walk P ops draw K (⟨o,.binOp .leq a1 a2 a3 a4,ty,pos,ah,gd⟩::rest) l S:=h
def JGh {a1:_}{a2:_}{a3:_}{a4:_} (h:Walk P ops draw K (⟨o,.binOp .gtr a1 a2 a3 a4,ty,pos,ah,gd⟩::rest) l S):Walk P ops draw K (⟨o,.binOp .gtr a1 a2 a3 a4,ty,pos,ah,gd⟩::rest) l S:=h
def JGi {a1:_}{a2:_}{a3:_}{a4:_} (h:Walk P ops draw K (⟨o,.binOp .geq a1 a2 a3 a4,ty,pos,ah,gd⟩::rest) l S):Walk P ops draw K (⟨o,.binOp .geq a1 a2 a3 a4,ty,pos,ah,gd⟩::rest) l S:=h
def JGj {a1:_}{a2:_}{a3:_}{a4:_} (h:Walk P ops draw K (⟨o,.binOp .eql a1 a2 a3 a4,ty,pos,ah,gd⟩::rest) l S):Walk P ops draw K (⟨o,.binOp .eql a1 a2 a3 a4,ty,pos,ah,gd⟩::rest) l S:=h
def JGk {a1:_}{a2:_}{a3:_}{a4:_} (h:Walk P ops draw K (⟨o,.binOp .neq a1 a2 a3 a4,ty,pos,ah,gd⟩::rest) l S):Walk P ops draw K (⟨o,.binOp .neq a1 a2 a3 a4,ty,pos,ah,gd⟩::rest) l S:=h
def JGl {a1:_}{a2:_}{a3:_}{a4:_} (h:Walk P ops draw K (⟨o,.binOp .rem a1 a2 a3 a4,ty,pos,ah,gd⟩::rest) l S):Walk P ops draw K (⟨o,.binOp .rem a1 a2 a3 a4,ty,pos,ah,gd⟩::rest) l S:=h
def JGm {a1:_}{a2:_}{a3:_}{a4:_} (h:Walk P ops draw K (⟨o,.binOp .add a1 a2 a3 a4,ty,pos,ah,gd⟩::rest) l S):Walk P ops draw K (⟨o,.binOp .add a1 a2 a3 a4,ty,pos,ah,gd⟩::rest) l S:=h
def JGn {a1:_}{a2:_}{a3:_}{a4:_} (h:Walk P ops draw K (⟨o,.binOp .sub a1 a2 a3 a4,ty,pos,ah,gd⟩::rest) l S):Walk P ops draw K (⟨o,.binOp .sub a1 a2 a3 a4,ty,pos,ah,gd⟩::rest) l S:=h
def JGo {a1:_}{a2:_}{a3:_}{a4:_} (h:Walk P ops draw K (⟨o,.binOp .mul a1 a2 a3 a4,ty,pos,ah,gd⟩::rest) l S):Walk P ops draw K (⟨o,.binOp .mul a1 a2 a3 a4,ty,pos,ah,gd⟩::rest) l S:=h
def JGp {a1:_}{a2:_}{a3:_} (h:Walk P ops draw K (⟨o,.indexAddr a1 a2 a3,ty,pos,ah,gd⟩::rest) l S):Walk P ops draw K (⟨o,.indexAddr a1 a2 a3,ty,pos,ah,gd⟩::rest) l S:=h
def JGq {a1:_}{a2:_} (h:Walk P ops draw K (⟨o,.extract a1 a2,ty,pos,ah,gd⟩::rest) l S):Walk P ops draw K (⟨o,.extract a1 a2,ty,pos,ah,gd⟩::rest) l S:=h
def JGr {a1:_} (h:Walk P ops draw K (⟨o,.nilCheck a1,ty,pos,ah,gd⟩::rest) l S):Walk P ops draw K (⟨o,.nilCheck a1,ty,pos,ah,gd⟩::rest) l S:=h
def JGs {a1:_}{a2:_}{a3:_} (h:Walk P ops draw K (⟨o,.store a1 a2 a3,ty,pos,ah,gd⟩::rest) l S):Walk P ops draw K (⟨o,.store a1 a2 a3,ty,pos,ah,gd⟩::rest) l S:=h
def JGt {a1:_}{a2:_} (h:Walk P ops draw K (⟨o,.box a1 a2,ty,pos,ah,gd⟩::rest) l S):Walk P ops draw K (⟨o,.box a1 a2,ty,pos,ah,gd⟩::rest) l S:=h
def JGu {a1:_} (h:Walk P ops draw K (⟨o,.alloc a1,ty,pos,ah,gd⟩::rest) l S):Walk P ops draw K (⟨o,.alloc a1,ty,pos,ah,gd⟩::rest) l S:=h
def JGv {a1:_}{a2:_}{a3:_} (h:Walk P ops draw K (⟨o,.unOp a1 a2 a3,ty,pos,ah,gd⟩::rest) l S):Walk P ops draw K (⟨o,.unOp a1 a2 a3,ty,pos,ah,gd⟩::rest) l S:=h
def JGw {a1:_}{a2:_} (h:Walk P ops draw K (⟨o,.build a1 a2,ty,pos,ah,gd⟩::rest) l S):Walk P ops draw K (⟨o,.build a1 a2,ty,pos,ah,gd⟩::rest) l S:=h
def JGx {a1:_}{a2:_}{a3:_} (h:Walk P ops draw K (⟨o,.pick a1 a2 a3,ty,pos,ah,gd⟩::rest) l S):Walk P ops draw K (⟨o,.pick a1 a2 a3,ty,pos,ah,gd⟩::rest) l S:=h
def JGy {a1:_}{a2:_}{a3:_} (h:Walk P ops draw K (⟨o,.buildSlice a1 a2 a3,ty,pos,ah,gd⟩::rest) l S):Walk P ops draw K (⟨o,.buildSlice a1 a2 a3,ty,pos,ah,gd⟩::rest) l S:=h
def JGz {a1:_}{a2:_}{a3:_} (h:Walk P ops draw K (⟨o,.makeFunc a1 a2 a3,ty,pos,ah,gd⟩::rest) l S):Walk P ops draw K (⟨o,.makeFunc a1 a2 a3,ty,pos,ah,gd⟩::rest) l S:=h
def JGA {a1:_}{a2:_}{a3:_} (h:Walk P ops draw K (⟨o,.makeSlice a1 a2 a3,ty,pos,ah,gd⟩::rest) l S):Walk P ops draw K (⟨o,.makeSlice a1 a2 a3,ty,pos,ah,gd⟩::rest) l S:=h
def JGB {a1:_}{a2:_}{a3:_}{a4:_}{a5:_} (h:Walk P ops draw K (⟨o,.slice a1 a2 a3 a4 a5,ty,pos,ah,gd⟩::rest) l S):Walk P ops draw K (⟨o,.slice a1 a2 a3 a4 a5,ty,pos,ah,gd⟩::rest) l S:=h
def JGC {a1:_}{a2:_} (h:Walk P ops draw K (⟨o,.call ⟨.builtin .append,a1,a2⟩,ty,pos,ah,gd⟩::rest) l S):Walk P ops draw K (⟨o,.call ⟨.builtin .append,a1,a2⟩,ty,pos,ah,gd⟩::rest) l S:=h
def JGD {a1:_}{a2:_} (h:Walk P ops draw K (⟨o,.call ⟨.builtin .copy,a1,a2⟩,ty,pos,ah,gd⟩::rest) l S):Walk P ops draw K (⟨o,.call ⟨.builtin .copy,a1,a2⟩,ty,pos,ah,gd⟩::rest) l S:=h
def JGE {a1:_}{a2:_}{a3:_} (h:Walk P ops draw K (⟨o,.convert a1 a2 a3,ty,pos,ah,gd⟩::rest) l S):Walk P ops draw K (⟨o,.convert a1 a2 a3,ty,pos,ah,gd⟩::rest) l S:=h
def JGF {a1:_}{a2:_} (h:Walk P ops draw K (⟨o,.range a1 a2,ty,pos,ah,gd⟩::rest) l S):Walk P ops draw K (⟨o,.range a1 a2,ty,pos,ah,gd⟩::rest) l S:=h
def JGG {a1:_}{a2:_} (h:Walk P ops draw K (⟨o,.next a1 a2,ty,pos,ah,gd⟩::rest) l S):Walk P ops draw K (⟨o,.next a1 a2,ty,pos,ah,gd⟩::rest) l S:=h
def JGH {a1:_}{a2:_}{a3:_} (h:Walk P ops draw K (⟨o,.index a1 a2 a3,ty,pos,ah,gd⟩::rest) l S):Walk P ops draw K (⟨o,.index a1 a2 a3,ty,pos,ah,gd⟩::rest) l S:=h
def JGI {a1:_}{a2:_} (h:Walk P ops draw K (⟨o,.call ⟨.builtin .max,a1,a2⟩,ty,pos,ah,gd⟩::rest) l S):Walk P ops draw K (⟨o,.call ⟨.builtin .max,a1,a2⟩,ty,pos,ah,gd⟩::rest) l S:=h
def JGZ {a1:FuncId}{a2 a3:_} (h:Walk P ops draw K (⟨o,.call ⟨.value (.func a1),a2,a3⟩,ty,pos,ah,gd⟩::rest) l S):Walk P ops draw K (⟨o,.call ⟨.value (.func a1),a2,a3⟩,ty,pos,ah,gd⟩::rest) l S:=h
structure Yk (q:Prop):Prop where
 u:q
section
variable {p q:Prop}
def W1_ (k:q) (h:Yk q->p:=by intro k;(first|(refine JGa ?_;(first|refine XxP (hg:=JSa) (hx:=JSc) (hd:=JSb) ?_))|(refine JGb ?_;(first|refine Xr4 (hg:=JSa) (hx:=JSb) (hL:=JSb) (hy:=JSc) (ht:=JSb) (hd:=JSb) ?_|refine Xvu (hg:=JSa) (hx:=JSb) (hL:=JSb) (hsz:=JSc) (ht:=JSb) (hy:=JSc) (hlen:=JSb) (hd:=JSb) ?_|refine Xph (hg:=JSa) (hx:=JSb) (ht:=JSb) (hd:=JSb) ?_|refine Xz7 (hg:=JSa) (hx:=JSb) (hsz:=JSc) (ht:=JSb) (hy:=JSc) (hlen:=JSb) (hd:=JSb) ?_|refine Xv4 (hg:=JSa) (hx:=JSb) (hL:=JSb) (hn:=JSe) (hlt:=JSh) (ht:=JSb) (hd:=JSb) ?_|refine Xzb (hg:=JSa) (hx:=JSb) (hL:=JSb) (hn:=JSe) (hy:=JSn) (ht:=JSb) (hd:=JSb) ?_))|(refine JGc ?_;(first|refine XuX (hg:=JSa) (hx:=JSc) (hd:=JSb) ?_))|(refine JGd ?_;(first|refine Xuj (hg:=JSa) (hx:=JSb) (hoff:=JSc) (hf:=JSb) (hd:=JSb) ?_|refine XrK (hg:=JSa) (hx:=JSb) (hoff:=JSc) (hf:=JSb) (hd:=JSb) ?_))|(refine JGe ?_;(first|refine XvT (hg:=JSa) (hx:=JSb) (hT:=JSb) (hd:=JSb) ?_|refine XtL (hg:=JSa) (hx:=JSb) (hL:=JSb) (hn:=JSe) (hT:=JSb) (hd:=JSb) ?_|refine Xsl (hg:=JSa) (hx:=JSb) (hT:=JSb) (hd:=JSb) ?_))|(refine JGf ?_;(first|refine UV (op:= .lss) (u:= .int _ _) (v:= .int _ _) (hg:=JSa) (hx:=JSb) (hy:=JSb) (hr:=JSo) (h1:=JSb) (hd:=JSb) ?_))|(refine JGg ?_;(first|refine UV (op:= .leq) (u:= .int _ _) (v:= .int _ _) (hg:=JSa) (hx:=JSb) (hy:=JSb) (hr:=JSp) (h1:=JSb) (hd:=JSb) ?_))|(refine JGh ?_;(first|refine UV (op:= .gtr) (u:= .int _ _) (v:= .int _ _) (hg:=JSa) (hx:=JSb) (hy:=JSb) (hr:=JSq) (h1:=JSb) (hd:=JSb) ?_))|(refine JGi ?_;(first|refine UV (op:= .geq) (u:= .int _ _) (v:= .int _ _) (hg:=JSa) (hx:=JSb) (hy:=JSb) (hr:=JSr) (h1:=JSb) (hd:=JSb) ?_))|(refine JGj ?_;(first|refine UV (op:= .eql) (u:= .int _ _) (v:= .int _ _) (hg:=JSa) (hx:=JSb) (hy:=JSb) (hr:=JSs) (h1:=JSb) (hd:=JSb) ?_|refine UV (op:= .eql) (u:= .string _) (v:= .string _) (hg:=JSa) (hx:=JSb) (hy:=JSb) (hr:=JSt) (h1:=JSb) (hd:=JSb) ?_|refine UV (op:= .eql) (u:= .bool _) (v:= .bool _) (hg:=JSa) (hx:=JSb) (hy:=JSb) (hr:=JSu) (h1:=JSb) (hd:=JSb) ?_|refine Xs6 (hg:=JSa) (hx:=JSb) (ht:=JSb) (hd:=JSb) ?_))|(refine JGk ?_;(first|refine UV (op:= .neq) (u:= .int _ _) (v:= .int _ _) (hg:=JSa) (hx:=JSb) (hy:=JSb) (hr:=JSv) (h1:=JSb) (hd:=JSb) ?_|refine UV (op:= .neq) (u:= .string _) (v:= .string _) (hg:=JSa) (hx:=JSb) (hy:=JSb) (hr:=JSw) (h1:=JSb) (hd:=JSb) ?_|refine UV (op:= .neq) (u:= .bool _) (v:= .bool _) (hg:=JSa) (hx:=JSb) (hy:=JSb) (hr:=JSx) (h1:=JSb) (hd:=JSb) ?_))|(refine JGl ?_;(first|refine UV (op:= .rem) (u:= .int _ _) (v:= .int _ _) (hg:=JSa) (hx:=JSb) (hy:=JSb) (hr:=JSy) (h1:=JSb) (hd:=JSb) ?_))|(refine JGZ ?_;(first|refine ZCA ?_|refine Z5 (ag:=(by assumption)) ?_))|(refine JGm ?_;(first|refine UV (op:= .add) (u:= .int _ _) (v:= .int _ _) (hg:=JSa) (hx:=JSb) (hy:=JSb) (hr:=JSz) (h1:=JSb) (hd:=JSb) ?_))|(refine JGn ?_;(first|refine UV (op:= .sub) (u:= .int _ _) (v:= .int _ _) (hg:=JSa) (hx:=JSb) (hy:=JSb) (hr:=JSA) (h1:=JSb) (hd:=JSb) ?_))|(refine JGo ?_;(first|refine UV (op:= .mul) (u:= .int _ _) (v:= .int _ _) (hg:=JSa) (hx:=JSb) (hy:=JSb) (hr:=JSB) (h1:=JSb) (hd:=JSb) ?_))|(refine JGp ?_;(first|refine Xyt (hg:=JSa) (hx:=JSb) (hi:=JSb) (hk:=JSb) (hr:=JSn) (hT:=JSb) (hd:=JSb) ?_|refine Xum (hg:=JSa) (hx:=JSb) (hL:=JSb) (hi:=JSb) (hn:=JSe) (hk:=JSb) (hlt:=JSh) (hT:=JSb) (hd:=JSb) ?_|refine Xke (hg:=JSa) (hx:=JSb) (hL:=JSb) (hi:=JSb) (hn:=JSe) (hk:=JSb) (hlt:=JSh) (hT:=JSb) (hd:=JSb) ?_))|(refine JGq ?_;(first|refine Xuh (hg:=JSa) (hx:=JSb) (hy:=JSc) (hd:=JSb) ?_))|(refine JGr ?_;(first|refine Xtp (hg:=JSa) (hx:=JSb) (hd:=JSb) ?_))|(refine JGs ?_;(first|refine XuU (hg:=JSa) (hx:=JSb) (hL:=JSb) (hv:=JSc) (hc:=JSb) (ht:=JSb) (hb:=JSb) ?_|refine XzG (hg:=JSa) (hx:=JSb) (hL:=JSb) (hv:=JSb) (hn:=JSe) (hlt:=JSh) (ht:=JSb) ?_))|(refine JGt ?_;(first|refine Xgv (γ:=100) (hg:=JSa) (hx:=JSc) (hc:=JSb) (av:=JSb) (hf:=JSb) (hm:=JSb) (hd:=JSb) ?_|refine Xgv (γ:=101) (hg:=JSa) (hx:=JSc) (hc:=JSb) (av:=JSb) (hf:=JSb) (hm:=JSb) (hd:=JSb) ?_|refine Xgv (γ:=102) (hg:=JSa) (hx:=JSc) (hc:=JSb) (av:=JSb) (hf:=JSb) (hm:=JSb) (hd:=JSb) ?_))|(refine JGu ?_;(first|refine X69 (γ:=100) (hg:=JSa) (hz:=JSb) (h1:=JSb) (av:=JSb) (hf:=JSb) (hd:=JSb) ?_|refine X69 (γ:=101) (hg:=JSa) (hz:=JSb) (h1:=JSb) (av:=JSb) (hf:=JSb) (hd:=JSb) ?_|refine X69 (γ:=102) (hg:=JSa) (hz:=JSb) (h1:=JSb) (av:=JSb) (hf:=JSb) (hd:=JSb) ?_|refine X69 (γ:=103) (hg:=JSa) (hz:=JSb) (h1:=JSb) (av:=JSb) (hf:=JSb) (hd:=JSb) ?_|refine X69 (γ:=104) (hg:=JSa) (hz:=JSb) (h1:=JSb) (av:=JSb) (hf:=JSb) (hd:=JSb) ?_|refine X69 (γ:=105) (hg:=JSa) (hz:=JSb) (h1:=JSb) (av:=JSb) (hf:=JSb) (hd:=JSb) ?_|refine X69 (γ:=106) (hg:=JSa) (hz:=JSb) (h1:=JSb) (av:=JSb) (hf:=JSb) (hd:=JSb) ?_|refine X69 (γ:=107) (hg:=JSa) (hz:=JSb) (h1:=JSb) (av:=JSb) (hf:=JSb) (hd:=JSb) ?_))|(refine JGv ?_;(first|refine Zr ?_))|(refine JGw ?_;(first|refine Xve (hg:=JSa) (aT:=JSb) (hps:=JSc) (hz:=JSb) (h1:=JSb) (ht:=JSb) (hout:=JSc) (hd:=JSb) ?_))|(refine JGx ?_;(first|refine XxI (hg:=JSa) (hc:=JSb) (hb:=JSC) (hx:=JSc) (hd:=JSb) ?_|refine XyX (hg:=JSa) (hc:=JSb) (hb:=JSC) (hx:=JSc) (hd:=JSb) ?_))|(refine JGy ?_;(first|refine Za (len:=0) (γ:=100) ?_|refine Za (len:=0) (γ:=101) ?_|refine Za (len:=0) (γ:=103) ?_|refine XuA (hg:=JSa) (aT:=JSb) (hps:=JSc) (hz:=JSb) (hS:=JSc) (hT:=JSb) (hzl:=JSb) (cE:=JSb) (hsmall:=JSb) (aL:=JSb) (hout:=JSc) (hxs:=JSc) (hd:=JSb) ?_|refine XnK (γ:=102) (hg:=JSa) (aT:=JSb) (hps:=JSc) (hz:=JSb) (hS:=JSc) (hT:=JSb) (cE:=JSb) (hsmall:=JSb) (hout:=JSc) (hc:=JSb) (hm:=JSb) (av:=JSb) (hf:=JSb) (hd:=JSb) ?_|refine XnK (γ:=103) (hg:=JSa) (aT:=JSb) (hps:=JSc) (hz:=JSb) (hS:=JSc) (hT:=JSb) (cE:=JSb) (hsmall:=JSb) (hout:=JSc) (hc:=JSb) (hm:=JSb) (av:=JSb) (hf:=JSb) (hd:=JSb) ?_))|(refine JGz ?_;(first|refine XwQ (hg:=JSa) (hxs:=JSb) (hys:=JSc) (hd:=JSb) ?_))|(refine JGA ?_;(first|refine Xt5 (hg:=JSa) (hx:=JSb) (hy:=JSb) (hm:=JSb) (hm':=JSb) (hz:=JSb) (hB:=JSc) (hS:=JSc) (hT:=JSb) (h1:=JSb) (hl:=JSb) (hroom:=JSd) (hn:=JSd) (hd:=JSb) ?_))|(refine JGB ?_;(first|refine XhZ (hg:=JSa) (hx:=JSb) (hlo:=JSD) (hhi:=JSD) (cg:=JSh) (hh:=JSh) (hT:=JSb) (hd:=JSb) ?_|refine XmK (hg:=JSa) (hx:=JSb) (hlo:=JSb) (hhi:=JSb) (cU:=JSb) (cg:=JSh) (hh:=JSh) (hm:=JSh) (hT:=JSb) (hd:=JSb) ?_))|(refine JGC ?_;(first|refine XpY (hg:=JSa) (hx:=JSb) (hL:=JSb) (hy:=JSb) (kn:=JSb) (h2:=JSb) (hn:=JSe) (hn2:=JSe) (hB:=JSc) (hT:=JSb) (bN:=JSb) (hb0:=JSb) (hroom:=JSd) (hd:=JSb) ?_|refine Xyr (hg:=JSa) (hx:=JSb) (hL:=JSb) (hy:=JSb) (hn:=JSe) (hB:=JSc) (hT:=JSb) (bN:=JSb) (hb0:=JSb) (hroom:=JSd) (hd:=JSb) ?_))|(refine JGD ?_;(first|refine Xb4 (hg:=JSa) (hx:=JSb) (hL:=JSb) (hn:=JSe) (hy:=JSb) (hm:=JSb) (hT:=JSb) (hd:=JSb) ?_|refine XpL (hg:=JSa) (hx:=JSb) (hL:=JSb) (hr:=JSn) (hy:=JSb) (hm:=JSb) (hT:=JSb) (hd:=JSb) ?_))|(refine JGE ?_;(first|refine Xym (hg:=JSa) (hx:=JSb) (hb:=JSh) (ht:=JSb) (hd:=JSb) ?_|refine Xth (hg:=JSa) (hx:=JSb) (ht:=JSb) (hd:=JSb) ?_|refine Zt ?_))|(refine JGF ?_;(first|refine XyD (γ:=100) (hg:=JSa) (hx:=JSb) (ht:=JSb) (av:=JSb) (hf:=JSb) (hd:=JSb) ?_))|(refine JGG ?_;(first|refine Xy9 (hg:=JSa) (hx:=JSb) (hL:=JSb) (hlt:=JSh) (hd:=JSb) ?_|refine XtW (hg:=JSa) (hx:=JSb) (hL:=JSb) (hge:=JSh) (hd:=JSb) ?_))|(refine JGH ?_;(first|refine Xyw (hg:=JSa) (hx:=JSb) (hi:=JSb) (hk:=JSg) (hc:=JSn) (ht:=JSb) (hd:=JSb) ?_))|(refine JGI ?_;(first|refine Xpy (hg:=JSa) (hx:=JSb) (hy:=JSb) (hd:=JSb) ?_))|refine Xwu (hg:=JSE) (hd:=JSb) ?_|refine X7Y ?_|refine JR ?_|refine JD ?_|refine Xgd ?_|refine Xut ?_|refine Xsv ?_|refine awp_scope ?_|refine JT ?_|refine JF ?_);exact k.1):p:=h ⟨k⟩
def W2_ (k:q) (h:Yk q->p:=by intro k;(iterate 2 (refine W1_ ?_));exact k.1):p:=h ⟨k⟩
def W3_ (k:q) (h:Yk q->p:=by intro k;(iterate 3 (refine W1_ ?_));exact k.1):p:=h ⟨k⟩
def W4_ (k:q) (h:Yk q->p:=by intro k;(iterate 4 (refine W1_ ?_));exact k.1):p:=h ⟨k⟩
def W5_ (k:q) (h:Yk q->p:=by intro k;(iterate 5 (refine W1_ ?_));exact k.1):p:=h ⟨k⟩
def W6_ (k:q) (h:Yk q->p:=by intro k;(iterate 6 (refine W1_ ?_));exact k.1):p:=h ⟨k⟩
def W7_ (k:q) (h:Yk q->p:=by intro k;(iterate 7 (refine W1_ ?_));exact k.1):p:=h ⟨k⟩
def W8_ (k:q) (h:Yk q->p:=by intro k;(iterate 8 (refine W1_ ?_));exact k.1):p:=h ⟨k⟩
def W9_ (k:q) (h:Yk q->p:=by intro k;(iterate 9 (refine W1_ ?_));exact k.1):p:=h ⟨k⟩
def XA (k:q) (h:Yk q->p:=by intro k;(iterate 10 (refine W1_ ?_));exact k.1):p:=h ⟨k⟩
def XB (k:q) (h:Yk q->p:=by intro k;(iterate 11 (refine W1_ ?_));exact k.1):p:=h ⟨k⟩
def XG (k:q) (h:Yk q->p:=by intro k;(iterate 12 (refine W1_ ?_));exact k.1):p:=h ⟨k⟩
def XK (k:q) (h:Yk q->p:=by intro k;(iterate 13 (refine W1_ ?_));exact k.1):p:=h ⟨k⟩
def XD (k:q) (h:Yk q->p:=by intro k;(iterate 14 (refine W1_ ?_));exact k.1):p:=h ⟨k⟩
def Ya (k:q) (h:Yk q->p:=by intro k;(iterate 15 (refine W1_ ?_));exact k.1):p:=h ⟨k⟩
def Yr (k:q) (h:Yk q->p:=by intro k;(iterate 16 (refine W1_ ?_));exact k.1):p:=h ⟨k⟩
def Yb (k:q) (h:Yk q->p:=by intro k;(iterate 17 (refine W1_ ?_));exact k.1):p:=h ⟨k⟩
def Yh (k:q) (h:Yk q->p:=by intro k;(iterate 18 (refine W1_ ?_));exact k.1):p:=h ⟨k⟩
def YS (k:q) (h:Yk q->p:=by intro k;(iterate 19 (refine W1_ ?_));exact k.1):p:=h ⟨k⟩
def YV (k:q) (h:Yk q->p:=by intro k;(iterate 20 (refine W1_ ?_));exact k.1):p:=h ⟨k⟩
def Y5 (k:q) (h:Yk q->p:=by intro k;(iterate 21 (refine W1_ ?_));exact k.1):p:=h ⟨k⟩
def YJ (k:q) (h:Yk q->p:=by intro k;(iterate 22 (refine W1_ ?_));exact k.1):p:=h ⟨k⟩
def Us (k:q) (h:Yk q->p:=by intro k;(iterate 23 (refine W1_ ?_));exact k.1):p:=h ⟨k⟩
def YA (k:q) (h:Yk q->p:=by intro k;(iterate 24 (refine W1_ ?_));exact k.1):p:=h ⟨k⟩
def V4 (k:q) (h:Yk q->p:=by intro k;(iterate 25 (refine W1_ ?_));exact k.1):p:=h ⟨k⟩
def XM (k:q) (h:Yk q->p:=by intro k;(iterate 26 (refine W1_ ?_));exact k.1):p:=h ⟨k⟩
def YT (k:q) (h:Yk q->p:=by intro k;(iterate 27 (refine W1_ ?_));exact k.1):p:=h ⟨k⟩
def U7 (k:q) (h:Yk q->p:=by intro k;(iterate 28 (refine W1_ ?_));exact k.1):p:=h ⟨k⟩
def YG (k:q) (h:Yk q->p:=by intro k;(iterate 29 (refine W1_ ?_));exact k.1):p:=h ⟨k⟩
def UI (k:q) (h:Yk q->p:=by intro k;(iterate 30 (refine W1_ ?_));exact k.1):p:=h ⟨k⟩
def UK (k:q) (h:Yk q->p:=by intro k;(iterate 31 (refine W1_ ?_));exact k.1):p:=h ⟨k⟩
def Uf (k:q) (h:Yk q->p:=by intro k;(iterate 32 (refine W1_ ?_));exact k.1):p:=h ⟨k⟩
def UA (k:q) (h:Yk q->p:=by intro k;(iterate 33 (refine W1_ ?_));exact k.1):p:=h ⟨k⟩
def VM (k:q) (h:Yk q->p:=by intro k;(iterate 34 (refine W1_ ?_));exact k.1):p:=h ⟨k⟩
def UR (k:q) (h:Yk q->p:=by intro k;(iterate 35 (refine W1_ ?_));exact k.1):p:=h ⟨k⟩
def X04 (k:q) (h:Yk q->p:=by intro k;(iterate 36 (refine W1_ ?_));exact k.1):p:=h ⟨k⟩
def X17 (k:q) (h:Yk q->p:=by intro k;(iterate 37 (refine W1_ ?_));exact k.1):p:=h ⟨k⟩
def X1B (k:q) (h:Yk q->p:=by intro k;(iterate 38 (refine W1_ ?_));exact k.1):p:=h ⟨k⟩
def X0r (k:q) (h:Yk q->p:=by intro k;(iterate 39 (refine W1_ ?_));exact k.1):p:=h ⟨k⟩
def X4 (k:q) (h:Yk q->p:=by intro k;(iterate 40 (refine W1_ ?_));exact k.1):p:=h ⟨k⟩
end
def ZC1 {c:Code}{args:List AVal}{x:AVal} (hf:P.funcs[f]? =some fn) (hn:fn.ntmps=n) (h:∀E,AWP P E c (X2U n args Li) (XeK (Vw P rs Lo [x]))) (hb:fn.body=some c:=by exact rfl) (hr:fn.results.toList=rs:=by exact rfl) (hl:Nat.ble (J args) n=true:=by exact rfl) (hk:X5y Li=true:=by exact rfl):Con P f Li args Lo x:=VQ (xs:=[x]) hf hb hn hr hl hk h
def ZCt {c:Code}{args:List AVal}{x y:AVal}{l:List AVal} (hf:P.funcs[f]? =some fn) (hn:fn.ntmps=n) (h:∀E,AWP P E c (X2U n args Li) (XeK (Vw P rs Lo (x::y::l)))) (hb:fn.body=some c:=by exact rfl) (hr:fn.results.toList=rs:=by exact rfl) (hl:Nat.ble (J args) n=true:=by exact rfl) (hk:X5y Li=true:=by exact rfl):Con P f Li args Lo (.tup (x::y::l)):=VQ (xs:=x::y::l) hf hb hn hr hl hk h
def ZL0 (h:p:=by exact X9 rfl JM (by repeat' (first|exact trivial|exact rfl|refine⟨?_,?_⟩))):p:=h
def Zz1 {E:Env}{T:St}{Q:Exit->St->Prop}{xs:List AVal} (e:Q .ret S=Vw P rs Lo xs T) (h:Vw P rs Lo xs T):AWP P E .ret S Q:=X3 (e ▸ h)
def Zz2 (h:p:=by exact Zz1 rfl ⟨_,St.le_refl _,⟨rfl,TV⟩,X5 _⟩):p:=h
def ZzS:S.le S:=St.le_refl S
def ZzV {x:AVal}:x.le x:=AVal.le_refl x
def ZzQ {x y:AVal} (h:x=y):x.le y:=AVal.le_of_eq h
def Zr0 (h:p:=by exact X3 ⟨_,St.le_refl _,⟨rfl,TV⟩,X5 _⟩):p:=h
structure ZwB (q:Prop):Prop where
  zq:q
section
variable {p q:Prop}
def Qa (h:p:=by exact absurd (CG (fun r=>r.2.2) h) (by simp)):p:=h
def Qb (zk:q) (h:ZwB q->p:=by intro zk;refine Eq.trans (b:=AVal.own 130 (_+_)) rfl ?_;exact zk.1):p:=h ⟨zk⟩
def Qc (h:p:=by exact X3 ⟨_,Xe 2 (y:=ab true) (ZzQ (by refine Eq.trans (b:=ab (decide (n<=1000000000000000))) rfl ?_;rw[DT h2])),⟨rfl,TV⟩,X5 _⟩):p:=h
def Qd (h:p:=by exact X3 ⟨_,Xe 2 (y:=ab false) (ZzQ (by refine Eq.trans (b:=ab (decide (n<=1000000000000000))) rfl ?_;rw[DF h2])),⟨rfl,TV⟩,X5 _⟩):p:=h
def Qe (h:p:=by refine XK ?_;exact Zr0):p:=h
def Qf (h:p:=by exact⟨(y,x%y),by simp only;rw[<-hg,Nat.gcd_comm x y,Nat.gcd_rec y x,Nat.gcd_comm],Nat.mod_lt _ (by omega),X9 rfl ⟨JL,JL,TV⟩ TV⟩):p:=h
def Qg (h:p:=by refine UI ?_;exact Zr0):p:=h
def Qh (h:p:=by refine XD ?_;exact Zr0):p:=h
def Qi (h:p:=by refine XG ?_;exact Zr0):p:=h
def Qj (h:p:=by refine YJ ?_;exact Zr0):p:=h
def Qk (zk:q) (h:ZwB q->p:=by intro zk;refine YJ ?_;refine Z3 (op:= .rem) (r':=nj 0) (u:=nj i) (v:=nj 2) ?_ (hr':=by exact CG nj hpar) (hr:=by exact Va (by omega));exact zk.1):p:=h ⟨zk⟩
def Ql (h:p:=by refine Y5 ?_;exact Zr0):p:=h
def Qm (zk:q) (h:ZwB q->p:=by intro zk;refine YJ ?_;refine Z3 (op:= .rem) (r':=nj 1) (u:=nj i) (v:=nj 2) ?_ (hr':=by exact CG nj hpar) (hr:=by exact Va (by omega));exact zk.1):p:=h ⟨zk⟩
def Qn (h:p:=by refine XB ?_;exact Zr0):p:=h
def Qo (h:p:=by exact X3 ⟨_,ZzS,⟨rfl,TV⟩,Xm ⟨rfl,TV⟩⟩):p:=h
def Qp (h:p:=by refine W2_ ?_;exact Qo):p:=h
def Qq (zk:q) (h:ZwB q->p:=by intro zk;refine X6z (γ:=131) (hg:=JSa) (hx:=JSb) (hy:=JSb) (hm:=JSb) (hm':=JSb) (hz:=JSb) (hB:=JSc) (hS:=JSc) (hT:=JSb) (h1:=JSb) (hl:=JSb) (hroom:=JSd) (hn:=JSd) (av:=JSb) (hf:=JSb) (hd:=JSb) ?_;exact zk.1):p:=h ⟨zk⟩
def Qr (h:p:=by exact⟨k+1,by omega,by omega,X9 rfl ⟨JL,JL,JL,(by rw[ko,hb];exact ZzV),JL,TV⟩ TV⟩):p:=h
def Qs (zk:q) (h:ZwB q->p:=by intro zk;refine X2 (hgd:=JSb) (hj:=JSb) (ht:=JSb) (hd:=JSb) ?_;exact zk.1):p:=h ⟨zk⟩
def Qt (zk:q) (h:ZwB q->p:=by intro zk;refine Qs ?_;refine Qs ?_;exact zk.1):p:=h ⟨zk⟩
def Qu (zk:q) (h:ZwB q->p:=by intro zk;refine Qt ?_;refine Qt ?_;exact zk.1):p:=h ⟨zk⟩
def Qv (zk:q) (h:ZwB q->p:=by intro zk;refine Qu ?_;refine W8_ ?_;exact zk.1):p:=h ⟨zk⟩
def Qw (h:p:=by exact X3 ⟨_,Xe 2 (ZzQ (by rw[hv];rfl)),⟨rfl,TV⟩,X5 _⟩):p:=h
def Qx (h:p:=by refine UR ?_;exact Qw):p:=h
def Qy (h:p:=by refine XM ?_;exact X9 rfl ⟨JL,TV⟩ ⟨rfl,TV⟩):p:=h
def Qz (h:p:=by exact X3 ⟨_,Xe 2 (ZzQ (by simp only[Vh,hv];rfl)),⟨rfl,TV⟩,X5 _⟩):p:=h
def QA (zk:q) (h:ZwB q->p:=by intro zk;refine YV ?_;refine Z3 (op:= .rem) (r':=nj 0) (u:=nj i) (v:=nj 2) ?_ (hr':=by exact CG nj hpar) (hr:=by exact Va (by omega));exact zk.1):p:=h ⟨zk⟩
def QB (h:p:=by refine YT ?_;exact Zr0):p:=h
def QC (zk:q) (h:ZwB q->p:=by intro zk;refine YV ?_;refine Z3 (op:= .rem) (r':=nj 1) (u:=nj i) (v:=nj 2) ?_ (hr':=by exact CG nj hpar) (hr:=by exact Va (by omega));exact zk.1):p:=h ⟨zk⟩
def QD (h:p:=by refine YV ?_;exact Zr0):p:=h
def QE (h:p:=by refine W8_ ?_;exact Zr0):p:=h
def QF (zk:q) (h:ZwB q->p:=by intro zk;refine Qt ?_;refine Qs ?_;exact zk.1):p:=h ⟨zk⟩
def QG (h:p:=by refine W4_ ?_;exact Zr0):p:=h
def QH (h:p:=by refine Yr ?_;refine QF ?_;refine W5_ ?_;refine QF ?_;refine W5_ ?_;refine Qu ?_;exact QG):p:=h
def QI (h:p:=by refine YA ?_;refine QF ?_;refine W5_ ?_;refine Qu ?_;exact QG):p:=h
def QJ (h:p:=by refine Uf ?_;refine Qu ?_;exact QG):p:=h
def QK (h:p:=by refine X4 ?_;exact X3 ⟨_,Xe 10 (y:=ab false) (ZzQ (by refine Eq.trans (b:=ab (decide ((J (XR l):Int)=0))) rfl ?_;exact CG ab (DF (by rw[hlen];exact hl')))),⟨rfl,TV⟩,X5 _⟩):p:=h
def QL (h:p:=by refine X4 ?_;exact X3 ⟨_,Xe 10 (y:=ab true) (ZzQ (by refine Eq.trans (b:=ab (decide ((J (XR l):Int)=0))) rfl ?_;exact CG ab (DT (by omega)))),⟨rfl,TV⟩,X5 _⟩):p:=h
def QM (h:p:=by exact X3 ⟨_,ZzS,⟨rfl,rfl,rfl,TV⟩,X5 _⟩):p:=h
def QN (h:p:=by refine V4 ?_;exact QM):p:=h
def QO (zk:q) (h:ZwB q->p:=by intro zk;refine X4 ?_;refine W1_ ?_;exact zk.1):p:=h ⟨zk⟩
def QP (zk:q) (h:ZwB q->p:=by intro zk;refine W1_ ?_;refine ZBM 7 i ?_;exact zk.1):p:=h ⟨zk⟩
def QQ (h:p:=by exact⟨i+1,⟨Xhe hbg hc hge,by omega,by omega⟩,by omega,X9 rfl ⟨JL,JL,JL,JL,JL,JL,TV⟩ TV⟩):p:=h
def QR (h:p:=by refine QO ?_;exact QM):p:=h
def QS (zk:q) (h:ZwB q->p:=by intro zk;refine X4 ?_;refine W6_ ?_;exact zk.1):p:=h ⟨zk⟩
def QT (h:p:=by refine QS ?_;exact X3 ⟨_,Xe 5 (y:=ai ((k:Int)+i+1)) (ZzQ (by refine Eq.trans (b:=ai _) rfl ?_;simp)),⟨rfl,rfl,rfl,TV⟩,X5 _⟩):p:=h
def QU (zk:q) (h:ZwB q->p:=by intro zk;refine X4 ?_;refine XG ?_;exact zk.1):p:=h ⟨zk⟩
def QV (h:p:=by refine W5_ ?_;exact QM):p:=h
def QW (zk:q) (h:ZwB q->p:=by intro zk;refine X4 ?_;refine W2_ ?_;exact zk.1):p:=h ⟨zk⟩
def QX (h:p:=by refine UA ?_;exact QM):p:=h
def QY (zk:q) (h:ZwB q->p:=by intro zk;refine X4 ?_;refine XK ?_;exact zk.1):p:=h ⟨zk⟩
def QZ (zk:q) (h:ZwB q->p:=by intro zk;refine X4 ?_;refine XD ?_;exact zk.1):p:=h ⟨zk⟩
def Qaa (zk:q) (h:ZwB q->p:=by intro zk;refine QZ ?_;refine ZBA f n ?_;refine Z8 (lb:=f) (hb:=f+n) (ys:=((b.drop f).take n).map X6) ?_ (hys:=by exact aL);exact zk.1):p:=h ⟨zk⟩
def Qba (h:p:=by exact X3 ⟨_,Xe 4 (y:= .d (Xc [])) (AVal.le_nil 1),⟨rfl,rfl,rfl,TV⟩,X5 _⟩):p:=h
def Qca (h:p:=by refine QU ?_;exact Qba):p:=h
def Qda (h:p:=by first|exact Zr0|exact X3 ⟨_,Xe 2 (y:=ab true) (ZzQ (by refine Eq.trans (b:=ab (decide _)) rfl ?_;exact CG ab (by simp;omega))),⟨rfl,TV⟩,X5 _⟩|fail):p:=h
def Qea (h:p:=by first|exact Zr0|exact X3 ⟨_,Xe 2 (y:=ab false) (ZzQ (by refine Eq.trans (b:=ab (decide _)) rfl ?_;exact CG ab (by simp;omega))),⟨rfl,TV⟩,X5 _⟩|fail):p:=h
def Qfa (h:p:=by refine YJ ?_;exact Qea):p:=h
def Qga (h:p:=by refine XM ?_;exact Zr0):p:=h
def Qha (h:p:=by exact⟨i+1,⟨by omega,fH⟩,by omega,X9 rfl ⟨JL,JL,JL,TV⟩ TV⟩):p:=h
def Qia (zk:q) (h:ZwB q->p:=by intro zk;refine X4 ?_;refine W5_ ?_;exact zk.1):p:=h ⟨zk⟩
def Qja (h:p:=by exact X3 ⟨_,ZzS,⟨⟨100,0,_,rfl,rfl,.inr ⟨3,_,rfl,rfl,rfl,rfl⟩⟩,rfl,TV⟩,X5 _⟩):p:=h
def Qka (zk:q) (h:ZwB q->p:=by intro zk;refine X4 ?_;refine W4_ ?_;exact zk.1):p:=h ⟨zk⟩
def Qla (zk:q) (h:ZwB q->p:=by intro zk;refine X4 ?_;refine W7_ ?_;exact zk.1):p:=h ⟨zk⟩
def Qma (zk:q) (h:ZwB q->p:=by intro zk;refine X4 ?_;refine YS ?_;exact zk.1):p:=h ⟨zk⟩
def Qna (zk:q) (h:ZwB q->p:=by intro zk;refine X4 ?_;refine V4 ?_;exact zk.1):p:=h ⟨zk⟩
def Qoa (zk:q) (h:ZwB q->p:=by intro zk;refine X4 ?_;refine XM ?_;exact zk.1):p:=h ⟨zk⟩
def Qpa (h:p:=by refine XD ?_;exact Qda):p:=h
def Qqa (h:p:=by refine XD ?_;exact Qea):p:=h
def Qra (h:p:=by refine XM ?_;exact Qda):p:=h
def Qsa (h:p:=by refine XM ?_;exact Qea):p:=h
def Qta (h:p:=by exact⟨i+1,⟨by omega,by omega,fH⟩,by omega,X9 rfl ⟨JL,JL,TV⟩ TV⟩):p:=h
def Qua (zk:q) (h:ZwB q->p:=by intro zk;refine X4 ?_;refine W3_ ?_;exact zk.1):p:=h ⟨zk⟩
def Qva (zk:q) (h:ZwB q->p:=by intro zk;refine Qu ?_;refine Qu ?_;exact zk.1):p:=h ⟨zk⟩
def Qwa (h:p:=by exact⟨0+1,⟨by omega,fun _=>by rw[m8];exact hh,fH⟩,by omega,X9 rfl ⟨JL,JL,TV⟩ TV⟩):p:=h
def Qxa (zk:q) (h:ZwB q->p:=by intro zk;refine X4 ?_;refine XB ?_;exact zk.1):p:=h ⟨zk⟩
def Qya (h:p:=by refine Qxa ?_;refine Qva ?_;refine Qt ?_;refine W9_ ?_;exact Zr0):p:=h
def Qza (h:p:=by exact⟨i+1,⟨by omega,fun _=>hh,fH⟩,by omega,X9 rfl ⟨JL,JL,TV⟩ TV⟩):p:=h
def QAa (h:p:=by refine X4 ?_;exact Qg):p:=h
def QBa (zk:q) (h:ZwB q->p:=by intro zk;refine X4 ?_;refine Uf ?_;exact zk.1):p:=h ⟨zk⟩
def QCa (h:p:=by refine YA ?_;exact Zr0):p:=h
def QDa (h:p:=by refine UA ?_;refine QF ?_;exact QG):p:=h
def QEa (h:p:=by refine W3_ ?_;exact Zr0):p:=h
def QFa (h:p:=by refine Ya ?_;exact Zr0):p:=h
def QGa (h:p:=by refine X4 ?_;exact QFa):p:=h
def QHa (zk:q) (h:ZwB q->p:=by intro zk;refine X4 ?_;refine W9_ ?_;exact zk.1):p:=h ⟨zk⟩
def QIa (h:p:=by refine UK ?_;exact Zr0):p:=h
def QJa (zk:q) (h:ZwB q->p:=by intro zk;refine Eq.trans (b:=AVal.own 0 (_+_)) rfl ?_;exact zk.1):p:=h ⟨zk⟩
def QKa (zk:q) (h:ZwB q->p:=by intro zk;refine Eq.trans (b:=AObj.row 1 (_++_)) rfl ?_;exact zk.1):p:=h ⟨zk⟩
def QLa (zk:q) (h:ZwB q->p:=by intro zk;refine Eq.trans (b:=AObj.row 1 (_++_++_)) rfl ?_;exact zk.1):p:=h ⟨zk⟩
def QMa (h:p:=by refine Yb ?_;exact X3 ⟨_,Xe 2 (y:= .d (Xc [])) (AVal.le_nil 1),⟨rfl,TV⟩,X5 _⟩):p:=h
def QNa (h:p:=by refine W7_ ?_;exact Zr0):p:=h
def QOa (zk:q) (h:ZwB q->p:=by intro zk;refine X6z (γ:=130) (hg:=JSa) (hx:=JSb) (hy:=JSb) (hm:=JSb) (hm':=JSb) (hz:=JSb) (hB:=JSc) (hS:=JSc) (hT:=JSb) (h1:=JSb) (hl:=JSb) (hroom:=JSd) (hn:=JSd) (av:=JSb) (hf:=JSb) (hd:=JSb) ?_;exact zk.1):p:=h ⟨zk⟩
def QPa (zk:q) (h:ZwB q->p:=by intro zk;refine W8_ ?_;refine QOa ?_;exact zk.1):p:=h ⟨zk⟩
def QQa (zk:q) (h:ZwB q->p:=by intro zk;refine Z4 (op:= .rem) (r':=nj ((carry+x+dg*(c%1000))%1000)) (u:=nj (carry+x+dg*(c%1000))) (v:=nj 1000) ?_ (hr:=by exact Va (by omega));exact zk.1):p:=h ⟨zk⟩
def QRa (h:p:=by exact⟨(l2.set k ((carry+x+dg*(c%1000))%1000),c/1000,(carry+x+dg*(c%1000))/1000,k+1),⟨by rw[length_set];exact bM,Xkj iU k (by omega),hstep,r8,by show(carry+x+dg*(c%1000))/1000<=999;omega,by show c/1000<=b;omega⟩,by show 20-(k+1)<20-k;omega,X9 rfl ⟨JL,JL,JL,JL,JL,JL,JL,JL,TV⟩ ⟨CG (AObj.row 1) hs,TV⟩⟩):p:=h
def QSa (h:p:=by exact X3 ⟨_,ZzS,⟨rfl,rfl,TV⟩,X5 _⟩):p:=h
def QTa (h:p:=by exact(show Vw _ _ _ _ _ from⟨_,ZzS,TV,Xm ⟨rfl,TV⟩⟩)):p:=h
def QUa (zk:q) (h:ZwB q->p:=by intro zk;refine X4 ?_;refine Y5 ?_;exact zk.1):p:=h ⟨zk⟩
def QVa (h:p:=by refine QO ?_;exact Qo):p:=h
def QWa (zk:q) (h:ZwB q->p:=by intro zk;refine X4 ?_;refine Ya ?_;exact zk.1):p:=h ⟨zk⟩
def QXa (h:p:=by refine QF ?_;refine Ya ?_;exact Qo):p:=h
def QYa (zk:q) (h:ZwB q->p:=by intro zk;refine X4 ?_;refine X4 ?_;exact zk.1):p:=h ⟨zk⟩
def QZa (h:p:=by refine QYa ?_;refine W7_ ?_;exact Qo):p:=h
def Qab (zk:q) (h:ZwB q->p:=by intro zk;refine X4 ?_;refine Yb ?_;exact zk.1):p:=h ⟨zk⟩
def Qbb (zk:q) (h:ZwB q->p:=by intro zk;refine X4 ?_;refine XA ?_;exact zk.1):p:=h ⟨zk⟩
def Qcb (h:p:=by exact X3 ⟨_,ZzS,⟨⟨101,0,_,rfl,rfl,.inr ⟨2,_,rfl,rfl,rfl,rfl⟩⟩,rfl,TV⟩,X5 _⟩):p:=h
def Qdb (h:p:=by refine W6_ ?_;exact Zr0):p:=h
def Qeb (h:p:=by refine XD ?_;refine QF ?_;refine W2_ ?_;refine QF ?_;refine W4_ ?_;exact Qea):p:=h
def Qfb (zk:q) (h:ZwB q->p:=by intro zk;refine YV ?_;refine ZBs (((j+1:Nat):Int)) (1) (((j:Nat):Int)) ?_;refine W2_ ?_;refine UV (op:= .leq) (u:= .string _) (v:= .string _) (hg:=JSa) (hx:=JSb) (hy:=JSb) (hr:=JSi) (h1:=JSb) (hd:=JSb) ?_;exact zk.1):p:=h ⟨zk⟩
def Qgb (h:p:=by exact⟨j+1+1,⟨by omega,by omega,by rw[Nat.add_sub_cancel];exact hg⟩,by omega,X9 rfl ⟨JL,JL,TV⟩ TV⟩):p:=h
def Qhb (zk:q) (h:ZwB q->p:=by intro zk;refine XA ?_;refine Z5 (ag:=X3W d) ?_;exact zk.1):p:=h ⟨zk⟩
def Qib (h:p:=by exact X3 ⟨_,ZzS,⟨⟨101,0,_,rfl,rfl,.inr ⟨3,_,rfl,rfl,rfl,rfl⟩⟩,rfl,TV⟩,X5 _⟩):p:=h
def Qjb (h:p:=by refine W3_ ?_;exact Qib):p:=h
def Qkb (h:p:=by exact X3 ⟨_,Xg 101 (cs:=[aq,aq,ab false]) (cs':=[.d (XS []),.d (XW []),ab false]) rfl ⟨AVal.le_nil 1,AVal.le_nil 2,ZzV,TV⟩ rfl,⟨⟨101,0,_,rfl,rfl,.inr ⟨3,_,rfl,rfl,rfl,rfl⟩⟩,rfl,TV⟩,X5 _⟩):p:=h
def Qlb (h:p:=by refine Ya ?_;exact Qkb):p:=h
def Qmb (h:p:=by refine VM ?_;exact Qkb):p:=h
def Qnb (h:p:=by exact X3 ⟨_,ZzS,⟨⟨101,0,_,rfl,rfl,.inr ⟨3,_,rfl,rfl,rfl,rfl⟩⟩,TV⟩,X5 _⟩):p:=h
def Qob (h:p:=by exact X3 ⟨_,Xg 100 (cs:=[aq,aq,ab false]) (cs':=[.d (XS []),.d (XW []),ab false]) rfl ⟨AVal.le_nil 1,AVal.le_nil 2,ZzV,TV⟩ rfl,⟨⟨100,0,_,rfl,rfl,.inr ⟨3,_,rfl,rfl,rfl,rfl⟩⟩,rfl,TV⟩,X5 _⟩):p:=h
def Qpb (h:p:=by exact X3 ⟨_,Xe 4 (y:= .d (Xc [])) (AVal.le_nil 1),⟨rfl,rfl,TV⟩,X5 _⟩):p:=h
def Qqb (h:p:=by refine U7 ?_;exact Qpb):p:=h
def Qrb (zk:q) (h:ZwB q->p:=by intro zk;refine W8_ ?_;refine X28 (k:=J xs) (hg:=JSa) (hx:=JSb) (hL:=JSb) (hlo:=JSb) (hn:=JSe) (hT:=JSb) (hd:=JSb) ?_ (hk:=by exact Nat.le_refl _);refine X04 ?_;exact zk.1):p:=h ⟨zk⟩
def Qsb (zk:q) (h:ZwB q->p:=by intro zk;refine X8 (X8G 6 1 110 rfl rfl (by simp) rfl rfl) ?_;exact zk.1):p:=h ⟨zk⟩
def Qtb (zk:q) (h:ZwB q->p:=by intro zk;refine X0o (hg:=JSa) (hx:=JSb) (hT:=JSb) (hd:=JSb) ?_;exact zk.1):p:=h ⟨zk⟩
def Qub (zk:q) (h:ZwB q->p:=by intro zk;refine ZBa ((J xs:Nat)) ((J [v]:Nat)) (((J xs+1:Nat):Int)) ?_ (e:=a1);exact zk.1):p:=h ⟨zk⟩
def Qvb (zk:q) (h:ZwB q->p:=by intro zk;refine W8_ ?_;refine Zd (lb:=i) (hb:=J xs) (m:=J xs-i) (c':=c-i) (o':=_) ?_ (ho':=by exact s1);refine Yh ?_;refine Qtb ?_;refine Yr ?_;refine Qub ?_;refine W1_ ?_;refine X4O (hg:=JSa) (hx:=JSb) (hT:=JSb) (hd:=JSb) ?_;exact zk.1):p:=h ⟨zk⟩
def Qwb (zk:q) (h:ZwB q->p:=by intro zk;refine ZBa ((i:Nat)) ((J [v]:Nat)) (((i+1:Nat):Int)) ?_ (e:=a2);refine Zd (lb:=i+1) (hb:=J xs+1) (m:=J xs-i) (c':=c-(i+1)) (o':=_) ?_ (ho':=by exact s3);exact zk.1):p:=h ⟨zk⟩
def Qxb (zk:q) (h:ZwB q->p:=by intro zk;refine Qvb ?_;refine W9_ ?_;refine Qub ?_;refine Zd (lb:=0) (hb:=J xs+1) (m:=J xs+1) (c':=c) (o':=0) ?_ (ho':=by exact s0);refine W9_ ?_;refine Qwb ?_;exact zk.1):p:=h ⟨zk⟩
def Qyb (zk:q) (h:ZwB q->p:=by intro zk;refine W8_ ?_;refine Qwb ?_;refine W2_ ?_;refine Zd (lb:=i) (hb:=J xs+1) (m:=J xs+1-i) (c':=c-i) (o':=_) ?_ (ho':=by exact s1);refine Ze (m:=J xs-i) (cs':=_) ?_ (hc:=by exact cA) (hcs:=by exact e1);refine W5_ ?_;refine Zd (lb:=i) (hb:=J xs+1) (m:=J xs+1-i) (c':=c-i) (o':=_) ?_ (ho':=by exact s1);refine W1_ ?_;refine Zf (m:=1) (cs':=_) ?_ (hcs:=by exact e2);refine W6_ ?_;exact zk.1):p:=h ⟨zk⟩
def Qzb (zk:q) (h:ZwB q->p:=by intro zk;refine X8 (X1x 6 120 110 (xs.take i++v::xs.drop i) (by conv=>lhs;whnf) (by conv=>lhs;whnf) e4 dO hok hroom bC (by omega) rfl rfl) ?_;exact zk.1):p:=h ⟨zk⟩
def QAb (zk:q) (h:ZwB q->p:=by intro zk;refine Qvb ?_;refine W7_ ?_;refine Zd (lb:=0) (hb:=i) (m:=i) (c':=c) (o':=0) ?_ (ho':=by exact s0);refine W2_ ?_;refine Qub ?_;refine W1_ ?_;refine ZBs (((J xs+1:Nat):Int)) ((i:Nat)) (((J xs+1-i:Nat):Int)) ?_ (e:=a3);exact zk.1):p:=h ⟨zk⟩
def QBb (zk:q) (h:ZwB q->p:=by intro zk;refine X8 (X1x 0 120 121 xs (by conv=>lhs;whnf) (by conv=>lhs;whnf) e6 rfl hz aO bC (by omega) rfl rfl) ?_;refine X8 (XI 121 rfl) ?_;refine X8 (XX 0 121 rfl rfl rfl) ?_;refine W3_ ?_;exact zk.1):p:=h ⟨zk⟩
def QCb (zk:q) (h:ZwB q->p:=by intro zk;refine W6_ ?_;refine ZBa ((i:Nat)) ((J [v]:Nat)) (((i+1:Nat):Int)) ?_ (e:=a2);exact zk.1):p:=h ⟨zk⟩
def QDb (zk:q) (h:ZwB q->p:=by intro zk;refine XA ?_;refine Qtb ?_;exact zk.1):p:=h ⟨zk⟩
def QEb (zk:q) (h:ZwB q->p:=by intro zk;refine XK ?_;refine Qtb ?_;refine W6_ ?_;refine Zd (lb:=0) (hb:=i) (m:=i) (c':=c) (o':=0) ?_ (ho':=by exact s0);refine W2_ ?_;refine Zd (lb:=i+1) (hb:=J xs) (m:=J xs-(i+1)) (c':=c-(i+1)) (o':=off) ?_ (ho':=by exact ho);exact zk.1):p:=h ⟨zk⟩
def QFb (zk:q) (h:ZwB q->p:=by intro zk;refine W6_ ?_;refine Qtb ?_;refine W1_ ?_;exact zk.1):p:=h ⟨zk⟩
def QGb (zk:q) (h:ZwB q->p:=by intro zk;refine X8 (X1x 6 120 110 (xs.take i++xs.drop (i+1)) (by conv=>lhs;whnf) (by conv=>lhs;whnf) (e4 _) dO hok (by omega) bC (by simp only[LA,LT,LD,length_replicate];omega) rfl rfl) ?_;exact zk.1):p:=h ⟨zk⟩
def QHb (zk:q) (h:ZwB q->p:=by intro zk;refine X9u (lb:=i) (hb:=i+1) (mb:=J xs) (sz:=6) (hg:=JSa) (hx:=JSb) (hlo:=JSb) (hhi:=JSb) (cU:=JSb) (cg:=JSh) (hh:=JSh) (hm:=JSh) (hT:=JSb) (hd:=JSb) ?_;exact zk.1):p:=h ⟨zk⟩
def QIb (h:p:=by exact X3 ⟨_,Xg 100 (cs:=[ai 8,ai 0,ai 0,.d (.v (.string (X7 []))),aq]) (cs':=[ai 8,ai 0,ai 0,.d (.v (.string (X7 []))),.d (.sl 5 [])]) rfl ⟨ZzV,ZzV,ZzV,ZzV,AVal.le_nil 5,TV⟩ rfl,⟨⟨100,0,_,rfl,rfl,.inr ⟨5,_,rfl,rfl,rfl,rfl⟩⟩,TV⟩,Xm ⟨rfl,TV⟩⟩):p:=h
def QJb (zk:q) (h:ZwB q->p:=by intro zk;refine X8 (XI 121 rfl) ?_;refine X8 (VR 101 4 121 (cs:=[ai 8,ai 0,ai 0,.d (.v (.string (X7 []))),.own 121 (J l)]) (sz:=5) (xs:=XR l) rfl rfl rfl hlen.symm) ?_;exact zk.1):p:=h ⟨zk⟩
def QKb (h:p:=by exact X3 ⟨_,ZzS,⟨⟨100,0,_,rfl,rfl,.inr ⟨5,_,rfl,rfl,rfl,rfl⟩⟩,TV⟩,Xm ⟨rfl,TV⟩⟩):p:=h
def QLb (h:p:=by refine X17 ?_;exact QKb):p:=h
def QMb (h:p:=by exact CG (AObj.row 5) (XcK l xk xn xd xs xl)):p:=h
def QNb (h:p:=by exact X3 ⟨_,Xg 100 (cs:=[ai 7,ai 0,ai 0,.d (.v (.string (X7 []))),aq]) (cs':=[ai 7,ai 0,ai 0,.d (.v (.string (X7 []))),.d (.sl 5 [])]) rfl ⟨ZzV,ZzV,ZzV,ZzV,AVal.le_nil 5,TV⟩ rfl,⟨⟨100,0,_,rfl,rfl,.inr ⟨5,_,rfl,rfl,rfl,rfl⟩⟩,TV⟩,Xm ⟨rfl,TV⟩⟩):p:=h
def QOb (zk:q) (h:ZwB q->p:=by intro zk;refine X8 (XI 121 rfl) ?_;refine X8 (VR 101 4 121 (cs:=[ai 7,ai 0,ai 0,.d (.v (.string (X7 []))),.own 121 (J l)]) (sz:=5) (xs:=XR l) rfl rfl rfl hlen.symm) ?_;exact zk.1):p:=h ⟨zk⟩
def QPb (h:p:=by exact X3 ⟨_,Xg 100 (cs:=[ai 0,ai 0,ai 0,.d (.v (.string (X7 []))),aq]) (cs':=[ai 0,ai 0,ai 0,.d (.v (.string (X7 []))),.d (.sl 5 [])]) rfl ⟨ZzV,ZzV,ZzV,ZzV,AVal.le_nil 5,TV⟩ rfl,⟨⟨100,0,_,rfl,rfl,.inr ⟨5,_,rfl,rfl,rfl,rfl⟩⟩,TV⟩,Xm ⟨rfl,TV⟩⟩):p:=h
def QQb (zk:q) (h:ZwB q->p:=by intro zk;refine Z5 (ag:=hn) ?_;exact zk.1):p:=h ⟨zk⟩
def QRb (h:p:=by exact X3 ⟨_,Xg 100 (cs:=[ai 1,ai n,ai 0,.d (.v (.string (X7 []))),aq]) (cs':=[ai 1,ai n,ai 0,.d (.v (.string (X7 []))),.d (.sl 5 [])]) rfl ⟨ZzV,ZzV,ZzV,ZzV,AVal.le_nil 5,TV⟩ rfl,⟨⟨100,0,_,rfl,rfl,.inr ⟨5,_,rfl,rfl,rfl,rfl⟩⟩,TV⟩,Xm ⟨rfl,TV⟩⟩):p:=h
def QSb (zk:q) (h:ZwB q->p:=by intro zk;refine QQb ?_;refine YA ?_;exact zk.1):p:=h ⟨zk⟩
def QTb (h:p:=by exact X3 ⟨_,Xg 100 (cs:=[ai 2,ai n,ai 0,.d (.v (.string (X7 []))),aq]) (cs':=[ai 2,ai n,ai 0,.d (.v (.string (X7 []))),.d (.sl 5 [])]) rfl ⟨ZzV,ZzV,ZzV,ZzV,AVal.le_nil 5,TV⟩ rfl,⟨⟨100,0,_,rfl,rfl,.inr ⟨5,_,rfl,rfl,rfl,rfl⟩⟩,TV⟩,Xm ⟨rfl,TV⟩⟩):p:=h
def QUb (h:p:=by exact X3 ⟨_,Xg 100 (cs:=[ai 5,ai n,ai 0,.d (.v (.string (X7 []))),aq]) (cs':=[ai 5,ai n,ai 0,.d (.v (.string (X7 []))),.d (.sl 5 [])]) rfl ⟨ZzV,ZzV,ZzV,ZzV,AVal.le_nil 5,TV⟩ rfl,⟨⟨100,0,_,rfl,rfl,.inr ⟨5,_,rfl,rfl,rfl,rfl⟩⟩,TV⟩,Xm ⟨rfl,TV⟩⟩):p:=h
def QVb (h:p:=by exact X3 ⟨_,Xg 100 (cs:=[ai 6,ai n,ai 0,.d (.v (.string (X7 []))),aq]) (cs':=[ai 6,ai n,ai 0,.d (.v (.string (X7 []))),.d (.sl 5 [])]) rfl ⟨ZzV,ZzV,ZzV,ZzV,AVal.le_nil 5,TV⟩ rfl,⟨⟨100,0,_,rfl,rfl,.inr ⟨5,_,rfl,rfl,rfl,rfl⟩⟩,TV⟩,Xm ⟨rfl,TV⟩⟩):p:=h
def QWb (h:p:=by exact X3 ⟨_,Xg 100 (cs:=[ai 3,ai n,ai d,.d (.v (.string (X7 []))),aq]) (cs':=[ai 3,ai n,ai d,.d (.v (.string (X7 []))),.d (.sl 5 [])]) rfl ⟨ZzV,ZzV,ZzV,ZzV,AVal.le_nil 5,TV⟩ rfl,⟨⟨100,0,_,rfl,rfl,.inr ⟨5,_,rfl,rfl,rfl,rfl⟩⟩,TV⟩,Xm ⟨rfl,TV⟩⟩):p:=h
def QXb (zk:q) (h:ZwB q->p:=by intro zk;refine Qna ?_;refine QQb ?_;refine W5_ ?_;refine Z5 (ag:=hn2) ?_;refine YA ?_;exact zk.1):p:=h ⟨zk⟩
def QYb (h:p:=by exact X3 ⟨_,Xg 100 (cs:=[ai 4,ai 0,ai 0,.d (.v (.string (X7 s))),aq]) (cs':=[ai 4,ai 0,ai 0,.d (.v (.string (X7 s))),.d (.sl 5 [])]) rfl ⟨ZzV,ZzV,ZzV,ZzV,AVal.le_nil 5,TV⟩ rfl,⟨⟨100,0,_,rfl,rfl,.inr ⟨5,_,rfl,rfl,rfl,rfl⟩⟩,TV⟩,Xm ⟨rfl,TV⟩⟩):p:=h
def QZb (h:p:=by exact X3 ⟨_,Xg 100 (cs:=[ai 0,ai 0,ai 0,.d (.v (.string (X7 []))),aq]) (cs':=[ai 0,ai 0,ai 0,.d (.v (.string (X7 []))),.d (.sl 5 [])]) rfl ⟨ZzV,ZzV,ZzV,ZzV,AVal.le_nil 5,TV⟩ rfl,⟨⟨100,0,_,rfl,rfl,.inr ⟨5,_,rfl,rfl,rfl,rfl⟩⟩,rfl,rfl,TV⟩,X5 _⟩):p:=h
def Qac (h:p:=by refine XM ?_;exact QZb):p:=h
def Qbc (h:p:=by exact X3 ⟨_,ZzS,⟨⟨100,0,_,rfl,rfl,.inr ⟨5,_,rfl,rfl,rfl,rfl⟩⟩,rfl,rfl,TV⟩,X5 _⟩):p:=h
def Qcc (h:p:=by refine X4 ?_;exact QE):p:=h
def Qdc (zk:q) (h:ZwB q->p:=by intro zk;refine X8 (XI 130 rfl) ?_;exact zk.1):p:=h ⟨zk⟩
def Qec (zk:q) (h:ZwB q->p:=by intro zk;refine Qdc ?_;refine X8 (XX 2 130 rfl rfl rfl) ?_;exact zk.1):p:=h ⟨zk⟩
def Qfc (h:p:=by exact⟨i+1,⟨by omega,hg⟩,by omega,ZL0⟩):p:=h
def Qgc (h:p:=by refine YG ?_;exact Qfc):p:=h
def Qhc (zk:q) (h:ZwB q->p:=by intro zk;refine YJ ?_;refine Z7 (ag:=hc) ?_;refine W5_ ?_;exact zk.1):p:=h ⟨zk⟩
def Qic (zk:q) (h:ZwB q->p:=by intro zk;refine XD ?_;refine ZBA i j ?_;exact zk.1):p:=h ⟨zk⟩
def Qjc (zk:q) (h:ZwB q->p:=by intro zk;refine Z3 (op:= .shr) (r':=_) (u:=n64 (i+j)) (v:=n64 1) ?_ (hr':=by exact e2) (hr:=by exact X1H (by decide));exact zk.1):p:=h ⟨zk⟩
def Qkc (h:p:=by exact⟨0+1,⟨by omega,hg⟩,by omega,ZL0⟩):p:=h
def Qlc (zk:q) (h:ZwB q->p:=by intro zk;refine YG ?_;refine ZBs (((j+1:Nat):Int)) (1) (((j:Nat):Int)) ?_;exact zk.1):p:=h ⟨zk⟩
def Qmc (h:p:=by exact⟨j+1+1,⟨by omega,hg⟩,by omega,ZL0⟩):p:=h
def Qnc (zk:q) (h:ZwB q->p:=by intro zk;refine QUa ?_;refine Z5 (ag:=hs1) ?_;refine W6_ ?_;refine Z5 (ag:=cV) ?_;exact zk.1):p:=h ⟨zk⟩
def Qoc (zk:q) (h:ZwB q->p:=by intro zk;refine Qlc ?_;refine UK ?_;refine Z5 (ag:=hs1) ?_;refine W6_ ?_;refine Z5 (ag:=cV) ?_;exact zk.1):p:=h ⟨zk⟩
def Qpc (zk:q) (h:ZwB q->p:=by intro zk;refine W5_ ?_;refine Qu ?_;refine XB ?_;exact zk.1):p:=h ⟨zk⟩
def Qqc (zk:q) (h:ZwB q->p:=by intro zk;refine Za (γ:=130) ?_;exact zk.1):p:=h ⟨zk⟩
def Qrc (zk:q) (h:ZwB q->p:=by intro zk;refine Z1 (u:=nj 4) (r:=n8 4) ?_ (hr:=by exact Ui rfl rfl);refine Qqc ?_;exact zk.1):p:=h ⟨zk⟩
def Qsc (zk:q) (h:ZwB q->p:=by intro zk;refine Z1 (u:=nj 5) (r:=n8 5) ?_ (hr:=by exact Ui rfl rfl);refine Qqc ?_;exact zk.1):p:=h ⟨zk⟩
def Qtc (zk:q) (h:ZwB q->p:=by intro zk;refine Z1 (u:=nj 6) (r:=n8 6) ?_ (hr:=by exact Ui rfl rfl);refine Qqc ?_;exact zk.1):p:=h ⟨zk⟩
def Quc (zk:q) (h:ZwB q->p:=by intro zk;refine Z1 (u:=nj 7) (r:=n8 7) ?_ (hr:=by exact Ui rfl rfl);refine Qqc ?_;exact zk.1):p:=h ⟨zk⟩
def Qvc (zk:q) (h:ZwB q->p:=by intro zk;refine Z1 (u:=nj 8) (r:=n8 8) ?_ (hr:=by exact Ui rfl rfl);refine Qqc ?_;exact zk.1):p:=h ⟨zk⟩
def Qwc (zk:q) (h:ZwB q->p:=by intro zk;refine W4_ ?_;refine Qva ?_;refine W8_ ?_;exact zk.1):p:=h ⟨zk⟩
def Qxc (h:p:=by refine UR ?_;exact Qda):p:=h
def Qyc (zk:q) (h:ZwB q->p:=by intro zk;refine W4_ ?_;refine Qu ?_;refine W7_ ?_;refine Qu ?_;refine W7_ ?_;refine Qv ?_;exact zk.1):p:=h ⟨zk⟩
def Qzc (zk:q) (h:ZwB q->p:=by intro zk;refine Qdc ?_;refine X8 (XX 2 130 rfl rfl (by first|rfl|(simp only[LA,LM,LC,length_nil]<;>omega))) ?_;exact zk.1):p:=h ⟨zk⟩
def QAc (zk:q) (h:ZwB q->p:=by intro zk;refine Yh ?_;refine Z1 (u:=nj 1) (r:=n8 1) ?_ (hr:=by exact Ui rfl rfl);refine Qqc ?_;exact zk.1):p:=h ⟨zk⟩
def QBc (zk:q) (h:ZwB q->p:=by intro zk;refine Yh ?_;refine Z1 (u:=nj 2) (r:=n8 2) ?_ (hr:=by exact Ui rfl rfl);refine Qqc ?_;exact zk.1):p:=h ⟨zk⟩
def QCc (zk:q) (h:ZwB q->p:=by intro zk;refine Yh ?_;refine Z1 (u:=nj 3) (r:=n8 3) ?_ (hr:=by exact Ui rfl rfl);refine Qqc ?_;exact zk.1):p:=h ⟨zk⟩
def QDc (zk:q) (h:ZwB q->p:=by intro zk;refine XA ?_;refine Z5 (ag:=X45 d) ?_;exact zk.1):p:=h ⟨zk⟩
def QEc (h:p:=by refine UK ?_;exact Qfc):p:=h
def QFc (zk:q) (h:ZwB q->p:=by intro zk;refine XM ?_;refine ZBs (((j+1:Nat):Int)) (1) (((j:Nat):Int)) ?_;exact zk.1):p:=h ⟨zk⟩
def QGc (zk:q) (h:ZwB q->p:=by intro zk;refine UV (op:= .lss) (u:= .string _) (v:= .string _) (hg:=JSa) (hx:=JSb) (hy:=JSb) (hr:=JSj) (h1:=JSb) (hd:=JSb) ?_;exact zk.1):p:=h ⟨zk⟩
def QHc (h:p:=by refine QGc ?_;exact Qdb):p:=h
def QIc (zk:q) (h:ZwB q->p:=by intro zk;refine QGc ?_;refine W8_ ?_;refine UV (op:= .gtr) (u:= .string _) (v:= .string _) (hg:=JSa) (hx:=JSb) (hy:=JSb) (hr:=JSk) (h1:=JSb) (hd:=JSb) ?_;exact zk.1):p:=h ⟨zk⟩
def QJc (h:p:=by refine XA ?_;refine Z7 (ag:=hc) ?_;refine W8_ ?_;exact⟨((i+j)/2+1,j),hinv,by simp only;omega,ZL0⟩):p:=h
def QKc (h:p:=by refine XA ?_;refine Z7 (ag:=hc) ?_;refine W7_ ?_;exact⟨(i,(i+j)/2),hinv,by simp only;omega,ZL0⟩):p:=h
def QLc (h:p:=by refine Y5 ?_;exact Qo):p:=h
def QMc (zk:q) (h:ZwB q->p:=by intro zk;refine U7 ?_;refine Z5 (ag:=hi) ?_;refine Yh ?_;refine Z5 (ag:=hs) ?_;exact zk.1):p:=h ⟨zk⟩
def QNc (h:p:=by refine U7 ?_;refine Z5 (ag:=hi) ?_;refine X04 ?_;exact X3 ⟨_,Xg 100 (cs':=[ai _,ai id,ai 0,ai 0,Xa [],ai 0,ai 0,ai 0,Xa [],.d (.sl 5 [])]) rfl JM rfl,⟨⟨100,0,_,rfl,rfl,.inr ⟨10,_,rfl,rfl,rfl,rfl⟩⟩,TV⟩,Xm ⟨rfl,TV⟩⟩):p:=h
def QOc (h:p:=by refine QMc ?_;refine YJ ?_;exact X3 ⟨_,Xg 100 (cs':=[ai _,ai id,ai 0,ai 0,Xa name,ai 0,ai 0,ai 0,Xa [],.d (.sl 5 [])]) rfl JM rfl,⟨⟨100,0,_,rfl,rfl,.inr ⟨10,_,rfl,rfl,rfl,rfl⟩⟩,TV⟩,Xm ⟨rfl,TV⟩⟩):p:=h
def QPc (h:p:=by exact X3 ⟨_,ZzS,⟨⟨100,0,_,rfl,rfl,.inr ⟨10,_,rfl,rfl,rfl,rfl⟩⟩,TV⟩,Xm ⟨rfl,TV⟩⟩):p:=h
def QQc (zk:q) (h:ZwB q->p:=by intro zk;refine XB ?_;refine Xc4 (hg:=JSa) (hx:=JSb) (hi:=JSb) (hk:=JSg) (hlt:=JSh) (hT:=JSb) (hd:=JSb) ?_;refine W6_ ?_;exact zk.1):p:=h ⟨zk⟩
def QRc (h:p:=by exact X3 ⟨_,ZzS,⟨⟨100,0,_,rfl,rfl,.inr ⟨6,_,rfl,rfl,rfl,rfl⟩⟩,TV⟩,Xm ⟨rfl,TV⟩⟩):p:=h
def QSc (zk:q) (h:ZwB q->p:=by intro zk;refine X3Z (us:=[.int .i64 k,.int .i64 n,.string (X7 name),.string (X7 key),.string (X7 src),.string (X7 dst)]) (vs:=[.int .i64 0,.int .i64 0,.string (X7 []),.string (X7 []),.string (X7 []),.string (X7 [])]) (r:=z) (hg:=JSa) (hx:=JSb) (hy:=JSb) (hcs:=JSb) (aP:=JSb) (hu:=JSb) (hv:=JSb) (hd:=JSb) ?_ (hk:=by exact X4h) (hr:=by exact hz);exact zk.1):p:=h ⟨zk⟩
def QTc (zk:q) (h:ZwB q->p:=by intro zk;refine QSc ?_;refine YA ?_;exact zk.1):p:=h ⟨zk⟩
def QUc (zk:q) (h:ZwB q->p:=by intro zk;refine Qdc ?_;refine X8 (XX 2 130 rfl rfl (by first|rfl|(simp only[LA,LM,LC,length_nil]<;>omega)|fail)) ?_;exact zk.1):p:=h ⟨zk⟩
def QVc (h:p:=by exact X3 ⟨_,Xe 2 (y:= .d (Xc (UInt8.ofNat 3::w0))) (ZzQ (by refine Eq.trans (b:=AVal.d (.sl 1 (_))) rfl ?_;show _=AVal.d (.sl 1 ((UInt8.ofNat 3::w0).map X6));simp only[map_append,map_cons,map_nil,AS,cons_append,nil_append,append_nil]<;>rfl)),⟨rfl,TV⟩,X5 _⟩):p:=h
def QWc (h:p:=by exact X3 ⟨_,Xe 2 (y:= .d (Xc (UInt8.ofNat 2::(w0++(w1++[1]))))) (ZzQ (by refine Eq.trans (b:=AVal.d (.sl 1 (_))) rfl ?_;show _=AVal.d (.sl 1 ((UInt8.ofNat 2::(w0++(w1++[1]))).map X6));simp only[map_append,map_cons,map_nil,AS,cons_append,nil_append,append_nil]<;>rfl)),⟨rfl,TV⟩,X5 _⟩):p:=h
def QXc (h:p:=by exact X3 ⟨_,Xe 2 (y:= .d (Xc (UInt8.ofNat 2::(w0++(w1++[0]))))) (ZzQ (by refine Eq.trans (b:=AVal.d (.sl 1 (_))) rfl ?_;show _=AVal.d (.sl 1 ((UInt8.ofNat 2::(w0++(w1++[0]))).map X6));simp only[map_append,map_cons,map_nil,AS,cons_append,nil_append,append_nil]<;>rfl)),⟨rfl,TV⟩,X5 _⟩):p:=h
def QYc (zk:q) (h:ZwB q->p:=by intro zk;refine XG ?_;refine Qdc ?_;exact zk.1):p:=h ⟨zk⟩
def QZc (zk:q) (h:ZwB q->p:=by intro zk;refine ZBa ((i:Nat)) (1) (((i+1:Nat):Int)) ?_ (e:=rfl);exact zk.1):p:=h ⟨zk⟩
def Qad (zk:q) (h:ZwB q->p:=by intro zk;refine W9_ ?_;refine Z5 (ag:=hN) ?_;exact zk.1):p:=h ⟨zk⟩
def Qbd (zk:q) (h:ZwB q->p:=by intro zk;refine X3E (hg:=JSa) (hx:=JSb) (hL:=JSb) (hi:=JSb) (hn:=JSe) (hk:=JSg) (hlt:=JSh) (hT:=JSb) (hd:=JSb) ?_;exact zk.1):p:=h ⟨zk⟩
def Qcd (zk:q) (h:ZwB q->p:=by intro zk;refine XB ?_;refine Qbd ?_;refine X5A (q:=5) (ys:=[.v (.int .i64 y.1.id),.v (.int .i64 y.1.src),.v (.int .i64 y.1.dst),.v (.string (X7 y.1.typ)),.v y.2]) (hg:=JSa) (hx:=JSb) (hL:=JSb) (hn:=JSe) (h0:=JSh) (ht:=JSb) (hd:=JSb) ?_ (hb:=by exact hroom) (hys:=by exact hpart);exact zk.1):p:=h ⟨zk⟩
def Qdd (zk:q) (h:ZwB q->p:=by intro zk;refine Zl (op:= .neq) (r':= .bool true) (u:= .int .i64 y.1.src) (v:= .int .i64 id) ?_ (hr':=by exact CG Value.bool (DT n1));refine W5_ ?_;exact zk.1):p:=h ⟨zk⟩
def Qed (h:p:=by exact⟨_,ZzS,TV,Xm ⟨rfl,rfl,rfl,rfl,TV⟩⟩):p:=h
def Qfd (zk:q) (h:ZwB q->p:=by intro zk;refine Qad ?_;refine Yh ?_;refine Z5 (ag:=cX) ?_;refine W2_ ?_;exact zk.1):p:=h ⟨zk⟩
def Qgd (zk:q) (h:ZwB q->p:=by intro zk;refine W7_ ?_;refine Zi (sz:=3) ?_;exact zk.1):p:=h ⟨zk⟩
def Qhd (zk:q) (h:ZwB q->p:=by intro zk;refine X12 (hg:=JSa) (hx:=JSb) (hL:=JSb) (ht:=JSb) (hd:=JSb) ?_ (hy:=by exact fT);exact zk.1):p:=h ⟨zk⟩
def Qid (zk:q) (h:ZwB q->p:=by intro zk;refine Qgd ?_;refine V4 ?_;refine Qhd ?_;exact zk.1):p:=h ⟨zk⟩
def Qjd (zk:q) (h:ZwB q->p:=by intro zk;refine Qhd ?_;refine W4_ ?_;exact zk.1):p:=h ⟨zk⟩
def Qkd (zk:q) (h:ZwB q->p:=by intro zk;refine X8 (X5S 120 210 (i*3+1) 121 (A:=Y7 (xs.take i)) (B:=(v,6,x1.props.map Xb)::Y7 (xs.drop (i+1))) rfl (X4t _ aW fo rfl) (Eq.trans (b:= .bag (Y7 xs)) (by conv=>lhs;whnf) (by rw[bO])) rfl rfl) ?_;exact zk.1):p:=h ⟨zk⟩
def Qld (zk:q) (h:ZwB q->p:=by intro zk;refine X8 (X5S 120 210 (i*3+2) 121 (A:=Y7 (xs.take i)++[(u,1,x1.labels.map Xf)]) (B:=Y7 (xs.drop (i+1))) rfl (X4t _ aW fo rfl) (Eq.trans (b:= .bag (Y7 xs)) (by conv=>lhs;whnf) (by rw[bO,AS];rfl)) rfl rfl) ?_;exact zk.1):p:=h ⟨zk⟩
def Qmd (zk:q) (h:ZwB q->p:=by intro zk;refine W9_ ?_;refine Z5 (ag:=hE) ?_;exact zk.1):p:=h ⟨zk⟩
def Qnd (zk:q) (h:ZwB q->p:=by intro zk;refine Z5 (ag:=gK) ?_;refine XB ?_;refine Z5 (ag:=gL) ?_;exact zk.1):p:=h ⟨zk⟩
def Qod (h:p:=by exact X3 ⟨_,Xg 100 (cs:=[ai 8,ai 0,ai 0,.d (.v (.string (X7 []))),aq]) (cs':=[ai 8,ai 0,ai 0,.d (.v (.string (X7 []))),.d (.sl 5 [])]) rfl ⟨ZzV,ZzV,ZzV,ZzV,AVal.le_nil 5,TV⟩ rfl,⟨⟨100,0,_,rfl,rfl,.inr ⟨5,_,rfl,rfl,rfl,rfl⟩⟩,rfl,rfl,TV⟩,X5 _⟩):p:=h
def Qpd (h:p:=by exact X3 ⟨_,Xg 100 (cs:=[ai 7,ai 0,ai 0,.d (.v (.string (X7 []))),aq]) (cs':=[ai 7,ai 0,ai 0,.d (.v (.string (X7 []))),.d (.sl 5 [])]) rfl ⟨ZzV,ZzV,ZzV,ZzV,AVal.le_nil 5,TV⟩ rfl,⟨⟨100,0,_,rfl,rfl,.inr ⟨5,_,rfl,rfl,rfl,rfl⟩⟩,rfl,rfl,TV⟩,X5 _⟩):p:=h
def Qqd (zk:q) (h:ZwB q->p:=by intro zk;refine Zb (op:= .rem) (r':= .int .i64 ((N%2:Nat):Int)) (u:= .int .i64 N) (v:= .int .i64 2) ?_ (hr':=by exact CG (Value.int .i64) (show((N:Int)%2)=((N%2:Nat):Int) by omega));exact zk.1):p:=h ⟨zk⟩
def Qrd (zk:q) (h:ZwB q->p:=by intro zk;refine QQb ?_;refine Us ?_;exact zk.1):p:=h ⟨zk⟩
def Qsd (h:p:=by refine QF ?_;refine W2_ ?_;refine Qt ?_;refine XB ?_;exact QZb):p:=h
def Qtd (zk:q) (h:ZwB q->p:=by intro zk;refine Zb (op:= .rem) (r':= .int .i64 ((i%2:Nat):Int)) (u:= .int .i64 i) (v:= .int .i64 2) ?_ (hr':=by exact CG (Value.int .i64) (show((i:Int)%2)=((i%2:Nat):Int) by omega));exact zk.1):p:=h ⟨zk⟩
def Qud (zk:q) (h:ZwB q->p:=by intro zk;refine Qab ?_;refine Qtd ?_;exact zk.1):p:=h ⟨zk⟩
def Qvd (zk:q) (h:ZwB q->p:=by intro zk;refine Qud ?_;refine XG ?_;refine Qtd ?_;exact zk.1):p:=h ⟨zk⟩
def Qwd (h:p:=by exact X3 ⟨_,Xg 100 (cs':=[ai 0,ai 0,ai 0,ai 0,Xa [],ai 0,ai 0,ai 0,Xa [],.d (.sl 5 [])]) rfl JM rfl,⟨⟨100,0,_,rfl,rfl,.inr ⟨10,_,rfl,rfl,rfl,rfl⟩⟩,rfl,rfl,TV⟩,X5 _⟩):p:=h
def Qxd (h:p:=by refine XM ?_;exact Qwd):p:=h
def Qyd (h:p:=by exact X3 ⟨_,ZzS,⟨⟨100,0,_,rfl,rfl,.inr ⟨10,_,rfl,rfl,rfl,rfl⟩⟩,rfl,rfl,TV⟩,X5 _⟩):p:=h
def Qzd (h:p:=by exact X3 ⟨_,ZzS,⟨⟨100,0,_,rfl,rfl,.inr ⟨6,_,rfl,rfl,rfl,rfl⟩⟩,rfl,rfl,TV⟩,X5 _⟩):p:=h
def QAd (h:p:=by refine XM ?_;exact Qzd):p:=h
def QBd (h:p:=by exact X3 ⟨_,Xg 100 (cs':=[ai 0,ai 0,.d (.sl 10 []),ai 0,ai 0,Xa [],Xa [],Xa [],Xa [],ab false]) rfl JM rfl,⟨⟨100,0,_,rfl,rfl,.inr ⟨10,_,rfl,rfl,rfl,rfl⟩⟩,rfl,TV⟩,X5 _⟩):p:=h
def QCd (h:p:=by exact X3 ⟨_,ZzS,⟨⟨100,0,_,rfl,rfl,.inr ⟨10,_,rfl,rfl,rfl,rfl⟩⟩,rfl,TV⟩,X5 _⟩):p:=h
def QDd (h:p:=by exact⟨i+1,hil,by omega,ZL0⟩):p:=h
def QEd (zk:q) (h:ZwB q->p:=by intro zk;refine X8 (X5S 120 211 (i*5+4) 121 (A:=U2 (ys.take i)) (B:=U2 (ys.drop (i+1))) rfl (X4t _ lD fo rfl) (Eq.trans (b:= .bag (U2 ys)) (by conv=>lhs;whnf) (by rw[bO])) rfl rfl) ?_;exact zk.1):p:=h ⟨zk⟩
def QFd (zk:q) (h:ZwB q->p:=by intro zk;refine X2D 1 rfl (fun _=>rfl) ?_;refine W1_ ?_;exact zk.1):p:=h ⟨zk⟩
def QGd (zk:q) (h:ZwB q->p:=by intro zk;refine Xd8 (T:=⟨21,[(0,.ptr 0 0),(3,.ptr 100 0),(4,.ptr 50 0)],[(0,.box [.own 3 (J g.nodes),.own 4 (J g.aj),ai g.nn,ai g.ne]),(3,.nest 3 (g.nodes.map cNN)),(4,.nest 5 (g.aj.map cNE)),(100,.box [ai op,ai id,ai src,ai dst,.d (.v (.string (X7 name))),ai k0,ai k1,ai k2,.d (.v (.string (X7 k3))),.d (.sl 5 (XR k4))]),(50,.box [ai 0])]⟩) (ZL0) ?_;refine Xdc ?_;exact zk.1):p:=h ⟨zk⟩
def QHd (h:p:=by exact(show Leaves _ _ _ _ _ _ _ from XjZ (β:=50) (t:=4) (ty:=38) (e:=e) (e0:=0) (x:={v:= .iface 262 (.int .i64 e),recovered:=true}) rfl jz hb (by decide) rfl rfl rfl hJ rfl (fun p e0 w=>XlN p e e0 w) rfl rfl XfM hs)):p:=h
def QId (zk:q) (h:ZwB q->p:=by intro zk;refine Qdc ?_;refine X8 (XX 4 130 rfl rfl rfl) ?_;exact zk.1):p:=h ⟨zk⟩
def QJd (h:p:=by exact X9 rfl ⟨ZzQ (by refine Eq.trans (b:=AVal.own 131 (_+_)) rfl ?_;simp only[LA,LM,LC,length_nil]),JL,JL,JL,TV⟩ ⟨rfl,TV⟩):p:=h
def QKd (h:p:=by exact X3 ⟨_,Xg 101 (cs:=[ai 0,aq,aq]) (cs':=[ai 0,.d (.sl 1 []),.d (.sl 6 [])]) rfl ⟨ZzV,AVal.le_nil 1,AVal.le_nil 6,TV⟩ rfl,⟨⟨101,0,_,rfl,rfl,.inr ⟨3,_,rfl,rfl,rfl,rfl⟩⟩,rfl,TV⟩,X5 _⟩):p:=h
def QLd (h:p:=by exact X3 ⟨_,Xg 101 (cs:=[ai 0,ai 0,ai 0,Xa [],aq]) (cs':=[ai 0,ai 0,ai 0,Xa [],.d (.sl 6 [])]) rfl ⟨ZzV,ZzV,ZzV,ZzV,AVal.le_nil 6,TV⟩ rfl,⟨⟨101,0,_,rfl,rfl,.inr ⟨5,_,rfl,rfl,rfl,rfl⟩⟩,rfl,TV⟩,X5 _⟩):p:=h
def QMd (h:p:=by exact(show Vw _ _ _ _ _ from⟨_,ZzS,TV,Xm ⟨(by refine Eq.trans (b:=AObj.box [.own 1 (_+_)]) rfl ?_;rw[LA]),rfl,TV⟩⟩)):p:=h
def QNd (h:p:=by refine W7_ ?_;exact(show Vw _ _ _ _ _ from⟨_,ZzS,TV,Xm ⟨rfl,rfl,TV⟩⟩)):p:=h
def QOd (h:p:=by exact⟨(i+1,out),⟨by simp only;omega,hg⟩,by simp only;omega,ZL0⟩):p:=h
def QPd (h:p:=by exact X9 rfl ⟨JL,JL,JL,ZzQ (by refine Eq.trans (b:=AVal.own 130 (_+_)) rfl ?_;simp),JL,JL,TV⟩ ⟨rfl,rfl,TV⟩):p:=h
def QQd (zk:q) (h:ZwB q->p:=by intro zk;refine YA ?_;refine UV (op:= .geq) (u:= .string _) (v:= .string _) (hg:=JSa) (hx:=JSb) (hy:=JSb) (hr:=JSm) (h1:=JSb) (hd:=JSb) ?_;exact zk.1):p:=h ⟨zk⟩
def QRd (zk:q) (h:ZwB q->p:=by intro zk;refine Qdc ?_;refine X8 (XX 5 130 rfl rfl (by simp)) ?_;refine Y5 ?_;exact zk.1):p:=h ⟨zk⟩
def QSd (h:p:=by exact X9 rfl ⟨JL,JL,JL,ZzQ (by refine Eq.trans (b:=AVal.own 130 (_+_)) rfl ?_;simp),JL,JL,TV⟩ ⟨rfl,rfl,rfl,rfl,TV⟩):p:=h
def QTd (h:p:=by exact X9 rfl ⟨JL,ZzQ (by refine Eq.trans (b:=AVal.own 130 (_+_)) rfl ?_;rw[LA]),JL,TV⟩ ⟨rfl,TV⟩):p:=h
def QUd (zk:q) (h:ZwB q->p:=by intro zk;refine Qu ?_;refine Qs ?_;exact zk.1):p:=h ⟨zk⟩
def QVd (zk:q) (h:ZwB q->p:=by intro zk;refine XM ?_;refine ZBa ((i:Int)) (1) (((i+1:Nat):Int)) ?_;exact zk.1):p:=h ⟨zk⟩
def QWd (zk:q) (h:ZwB q->p:=by intro zk;refine Z3 (op:= .sub) (r':= .int .u8 (((1:UInt8)-1).toNat:Int)) (u:= .int .u8 ((1:UInt8).toNat:Int)) (v:= .int .u8 1) ?_ (hr':=by exact jr) (hr:=by exact XaU);exact zk.1):p:=h ⟨zk⟩
def QXd (zk:q) (h:ZwB q->p:=by intro zk;refine W6_ ?_;refine ZBa (((i+1:Nat):Int)) (1) (((i+2:Nat):Int)) ?_;refine W2_ ?_;exact zk.1):p:=h ⟨zk⟩
def QYd (zk:q) (h:ZwB q->p:=by intro zk;refine Z3 (op:= .sub) (r':= .int .u8 (((2:UInt8)-1).toNat:Int)) (u:= .int .u8 ((2:UInt8).toNat:Int)) (v:= .int .u8 1) ?_ (hr':=by exact jr) (hr:=by exact XaU);exact zk.1):p:=h ⟨zk⟩
def QZd (zk:q) (h:ZwB q->p:=by intro zk;refine W5_ ?_;refine Z8 (lb:=i) (hb:=J (B.map X6)) (ys:=(B.drop i).map X6) ?_ (hys:=by exact bS);exact zk.1):p:=h ⟨zk⟩
def Qae (zk:q) (h:ZwB q->p:=by intro zk;refine Qdc ?_;refine X8 (XX 8 130 rfl rfl rfl) ?_;exact zk.1):p:=h ⟨zk⟩
def Qbe (h:p:=by exact X9 rfl ⟨JL,JL,ZzQ (by refine Eq.trans (b:=AVal.own 130 (_+_)) rfl ?_;rw[LA]),JL,TV⟩ ⟨rfl,TV⟩):p:=h
def Qce (zk:q) (h:ZwB q->p:=by intro zk;refine Xij (lb:=(T/64*64)) (hb:=T) (ys:=X.map X6) (hg:=JSa) (hx:=JSb) (hlo:=JSb) (hhi:=JSb) (cU:=JSb) (cg:=JSh) (hm:=JSh) (hT:=JSb) (hd:=JSb) ?_ (hys:=by exact tv);exact zk.1):p:=h ⟨zk⟩
def Qde (h:p:=by exact⟨by omega,by omega,by simp,hs,fun w hw=>by simp at hw⟩):p:=h
def Qee (h:p:=by exact X3 ⟨_,Xg 101 (cs:=[aq,aq,ab false]) (cs':=[.d (XS []),.d (XW []),ab false]) rfl ⟨AVal.le_nil 1,AVal.le_nil 2,ZzV,TV⟩ rfl,⟨⟨101,0,_,rfl,rfl,.inr ⟨3,_,rfl,rfl,rfl,rfl⟩⟩,rfl,rfl,TV⟩,X5 _⟩):p:=h
def Qfe (h:p:=by refine W3_ ?_;exact QSa):p:=h
def Qge (zk:q) (h:ZwB q->p:=by intro zk;refine XB ?_;refine Qdc ?_;exact zk.1):p:=h ⟨zk⟩
def Qhe (h:p:=by exact X9 rfl ⟨JL,ZzQ (by refine Eq.trans (b:=AVal.own 130 (_+_)) rfl ?_;simp only[LA,LM,LC,length_nil]),JL,JL,JL,TV⟩ ⟨rfl,rfl,TV⟩):p:=h
def Qie (h:p:=by exact X3 ⟨_,Xe 4 (AVal.le_nil 6),⟨rfl,rfl,TV⟩,X5 _⟩):p:=h
def Qje (h:p:=by refine YS ?_;exact Qie):p:=h
def Qke (h:p:=by refine VM ?_;exact Qie):p:=h
def Qle (h:p:=by exact⟨i+1,⟨hil,hg⟩,by omega,ZL0⟩):p:=h
def Qme (h:p:=by refine YV ?_;exact Qib):p:=h
def Qne (h:p:=by refine QUa ?_;exact Qib):p:=h
def Qoe (h:p:=by exact X3 ⟨_,ZzS,⟨⟨101,0,_,rfl,rfl,.inr ⟨3,_,rfl,rfl,rfl,rfl⟩⟩,⟨102,0,_,rfl,rfl,.inr ⟨5,_,rfl,rfl,rfl,rfl⟩⟩,TV⟩,X5 _⟩):p:=h
def Qpe (h:p:=by exact X3 ⟨_,ZzS,⟨⟨101,0,_,rfl,rfl,.inr ⟨3,_,rfl,rfl,rfl,rfl⟩⟩,⟨102,0,_,rfl,rfl,.inr ⟨6,_,rfl,rfl,rfl,rfl⟩⟩,TV⟩,X5 _⟩):p:=h
def Qqe (zk:q) (h:ZwB q->p:=by intro zk;refine ZBs (((j+1:Nat):Int)) (1) ((j:Nat)) ?_ (e:=hsub);refine Zi (sz:=3) ?_;exact zk.1):p:=h ⟨zk⟩
def Qre (zk:q) (h:ZwB q->p:=by intro zk;refine Qqe ?_;refine W1_ ?_;refine X12 (hg:=JSa) (hx:=JSb) (hL:=JSb) (ht:=JSb) (hd:=JSb) ?_ (hy:=by exact fE);exact zk.1):p:=h ⟨zk⟩
def Qse (h:p:=by exact X9 rfl ⟨JL,JL,JL,JL,ZzQ (by refine Eq.trans (b:=AVal.own 130 (_+_)) rfl ?_;simp only[LA,LM,LC,length_nil]),JL,TV⟩ ⟨rfl,rfl,rfl,rfl,rfl,TV⟩):p:=h
def Qte (zk:q) (h:ZwB q->p:=by intro zk;refine XM ?_;refine Z5 (ag:=fU) ?_;exact zk.1):p:=h ⟨zk⟩
def Que (zk:q) (h:ZwB q->p:=by intro zk;refine Qte ?_;refine Qka ?_;refine Z5 (ag:=lE) ?_;refine XG ?_;refine Z5 (ag:=iV) ?_;exact zk.1):p:=h ⟨zk⟩
def Qve (h:p:=by exact X3 ⟨_,ZzS,⟨⟨100,0,_,rfl,rfl,.inr ⟨4,_,rfl,rfl,rfl,rfl⟩⟩,rfl,TV⟩,X5 _⟩):p:=h
def Qwe (h:p:=by refine X0r ?_;refine Z5 (ag:=n0) ?_;refine W6_ ?_;refine Z5 (ag:=n1) ?_;refine W6_ ?_;refine Z5 (ag:=n2) ?_;refine W6_ ?_;refine Z5 (ag:=n3) ?_;refine YG ?_;exact Qve):p:=h
def Qxe (zk:q) (h:ZwB q->p:=by intro zk;refine St.le_trans (VR 100 4 130 (cs:=[aq,aq,ai 0,ai 0,.own 130 (J (acc.map Xh)),ai ts,ai ep,ai 0]) (sz:=6) (xs:=acc.map Xh) rfl rfl rfl rfl) ?_;exact zk.1):p:=h ⟨zk⟩
def Qye (zk:q) (h:ZwB q->p:=by intro zk;refine St.le_trans (Xg 100 (cs:=[aq,aq,ai 0,ai 0,.d (.sl 6 (acc.map Xh)),ai ts,ai ep,ai 0]) (cs':=[.d (.sl 3 []),.d (.sl 5 []),ai 0,ai 0,.d (.sl 6 (acc.map Xh)),ai ts,ai ep,ai 0]) rfl ⟨AVal.le_nil 3,AVal.le_nil 5,ZzV,ZzV,ZzV,ZzV,ZzV,ZzV,TV⟩ rfl) ?_;exact zk.1):p:=h ⟨zk⟩
def Qze (zk:q) (h:ZwB q->p:=by intro zk;refine W3_ ?_;refine Z5 (ag:=lE) ?_;refine W1_ ?_;refine Z5 (ag:=iV) ?_;exact zk.1):p:=h ⟨zk⟩
def QAe (h:p:=by exact X3 ⟨_,Xg 101 (cs:=[aq,aq,ai 0,ai 0,aq,ai 0,ai 0,ai 0]) (cs':=[.d (.sl 3 []),.d (.sl 5 []),ai 0,ai 0,.d (.sl 6 []),ai 0,ai 0,ai 0]) rfl ⟨AVal.le_nil 3,AVal.le_nil 5,ZzV,ZzV,AVal.le_nil 6,ZzV,ZzV,ZzV,TV⟩ rfl,⟨⟨101,0,_,rfl,rfl,.inr ⟨8,_,rfl,rfl,rfl,rfl⟩⟩,rfl,TV⟩,X5 _⟩):p:=h
def QBe (h:p:=by exact X3 ⟨_,ZzS,⟨⟨101,0,_,rfl,rfl,.inr ⟨8,_,rfl,rfl,rfl,rfl⟩⟩,rfl,TV⟩,X5 _⟩):p:=h
def QCe (h:p:=by exact X3 ⟨_,Xg 102 (cs:=[aq,aq,ai 0,ai 0,aq,ai 0,ai 0,ai 0]) (cs':=[.d (.sl 3 []),.d (.sl 5 []),ai 0,ai 0,.d (.sl 6 []),ai 0,ai 0,ai 0]) rfl ⟨AVal.le_nil 3,AVal.le_nil 5,ZzV,ZzV,AVal.le_nil 6,ZzV,ZzV,ZzV,TV⟩ rfl,⟨⟨102,0,_,rfl,rfl,.inr ⟨8,_,rfl,rfl,rfl,rfl⟩⟩,rfl,TV⟩,X5 _⟩):p:=h
def QDe (h:p:=by exact X3 ⟨_,ZzS,⟨⟨102,0,_,rfl,rfl,.inr ⟨8,_,rfl,rfl,rfl,rfl⟩⟩,rfl,TV⟩,X5 _⟩):p:=h
def QEe (h:p:=by refine QYa ?_;refine U7 ?_;exact QDe):p:=h
def QFe (h:p:=by exact⟨(i+1,⟨⟨yn,ye,ck,cm⟩,yr,yt,yp,yl⟩),⟨by simp only;omega,hg,hy⟩,by simp only;omega,ZL0⟩):p:=h
def QGe (h:p:=by exact X3 ⟨_,St.le_trans (Xg 102 (cs:=[aq,aq,ab false]) (cs':=[.d (XS []),.d (XW []),ab false]) rfl ⟨AVal.le_nil 1,AVal.le_nil 2,ZzV,TV⟩ rfl) (Xg 103 (cs:=[aq,aq,ai 0,ai 0,aq,ai 0,ai 0,ai 0]) (cs':=[.d (.sl 3 []),.d (.sl 5 []),ai 0,ai 0,.d (.sl 6 []),ai 0,ai 0,ai 0]) rfl ⟨AVal.le_nil 3,AVal.le_nil 5,ZzV,ZzV,AVal.le_nil 6,ZzV,ZzV,ZzV,TV⟩ rfl),⟨⟨102,0,_,rfl,rfl,.inr ⟨3,_,rfl,rfl,rfl,rfl⟩⟩,⟨103,0,_,rfl,rfl,.inr ⟨8,_,rfl,rfl,rfl,rfl⟩⟩,rfl,TV⟩,X5 _⟩):p:=h
def QHe (h:p:=by refine UI ?_;exact QGe):p:=h
def QIe (h:p:=by exact X3 ⟨_,ZzS,⟨⟨102,0,_,rfl,rfl,.inr ⟨3,_,rfl,rfl,rfl,rfl⟩⟩,⟨103,0,_,rfl,rfl,.inr ⟨8,_,rfl,rfl,rfl,rfl⟩⟩,rfl,TV⟩,X5 _⟩):p:=h
def QJe (h:p:=by exact X9 rfl ⟨JL,JL,JL,ZzQ (by rw[LA];rfl),JL,TV⟩ ⟨rfl,rfl,rfl,TV⟩):p:=h
def QKe (zk:q) (h:ZwB q->p:=by intro zk;refine XK ?_;refine Z5 (ag:=aD) ?_;refine YV ?_;refine ZBM SN 64 ?_;exact zk.1):p:=h ⟨zk⟩
def QLe (zk:q) (h:ZwB q->p:=by intro zk;refine Z4 (op:= .rem) (r':=ni (EP%2)) (u:=ni EP) (v:=ni 2) ?_ (hr:=by exact Va (by omega));exact zk.1):p:=h ⟨zk⟩
def QMe (zk:q) (h:ZwB q->p:=by intro zk;refine XaH hb' m9 rfl rfl rfl (by(first|((exact True.intro))|((exact⟨rfl,rfl⟩))|((exact⟨rfl,CG ab (by(first|((rfl))|((assumption))|((simp only[LM,LT,LA,decide_eq_true_eq,decide_eq_false_iff_not,ne_eq,Classical.not_not];omega))|((simp<;>fail))|((simp[*]<;>fail))|((simp;omega))|fail))⟩))|fail)) ?_;refine Z8 (lb:=64*k) (hb:=hb') (ys:=C) ?_ (hys:=by exact hO);exact zk.1):p:=h ⟨zk⟩
def QNe (zk:q) (h:ZwB q->p:=by intro zk;refine ZBM (EP%2) SN ?_ (hc:=(by rw[YX];have:EP%2*SN<=1*SN:=Nat.mul_le_mul_right _ (by omega);omega));refine ZBA 2 (EP%2*SN) ?_ (hc:=(by rw[YX];have:EP%2*SN<=1*SN:=Nat.mul_le_mul_right _ (by omega);omega));refine W1_ ?_;exact zk.1):p:=h ⟨zk⟩
def QOe (zk:q) (h:ZwB q->p:=by intro zk;refine ZBA (2+EP%2*SN) k ?_ (hc:=(by rw[YX];have:EP%2*SN<=1*SN:=Nat.mul_le_mul_right _ (by omega);omega));exact zk.1):p:=h ⟨zk⟩
def QPe (zk:q) (h:ZwB q->p:=by intro zk;refine Z5 (ag:=hw) ?_;refine W8_ ?_;refine Z7 (ag:=hs) ?_;exact zk.1):p:=h ⟨zk⟩
def QQe (h:p:=by refine XA ?_;refine Z5 (ag:=hrd) ?_;refine X4 ?_;refine UA ?_;exact QAe):p:=h
def QRe (zk:q) (h:ZwB q->p:=by intro zk;refine Z8 (lb:=0) (hb:=N) (ys:=C.map X6) ?_ (hys:=by exact hO);exact zk.1):p:=h ⟨zk⟩
def QSe (zk:q) (h:ZwB q->p:=by intro zk;refine Us ?_;refine Z5 (ag:=h0) ?_;refine XB ?_;refine Z5 (ag:=h1) ?_;refine XD ?_;refine QUd ?_;exact zk.1):p:=h ⟨zk⟩
def QTe (zk:q) (h:ZwB q->p:=by intro zk;refine Us ?_;refine Z5 (ag:=h0) ?_;refine XB ?_;refine Z5 (ag:=h1) ?_;refine QYa ?_;exact zk.1):p:=h ⟨zk⟩
def QUe (h:p:=by exact X3 ⟨_,Xg 100 (cs:=[aq,aq,ai 0,ai 0,aq,ai 0,ai 0,ai 0]) (cs':=[.d (.sl 3 []),.d (.sl 5 []),ai 0,ai 0,.d (.sl 6 []),ai 0,ai 0,ai 0]) rfl ⟨AVal.le_nil 3,AVal.le_nil 5,ZzV,ZzV,AVal.le_nil 6,ZzV,ZzV,ZzV,TV⟩ rfl,⟨⟨100,0,_,rfl,rfl,.inr ⟨8,_,rfl,rfl,rfl,rfl⟩⟩,rfl,TV⟩,X5 _⟩):p:=h
def QVe (zk:q) (h:ZwB q->p:=by intro zk;refine XM ?_;refine Z5 (ag:=fG) ?_;refine XG ?_;refine Z5 (ag:=ic) ?_;exact zk.1):p:=h ⟨zk⟩
def QWe (h:p:=by refine QVe ?_;refine YG ?_;exact QUe):p:=h
def QXe (h:p:=by exact X3 ⟨_,ZzS,⟨⟨100,0,_,rfl,rfl,.inr ⟨8,_,rfl,rfl,rfl,rfl⟩⟩,rfl,TV⟩,X5 _⟩):p:=h
def QYe (h:p:=by exact X9 rfl ⟨JL,ZzQ (by refine Eq.trans (b:=AVal.own 131 (_+_)) rfl ?_;simp only[LA,LM,LC,length_nil]),JL,TV⟩ ⟨rfl,TV⟩):p:=h
def QZe (h:p:=by exact⟨_,rfl,Xcr lz rfl rfl rfl rfl rfl Tryz.underlying4 hk kids full (by decide+kernel)⟩):p:=h
def Qaf (h:p:=by exact contract H enc W base args ds gs before hval hW):p:=h
def Qbf (zk:q) (h:ZwB q->p:=by intro zk;refine X5A (q:=3) (ys:=[XS (DD k).aa,XW (DD k).pending,.v (.bool (DD k).on)]) (hg:=JSa) (hx:=JSb) (hL:=JSb) (hn:=JSe) (h0:=JSh) (ht:=JSb) (hd:=JSb) ?_ (hb:=by exact hroom) (hys:=by exact hys);exact zk.1):p:=h ⟨zk⟩
def Qcf (zk:q) (h:ZwB q->p:=by intro zk;refine X5A (q:=3) (ys:=[XS (Z j).aa,XW (Z j).pending,.v (.bool (Z j).on)]) (hg:=JSa) (hx:=JSb) (hL:=JSb) (hn:=JSe) (h0:=JSh) (ht:=JSb) (hd:=JSb) ?_ (hb:=by exact hroom) (hys:=by exact hys);exact zk.1):p:=h ⟨zk⟩
def Qdf (h:p:=by exact X3 ⟨_,Xe 4 (AVal.le_nil 3),⟨rfl,TV⟩,X5 _⟩):p:=h
def Qef (zk:q) (h:ZwB q->p:=by intro zk;refine Z5 (ag:=c3) ?_;refine XD ?_;refine Z5 (ag:=c4) ?_;refine XA ?_;refine Z5 (ag:=c5) ?_;refine W8_ ?_;exact zk.1):p:=h ⟨zk⟩
def Qff (h:p:=by exact⟨i+1,⟨hil,nC⟩,by omega,ZL0⟩):p:=h
def Qgf (zk:q) (h:ZwB q->p:=by intro zk;refine Yb ?_;refine Z8 (lb:=0) (hb:=i) (ys:=(l.take i).map Y6) ?_ (hys:=by exact hO);exact zk.1):p:=h ⟨zk⟩
def Qhf (h:p:=by refine Qla ?_;exact QAe):p:=h
def Qif (zk:q) (h:ZwB q->p:=by intro zk;refine Us ?_;refine Z5 (ag:=h0) ?_;refine XA ?_;refine Z5 (ag:=h1) ?_;exact zk.1):p:=h ⟨zk⟩
def Qjf (zk:q) (h:ZwB q->p:=by intro zk;refine Us ?_;refine Z5 (ag:=h0) ?_;refine XA ?_;refine Z5 (ag:=h1) ?_;refine QYa ?_;exact zk.1):p:=h ⟨zk⟩
end
def Yt0 {p:Prop} (h:p:=by
 have hlt:i<J xs:=by omega
 refine X3J 0 1 120 rfl (by omega) rfl rfl rfl rfl (fun c k aO bC bZ _=> ?_);have hT:J (replicate k (none:Option D))=k:=length_replicate;generalize replicate k (none:Option D)=T at*;have hlen:=X55 hz hT;have s1:=X2y hz (c:=c) (i:=i) (by omega);have s0:=X51 hz c;have a1:(J xs:Int)+((J [v]:Nat):Int)=((J xs+1:Nat):Int):=rfl;have a2:(i:Int)+((J [v]:Nat):Int)=((i+1:Nat):Int):=rfl;have a3:((J xs+1:Nat):Int)-(i:Int)=((J xs+1-i:Nat):Int):=by omega
 by_cases hroom:J xs+1<=c
 case pos=>
  have hk:=X97 hz bZ hroom;have s3:=X2y hz (c:=c) (i:=i+1) (by omega);have e1:=Xb6 (T:=T) hz hlt;have e2:=X9v (v:=v) (T:=T) hz hlt;have e3:=X6V (T:=T) hz hlt;have e4:=XaZ (v:=v) (T:=T) hz hv hi;have cA:=X9W (T:=T) hz hlt;have lA:=Xad (T:=T) hz hlt (by omega);have lB:=Xb5 (T:=T) hz hv hi (by omega);have hne:(map some xs.flatten++T)≠[]:=fun q=>by rw[q] at hlen;simp at hlen;omega
  have hok:=Xan (i:=i) hz hv;have dO:=X9K (v:=v) hi;refine Qxb ?_
  (refine Xal (hg:=JSa) (hx:=JSb) (hy:=JSb) (hL:=JSb) (hsz:=JSl) (ho:=JSh) (hp:=JSb) (hT:=JSb) (hd:=JSb) ?_ (hys:= ?hys1) (hcs:= ?cM) (hf:=by exact mc) (h1:=by exact(by kernel_rfl)) (h2:=by exact(by kernel_rfl)) (h3:=by exact(by kernel_rfl)) (h4:=by exact(by kernel_rfl));(case hys1=>exact(by simp));(case cM=>exact hne))
  refine Qyb ?_;show AWP Tryz.prog E _ _ _;refine Qzb ?_
  (exact Zz1 rfl ⟨_,ZzS,⟨rfl,TV⟩,Xm ⟨rfl,rfl,TV⟩⟩)
 have e5:=X6u hz T hi;have e6:=X9a (T:=T) hz;have l5:J (xs.take i)=i:=by rw[LT];omega
 refine QAb ?_;(refine Zg (γ:=110) (n':=J xs+1) (xs:=xs.take i) ?_ (hxs:= ?hxs1) (hxl:= ?oI) (hxz:=by exact X3Q hz i);(case hxs1=>exact e5);(case oI=>exact l5));refine W3_ ?_;show AWP Tryz.prog E _ _ _;refine QBb ?_;(refine X28 (k:=i) (hg:=JSa) (hx:=JSb) (hL:=JSb) (hlo:=JSb) (hn:=JSe) (hT:=JSb) (hd:=JSb) ?_ (hk:= ?cq);(case cq=>exact(by simp;omega)));refine W1_ ?_
 (refine X3u (m:=1) (hg:=JSa) (hx:=JSb) (hL:=JSb) (hn:=JSe) (hy:=JSb) (hsrc:=JSf) (hT:=JSb) (hd:=JSb) ?_ (hk:= ?cq) (hm:= ?hm2);(case cq=>exact(by simp;omega));(case hm2=>exact(by simp;omega)))
 refine QCb ?_;(refine X28 (k:=i+1) (hg:=JSa) (hx:=JSb) (hL:=JSb) (hlo:=JSb) (hn:=JSe) (hT:=JSb) (hd:=JSb) ?_ (hk:= ?cq);(case cq=>exact(by simp;omega)));refine W3_ ?_
 (refine X3u (m:=J xs-i) (hg:=JSa) (hx:=JSb) (hL:=JSb) (hn:=JSe) (hy:=JSb) (hsrc:=JSf) (hT:=JSb) (hd:=JSb) ?_ (hk:= ?cq) (hm:= ?hm2);(case cq=>exact(by simp;omega));(case hm2=>exact(by simp;omega)))
 refine W6_ ?_
 (exact Zz1 rfl ⟨_,ZzS,⟨rfl,TV⟩,Xm ⟨rfl,CG (AObj.row _) (X9Y hi (by rw[length_replicate]) hlt),TV⟩⟩)):p:=h
def Yt1 {p:Prop} (h:p:=by
 have hlt:i<10/\i<J l:=by rw[LT] at lF;omega
 have hlm:i<J (l.take 10):=by rw[LT];omega
 obtain⟨c,hc⟩:=Xn (l:=l) (k:=i) (by omega);have fk:(l.take 10)[i]? =some c:=by rw[getElem?_take_of_lt hlt.1];exact hc
 have tw:=c.toNat_lt;have hacc:=X9I l i;have tC:=X9I l (i+1);have hsh:c.toNat%128*2^(7*i)%2^IntKind.u64.bits=c.toNat%128*2^(7*i)%18446744073709551616:=rfl;have hst:Uq l i|||c.toNat%128*2^(7*i)%18446744073709551616=Uq l (i+1):=by simp only[Uq,hc,Option.getD_some]
 have hq:c.toNat%128*2^(7*i)%18446744073709551616<18446744073709551616:=Nat.mod_lt _ (by omega);by_cases hge:128<=c.toNat
 ·refine Y5 ?_;(refine Z3 (op:= .and) (r':=n8 (c.toNat%128)) (u:=n8 c.toNat) (v:=n8 127) ?_ (hr':=by exact CG n8 (X2X _)) (hr:=by exact X1S (by rw[VE];omega) (by rw[VE];omega)));(refine Z1 (u:=n8 (c.toNat%128)) (r:=n64 (c.toNat%128)) ?_ (hr:=by exact Ub rfl rfl (by rw[Yz];omega)));refine QP ?_
  (refine Z3 (op:= .shl) (r':=n64 (c.toNat%128*2^(7*i)%18446744073709551616)) (u:=n64 (c.toNat%128)) (v:=ni (7*i)) ?_ (hr':=by exact CG n64 hsh) (hr:=by exact X2p rfl (by show 7*i<=64;omega)))
  (refine Z3 (op:= .or) (r':=n64 (Uq l (i+1))) (u:=n64 (Uq l i)) (v:=n64 (c.toNat%128*2^(7*i)%18446744073709551616)) ?_ (hr':=by exact CG n64 hst) (hr:=by exact X2h (by rw[Yz];omega) (by rw[Yz];omega)))
  refine XD ?_;exact QQ
 have hm:UG l=i:=Xbv hbg hc (by omega) hlt.1;by_cases h9:i=9
 ·by_cases aO:1<c.toNat
  ·have hv:YM b k=(0,0,4):=by rw[dD];simp only[hm,hc,Option.getD_some];rw[NI (by omega),NI (by omega),PI ⟨h9,aO⟩]
   rw[show Uw b k=(0,0,4) by unfold Uw;rw[hv];rfl];refine Y5 ?_;(refine Z3 (op:= .and) (r':=n8 (c.toNat%128)) (u:=n8 c.toNat) (v:=n8 127) ?_ (hr':=by exact CG n8 (X2X _)) (hr:=by exact X1S (by rw[VE];omega) (by rw[VE];omega)));(refine Z1 (u:=n8 (c.toNat%128)) (r:=n64 (c.toNat%128)) ?_ (hr:=by exact Ub rfl rfl (by rw[Yz];omega)));refine QP ?_
   (refine Z3 (op:= .shl) (r':=n64 (c.toNat%128*2^(7*i)%18446744073709551616)) (u:=n64 (c.toNat%128)) (v:=ni (7*i)) ?_ (hr':=by exact CG n64 hsh) (hr:=by exact X2p rfl (by show 7*i<=64;omega)))
   (refine Z3 (op:= .or) (r':=n64 (Uq l (i+1))) (u:=n64 (Uq l i)) (v:=n64 (c.toNat%128*2^(7*i)%18446744073709551616)) ?_ (hr':=by exact CG n64 hst) (hr:=by exact X2h (by rw[Yz];omega) (by rw[Yz];omega)))
   refine YG ?_;exact QM
  ·have hval:Uq l (i+1)=Yv (l.take (i+1)):=by subst h9;exact Xia l hc (by omega)
   by_cases hz:0<i/\c=0
   ·have hv:YM b k=(Yv (l.take (i+1)),(k:Int)+i+1,0):=by rw[dD];simp only[hm,hc,Option.getD_some];rw[NI (by omega),NI (by omega),NI (by omega)]
    rw[show Uw b k=(Yv (l.take (i+1)),0,2) by
     unfold Uw;rw[hv,cB];simp only[hm,hc,Option.getD_some];simp[hz.1,hz.2]]
    obtain⟨cE,lV⟩:=hz;have aW:c.toNat=0:=by rw[lV];rfl
    rw[<-hval];refine Y5 ?_;(refine Z3 (op:= .and) (r':=n8 (c.toNat%128)) (u:=n8 c.toNat) (v:=n8 127) ?_ (hr':=by exact CG n8 (X2X _)) (hr:=by exact X1S (by rw[VE];omega) (by rw[VE];omega)));(refine Z1 (u:=n8 (c.toNat%128)) (r:=n64 (c.toNat%128)) ?_ (hr:=by exact Ub rfl rfl (by rw[Yz];omega)));refine QP ?_
    (refine Z3 (op:= .shl) (r':=n64 (c.toNat%128*2^(7*i)%18446744073709551616)) (u:=n64 (c.toNat%128)) (v:=ni (7*i)) ?_ (hr':=by exact CG n64 hsh) (hr:=by exact X2p rfl (by show 7*i<=64;omega)))
    (refine Z3 (op:= .or) (r':=n64 (Uq l (i+1))) (u:=n64 (Uq l i)) (v:=n64 (c.toNat%128*2^(7*i)%18446744073709551616)) ?_ (hr':=by exact CG n64 hst) (hr:=by exact X2h (by rw[Yz];omega) (by rw[Yz];omega)))
    exact QR
   ·have iW:¬(0<i/\c.toNat=0):=fun h=>hz ⟨h.1,UInt8.toNat_inj.1 h.2⟩;have hv:YM b k=(Yv (l.take (i+1)),(k:Int)+i+1,0):=by rw[dD];simp only[hm,hc,Option.getD_some];rw[NI (by omega),NI (by omega),NI (by omega)]
    have hpf:X0B b k=false:=by
     rw[cB];simp only[hm,hc,Option.getD_some];rw[Bool.and_eq_false_iff,decide_eq_false_iff_not,decide_eq_false_iff_not];by_cases h0:0<i
     ·exact .inr fun h2=>hz ⟨h0,h2⟩
     ·exact .inl h0
    rw[show Uw b k=(Yv (l.take (i+1)),(k:Int)+i+1,0) by unfold Uw;rw[hv,hpf];rfl];rw[<-hval];by_cases iC:0<i
    ·have fI:¬(c.toNat=0):=fun h=>iW ⟨iC,h⟩;refine Y5 ?_;(refine Z3 (op:= .and) (r':=n8 (c.toNat%128)) (u:=n8 c.toNat) (v:=n8 127) ?_ (hr':=by exact CG n8 (X2X _)) (hr:=by exact X1S (by rw[VE];omega) (by rw[VE];omega)));(refine Z1 (u:=n8 (c.toNat%128)) (r:=n64 (c.toNat%128)) ?_ (hr:=by exact Ub rfl rfl (by rw[Yz];omega)));refine QP ?_
     (refine Z3 (op:= .shl) (r':=n64 (c.toNat%128*2^(7*i)%18446744073709551616)) (u:=n64 (c.toNat%128)) (v:=ni (7*i)) ?_ (hr':=by exact CG n64 hsh) (hr:=by exact X2p rfl (by show 7*i<=64;omega)))
     (refine Z3 (op:= .or) (r':=n64 (Uq l (i+1))) (u:=n64 (Uq l i)) (v:=n64 (c.toNat%128*2^(7*i)%18446744073709551616)) ?_ (hr':=by exact CG n64 hst) (hr:=by exact X2h (by rw[Yz];omega) (by rw[Yz];omega)))
     exact QT
    ·exact absurd (by omega) iC
 ·have hval:Uq l (i+1)=Yv (l.take (i+1)):=X9R l (i+1) (by omega) (by omega);by_cases hz:0<i/\c=0
  ·have hv:YM b k=(Yv (l.take (i+1)),(k:Int)+i+1,0):=by rw[dD];simp only[hm,hc,Option.getD_some];rw[NI (by omega),NI (by omega),NI (by omega)]
   rw[show Uw b k=(Yv (l.take (i+1)),0,2) by
    unfold Uw;rw[hv,cB];simp only[hm,hc,Option.getD_some];simp[hz.1,hz.2]]
   obtain⟨cE,lV⟩:=hz;have aW:c.toNat=0:=by rw[lV];rfl
   rw[<-hval];refine Y5 ?_;(refine Z3 (op:= .and) (r':=n8 (c.toNat%128)) (u:=n8 c.toNat) (v:=n8 127) ?_ (hr':=by exact CG n8 (X2X _)) (hr:=by exact X1S (by rw[VE];omega) (by rw[VE];omega)));(refine Z1 (u:=n8 (c.toNat%128)) (r:=n64 (c.toNat%128)) ?_ (hr:=by exact Ub rfl rfl (by rw[Yz];omega)));refine QP ?_
   (refine Z3 (op:= .shl) (r':=n64 (c.toNat%128*2^(7*i)%18446744073709551616)) (u:=n64 (c.toNat%128)) (v:=ni (7*i)) ?_ (hr':=by exact CG n64 hsh) (hr:=by exact X2p rfl (by show 7*i<=64;omega)))
   (refine Z3 (op:= .or) (r':=n64 (Uq l (i+1))) (u:=n64 (Uq l i)) (v:=n64 (c.toNat%128*2^(7*i)%18446744073709551616)) ?_ (hr':=by exact CG n64 hst) (hr:=by exact X2h (by rw[Yz];omega) (by rw[Yz];omega)))
   exact QR
  ·have iW:¬(0<i/\c.toNat=0):=fun h=>hz ⟨h.1,UInt8.toNat_inj.1 h.2⟩;have hv:YM b k=(Yv (l.take (i+1)),(k:Int)+i+1,0):=by rw[dD];simp only[hm,hc,Option.getD_some];rw[NI (by omega),NI (by omega),NI (by omega)]
   have hpf:X0B b k=false:=by
    rw[cB];simp only[hm,hc,Option.getD_some];rw[Bool.and_eq_false_iff,decide_eq_false_iff_not,decide_eq_false_iff_not];by_cases h0:0<i
    ·exact .inr fun h2=>hz ⟨h0,h2⟩
    ·exact .inl h0
   rw[show Uw b k=(Yv (l.take (i+1)),(k:Int)+i+1,0) by unfold Uw;rw[hv,hpf];rfl];rw[<-hval];by_cases iC:0<i
   ·have fI:¬(c.toNat=0):=fun h=>iW ⟨iC,h⟩;refine Y5 ?_;(refine Z3 (op:= .and) (r':=n8 (c.toNat%128)) (u:=n8 c.toNat) (v:=n8 127) ?_ (hr':=by exact CG n8 (X2X _)) (hr:=by exact X1S (by rw[VE];omega) (by rw[VE];omega)));(refine Z1 (u:=n8 (c.toNat%128)) (r:=n64 (c.toNat%128)) ?_ (hr:=by exact Ub rfl rfl (by rw[Yz];omega)));refine QP ?_
    (refine Z3 (op:= .shl) (r':=n64 (c.toNat%128*2^(7*i)%18446744073709551616)) (u:=n64 (c.toNat%128)) (v:=ni (7*i)) ?_ (hr':=by exact CG n64 hsh) (hr:=by exact X2p rfl (by show 7*i<=64;omega)))
    (refine Z3 (op:= .or) (r':=n64 (Uq l (i+1))) (u:=n64 (Uq l i)) (v:=n64 (c.toNat%128*2^(7*i)%18446744073709551616)) ?_ (hr':=by exact CG n64 hst) (hr:=by exact X2h (by rw[Yz];omega) (by rw[Yz];omega)))
    exact QT
   ·refine Y5 ?_;(refine Z3 (op:= .and) (r':=n8 (c.toNat%128)) (u:=n8 c.toNat) (v:=n8 127) ?_ (hr':=by exact CG n8 (X2X _)) (hr:=by exact X1S (by rw[VE];omega) (by rw[VE];omega)));(refine Z1 (u:=n8 (c.toNat%128)) (r:=n64 (c.toNat%128)) ?_ (hr:=by exact Ub rfl rfl (by rw[Yz];omega)));refine QP ?_
    (refine Z3 (op:= .shl) (r':=n64 (c.toNat%128*2^(7*i)%18446744073709551616)) (u:=n64 (c.toNat%128)) (v:=ni (7*i)) ?_ (hr':=by exact CG n64 hsh) (hr:=by exact X2p rfl (by show 7*i<=64;omega)))
    (refine Z3 (op:= .or) (r':=n64 (Uq l (i+1))) (u:=n64 (Uq l i)) (v:=n64 (c.toNat%128*2^(7*i)%18446744073709551616)) ?_ (hr':=by exact CG n64 hst) (hr:=by exact X2h (by rw[Yz];omega) (by rw[Yz];omega)))
    exact QT):p:=h
def Yt2 {p:Prop} (h:p:=by
 rintro j ⟨lG,hj2⟩;by_cases hj:0<=j
 ·obtain⟨q,rfl⟩:∃q:Nat,j=q:=⟨j.toNat,by omega⟩
  obtain⟨x,hx⟩:=Xn (l:=l) (k:=q) (by omega);have lH:b[k+q]? =some x:=XcX (by rw[hl];exact hx);have r9:=x.toNat_lt;have hst:Yv ((l.take (i+1)).drop q)=Yv ((l.take (i+1)).drop (q+1))*128+x.toNat%128:=by
   rw[Xk1 (l:=l.take (i+1)) (q:=q) (x:=x) (by rw[getElem?_take_of_lt (by omega)];exact hx)];omega
  have hlt:Yv ((l.take (i+1)).drop q)<18446744073709551616:=Nat.lt_of_le_of_lt (Xeo _ _) hu;rw[show ((q:Int)+1).toNat=q+1 by omega];refine XG ?_;(refine Z4 (op:= .mul) (r':=n64 (Yv ((l.take (i+1)).drop (q+1))*128)) (u:=n64 (Yv ((l.take (i+1)).drop (q+1)))) (v:=n64 128) ?_ (hr:=by exact X3C (by rw[Yz];omega)));refine W3_ ?_;refine ZBA k q ?_;refine W2_ ?_;refine Z4 (op:= .rem) (r':=n8 (x.toNat%128)) (u:=n8 x.toNat) (v:=n8 128) ?_ (hr:=by exact Va (by omega))
  (refine Z1 (u:=n8 (x.toNat%128)) (r:=n64 (x.toNat%128)) ?_ (hr:=by exact Ub rfl rfl (by rw[Yz];omega)))
  (refine Z3 (op:= .add) (r':=n64 (Yv ((l.take (i+1)).drop q))) (u:=n64 (Yv ((l.take (i+1)).drop (q+1))*128)) (v:=n64 (x.toNat%128)) ?_ (hr':=by exact by rw[hst]) (hr:=by exact X2e (by rw[Yz];omega)))
  refine W7_ ?_;refine⟨(q:Int)-1,⟨by omega,by omega⟩,by omega,X9 rfl ⟨JL,JL,JL,(by rw[show ((q:Int)-1+1).toNat=q by omega];exact ZzV),JL,TV⟩ TV⟩
 obtain rfl:j= -1:=by omega
 refine XK ?_;refine ZBA k i ?_;exact QV):p:=h
def Yt3 {p:Prop} (h:p:=by
 rw[<-hr];unfold YH at hr;generalize X0w s.g=e1 at*;generalize X1F s.rules=e2 at*;clear h;obtain⟨⟨ns,es,nn,ne⟩,rs,ts,ep,tail⟩:=s;simp only[Xz,XZ] at*;refine XG ?_;refine Ye rfl rfl ?_ ?_<;>intro hq;refine W5_ ?_;refine X5f rfl rfl ?_ ?_<;>intro hq;refine W5_ ?_;refine Ye rfl rfl ?_ ?_<;>intro hq;refine W5_ ?_;refine Ye rfl rfl ?_ ?_<;>intro hq;refine W5_ ?_;refine Ye rfl rfl ?_ ?_<;>intro hq;refine W5_ ?_;refine Ye rfl rfl ?_ ?_<;>intro hq;refine W5_ ?_;refine Ye rfl rfl ?_ ?_<;>intro hq;refine W6_ ?_;(clear h1 h2;(try simp only at*);simp[*] at hr;subst hr;exact Zr0);refine W6_ ?_;(clear h1 h2;(try simp only at*);simp[*] at hr;subst hr;exact Zr0);refine XB ?_;(clear h1 h2;(try simp only at*);simp[*] at hr;subst hr;exact Zr0);refine Yr ?_;(clear h1 h2;(try simp only at*);simp[*] at hr;subst hr;exact Zr0);refine Y5 ?_;(clear h1 h2;(try simp only at*);simp[*] at hr;subst hr;exact Zr0);refine XM ?_;(clear h1 h2;(try simp only at*);simp[*] at hr;subst hr;exact Zr0);refine UK ?_;(clear h1 h2;(try simp only at*);simp[*] at hr;subst hr;exact Zr0);refine X04 ?_
 (clear h1 h2;(try simp only at*);simp[*] at hr;subst hr;exact Zr0)):p:=h
def Yt4 {p:Prop} (h:p:=by
 rw[hgoal]
 refine Xl (fun i:Nat=>i<=J l) (fun i=>⟨64,[(0,.own 0 (J (base++U6 (l.take i)))),(53,.d (.sl 5 (XR l))),(54,ai (J l)),(55,ai i)],[(0,.row 1 ((base++U6 (l.take i)).map X6))]⟩) (fun i=>J l-i) 0 (by omega)
  (X9 rfl ⟨(by refine ZzQ ?_;refine Eq.trans (b:=AVal.own 0 (_+_)) rfl ?_;congr 1;simp only[take_zero,U6,append_nil,bx,LA,LM,LC,length_nil]<;>omega),JL,(by refine ZzQ ?_;refine Eq.trans (b:=ai (J (XR l):Nat)) rfl ?_;rw[hlen]),JL,TV⟩ ⟨?_,TV⟩) ?_
 ·refine QLa ?_;simp only[take_zero,U6,append_nil,<-hbase,map_append,map_cons,AS,cons_append,nil_append];rfl
 intro i hi;by_cases hlt:i<J l
 ·obtain⟨x,hx⟩:=Xn (l:=l) hlt;have ie:=X6h hx;have cH:=Xbj hx;have hle:=Xb8 l (i+1);have hpx:=ih x (mem_of_getElem? hx) (base++U6 (l.take i)) (by rw[cH] at hle;simp only[LA] at hle |-;omega);rw[AS,<-cH] at hpx;obtain⟨k',n',d',s',q'⟩:=x;simp only[Xt] at hpx;rw[UB] at ie;refine XM ?_;exact⟨i+1,by omega,by omega,X9 rfl ⟨JL,JL,JL,JL,TV⟩ ⟨rfl,TV⟩⟩
 obtain rfl:i=J l:=by omega
 rw[take_length];refine XG ?_;exact Qo):p:=h
def Yt5 {p:Prop} (h:p:=by
 generalize hG:X0f l=G;refine XA ?_
 refine Xl (fun i:Nat=>1<=i/\i<=J l+1/\X0f (l.drop (i-1))=G) (fun i=>⟨20,[(0,.d (.sl 1 (l.map Xf))),(3,ai i)],[]⟩) (fun i=>J l-i) 1 ⟨by omega,by omega,by simpa using hG⟩
  (X9 rfl ⟨JL,JL,TV⟩ trivial) ?_
 rintro i ⟨hi,hi2,hg⟩;by_cases hil:i<J l
 case neg=>
  have hn:¬(i:Int)<J (l.map Xf):=by omega
  have hT:G=true:=by rw[<-hg,Xi0 (by omega)]
  subst hT;exact Qh
 have hn:(i:Int)<J (l.map Xf):=by omega
 obtain⟨j,rfl⟩:∃j,i=j+1:=⟨i-1,by omega⟩
 rw[Nat.add_sub_cancel] at hg;obtain⟨x,hx⟩:=Xn (l:=l) hil;obtain⟨y,hy⟩:=Xn (l:=l) (k:=j) (by omega);have au:(l.map Xf)[j+1]? =some (Xf x):=XC hx;have cz:(l.map Xf)[j]? =some (Xf y):=XC hy;rw[Xoz hy hx] at hg;cases hq:(Op.bytesLess x y||decide (x=y)) with
 |false=>
  rw[hq] at hg;simp only[Bool.not_false,Bool.true_and] at hg;refine Qfb ?_;refine W8_ ?_;exact Qgb
 |true=>
  rw[hq] at hg;simp only[Bool.not_true,Bool.false_and] at hg;subst hg;refine Qfb ?_;exact Qdb):p:=h
def Yt6 {p:Prop} (h:p:=by
 obtain⟨s1,s2,s3,s4⟩:=X3N he;obtain⟨R,Z,hT⟩:∃R Z,X3O d f t tail (Xv ep l)=R++[Z]:=⟨_,_,rfl⟩
 have e:Uc d f t ep tail l=(Z,(Yy d f t ep tail l).2.1,0):=by
  unfold Uc;rw[NI (by rw[he];simp),s4,hT];simp
 rw[e];have eT:(Yy d f t ep tail l).1=R++[Z]:=by rw[s4];exact hT
 rw[he,eT] at c1;generalize (Yy d f t ep tail l).2.1=z at*;have hlm:J ((R++[Z]).map XO)=J R+1:=by simp
 have au:((R++[Z]).map XO)[J R]? =some [XS Z.aa,XW Z.pending,.v (.bool Z.on)]:=by simp[XO]
 have bP:J R<=9223372036854775806:=by
  have:=Xbd hf he;rw[eT,LA,length_singleton] at this;omega
 generalize (R++[Z]).map XO=T at*;clear hf hr s1 s2 s3 s4 hT eT e he;obtain⟨secs,af,on⟩:=d;refine UA ?_;refine X8 (XI 133 rfl) ?_;refine X8 (XX 15 133 rfl rfl rfl) ?_;refine W4_ ?_;refine ZBs ((J T:Nat)) (1) ((J R:Nat)) ?_;refine W7_ ?_
 (exact Zz1 rfl ⟨_,ZzS,⟨⟨101,0,_,rfl,rfl,.inr ⟨3,_,rfl,rfl,rfl,rfl⟩⟩,rfl,rfl,TV⟩,X5 _⟩)):p:=h
def Yt7 {p:Prop} (h:p:=by
 refine Xb3 (xs:=[ai e]) Tryz.func179 rfl Tryz.ntmps179 rfl (fun E hds=> ?_);have hk:=X63 c;rw[hc] at hk;obtain⟨op,id,src,dst,name,⟨k0,k1,k2,k3,k4⟩⟩:=c;simp only[Xu,Uv] at*;refine X50 ?_;refine W4_ ?_;show AW Tryz.prog E _ _ _;refine X50 ?_;refine XK ?_;show AW Tryz.prog E _ _ _;refine Xbw (f:=236) 1 101 50 rfl rfl hds (by decide) (Li:=edS g) (Lo:=edD) (xs:=[ai e]) (fun γ b6=>by
  simp only[Yg,Bool.or_eq_true,Bool.or_false] at b6;rcases b6 with h|h|h<;>(have:=Nat.eq_of_beq_eq_true h;omega)) ?_
 refine W1_ ?_;refine .done (fun h=>Bool.noConfusion h) ⟨rfl,fun E' b jz hb hJ=> ?_⟩;refine QGd ?_;refine W8_ ?_;refine Xme (ch:=X0R e) 2 rfl ?_;refine W2_ ?_;refine .done (fun h=>Bool.noConfusion h) ⟨edS g,[.ptr 0 0,.agg [ai op,ai id,ai src,ai dst,.d (.v (.string (X7 name))),ai k0,ai k1,ai k2,.d (.v (.string (X7 k3))),.d (.sl 5 (XR k4))]],?_,ag,rfl,⟨rfl,rfl,rfl,TV⟩,fun a w hs=> ?_⟩
 ·exact JM
 ·exact QHd):p:=h
def Yt8 {p:Prop} (h:p:=by
 have hO:((b.map X6).take hb').drop (64*k)=((b.drop (64*k)).take 64).map X6:=by
  rw[hmin.2,map_take,map_drop,drop_take];rw[take_eq_take_iff,LD];omega
 have tD:64*k<=hb':=by omega
 have tE:hb'<=J (b.map X6):=by omega
 have m9:=hmin.1;unfold Xc at hp hw;clear cB fB gv cC gM gN fV gO aX fJ hmin eJ fK dA;generalize ((b.drop (64*k)).take 64).map X6=C at*;generalize ((PB.drop (64*k)).take 64).map X6=C2 at*;refine Yb ?_;refine ZBA (64*k) 64 ?_;refine W2_ ?_;refine QMe ?_;refine Z5 (ag:=hp) ?_;refine W7_ ?_;refine QNe ?_
 (refine Z3 (op:= .quo) (r':=ni k) (u:=ni (64*k)) (v:=ni 64) ?_ (hr':=by exact CG ni (show 64*k/64=k by omega)) (hr:=by exact X23 (by omega) (by rw[YX];omega)))
 refine QOe ?_;refine W1_ ?_;refine QPe ?_;refine W3_ ?_;refine ZBA (64*k) 64 ?_;refine W2_ ?_;exact⟨k+1,aG,by omega,ZL0⟩):p:=h
def Yt9 {p:Prop} (h:p:=by
 intro i hi;by_cases hlt:i<J l
 ·obtain⟨x,hx⟩:=Xn (l:=l) hlt;have ie:=X6h hx;have cH:=Xbj hx;have hle:=Xb8 l (i+1);have hpx:=tF x (mem_of_getElem? hx);unfold X7v at hpx;rw[show UP x=Yl x by unfold UP;rw[hel x (mem_of_getElem? hx)];rfl] at hpx;rw[cH] at hle;simp only[LA] at hle;generalize U6 (l.take i)=pre at*;generalize Yl x=px at*;obtain⟨k',n',d',s',q'⟩:=x;simp only[Xt] at hpx;rw[UB] at ie;refine YG ?_;refine⟨i+1,by omega,by omega,X9 rfl ⟨JL,(by refine ZzQ ?_;refine Eq.trans (b:=AVal.own 130 (_+_)) rfl ?_;congr 1;rw[cH];simp only[LA,LM,LC]<;>omega),JL,TV⟩ ⟨rfl,?_,TV⟩⟩;refine QKa ?_;rw[cH];simp only[map_append,map_cons,cons_append,AS]
 obtain rfl:i=J l:=by omega
 rw[take_length];refine Qdc ?_;refine X8 (XX 3 130 rfl rfl (by simp)) ?_;refine Yr ?_;exact Zr0):p:=h
def Yt10 {p:Prop} (h:p:=by
 rw[getElem?_map] at hx';obtain⟨y,e1,e2⟩:=Option.map_eq_some_iff.1 hx';exact⟨y,e1,e2⟩):p:=h
def Yt11 {p:Prop} (h:p:=by
 subst hin;rw[take_length,drop_length];refine Qrb ?_;show AWP Tryz.prog E _ _ _;refine Qsb ?_
 (exact Zz1 rfl ⟨_,ZzS,⟨rfl,TV⟩,Xm ⟨rfl,rfl,TV⟩⟩)):p:=h
def Yt12 {p:Prop} (h:p:=by
 (refine Z4 (op:= .add) (r':=nj (carry+x+dg*(c%1000))) (u:=nj (carry+x)) (v:=nj (dg*(c%1000))) ?_ (hr:=by exact X2e (by rw[YX];omega)));refine W5_ ?_;(refine Z4 (op:= .quo) (r':=nj (c/1000)) (u:=nj c) (v:=nj 1000) ?_ (hr:=by exact X23 (by omega) (by rw[YX];omega)));refine W7_ ?_;refine QQa ?_;refine W5_ ?_;(refine Z4 (op:= .quo) (r':=nj ((carry+x+dg*(c%1000))/1000)) (u:=nj (carry+x+dg*(c%1000))) (v:=nj 1000) ?_ (hr:=by exact X23 (by omega) (by rw[YX];omega)));refine W7_ ?_;exact QRa):p:=h
def Yt13 {p:Prop} (h:p:=by
 rw[NI (by simp[q])] at hg;have hy:StaHold (Ue x r).1:=by
  by_cases h:YH x=true
  ·exact Xfl h
  ·rw[show Ue x r=(XT,19) by unfold Ue;rw[PI (by simpa using h)]];exact⟨X3A,by simp⟩
 rw[q] at hp;generalize (Ue x r).1=y at*;clear hx aV dP dM q;refine(?_:AWP Tryz.prog E _ _ _);obtain⟨kd,rts,cl,⟨k,n,name,key,src,dst⟩,off⟩:=r;obtain⟨⟨ns,es,nn,ne⟩,rs,ts,ep,tail⟩:=x;obtain⟨⟨yn,ye,ck,cm⟩,yr,yt,yp,yl⟩:=y;simp only[Xz,Um,Y6] at hp hrc;refine Qka ?_;exact QFe):p:=h
def Yt14 {p:Prop} (h:p:=by
 refine W6_ ?_;show AWP Tryz.prog E _ _ _;refine QGb ?_
 (exact Zz1 rfl ⟨_,ZzS,⟨rfl,TV⟩,Xm ⟨rfl,rfl,TV⟩⟩)):p:=h
def Yt15 {p:Prop} (h:p:=by
 rw[X96 hil];clear bG aS hS hr;refine U7 ?_
 first|exact X3 ⟨_,ZzS,⟨rfl,rfl,TV⟩,X5 _⟩|exact X3 ⟨_,ZzS,⟨⟨rfl,rfl,TV⟩,TV⟩,X5 _⟩):p:=h
def Yt16 {p:Prop} (h:p:=by
 by_cases h2:4096<n
 ·rw[XaS (.inr h2)];refine Us ?_
  (exact Zz1 rfl ⟨_,ZzS,⟨rfl,rfl,rfl,TV⟩,X5 _⟩)
 obtain⟨m,rfl⟩:∃m:Nat,n=((m+2:Nat):Int):=⟨(n-2).toNat,by omega⟩
 rw[Xfg (by omega) (by omega)];refine Y5 ?_;refine ZBs (((m+2):Nat):Int) ((2:Nat):Int) ((m:Nat):Int) ?_;refine ZBq m 4 ?_;refine W6_ ?_;refine ZBM 2 (m/4) ?_;refine ZBA 2 (2*(m/4)) ?_;refine W4_ ?_
 (exact Zz1 rfl ⟨_,ZzS,⟨rfl,rfl,rfl,TV⟩,X5 _⟩)):p:=h
def Yt17 {p:Prop} (h:p:=by
 refine⟨false,VQ (xs:=[ab false]) Tryz.func14 rfl Tryz.ntmps14 rfl rfl rfl (fun E=> ?_)⟩;refine Qxa ?_
 (exact Zz2)):p:=h
def Yt18 {p:Prop} (h:p:=by
 have e:YF d s l=(Ur,XT,(Yf s l).2):=by unfold YF;rw[NI (by simp[q1]),NI (by simp[q2]),PI q3]
 rw[e];simp only[aV];rw[q1] at hu;rw[q2] at hv;clear e hs hf hr aV q1 q2;generalize (Yf s l).2=x at*;generalize (Yf s l).1=y at*;obtain⟨secs,af,on⟩:=d;obtain⟨⟨yn,ye,ck,cm⟩,yr,yt,yp,yl⟩:=y;obtain⟨⟨ns,es,nn,ne⟩,rs,ts,ep,tail⟩:=s;simp only[Xz] at*;refine Qma ?_;exact QGe):p:=h
def Yt19 {p:Prop} (h:p:=by
 by_cases he:e=0
 case neg=>
  rw[PI he] at hR;subst hR;refine QYa ?_;refine UA ?_;exact QZb
 subst he;replace hvalid:=hvalid rfl;rw[NI (by simp)] at hR;cases hv:Xj 8 (.mk vk vn vd vs vl) with
 |false=>
  rw[hv] at hvalid hR;rw[PI rfl] at hR;subst hR;refine QYa ?_;refine QO ?_;exact QZb
 |true=>
  rw[hv] at hvalid hR;rw[NI (by simp)] at hR;subst hR;refine QYa ?_;refine Qua ?_;exact Qbc):p:=h
def Yt20 {p:Prop} (h:p:=by
 by_cases he:e=0
 case neg=>
  rw[PI he] at hR;subst hR;refine Qvd ?_;refine QW ?_;exact QZb
 subst he;replace hvalid:=hvalid rfl;rw[NI (by simp)] at hR;cases hv:Xj 8 (.mk vk vn vd vs vl) with
 |false=>
  rw[hv] at hvalid hR;rw[PI rfl] at hR;subst hR;refine Qvd ?_;refine Qbb ?_;exact QZb
 |true=>
  rw[hv] at hvalid hR;rw[NI (by simp)] at hR;subst hR;refine Qvd ?_;refine QU ?_;exact Qbc):p:=h
def Yt21 {p:Prop} (h:p:=by
 rw[show (decide (n=0)&&decide (d=0)&&decide (s=[]))=false by simp[*]] at hb;rw[show Xj m (.mk 8 n d s l)=false by rw[Xj];simp[*]];refine X4 ?_;refine X1B ?_;exact Zr0):p:=h
def Yt22 {p:Prop} (h:p:=by
 refine Uf ?_;refine Qdc ?_;refine X8 (XX 6 130 rfl rfl rfl) ?_
 (show AWP Tryz.prog E _ _ _;refine X3 ?_;refine(show Vw _ _ _ _ _ from⟨_,ZzS,⟨rfl,?_,TV⟩,X5 _⟩);refine Eq.trans (b:=ab (decide ((_:Int)<=16))) rfl ?_;exact CG ab (decide_eq_decide.2 (by(try simp only[LA,LM,length_singleton]);omega)))):p:=h
def Yt23 {p:Prop} (h:p:=by
 rw[show (decide (n=0)&&decide (d=0)&&decide (s=[])&&decide (J l=0))=false by simp[*]] at hb;rw[show Xj m (.mk 0 n d s l)=false by rw[Xj];simp[*]];exact QCa):p:=h
def Yt24 {p:Prop} (h:p:=by
 rw[PI q];simp only[map_nil];clear hs hf hr;generalize YF d s l=A at*;obtain⟨⟨xs,xp,xo⟩,⟨⟨yn,ye,ck,cm⟩,yr,yt,yp,yl⟩,a3⟩:=A;obtain⟨secs,af,on⟩:=d;obtain⟨⟨ns,es,nn,ne⟩,rs,ts,ep,tail⟩:=s;simp only[Xz] at*;refine UA ?_;exact X3 ⟨_,Xe 6 (AVal.le_nil 3),⟨rfl,TV⟩,X5 _⟩):p:=h
def Yt25 {p:Prop} (h:p:=by
 have q2:YH s=false:=by simpa using q2
 have e:YF d s l=(Ur,XT,19):=by unfold YF;rw[NI (by simp[q1]),PI q2]
 rw[e];simp only[aV];rw[q1] at hu;rw[q2] at hv;clear e hs hf hr hp aV q1 q2;obtain⟨secs,af,on⟩:=d;obtain⟨⟨ns,es,nn,ne⟩,rs,ts,ep,tail⟩:=s;simp only[Xz] at*;refine X1B ?_;exact QGe):p:=h
def Yt26 {p:Prop} (h:p:=by
 rw[show (decide (n=0)&&decide (d=0)&&decide (s=[]))=false by simp[*]] at hb;rw[show Xj m (.mk 7 n d s l)=false by rw[Xj];simp[*]];refine X4 ?_;exact QIa):p:=h
def Yt27 {p:Prop} (h:p:=by
 rw[NI h3];by_cases h4:(J b:Int)-f<n
 ·rw[PI h4];refine QY ?_;exact QM
 rw[NI h4];have aL:((b.map X6).take (f+n)).drop f=((b.drop f).take n).map X6:=by rw[map_take,map_drop,drop_take,Nat.add_sub_cancel_left]
 refine Qaa ?_;refine W3_ ?_;refine ZBA f n ?_;refine W4_ ?_;exact QM):p:=h
def Yt28 {p:Prop} (h:p:=by
 obtain⟨b1,b2⟩:=X81 he;have e:Uc d f t ep tail l=(Ur,0,(Yy d f t ep tail l).2.2):=by unfold Uc;rw[PI he]
 rw[e];rw[b1,b2] at c1;generalize (Yy d f t ep tail l).2.2=r at*;clear hf hr;obtain⟨secs,af,on⟩:=d;simp only[map_nil,length_nil] at c1;refine X0r ?_;exact Qee):p:=h
def Yt29 {p:Prop} (h:p:=by
 have hn:¬(i:Int)<J (b.map X6):=by omega
 rw[drop_of_length_le (by omega)] at hg;have hg:some (o++[])=R:=hg;rw[append_nil] at hg;subst hg;simp only[Option.getD_some,Option.isSome_some];refine Yr ?_;refine Qec ?_
 (exact Zz1 rfl ⟨_,ZzS,⟨rfl,rfl,TV⟩,X5 _⟩)):p:=h
def Yt30 {p:Prop} (h:p:=by
 obtain⟨r,hr⟩:∃r,l[0]? =some r:=⟨_,getElem?_eq_getElem (by omega)⟩
 obtain⟨_,hlen,hcell⟩:=h2 0 r hr;obtain⟨d,hd⟩:∃d,(f r)[0]? =some d:=⟨_,getElem?_eq_getElem (by omega)⟩
 obtain⟨u,hu,_⟩:=hcell 0 d hd;simpa [Addr.add] using World.cell?_spot hu):p:=h
def Yt31 {p:Prop} (h:p:=by
 rw[NI (by simp)];by_cases h2:s=t
 ·rw[PI h2];have h3:(!(Op.bytesLess s t||decide (s=t)))=false:=by simp[h2]
  refine W9_ ?_;refine QIc ?_;exact QNa
 ·rw[NI h2];have h3:(!(Op.bytesLess s t||decide (s=t)))=true:=by simp[h1,h2]
  refine W9_ ?_;refine QIc ?_;exact Qdb):p:=h
def Yt32 {p:Prop} (h:p:=by
 rw[e];generalize Uu r=x at*;obtain⟨k,n,name,key,src,dst⟩:=r;simp only[Yu] at*;exact Qke):p:=h
def Yt33 {p:Prop} (h:p:=by
 subst hX;split
 ·have hz:=fun h=>X7s (b:=b) (a:=a2) (e:=e2) h;have:=X8c (b:=b) (rnS b a2 e2).1.toNat (rnS b a2 e2).2.1 (rnS b a2 e2).2.2 (fun h=>hz h);exact⟨by simp only;omega,this.1⟩
 ·split<;>exact⟨by simp,by simp⟩):p:=h
def Yt34 {p:Prop} (h:p:=by
 simp only[mem_cons,mem_nil_iff,or_false] at hx;rcases hx with rfl|rfl|rfl|rfl
 ·omega
 ·omega
 ·omega
 ·exact b5):p:=h
def Yt35 {p:Prop} (h:p:=by
 have h1:=h.f0;have h2:=h.ft;have h3:=h.t24;have h4:=h.len;have h5:=h.eo;have h6:=h.ep1;have h7:=h.tl;have h8:=h.room;unfold Ua;rw[NI (by rw[h.ok.v];simp),NI (by rw[h.ok.on];simp),NI (by omega),NI (by omega)]):p:=h
def Yt36 {p:Prop} (h:p:=by
 have e:YF d s l=(Ur,XT,UH d):=PI q1;rw[e];simp only[aV];clear e hs hf hr hv hp aV;generalize UH d=x at*;obtain⟨secs,af,on⟩:=d;obtain⟨⟨ns,es,nn,ne⟩,rs,ts,ep,tail⟩:=s;simp only[Xz] at*;exact QHe):p:=h
def Yt37 {p:Prop} (h:p:=by
 by_cases k4:op=4
 ·subst k4;exact Qra
 by_cases k5:op=5
 ·subst k5;exact Qra
 by_cases k6:op=6
 ·subst k6;exact Qra
 by_cases k8:op=8
 ·subst k8;exact Qra
 rw[show YO op=false by unfold YO;exact DF (by omega)];exact Qsa):p:=h
def Yt38 {p:Prop} (h:p:=by
 refine Que ?_;refine UK ?_
 (exact Zz1 rfl ⟨_,Xg 102 (cs':=[.d (.sl 3 []),.d (.sl 5 []),ai 0,ai 0]) rfl JM rfl,⟨⟨102,0,_,rfl,rfl,.inr ⟨4,_,rfl,rfl,rfl,rfl⟩⟩,rfl,TV⟩,X5 _⟩)):p:=h
def Yt39 {p:Prop} (h:p:=by
 have:=X2N (w:=cu) (k:=200) (l:=rs.take k) fun x hx=>by
  have h:=jA x (mem_of_mem_take hx);rw[show cu x=VN x from PI h];exact X5Z h
 have:J (rs.take k)<=J rs:=by rw[LT];omega
 omega):p:=h
def Yt40 {p:Prop} (h:p:=by
 have:=X2N (w:=cw) (k:=200) (l:=cs.take k) fun x hx=>by
  have h:=jx x (mem_of_mem_take hx);rw[show cw x=U3 x from PI h];exact X5X h
 have:J (cs.take k)<=J cs:=by rw[LT];omega
 omega):p:=h
def Yt41 {p:Prop} (h:p:=by
 unfold X0M;rw[hN];split
 ·intro h;contradiction
 ·rename_i h1;split
  ·intro h;simp at h
  ·rename_i h2;refine fun _=>⟨Classical.not_not.1 h1,?_⟩
   simp[X0P] at h2;omega):p:=h
def Yt42 {p:Prop} (h:p:=by
 clear hx;refine X0r ?_;refine⟨(i+1,o++[x]),⟨hil,by simp;omega,?_⟩,by simp only;omega,?_⟩
 ·rw[<-hg];simp only;congr 1;funext l;simp
 dsimp only;rw[hst];exact QTd):p:=h
def Yt43 {p:Prop} (h:p:=by
 rw[PI rfl,append_nil] at hg;subst hg;refine YV ?_;refine QRd ?_
 (exact Zz1 rfl ⟨_,ZzS,⟨⟨102,0,_,rfl,rfl,.inr ⟨4,_,rfl,rfl,rfl,rfl⟩⟩,TV⟩,X5 _⟩)):p:=h
def Yt44 {p:Prop} (h:p:=by
 rw[show (decide (d=0)&&decide (s=[])&&decide (J l=0))=false by simp[*]] at hb;rw[show Xj m (.mk 2 n d s l)=false by rw[Xj];simp[*]];refine QO ?_;exact Zr0):p:=h
def Yt45 {p:Prop} (h:p:=by
 rcases this with e|e
 ·left;exact UInt8.toNat_inj.1 e
 ·right;exact UInt8.toNat_inj.1 e):p:=h
def Yt46 {p:Prop} (h:p:=by
 rw[show (decide (d=0)&&decide (s=[])&&decide (J l=0))=false by simp[*]] at hb;rw[show Xj m (.mk 5 n d s l)=false by rw[Xj];simp[*]];refine X4 ?_;exact QB):p:=h
def Yt47 {p:Prop} (h:p:=by
 rw[show (decide (n=0)&&decide (d=0)&&decide (J l=0))=false by simp[*]] at hb;rw[show Xj m (.mk 4 n d s l)=false by rw[Xj];simp[*]];refine X4 ?_;exact Qe):p:=h
def Yt48 {p:Prop} (h:p:=by
 cases hs:X2s s with
 |false=>rfl
 |true=>
  unfold X2s at hs;rw[all_eq_true] at hs;have:=hs c (mem_of_getElem? hc);unfold okB at hb;rw[hb] at this;simp at this):p:=h
def Yt49 {p:Prop} (h:p:=by
 by_cases h3:65<=c.toNat
 ·by_cases h4:c.toNat<=90
  ·rw[X6e (by omega)];refine YJ ?_;exact Qda
  ·rw[X3P (by omega)];exact Qfa
 rw[X3P (by omega)];exact Qfa):p:=h
def Yt50 {p:Prop} (h:p:=by
 intro h;have:X0C b j a e=([],a,e):=by
  rcases h with rfl|h
  ·rfl
  ·exact Xg8 h
 rw[this] at h1 h2;simp only[append_nil] at h1;exact Prod.ext h1.symm h2.symm):p:=h
def Yt51 {p:Prop} (h:p:=by
 rw[set_append_right _ _ (by rw[LM,LM];exact Nat.le_refl _),LM,LM,Nat.sub_self,hd,map_cons,set_cons_zero,map_append,map_append,AS,LA,length_singleton];rfl):p:=h
def Yt52 {p:Prop} (h:p:=by
 rw[show (decide (d=0)&&decide (s=[])&&decide (J l=0))=false by simp[*]] at hb;rw[show Xj m (.mk 1 n d s l)=false by rw[Xj];simp[*]];exact QDa):p:=h
def Yt53 {p:Prop} (h:p:=by
 rw[show (decide (d=0)&&decide (s=[])&&decide (J l=0))=false by simp[*]] at hb;rw[show Xj m (.mk 6 n d s l)=false by rw[Xj];simp[*]];exact QAa):p:=h
def Yt54 {p:Prop} (h:p:=by
 clear eu ey hcb hok;refine QYc ?_;refine X8 (XX 5 130 rfl rfl rfl) ?_;refine X8 (Xe 5 (AVal.le_d (XcE hle))) ?_;refine W4_ ?_
 (exact Zz2)):p:=h
def Yt55 {p:Prop} (h:p:=by
 by_cases n2:n=2
 ·subst n2;exact Qxc
 by_cases n4:n=4
 ·subst n4;exact Qxc
 rw[DF (show ¬(n=1\/n=2\/n=4) by omega)];refine UR ?_;exact Qea):p:=h
def Yt56 {p:Prop} (h:p:=by
 rw[hap];refine XM ?_;refine QRd ?_
 (exact Zz1 rfl ⟨_,ZzS,⟨⟨102,0,_,rfl,rfl,.inr ⟨4,_,rfl,rfl,rfl,rfl⟩⟩,TV⟩,X5 _⟩)):p:=h
def Yt57 {p:Prop} (h:p:=by
 have e:Vs d=(XT,UH d):=PI q1;rw[e];simp only[aV];clear e hf;generalize UH d=x at*;obtain⟨secs,af,on⟩:=d;refine XM ?_;exact QAe):p:=h
def Yt58 {p:Prop} (h:p:=by
 have h6:=Xdj (l:=l.take i) fun c hc=>h1 c (mem_of_mem_take hc);have h7:J (l.take i)<=1000:=by simp;omega
 simp only[LM,LA];omega):p:=h
def Yt59 {p:Prop} (h:p:=by
 have h:=X5H (Z k) ((LN+k:Nat):Int) Uz (G.okZ k (by omega)).2.1 (by decide);have g:=G.wrZ k hk;rw[nD] at g;rw[g] at h;exact h):p:=h
def Yt60 {p:Prop} (h:p:=by
 have e:X0a l r=([],19):=by unfold X0a;rw[PI (by simpa using q1)]
 rw[e];rw[show X1F l=false by simpa using q1] at hv;exact Qje):p:=h
def Yt61 {p:Prop} (h:p:=by
 have e:VG l r=([],19):=by unfold VG;rw[PI (by simpa using q1)]
 rw[e];rw[show X1F l=false by simpa using q1] at hv;exact Qje):p:=h
def Yt62 {p:Prop} (h:p:=by
 rcases bD with rfl|h
 ·exact .inl (by simp)
 ·by_cases h0:((m0-j:Nat):Int)<(m0:Nat)
  ·exact .inr ⟨h0,h⟩
  ·exact .inl h0):p:=h
def Yt63 {p:Prop} (h:p:=by
 rw[hu] at h;simp only[Option.map_some,Option.some.injEq] at h;subst h;have:=X9l n r l (by omega) hu;simp only[LC];omega):p:=h
def Yt64 {p:Prop} (h:p:=by
 intro x hx;rcases mem_append.1 hx with h|h
 ·obtain⟨p,_,rfl⟩:=mem_map.1 h;rfl
 ·obtain⟨p,_,rfl⟩:=mem_map.1 h;rfl):p:=h
def Yt65 {p:Prop} (h:p:=by
 refine QW ?_;refine⟨(i+1,out++[_]),⟨by simp only;omega,hg⟩,by simp only;omega,?_⟩;dsimp only;rw[hap];exact Qse):p:=h
def Yt66 {p:Prop} (h:p:=by
 refine XK ?_;refine Z4 (op:= .rem) (r':=nj (x%y)) (u:=nj x) (v:=nj y) ?_ (hr:=by exact Va hy);refine W3_ ?_;exact Qf):p:=h
def Yt67 {p:Prop} (h:p:=by
 have ri:((i%2:Nat):Int)=1:=by omega
 have hi2:((c.toNat:Nat):Int)≠6:=by omega
 refine Qvd ?_;refine Yr ?_;exact QZb):p:=h
def Yt68 {p:Prop} (h:p:=by
 rw[e];simp only[aV];clear e hU;generalize Xd c' a2=w at*;obtain⟨n2,a3,e3⟩:=w;simp only[aN3] at ic;exact QWe):p:=h
def Yt69 {p:Prop} (h:p:=by
 rcases bD with rfl|h
 ·exact .inl (by simp)
 ·by_cases h0:(0:Int)<(j:Nat)
  ·exact .inr ⟨h0,h⟩
  ·exact .inl h0):p:=h
def Yt70 {p:Prop} (h:p:=by
 unfold orC at h;by_cases q:c1 a b=0
 ·rw[NI (by simp[q])] at h;exact⟨q,h⟩
 ·rw[PI q] at h;exact absurd h q):p:=h
def Yt71 {p:Prop} (h:p:=by
 rcases Xen r q hq with k|⟨m,hm,k⟩
 ·left;rw[k];rfl
 ·right;exact⟨m+1,by simpa using hm,by rw[k];rfl⟩):p:=h
def Yt72 {p:Prop} (h:p:=by
 rcases Nat.eq_zero_or_pos (J af) with h|h
 ·exact(hok ⟨by omega,by omega,.inr h⟩).elim
 ·exact h):p:=h
def Yt73 {p:Prop} (h:p:=by
 refine⟨false,VQ (xs:=[ab false]) Tryz.func41 rfl Tryz.ntmps41 rfl rfl rfl (fun E=> ?_)⟩;exact QB):p:=h
def Yt74 {p:Prop} (h:p:=by
 by_cases k8:op=8
 ·subst k8;exact Qpa
 rw[show YL op=false by unfold YL;exact DF (by omega)];exact Qqa):p:=h
def Yt75 {p:Prop} (h:p:=by
 have:=drop_eq_getElem_cons hlt;rw[getElem?_eq_getElem hlt] at h;rw[this];congr 1;simpa using h):p:=h

theorem Oa {p:Prop} (h:p:=by omega):p:=h
def Ob {p:Prop} (h:p:=by (first|((exact ZzV))|((exact AVal.le_nil _))|((refine AVal.le_agg ?_;((repeat (first|exact trivial|refine⟨(by(first|((exact ZzV))|((exact AVal.le_nil _))|((refine ZzQ ?_;(conv=>lhs;whnf);(first|((rfl))|((simp<;>fail))|fail)))|fail)),?_⟩|fail))<;>fail)))|((refine ZzQ ?_;(conv=>lhs;whnf);(first|((rfl))|((simp<;>fail))|fail)))|fail)):p:=h
def Oc {p:Prop} (h:p:=by simp):p:=h
theorem Od {p:Prop} (h:p:=by simp only;omega):p:=h
def Oe {p:Prop} (h:p:=by (first|((exact ZzV))|((exact AVal.le_nil _))|((refine ZzQ ?_;(conv=>lhs;whnf);(first|((rfl))|((simp<;>fail))|fail)))|fail)):p:=h
def Of {p:Prop} (h:p:=by clear hlen hsz hp;(try simp only[ne_eq,Classical.not_not] at*);simp[UU, *]):p:=h
def Og {p:Prop} (h:p:=by conv=>lhs;whnf):p:=h
def Oh {p:Prop} (h:p:=by kernel_rfl):p:=h
def Oi {p:Prop} (h:p:=by decide):p:=h
def Oj {p:Prop} (h:p:=by rw[LM];omega):p:=h
def Ok {p:Prop} (h:p:=by exact Ub rfl rfl (by rw[YX];omega)):p:=h
def Ol {p:Prop} (h:p:=by refine Eq.trans (b:=AVal.own 130 (_+_)) rfl ?_;simp only[LA,LM,LC,length_nil]):p:=h
def Om {p:Prop} (h:p:=by exact Ub rfl rfl (by rw[Yz];omega)):p:=h
def On {p:Prop} (h:p:=by clear hlen hsz;(try simp only[ne_eq,Classical.not_not] at*);simp[X3t, *]):p:=h
def Oo {p:Prop} (h:p:=by refine ZzQ ?_;refine Eq.trans (b:=AVal.own 130 (_+_)) rfl ?_;congr 1;simp only[LA,LM,LC,length_nil,AS,cons_append,nil_append,append_nil]<;>omega):p:=h
def Oq {p:Prop} (h:p:=by rw[YX];omega):p:=h
def Ot {p:Prop} (h:p:=by refine Eq.trans (b:=AObj.row 1 (_++_)) rfl ?_;simp only[map_append,map_cons,map_nil,AS,cons_append,nil_append,append_nil]<;>rfl):p:=h
def Ou {p:Prop} (h:p:=by simp;omega):p:=h
def Ov {p:Prop} (h:p:=by unfold Func.isWrapper;first|(rw[PI (by decide+kernel)];kernel_rfl)|(rw[NI (by decide+kernel)];exact⟨rfl,rfl⟩)):p:=h
def Ow {p:Prop} (h:p:=by simp at ax |-;omega):p:=h
def Ox {p:Prop} (h:p:=by rw[Yz];omega):p:=h
def Oy {p:Prop} (h:p:=by subst ha;simp[X1k, *]):p:=h
def Oz {p:Prop} (h:p:=by rw[LT];omega):p:=h
def OA {p:Prop} (h:p:=by rw[hG];simp[VO,hv]):p:=h
def OB {p:Prop} (h:p:=by rw[X2z (by omega)];exact X2n (by omega)):p:=h
def OC {p:Prop} (h:p:=by refine Eq.trans (b:=AVal.own 130 (_+_)) rfl ?_;simp only[LA,LM]):p:=h
def OD {p:Prop} (h:p:=by decide+kernel):p:=h
def OE {p:Prop} (h:p:=by exact Va (by omega)):p:=h
def OF {p:Prop} (h:p:=by refine Eq.trans (b:= .bag (Y7 (xs.take i)++(u',1,ls'.map Xf)::(v,6,x1.props.map Xb)::Y7 (xs.drop (i+1)))) (by conv=>lhs;whnf) (by rw[eB])):p:=h
def OG {p:Prop} (h:p:=by rw[X1f Vp aB];exact DT ⟨x',hx',hk⟩):p:=h
def OH {p:Prop} (h:p:=by refine ZzQ ?_;refine Eq.trans (b:=AVal.own 130 (_+_)) rfl ?_;congr 1;simp only[take_zero,U6,append_nil,LM,LC,length_nil]<;>omega):p:=h
def OI {p:Prop} (h:p:=by refine ZzQ ?_;refine Eq.trans (b:=AVal.d (.sl 1 (((((b.map X6).take (J (b.map X6))).drop k).take 10).drop 0))) rfl ?_;rw[pK]):p:=h
def OJ {p:Prop} (h:p:=by rw[X1N];omega):p:=h
def OK {p:Prop} (h:p:=by simpa using h2):p:=h
def OL {p:Prop} (h:p:=by exact X9b (by rw[X1N];omega) (by rw[X1N];omega)):p:=h
def OM {p:Prop} (h:p:=by exact Ui rfl rfl):p:=h
def ON {p:Prop} (h:p:=by simp at hv;omega):p:=h
def OO {p:Prop} (h:p:=by exact X5G (by unfold X0S;omega)):p:=h
def OP {p:Prop} (h:p:=by refine ZzQ ?_;refine Eq.trans (b:=AVal.d (.sl 1 (((b.map X6).take (J (b.map X6))).drop k))) rfl ?_;rw[pL cR]):p:=h
def OQ {p:Prop} (h:p:=by simp at h):p:=h
def OR {p:Prop} (h:p:=by rw[LD];omega):p:=h
def OS {p:Prop} (h:p:=by simp[q1]):p:=h
def OT {p:Prop} (h:p:=by exact X2e (by rw[YX];omega)):p:=h
def OU {p:Prop} (h:p:=by exact X3C (by rw[YX];omega)):p:=h
def OV {p:Prop} (h:p:=by (first|((exact True.intro))|((exact⟨rfl,rfl⟩))|((exact⟨rfl,CG ab (by exact JAe)⟩))|fail)):p:=h
def OW {p:Prop} (h:p:=by simp at hel |-;omega):p:=h
def OX {p:Prop} (h:p:=by simpa using hG):p:=h
def OY {p:Prop} (h:p:=by unfold U3;simp[YO,YL]):p:=h
def OZ {p:Prop} (h:p:=by unfold Xx;omega):p:=h
def O0 {p:Prop} (h:p:=by unfold X0S;omega):p:=h
def O1 {p:Prop} (h:p:=by refine Eq.trans (b:= .own 130 (J (x.map UC))) rfl ?_;congr 1;rw[bQ];exact gH.symm):p:=h
def O2 {p:Prop} (h:p:=by simpa using h):p:=h
def O3 {p:Prop} (h:p:=by rw[show ((i:Int)+1).toNat=i+1 by omega,drop_of_length_le (by simp;omega)];exact ZzV):p:=h
def O4 {p:Prop} (h:p:=by simp only[UF,decide_eq_false_iff_not];exact fun h=>hok ⟨h.1,h.2.1,h.2.2.1⟩):p:=h
def O5 {p:Prop} (h:p:=by refine Eq.trans (b:=ai (((m0-(i+1):Nat):Int)+1)) rfl ?_;exact CG ai (by omega)):p:=h
def O6 {p:Prop} (h:p:=by unfold XV;exact X1j hd _ _ (by omega)):p:=h
def O7 {p:Prop} (h:p:=by refine Eq.trans (b:=AVal.own 132 (_+_)) rfl ?_;simp only[LA,LC,length_nil]):p:=h
def O8 {p:Prop} (h:p:=by refine ZzQ ?_;refine Eq.trans (b:=ai (J (XR l):Nat)) rfl ?_;rw[hlen]):p:=h
def O9 {p:Prop} (h:p:=by simpa using Array.mem_of_getElem? ht):p:=h
def Ia {p:Prop} (h:p:=by rw[X1R (by omega),Nat.mod_eq_of_lt (by omega)]):p:=h
def Ib {p:Prop} (h:p:=by show ai _=ai _;rw[hlm]):p:=h
def Ic {p:Prop} (h:p:=by refine Eq.trans (b:=ab (decide ((c.toNat:Int)≠0))) rfl ?_;simp[aW]):p:=h
def Id {p:Prop} (h:p:=by refine Eq.trans (b:= .bag (Y7 xs)) (by conv=>lhs;whnf) (by rw[bO])):p:=h
def Ie {p:Prop} (h:p:=by refine Eq.trans (b:= .bag (U2 ys)) (by conv=>lhs;whnf) (by rw[bO])):p:=h
def Ig {p:Prop} (h:p:=by refine ZzQ ?_;refine Eq.trans (b:=AVal.own 130 (_+_)) rfl ?_;simp):p:=h
def Ih {p:Prop} (h:p:=by rw[<-hY,<-hY,X1A hs,map_append,flatten_append,map_append,AS];simp):p:=h
def Ii {p:Prop} (h:p:=by rw[<-hY,<-hY,X1A hx,map_append,flatten_append,map_append,AS];simp):p:=h
def Ij {p:Prop} (h:p:=by unfold YF;rw[NI (by simp[q1]),NI (by simp[q2]),NI (by simp[q3])]):p:=h
def Ik {p:Prop} (h:p:=by simp only[LA,LC,length_nil] at hl |-;omega):p:=h
def Il {p:Prop} (h:p:=by simp[q2]):p:=h
def Im {p:Prop} (h:p:=by simp[q3]):p:=h
def Ip {p:Prop} (h:p:=by simp[q]):p:=h
def Iq {p:Prop} (h:p:=by simpa using h1):p:=h
def Ir {p:Prop} (h:p:=by simpa using c2):p:=h
def Is {p:Prop} (h:p:=by simpa using hR):p:=h
def It {p:Prop} (h:p:=by exact X23 (by decide) (by rw[YX];omega)):p:=h
def Iu {p:Prop} (h:p:=by refine Eq.trans (b:=ai _) rfl ?_;rw[ji]):p:=h
def Iv {p:Prop} (h:p:=by exact X23 (by omega) (by rw[Yz];omega)):p:=h
def Iw {p:Prop} (h:p:=by rw[map_take,map_drop,drop_take,Nat.add_sub_cancel_left]):p:=h
def Ix {p:Prop} (h:p:=by simpa using e):p:=h
def Iy {p:Prop} (h:p:=by simp[X0P];omega):p:=h
def Iz {p:Prop} (h:p:=by exact X1H (by decide)):p:=h
def IA {p:Prop} (h:p:=by rw[<-hB,LA,LM,LA];have:=hcb k;have:=fu (J rs);omega):p:=h
def IB {p:Prop} (h:p:=by rw[X5T,hp] at h;injection h with h;rw[<-h];exact hlt):p:=h
def IC {p:Prop} (h:p:=by simpa using hs):p:=h
def ID {p:Prop} (h:p:=by simpa using q1):p:=h
def IE {p:Prop} (h:p:=by simpa using c1):p:=h
def IF {p:Prop} (h:p:=by unfold Ym X1m;rw[NI (by simp)];rfl):p:=h
def IG {p:Prop} (h:p:=by rw[hpar];show ¬k=_;omega):p:=h
def IH {p:Prop} (h:p:=by refine Eq.trans (b:=AVal.own 132 (_+_)) rfl ?_;simp):p:=h
def II {p:Prop} (h:p:=by grind):p:=h
def IJ {p:Prop} (h:p:=by rw[<-hX,<-hX,X1A hs,map_append,map_append,AS];rfl):p:=h
def IK {p:Prop} (h:p:=by simpa using q):p:=h
def IL {p:Prop} (h:p:=by rw[<-hX];simp):p:=h
def IM {p:Prop} (h:p:=by unfold UL;simp only;rw[hm0,Int.toNat_natCast,ek]):p:=h
def IN {p:Prop} (h:p:=by exact X1S (by rw[X1N];omega) (by rw[X1N];omega)):p:=h
def IP {p:Prop} (h:p:=by simp[map_take,map_drop]):p:=h
def IQ {p:Prop} (h:p:=by rw[cY];exact cO):p:=h
def IR {p:Prop} (h:p:=by rw[length_set];exact bP):p:=h
def IS {p:Prop} (h:p:=by rw[aF];exact bR):p:=h
def IT {p:Prop} (h:p:=by rw[LM,LT];omega):p:=h
def IU {p:Prop} (h:p:=by rw[hv k (by omega),(X4c bs d a k).1 (by omega)]):p:=h
def IV {p:Prop} (h:p:=by cases h):p:=h
def IW {p:Prop} (h:p:=by exact CG ni (Nat.mul_comm k 64)):p:=h
def IX {p:Prop} (h:p:=by exact Ub rfl rfl (by rw[YX];have:=X5C b;omega)):p:=h
def IY {p:Prop} (h:p:=by rw[X1R (by omega),Nat.mod_mod]):p:=h
def IZ {p:Prop} (h:p:=by simp[Act.eval,Array.replicate]):p:=h
def I0 {p:Prop} (h:p:=by exact X1S (by rw[Yz];omega) (by rw[Yz];omega)):p:=h
def I1 {p:Prop} (h:p:=by rw[drop_zero,map_take]):p:=h
def I2 {p:Prop} (h:p:=by rw[map_map];exact map_congr_left fun n _=>rfl):p:=h
def I3 {p:Prop} (h:p:=by rw[fc];simp only;omega):p:=h
def I4 {p:Prop} (h:p:=by unfold Vs;rw[NI (by simp[q1]),h,NI (by simp)]):p:=h
def I5 {p:Prop} (h:p:=by simpa using hc):p:=h
def I6 {p:Prop} (h:p:=by simp[hy]):p:=h
def I7 {p:Prop} (h:p:=by simpa [ltI] using hlt):p:=h
def I8 {p:Prop} (h:p:=by show i<i+1;omega):p:=h
def I9 {p:Prop} (h:p:=by have:=hf.1;omega):p:=h
def Ja {p:Prop} (h:p:=by rw[U1] at hok;exact hok.2.2):p:=h
def Jb {p:Prop} (h:p:=by rw[length_set];omega):p:=h
def Jc {p:Prop} (h:p:=by rw[<-hX,take_length]):p:=h
def Jd {p:Prop} (h:p:=by exact(by kernel_rfl)):p:=h
def Je {p:Prop} (h:p:=by rw[he];simp):p:=h
def Jf {p:Prop} (h:p:=by rw[<-hC];exact XC hx):p:=h
def Jg {p:Prop} (h:p:=by simp only[LM];omega):p:=h
def Jh {p:Prop} (h:p:=by unfold U8;omega):p:=h
def Ji {p:Prop} (h:p:=by cases args;simp_all):p:=h
def Jj {p:Prop} (h:p:=by have:=nJ (by omega);omega):p:=h
def Jk {p:Prop} (h:p:=by rw[LA];rfl):p:=h
def Jl {p:Prop} (h:p:=by have:=ha rfl;omega):p:=h
def Jm {p:Prop} (h:p:=by simpa using h0):p:=h
def Jn {p:Prop} (h:p:=by simpa using c3):p:=h
def Jo {p:Prop} (h:p:=by simpa using he):p:=h
def Jp {p:Prop} (h:p:=by simpa using h3):p:=h
def Jq {p:Prop} (h:p:=by rw[take_length,map_drop]):p:=h
def Jr {p:Prop} (h:p:=by exact hk):p:=h
def Js {p:Prop} (h:p:=by rw[h2];simp):p:=h
def Jt {p:Prop} (h:p:=by simp only[LA]):p:=h
def Ju {p:Prop} (h:p:=by simpa using c):p:=h
def Jv {p:Prop} (h:p:=by unfold Xx;rw[hl]):p:=h
def Jw {p:Prop} (h:p:=by rw[bF];exact ZzV):p:=h
def Jx {p:Prop} (h:p:=by rw[dW];exact hz):p:=h
def Jy {p:Prop} (h:p:=by rw[LM];exact t3):p:=h
def Jz {p:Prop} (h:p:=by rw[LM];exact dY):p:=h
def JA {p:Prop} (h:p:=by simp[hx]):p:=h
def JB {p:Prop} (h:p:=by rw[eR]):p:=h
def JC {p:Prop} (h:p:=by rw[eB]):p:=h
end
end Go.Fw
