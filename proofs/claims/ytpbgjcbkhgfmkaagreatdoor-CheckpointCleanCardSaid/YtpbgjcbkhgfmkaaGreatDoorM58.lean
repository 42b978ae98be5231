/- Steps of a walk with the usual proofs of their side goals. -/
import Derived.Test.YtpbgjcbkhgfmkaaGreatDoorM50
import Derived.Test.YtpbgjcbkhgfmkaaGreatDoorM57
namespace Go.Fw
open Go List
set_option linter.unusedVariables false
section
variable {P:Program}{ops:Array Oper}{draw:Bool}{K:XW->St->Prop}{rest:List Oper}{l:XW}{S:St}
variable {d:Nat}{ty:TypeId}{pos:String}{ah:Array Edge}{gd:Option (Nat×Bool)}
theorem Zn {op:BinOp}{xt yt:TypeId}{x y:Operand}{u v r:Value} (r':Value) (h:Walk P ops draw K rest ((l.length,⟨some d,.binOp op xt x y yt,ty,pos,ah,gd⟩,⟨XF ops gd++[(x,.d (.v u)),(y,.d (.v v))],some (d,.d (.v r')),[],[],[]⟩)::l) (S.set d (.d (.v r')))) (hg:XH ops S gd:=by exact JAa) (hr':r=r':=by exact rfl) (hx:S.ev x= .d (.v u):=by exact rfl) (hy:S.ev y= .d (.v v):=by exact rfl) (hr:∀w,(do eqGuard op xt x y u v;binOp op xt u v:Sem Value).run P w= .ok r w:=by exact Xd4 (by omega) (by omega)) (h1:r'.oneCell'=true:=by exact rfl) (hd:Nat.blt d S.n=true:=by exact rfl):Walk P ops draw K (⟨some d,.binOp op xt x y yt,ty,pos,ah,gd⟩::rest) l S:=X3q (r':=r') (hr':=hr') (hx:=hx) (hy:=hy) (hr:=hr) (h1:=h1) (hd:=hd) (hg:=hg) (h:=h)
end
end Go.Fw
