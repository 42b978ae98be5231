/- A block of one-cell elements cleared; its zeros are known. -/
import Derived.Test.YtpbgjcbkhgfmkaaGreatDoorM03
namespace Go.Fw
open Go List
set_option linter.unusedVariables false
set_option linter.unusedSimpArgs false
variable{v:Value}
section
variable {P:Program}
variable {ops:Array Oper}{draw:Bool}{K:XW->St->Prop}{rest:List Oper}{l:XW}{S:St}
variable {d:Nat}{ty:TypeId}{pos:String}{ah:Array Edge}{gd:Option (Nat×Bool)}
theorem Xod {z:Array Value} (h:z.toList=[v]) (n:Nat):(Builtin.zeroCells z n).toList=replicate n v:=by
 unfold Builtin.zeroCells;rw[X8z,h];induction n with
 |zero=>rfl
 |succ n ih=>rw[replicate_succ,<-ih];simp[Vn,replicate_succ]
theorem Xn0 {g:Gh} (h:v.oneCell'=true):∀n,Xx g (replicate n (AVal.d (.v v))) (replicate n v)
 |0=>by simp[Xx]
 |n+1=>by simp only[replicate_succ,Xx];exact⟨X02 h,Xn0 h n⟩
theorem Xwp {x:Operand}{T:TypeId}{β o n c bytes:Nat}{v0:Value}{cs cs':List (Option D)} (hx:S.ev x= .rs β o n c) (hL:S.obj β= .raw cs none) (hn:0<n) (hb:o+n<=cs.length)
  (hcs:cs.take o++replicate n (some (.v v0))++cs.drop (o+n)=cs') (hB:elB P T=bytes) (hT:X1b P T 1 bytes=true) (bZ:X2K P T=some [v0]) (h1:v0.oneCell'=true) (hg:XH ops S gd)
  (h:Walk P ops draw K rest ((l.length,⟨none,.call ⟨.builtin .clear,#[x],#[T]⟩,ty,pos,ah,gd⟩,⟨XF ops gd++[(x,.rs β o n c)],none,[(β,.raw cs none)],[(β,.raw cs' none)],[]⟩)::l) (S.own β (.raw cs' none))):
  Walk P ops draw K (⟨none,.call ⟨.builtin .clear,#[x],#[T]⟩,ty,pos,ah,gd⟩::rest) l S:=by
 refine Yj h hg ?_ ⟨⟨hx,TV⟩,⟨hL,TV⟩,TV,TV⟩;intro E S a w g hs hok Q K hK;obtain⟨cV,⟨l1,_⟩,_,cR⟩:=hok;have hq:=X1q hs _ cV;obtain⟨e,i,z,hu,hi,hsz,fM,hz,hzs,bR⟩:=X5j hT;have hx':=X2z hq.1;have hzl:z.cells.toList=[v0]:=by
  obtain⟨e',k1,k2⟩:=XaS bZ;rw[hu] at k1;cases k1;simpa [X4O,hi,hz] using k2
 have kW:=Xod hzl n;have cz:(replicate n (some (D.v v0))).length=n:=length_replicate;obtain⟨w',k1,k2⟩:=X9i (P:=P) (o:=o) (ys:=replicate n (some (.v v0))) (news:=Builtin.zeroCells z.cells n) hs.1 l1 (by rw[kW,map_replicate];exact Xn0 h1 n) (XkT bR n) (by rw[cz];exact hb);rw[cz,hcs] at k2;obtain⟨m,rfl⟩:∃m,n=m+1:=⟨n-1,by omega⟩
 have hrun:(Builtin.clear_ #[T] ty #[.slice (some ⟨g.az β,o,none⟩) (m+1) c]).run P w= .ok (.tuple #[]) w':=by
  simp[Builtin.clear_,run_underlying hu,zeroValue,typeInfo,hi,hz,k1]
 have c9:(execOp a.eval ⟨none,.call ⟨.builtin .clear,#[x],#[T]⟩,ty,pos,ah,gd⟩).run P w= .ok (.value (.tuple #[])) w':=by
  simp[execOp,resolve,invoke,builtin,hx',hrun]
 unfold Oper.wp;rw[c9,Oper.upon_value];exact hK _ _ ⟨g,k2,hs.2.1,hs.2.2.1,hs.2.2.2⟩
end
end Go.Fw
