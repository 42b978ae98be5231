/- Rows of one's own whose elements have several cells: a part of an element read, or set to what it is. -/
import Derived.OpenShut
import Derived.Deep.Slices
import Derived.Deep.Strs
import Derived.Test.YtfmfekakaeafhaaGreatDoorP03
set_option linter.all false
namespace Go.Fw
open Go List
open List renaming length->J
variable{o q sz:Nat}{xs:List (List D)}{ys:List D}
def XuL {P:Program}{g:Gh}{w:World}{h:Value} (hr:UZ g w h sz xs) (hb:o+q<=J xs*sz) (hys:(xs.flatten.drop o).take q=ys) {news:Array Value} (aB:news.size=q) (bf:Xy g (ys.map .d) news.toList):
  ∃w',(match h with| .slice (some a) _ _=>(storeCells (a.add o) news.toList).run P w|_=> .ok () w)= .ok () w'/\UZ g w' h sz xs/\
   (∀b,¬U0 h b->w'.heap[b]? =w.heap[b]?)/\w'.heap.size=w.heap.size/\w'.os=w.os/\w'.output=w.output:=by
 rcases hr.2 with ⟨rfl,rfl⟩|⟨b,cap,vs,e,fr,rfl,h2,h3,h4,h5,h6,h7⟩
 ·grind
 ·have nr:=X2m xs hr.1;have cF:J ys=q:=by grind
  have qQ:o+q<=vs.size:=Nat.le_trans hb (Nat.le_trans (Nat.mul_le_mul_right _ h2) h6);obtain⟨vs',k1,k2⟩:=X6W (P:=P) b e fr vs.size h5 news.toList o 0 vs w h4 rfl (by simp[aB];omega) (fun u hu=>by
   obtain⟨j,hj,rfl⟩:=getElem_of_mem hu;have hjl:j<J ys:=by grind
   obtain⟨_,cQ⟩:=X7r bf;obtain⟨u,iE,fG⟩:=cQ j _ (getElem?_eq_getElem hjl)
   grind [D.rep_one])
  simp only[Nat.add_zero,Array.length_toList,aB] at k2;have cP:vs'.size=vs.size:=by
   have:=CG length k2
   grind
  refine⟨w.setRow b vs',?_,⟨hr.1,.inr ⟨b,cap,vs',e,fr,rfl,h2,h3,setRow_heap w b vs _ e fr h4,by rw[cP];exact h5,by rw[cP];exact h6,?_⟩⟩,fun c hc=>setRow_other w b c vs' (fun e=>hc (by grind [U0])),by simp,rfl,rfl⟩
  ·grind [Vq]
  ·have sW:J (vs.toList.take (J xs*sz))=J xs*sz:=by grind [V6,LM]
   have e1:vs'.toList.take (J xs*sz)=(vs.toList.take (J xs*sz)).take o++news.toList++(vs.toList.take (J xs*sz)).drop (o+q):=by
    rw[k2];exact XlM (by simp[aB]) hb (by simpa using Nat.le_trans (Nat.mul_le_mul_right sz h2) h6)
   rw[e1];have e2:xs.flatten=xs.flatten.take o++ys++xs.flatten.drop (o+q):=by
    grind [drop_drop,take_append_drop]
   grind [map_take,map_drop,X4D,X3G,X5d]
section
variable {P:Program}{ops:Array Oper}{draw:Bool}{K:XU->St->Prop}{rest:List Oper}{l:XU}{S:St}
variable {d:Nat}{ty:TypeId}{pos:String}{ah:Array Edge}{gd:Option (Nat×Bool)}
def XqP {t:TypeId}{x v:Operand}{γ n:Nat} (hx:S.ev x= .rptr γ n o) (hL:S.obj γ= .row sz xs) (hv:S.ev v= .agg (ys.map .d)) (hn:n=J xs) (h0:0<J xs) (hb:o+q<=J xs*sz) (hys:(xs.flatten.drop o).take q=ys)
  (ht:X7A P t q=true) (hg:XL ops S gd)
  (h:Walk P ops draw K rest ((J l,⟨none,.store t x v,ty,pos,ah,gd⟩,⟨XH ops gd++[(x,.rptr γ n o),(v,.agg (ys.map .d))],none,[(γ,.row sz xs)],[(γ,.row sz xs)],[]⟩)::l)
   (S.own γ (.row sz xs))):
  Walk P ops draw K (⟨none,.store t x v,ty,pos,ah,gd⟩::rest) l S:=
 Yq h hg (Xd9 rfl fun E S g a w hs hq hl dB=>by
  have ho:=hs.1.obj γ;rw[hl.1] at ho;have hrow:UZ g w (g.hd γ) sz xs:=ho;obtain⟨b,cap,vs,e,fr,e1,e2,e3,e4⟩:=XlP hq.1 ho hn h0;have rj:=hq.2.1;simp only[AVal.sat] at rj;obtain⟨us,hu,nE⟩:=rj;have nr:=X2m xs hrow.1;have cF:J ys=q:=by grind
  have fL:us.size=q:=by grind [V6,LM,Array.length_toList]
  obtain⟨w',s1,s2,s3,s4,s5,s6⟩:=XuL (P:=P) hrow hb hys fL nE;rw[e2] at s1;simp only[Vq,Nat.zero_add] at s1;refine⟨g,w',?_,?_,hs.2.2.2⟩
  ·have hsz:=Xbt ht w;simp_all [execOp,Instr.storeAt,Instr.sureAddr,storeVar,Value.cells]
  ·refine Inv.upd hs.1 γ _ (YK _ _ _ _) (fun j hj=>YC _ _ _ (Ne.symm hj)) (fun b hb ax=>s3 b fun hc=>ax (by rw[hl.1];exact hc)) (by omega) s5 s6 rfl (fun _ _=>⟨rfl,rfl,rfl⟩) (fun _ _ _ _ _ h=>h) s2 (fun b hb=> .inl (by rw[hl.1];exact hb)) (fun _=>Gh.keeps_refl _ _)) ⟨⟨hx,hv,TV⟩,⟨hL,TV⟩,TV,TV⟩
end
open Go Go.ChangeShapes Go.WideShapes Go.Deep
open List renaming length->J
section
variable {H:Type}{enc:TypeId×Value->H}{P:Program}{W:World}
def Xds {α:Type}{t e:TypeId}{r:Reach}{b0:Nat}{v:Value}{d:DataW H}{ps:List MemPlace}{p:α->Prop}{f:α->D} (ht:P.underlying t=some (.slice e))
  (hval:Value.okWide P W r b0 t v) (hd:DataW.Trod enc P W 0 (fun _=>true) true t v d ps) (ho:Opens enc P W t p (fun x=>[f x])):∃x,p x/\(AVal.d (f x)).sat (g0 W.cell?) v:=by
 obtain⟨a,n,c,rfl⟩:=okWide_slice ht hval;obtain⟨n,hn⟩:=hd;obtain⟨x,h1,h2⟩:=ho.op _ _ _ hn
 grind [g0,Value.cells,AVal.sat,Vu]
end
end Go.Fw
