/- Opening what came in: from the reading of an argument to data over the world's own cells. -/
import Derived.OpenShut
import Derived.Deep.Slices
import Derived.Deep.Strs
import Derived.Test.YtlkcofbjniphbaaGreatDoorB10
namespace Go.Fw
open Go Go.ChangeShapes Go.WideShapes Go.Deep
set_option linter.unusedVariables false
section
variable {H:Type}{enc:TypeId×Value→H}{P:Program}{W:World}
theorem XkP {t:TypeId} (ht:P.underlying t=some (.int .u8)):Opens enc P W t (fun _:UInt8=>True) (fun b=>[.v (.int .u8 b.toNat)]):=
 (Xh8 ht).to (fun n=>UInt8.ofNat n.toNat) fun a ha=>⟨trivial,by
  have:=bounds_u8 ha
  simp only[List.cons.injEq,D.v.injEq,Value.int.injEq,true_and,and_true,UInt8.toNat_ofNat']
  omega⟩
theorem XqB {α:Type}{t e:TypeId}{sz:Nat}{p:α→Prop}{f:α→List D} (ht:P.underlying t=some (.slice e)) (hz:P.cellsOf e=sz) (h0:0<sz) (ho:Opens enc P W e p f):
  Opens enc P W t (fun l:List α=> ∀r∈l,p r) (fun l=>[.sl sz (l.map f)]):=by
 refine⟨fun n cs x hx=> ?_⟩
 rcases open_slice ht hx with ⟨rfl,_⟩|⟨a,len,cap,m,n',DD,Pl,rfl,_,hl,hm,hmm,rfl,hel⟩
 ·refine⟨[],by simp,?_⟩
  simp only[Uu,D.rep,List.map_nil]
  exact⟨⟨none,0,rfl,Nat.le_refl _,Nat.zero_le _,.inl trivial⟩,trivial⟩
 simp only[if_true] at hmm
 subst hmm
 have hel':∀i,i<len→∃r,p r∧(f r).length=sz∧∀j d,(f r)[j]? =some d→∃u,W.cell? ((a.add (i*sz)).add j)=some u∧d.rep W.cell? u:=by
  intro i hi
  obtain⟨cs',h1,h2⟩:=hel i (by omega)
  obtain⟨r,h3,h4⟩:=ho.op _ _ _ h2
  obtain⟨_,h5,h6⟩:=World.cells?_some h1
  rw[hz] at h5 h6
  refine⟨r,h3,by rw[←X8L h4,h5],fun j d hd=> ?_⟩
  obtain⟨u,h7,h8⟩:=X7Y h4 j d hd
  have hj:j<sz:=by
   have:=(List.getElem?_eq_some_iff.1 h7).1
   omega
  exact⟨u,(h6 j hj).trans h7,h8⟩
 obtain⟨l,h1,h2⟩:=X84 len hel'
 refine⟨l,fun r hr=> ?_,?_⟩
 ·obtain⟨i,hi⟩:=List.getElem?_of_mem hr
  exact(h2 i r hi).1
 simp only[Uu,D.rep]
 refine⟨⟨some a,m,by rw[List.length_map,h1],by rw[List.length_map,h1];exact hl,hm,?_⟩,trivial⟩
 by_cases h00:len=0
 ·exact .inl (by rw[List.eq_nil_of_length_eq_zero (h1.trans h00)];rfl)
 right
 obtain⟨b,o,sp⟩:=a
 have hsp:sp=none:=by
  obtain⟨r,hr⟩:∃r,l[0]? =some r:=⟨_,List.getElem?_eq_getElem (by omega)⟩
  obtain⟨_,hlen,hcell⟩:=h2 0 r hr
  obtain⟨d,hd⟩:∃d,(f r)[0]? =some d:=⟨_,List.getElem?_eq_getElem (by omega)⟩
  obtain⟨u,hu,_⟩:=hcell 0 d hd
  simpa [Addr.add] using World.cell?_spot hu
 subst hsp
 refine⟨b,o,rfl,X5v _ _ _ fun i r hr=> ?_⟩
 obtain⟨x,hx,rfl⟩:∃x,l[i]? =some x∧f x=r:=by simpa using hr
 obtain⟨_,hlen,hcell⟩:=h2 i x hx
 refine⟨hlen,X3x _ _ _ fun j d hd=> ?_⟩
 obtain⟨u,hu,hd⟩:=hcell j d hd
 rw[Uw,Uw] at hu
 exact⟨u,hu,hd⟩
theorem Xpt {α:Type}{t:TypeId}{fs:Array Field}{r:Reach}{b0:Nat}{v:Value}{d:DataW H}{ps:List MemPlace}{p:α→Prop}{f:α→List D} (ht:P.underlying t=some (.struct fs))
  (hval:Value.okWide P W r b0 t v) (hd:DataW.Trod enc P W 0 (fun _=>true) true t v d ps) (ho:Opens enc P W t p f):∃x,p x∧(AVal.agg ((f x).map .d)).sat (g0 W.cell?) v:=by
 simp only[Value.okWide,ht] at hval
 obtain⟨cs,rfl,_,_⟩:=hval
 obtain⟨n,hn⟩:=hd
 obtain⟨x,h1,h2⟩:=ho.op _ _ _ hn
 refine⟨x,h1,?_⟩
 simp only[AVal.sat]
 exact⟨cs,rfl,X8G rfl h2⟩
theorem XnW {α:Type}{t e:TypeId}{r:Reach}{b0:Nat}{v:Value}{d:DataW H}{ps:List MemPlace}{p:α→Prop}{f:α→D} (ht:P.underlying t=some (.slice e))
  (hval:Value.okWide P W r b0 t v) (hd:DataW.Trod enc P W 0 (fun _=>true) true t v d ps) (ho:Opens enc P W t p (fun x=>[f x])):∃x,p x∧(AVal.d (f x)).sat (g0 W.cell?) v:=by
 obtain⟨a,n,c,rfl⟩:=okWide_slice ht hval
 obtain⟨n,hn⟩:=hd
 obtain⟨x,h1,h2⟩:=ho.op _ _ _ hn
 refine⟨x,h1,?_⟩
 have:=X8G (g:=g0 W.cell?) rfl h2
 simp only[List.map_cons,List.map_nil,Value.cells,XB] at this
 exact this.1
end
end Go.Fw
