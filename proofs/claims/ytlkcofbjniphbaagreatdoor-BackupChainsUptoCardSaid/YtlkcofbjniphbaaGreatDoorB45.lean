/- Opening what came in, with how much there is of it: the bulk of an argument bounds a measure of its data. -/
import Derived.Test.YtlkcofbjniphbaaGreatDoorRows
import Derived.KernelRfl
import Derived.Test.YtlkcofbjniphbaaGreatDoorB33
set_option maxHeartbeats 32000000
namespace Go.Fw
open Go Go.ChangeShapes Go.WideShapes Go.Deep Go.Proofs.YtlkcofbjniphbaaGreatDoor.Rows
set_option linter.unusedVariables false
section
variable {H:Type}{enc:TypeId×Value→H}{P:Program}{W:World}
def X3y {α:Type} (μ:α→Nat):List α→Nat
 |[]=>0
 |x::l=>μ x+X3y μ l
theorem XhH {α:Type}{μ:α→Nat}:∀(l:List α) (ds:List (DataW H)),ds.length=l.length→(∀(i:Nat) (x:α) (d:DataW H),l[i]? =some x→ds[i]? =some d→μ x≤uptoBulk d)→X3y μ l≤uptoBulkAll ds
 |[],ds,_,_=>Nat.zero_le _
 |x::l,[],h,_=>by simp at h
 |x::l,d::ds,h,hi=>by
  have h1:=hi 0 x d (by simp) (by simp)
  have h2:=XhH l ds (by simpa using h) fun i y e hy he=>hi (i+1) y e (by simpa using hy) (by simpa using he)
  rw[X3y,uptoBulkAll]
  omega
theorem Xf1 {α:Type}{t e:TypeId}{sz:Nat}{p:α→Prop}{μ:α→Nat}{f:α→List D} (ht:P.underlying t=some (.slice e)) (hz:P.cellsOf e=sz) (h0:0<sz) (ho:OpensM enc P W e p μ f):
  OpensM enc P W t (fun l:List α=>(∀r∈l,p r)∧l.length≤9223372036854775807) (fun l=>X3y μ l+1) (fun l=>[.sl sz (l.map f)]):=by
 refine⟨fun n cs x hx=> ?_⟩
 rcases DataW.trod_slice ht hx with ⟨rfl,hx⟩|⟨a,len,cap,elems,rest,n',hn,rfl,hx,_,hl,hm,hlen,hel,_,_⟩
 ·refine⟨[],⟨by simp,by simp⟩,Xhe _,?_⟩
  simp only[Uu,D.rep,List.map_nil]
  exact⟨⟨Option.none,0,rfl,Nat.le_refl _,Nat.zero_le _,.inl trivial⟩,trivial⟩
 have hel':∀i,i<len→∃r,(p r∧∀d,(elems.map (·.1))[i]? =some d→μ r≤uptoBulk d)∧(f r).length=sz∧∀j d,(f r)[j]? =some d→∃u,W.cell? ((a.add (i*sz)).add j)=some u∧d.rep W.cell? u:=by
  intro i hi
  have h0:=hel i hi
  rw[List.getElem?_eq_getElem (by omega)] at h0
  obtain⟨cs',h1,h2⟩:=Option.bind_eq_some_iff.1 h0
  obtain⟨r,h3,h3b,h4⟩:=ho.op _ _ _ h2
  obtain⟨_,h5,h6⟩:=World.cells?_some h1
  rw[hz] at h5 h6
  refine⟨r,⟨h3,fun d hd=> ?_⟩,by rw[←X8L h4,h5],fun j d hd=> ?_⟩
  ·rw[List.getElem?_map,List.getElem?_eq_getElem (by omega)] at hd
   simp only[Option.map_some,Option.some.injEq] at hd
   subst hd
   exact h3b
  obtain⟨u,h7,h8⟩:=X7Y h4 j d hd
  have hj:j<sz:=by
   have:=(List.getElem?_eq_some_iff.1 h7).1
   omega
  exact⟨u,(h6 j hj).trans h7,h8⟩
 obtain⟨l,h1,h2⟩:=X84 len hel'
 refine⟨l,⟨fun r hr=> ?_,by rw[h1];have hm':cap≤9223372036854775807:=hm;omega⟩,?_,?_⟩
 ·obtain⟨i,hi⟩:=List.getElem?_of_mem hr
  exact(h2 i r hi).1.1
 ·have:=XhH (μ:=μ) l (elems.map (·.1)) (by rw[List.length_map,h1];omega) fun i r d hr hd=>(h2 i r hr).1.2 d hd
  subst hx
  simp only[uptoBulk]
  omega
 simp only[Uu,D.rep]
 refine⟨⟨some a,cap,by rw[List.length_map,h1],by rw[List.length_map,h1];exact hl,hm,?_⟩,trivial⟩
 by_cases h00:len=0
 ·exact .inl (by rw[List.eq_nil_of_length_eq_zero (h1.trans h00)];rfl)
 right
 obtain⟨b,o,sp⟩:=a
 have hsp:sp=Option.none:=by
  obtain⟨r,hr⟩:∃r,l[0]? =some r:=⟨_,List.getElem?_eq_getElem (by omega)⟩
  obtain⟨_,hlen,hcell⟩:=h2 0 r hr
  obtain⟨d,hd⟩:∃d,(f r)[0]? =some d:=⟨_,List.getElem?_eq_getElem (by omega)⟩
  obtain⟨u,hu,_⟩:=hcell 0 d hd
  simpa [Addr.add] using World.cell?_spot hu
 subst hsp
 refine⟨b,o,rfl,X5v _ _ _ fun i r hr=> ?_⟩
 obtain⟨x,hx,rfl⟩:∃x,l[i]? =some x∧f x=r:=by simpa using hr
 obtain⟨_,hlen,hcell⟩:=h2 i x hx
 refine⟨hlen,X3x _ _ _ fun j d hd=> ?_⟩
 obtain⟨u,hu,hd⟩:=hcell j d hd
 rw[Uw,Uw] at hu
 exact⟨u,hu,hd⟩
structure OpensFM {α:Type} (enc:TypeId×Value→H) (P:Program) (W:World) (N:Nat) (fs:List Field) (off:Nat) (p:α→Prop) (μ:α→Nat) (f:α→List D):Prop where
 op:∀(cs:List Value) (n:Nat) (xs:List (DataW H×List MemPlace)),cs.length=N→xs.length=fs.length→(∀(i:Nat) (q:Field) (x:DataW H×List MemPlace),fs[i]? =some q→xs[i]? =some x→DataW.trod enc P W 0 (fun _=>true) true n q.type ((cs.drop q.offset).take (P.cellsOf q.type))=some x)→
  ∃r,p r∧μ r≤uptoBulkAll (xs.map (·.1))∧Uu W.cell? (f r) (cs.drop off)
theorem Xg6 {N:Nat}:OpensFM enc P W N [] N (fun _:Unit=>True) (fun _=>0) (fun _=>[]):=by
 refine⟨fun cs n xs hN _ _=>⟨(),trivial,Nat.zero_le _,?_⟩⟩
 rw[List.drop_of_length_le (by omega)];trivial
theorem X6o {α β:Type}{N:Nat}{q:Field}{fs:List Field}{off s:Nat}{p:α→Prop}{μ:α→Nat}{f:α→List D}{p':β→Prop}{μ':β→Nat}{f':β→List D} (hoff:q.offset=off) (hs:P.cellsOf q.type=s)
  (h:OpensM enc P W q.type p μ f) (k:OpensFM enc P W N fs (off+s) p' μ' f'):OpensFM enc P W N (q::fs) off (fun r:α×β=>p r.1∧p' r.2) (fun r=>μ r.1+μ' r.2) (fun r=>f r.1++f' r.2):=by
 refine⟨fun cs n xs hN hl hall=> ?_⟩
 cases xs with
 |nil=>simp at hl
 |cons x xs=>
  have hx:=hall 0 q x (by simp) (by simp)
  rw[hoff,hs] at hx
  obtain⟨r,h1,h1b,h2⟩:=h.op _ _ _ hx
  obtain⟨r',h3,h3b,h4⟩:=k.op cs n xs hN (by simpa using hl) fun i q' x' hq' hx'=>hall (i+1) q' x' (by simpa using hq') (by simpa using hx')
  refine⟨(r,r'),⟨h1,h3⟩,?_,?_⟩
  ·simp only[List.map_cons,uptoBulkAll]
   omega
  ·have:=X8j h2 h4
   rwa [←List.drop_drop,List.take_append_drop] at this
theorem XiF {α:Type}{t:TypeId}{fs:Array Field}{N:Nat}{p:α→Prop}{μ:α→Nat}{f:α→List D} (ht:P.underlying t=some (.struct fs)) (hN:P.cellsOf t=N) (h:OpensFM enc P W N fs.toList 0 p μ f):OpensM enc P W t p μ f:=by
 refine⟨fun n cs x hx=> ?_⟩
 obtain⟨xs,n',_,hx',hl,hlen,hf⟩:=DataW.trod_struct ht hx
 obtain⟨r,h1,h2,h3⟩:=h.op cs n' xs (hl.trans hN) (by simpa using hlen) fun i q y hq hy=>by
  have h1:=hf i q (by simpa using hq)
  exact h1.trans hy
 refine⟨r,h1,?_,by simpa using h3⟩
 subst hx'
 simp only[uptoBulk]
 omega
theorem Xg7 {α:Type}{t:TypeId}{fs:Array Field}{r:Reach}{b0:Nat}{v:Value}{d:DataW H}{ps:List MemPlace}{p:α→Prop}{μ:α→Nat}{f:α→List D} (ht:P.underlying t=some (.struct fs))
  (hval:Value.okWide P W r b0 t v) (hd:DataW.Trod enc P W 0 (fun _=>true) true t v d ps) (ho:OpensM enc P W t p μ f):∃x,(p x∧μ x≤uptoBulk d)∧(AVal.agg ((f x).map .d)).sat (g0 W.cell?) v:=by
 simp only[Value.okWide,ht] at hval
 obtain⟨cs,rfl,_,_⟩:=hval
 obtain⟨n,hn⟩:=hd
 obtain⟨x,h1,h2,h3⟩:=ho.op _ _ _ hn
 refine⟨x,⟨h1,h2⟩,?_⟩
 simp only[AVal.sat]
 exact⟨cs,rfl,X8G rfl h3⟩
end
open Go
def Up (c:Chg):List UInt8:=if YJ c=0 then YP c else []
open Go Go.Proofs
set_option maxRecDepth 100000
set_option linter.unusedSimpArgs false
theorem X7X {c:Chg} (h:YJ c=0):(1≤c.op∧c.op≤8)∧(1≤c.id∧c.id≤1000000)∧(c.op=6→(1≤c.src∧c.src≤1000000)∧1≤c.dst∧c.dst≤1000000)∧(Yo c.op=true→c.name.length≤20)∧
  (Yi c.op=true→Xe 8 c.v=true∧(Y3 c.v).length≤111):=by
 unfold YJ at h
 split at h
 ·omega
 rename_i h1
 split at h
 ·omega
 rename_i h2
 split at h
 ·omega
 rename_i h3
 split at h
 ·omega
 rename_i h4
 split at h
 ·omega
 rename_i h5
 have i1:decide (1≤c.op∧c.op≤8)=true:=by
  cases hd:decide (1≤c.op∧c.op≤8) with
  |true=>rfl
  |false=>exact absurd (.inl hd) h1
 have i2:idV c.id=true:=by
  cases hd:idV c.id with
  |true=>rfl
  |false=>exact absurd (.inr hd) h1
 refine⟨of_decide_eq_true i1,of_decide_eq_true i2,fun h6=> ?_,fun hn=> ?_,fun hv=> ?_⟩
 ·have j1:idV c.src=true:=by
   cases hd:idV c.src with
   |true=>rfl
   |false=>exact absurd (.inl ⟨h6,.inl hd⟩) h2
  have j2:idV c.dst=true:=by
   cases hd:idV c.dst with
   |true=>rfl
   |false=>exact absurd (.inl ⟨h6,.inr hd⟩) h2
  exact⟨of_decide_eq_true j1,of_decide_eq_true j2⟩
 ·have j1:XZ c.name=true:=by
   cases hd:XZ c.name with
   |true=>rfl
   |false=>exact absurd ⟨hn,hd⟩ h4
  unfold XZ at j1
  simp at j1
  omega
 ·have j1:Xe 8 c.v=true∧(c.v.kind=0∨c.v.kind=1∨c.v.kind=2∨c.v.kind=4):=by
   cases hz:Um c.v with
   |true=>
    unfold Um at hz
    simp at hz
    exact⟨hz.1,.inl hz.2⟩
   |false=>
    cases hp:U5 c.v with
    |true=>
     unfold U5 X5U at hp
     simp at hp
     exact⟨hp.2,.inr hp.1⟩
    |false=>exact absurd ⟨hv,hz,hp⟩ h5
  obtain⟨op,id,src,dst,name,⟨k,n,d,s,l⟩⟩:=c
  simp only[Val.kind] at j1 ⊢
  exact⟨j1.1,Xep j1.1 (by omega) (by omega)⟩
theorem Xm8 (c:Chg) (h:YJ c=0):Con Tryz.prog 82 [] [Xx c] [(130,.row 1 ((YP c).map Xc))] (.own 130 ((YP c).map Xc).length):=by
 obtain⟨⟨hop1,hop2⟩,hid,hsd,hnm,hvl⟩:=X7X h
 obtain⟨op,id,src,dst,name,v⟩:=c
 simp only at hop1 hop2 hid hsd hnm hvl
 have hpi:=X3H id (by omega)
 have hli:(Xm id).length≤10:=by rw[X1j (by omega)];exact X0Q (by omega)
 have hf:=XiI op
 clear h
 by_cases k1:op=1
 ·subst k1
  clear hop1 hop2
  have hput:YP ⟨1,id,src,dst,name,v⟩=UInt8.ofNat 1::(Xm id):=by unfold YP;simp[Yo,Yi]
  rw[hput]
  clear hput
  generalize Xm id=w0 at*
  obtain⟨vk,vn,vd,vs,vl⟩:=v
  simp only[Xx,Xv] at*
  refine Xg (xs:=[.own 130 ((UInt8.ofNat 1::(w0)).map Xc).length]) Tryz.func82 rfl Tryz.ntmps82 rfl rfl rfl (fun E=> ?_)
  refine Qgi ?_;refine Qkd ?_;refine Qhi ?_
  refine X1 ⟨_,Xw 2 (y:= .own 130 ((UInt8.ofNat 1::(w0)).map Xc).length) (AVal.le_of_eq ?_),⟨rfl,trivial⟩,Xn ⟨?_,trivial⟩⟩
  ·refine Qd ?_
   congr 1
   simp only[List.length_append,List.length_map,List.length_cons,List.length_nil]<;>omega
  ·refine Qjd ?_
   simp only[List.map_append,List.map_cons,List.map_nil,List.append_assoc,List.cons_append,List.nil_append]<;>rfl
 by_cases k2:op=2
 ·subst k2
  clear hop1 hop2
  have hput:YP ⟨2,id,src,dst,name,v⟩=UInt8.ofNat 2::(Xm id):=by unfold YP;simp[Yo,Yi]
  rw[hput]
  clear hput
  generalize Xm id=w0 at*
  obtain⟨vk,vn,vd,vs,vl⟩:=v
  simp only[Xx,Xv] at*
  refine Xg (xs:=[.own 130 ((UInt8.ofNat 2::(w0)).map Xc).length]) Tryz.func82 rfl Tryz.ntmps82 rfl rfl rfl (fun E=> ?_)
  refine Qgi ?_;refine Qnd ?_;refine Qhi ?_
  refine X1 ⟨_,Xw 2 (y:= .own 130 ((UInt8.ofNat 2::(w0)).map Xc).length) (AVal.le_of_eq ?_),⟨rfl,trivial⟩,Xn ⟨?_,trivial⟩⟩
  ·refine Qd ?_
   congr 1
   simp only[List.length_append,List.length_map,List.length_cons,List.length_nil]<;>omega
  ·refine Qjd ?_
   simp only[List.map_append,List.map_cons,List.map_nil,List.append_assoc,List.cons_append,List.nil_append]<;>rfl
 by_cases k3:op=3
 ·subst k3
  clear hop1 hop2
  have hnm:=hnm rfl
  have hpn:=X2M name (by omega)
  have hln:(XX name).length≤30:=by
   have:=X43 (n:=name.length) (by omega)
   unfold XX
   rw[List.length_append]
   omega
  have hput:YP ⟨3,id,src,dst,name,v⟩=UInt8.ofNat 3::(Xm id++XX name):=by unfold YP;simp[Yo,Yi]
  rw[hput]
  clear hput
  generalize Xm id=w0 at*
  generalize XX name=w1 at*
  obtain⟨vk,vn,vd,vs,vl⟩:=v
  simp only[Xx,Xv] at*
  refine Xg (xs:=[.own 130 ((UInt8.ofNat 3::(w0++w1)).map Xc).length]) Tryz.func82 rfl Tryz.ntmps82 rfl rfl rfl (fun E=> ?_)
  refine Qgi ?_;refine Qod ?_;refine Qii ?_;refine Z3 (hcon:=hpn) ?_;refine QJc ?_
  refine X1 ⟨_,Xw 2 (y:= .own 130 ((UInt8.ofNat 3::(w0++w1)).map Xc).length) (AVal.le_of_eq ?_),⟨rfl,trivial⟩,Xn ⟨?_,trivial⟩⟩
  ·refine Qd ?_
   congr 1
   simp only[List.length_append,List.length_map,List.length_cons,List.length_nil]<;>omega
  ·refine Qjd ?_
   simp only[List.map_append,List.map_cons,List.map_nil,List.append_assoc,List.cons_append,List.nil_append]<;>rfl
 by_cases k4:op=4
 ·subst k4
  clear hop1 hop2
  have hnm:=hnm rfl
  have hpn:=X2M name (by omega)
  have hln:(XX name).length≤30:=by
   have:=X43 (n:=name.length) (by omega)
   unfold XX
   rw[List.length_append]
   omega
  have hput:YP ⟨4,id,src,dst,name,v⟩=UInt8.ofNat 4::(Xm id++XX name):=by unfold YP;simp[Yo,Yi]
  rw[hput]
  clear hput
  generalize Xm id=w0 at*
  generalize XX name=w1 at*
  obtain⟨vk,vn,vd,vs,vl⟩:=v
  simp only[Xx,Xv] at*
  refine Xg (xs:=[.own 130 ((UInt8.ofNat 4::(w0++w1)).map Xc).length]) Tryz.func82 rfl Tryz.ntmps82 rfl rfl rfl (fun E=> ?_)
  refine Qgi ?_;refine Qqd ?_;refine Qii ?_;refine Z3 (hcon:=hpn) ?_;refine QJc ?_
  refine X1 ⟨_,Xw 2 (y:= .own 130 ((UInt8.ofNat 4::(w0++w1)).map Xc).length) (AVal.le_of_eq ?_),⟨rfl,trivial⟩,Xn ⟨?_,trivial⟩⟩
  ·refine Qd ?_
   congr 1
   simp only[List.length_append,List.length_map,List.length_cons,List.length_nil]<;>omega
  ·refine Qjd ?_
   simp only[List.map_append,List.map_cons,List.map_nil,List.append_assoc,List.cons_append,List.nil_append]<;>rfl
 by_cases k5:op=5
 ·subst k5
  clear hop1 hop2
  have hnm:=hnm rfl
  have hpn:=X2M name (by omega)
  have hln:(XX name).length≤30:=by
   have:=X43 (n:=name.length) (by omega)
   unfold XX
   rw[List.length_append]
   omega
  have hvl:=hvl rfl
  have hpv:=Xbl v (by omega)
  have hlv:(YN v).length≤111:=by
   unfold YN
   rw[if_pos hvl.1]
   exact hvl.2
  have hput:YP ⟨5,id,src,dst,name,v⟩=UInt8.ofNat 5::(Xm id++XX name++YN v):=by unfold YP;simp[Yo,Yi]
  rw[hput]
  clear hput
  generalize Xm id=w0 at*
  generalize XX name=w1 at*
  generalize YN v=w2 at*
  obtain⟨vk,vn,vd,vs,vl⟩:=v
  simp only[Xx,Xv] at*
  refine Xg (xs:=[.own 130 ((UInt8.ofNat 5::(w0++w1++w2)).map Xc).length]) Tryz.func82 rfl Tryz.ntmps82 rfl rfl rfl (fun E=> ?_)
  refine Qgi ?_;refine Qrd ?_;refine Qii ?_;refine Z3 (hcon:=hpn) ?_;refine W8_ ?_;refine Qe ?_;refine Z3 (hcon:=hpv) ?_;refine W8_ ?_
  refine X1 ⟨_,Xw 2 (y:= .own 130 ((UInt8.ofNat 5::(w0++w1++w2)).map Xc).length) (AVal.le_of_eq ?_),⟨rfl,trivial⟩,Xn ⟨?_,trivial⟩⟩
  ·refine Qd ?_
   congr 1
   simp only[List.length_append,List.length_map,List.length_cons,List.length_nil]<;>omega
  ·refine Qjd ?_
   simp only[List.map_append,List.map_cons,List.map_nil,List.append_assoc,List.cons_append,List.nil_append]<;>rfl
 by_cases k6:op=6
 ·subst k6
  clear hop1 hop2
  have hsd:=hsd rfl
  have hps:=X3H src (by omega)
  have hpd:=X3H dst (by omega)
  have hls:(Xm src).length≤10:=by rw[X1j (by omega)];exact X0Q (by omega)
  have hld:(Xm dst).length≤10:=by rw[X1j (by omega)];exact X0Q (by omega)
  have hnm:=hnm rfl
  have hpn:=X2M name (by omega)
  have hln:(XX name).length≤30:=by
   have:=X43 (n:=name.length) (by omega)
   unfold XX
   rw[List.length_append]
   omega
  have hput:YP ⟨6,id,src,dst,name,v⟩=UInt8.ofNat 6::(Xm id++Xm src++Xm dst++XX name):=by unfold YP;simp[Yo,Yi]
  rw[hput]
  clear hput
  generalize Xm id=w0 at*
  generalize Xm src=w1 at*
  generalize Xm dst=w2 at*
  generalize XX name=w3 at*
  obtain⟨vk,vn,vd,vs,vl⟩:=v
  simp only[Xx,Xv] at*
  refine Xg (xs:=[.own 130 ((UInt8.ofNat 6::(w0++w1++w2++w3)).map Xc).length]) Tryz.func82 rfl Tryz.ntmps82 rfl rfl rfl (fun E=> ?_)
  refine Qgi ?_;refine Qsd ?_;refine Z9 (γ:=130) ?_;refine W2_ ?_;refine Z3 (hcon:=hpi) ?_;refine W8_ ?_;refine QCa ?_;refine Z3 (hcon:=hps) ?_;refine W7_ ?_;refine Z3 (hcon:=hpd) ?_;refine W8_ ?_;refine Qe ?_;refine Z3 (hcon:=hpn) ?_;refine QJc ?_
  refine X1 ⟨_,Xw 2 (y:= .own 130 ((UInt8.ofNat 6::(w0++w1++w2++w3)).map Xc).length) (AVal.le_of_eq ?_),⟨rfl,trivial⟩,Xn ⟨?_,trivial⟩⟩
  ·refine Qd ?_
   congr 1
   simp only[List.length_append,List.length_map,List.length_cons,List.length_nil]<;>omega
  ·refine Qjd ?_
   simp only[List.map_append,List.map_cons,List.map_nil,List.append_assoc,List.cons_append,List.nil_append]<;>rfl
 by_cases k7:op=7
 ·subst k7
  clear hop1 hop2
  have hput:YP ⟨7,id,src,dst,name,v⟩=UInt8.ofNat 7::(Xm id):=by unfold YP;simp[Yo,Yi]
  rw[hput]
  clear hput
  generalize Xm id=w0 at*
  obtain⟨vk,vn,vd,vs,vl⟩:=v
  simp only[Xx,Xv] at*
  refine Xg (xs:=[.own 130 ((UInt8.ofNat 7::(w0)).map Xc).length]) Tryz.func82 rfl Tryz.ntmps82 rfl rfl rfl (fun E=> ?_)
  refine Qgi ?_;refine Qtd ?_;refine Qhi ?_
  refine X1 ⟨_,Xw 2 (y:= .own 130 ((UInt8.ofNat 7::(w0)).map Xc).length) (AVal.le_of_eq ?_),⟨rfl,trivial⟩,Xn ⟨?_,trivial⟩⟩
  ·refine Qd ?_
   congr 1
   simp only[List.length_append,List.length_map,List.length_cons,List.length_nil]<;>omega
  ·refine Qjd ?_
   simp only[List.map_append,List.map_cons,List.map_nil,List.append_assoc,List.cons_append,List.nil_append]<;>rfl
 by_cases k8:op=8
 ·subst k8
  clear hop1 hop2
  have hnm:=hnm rfl
  have hpn:=X2M name (by omega)
  have hln:(XX name).length≤30:=by
   have:=X43 (n:=name.length) (by omega)
   unfold XX
   rw[List.length_append]
   omega
  have hvl:=hvl rfl
  have hpv:=Xbl v (by omega)
  have hlv:(YN v).length≤111:=by
   unfold YN
   rw[if_pos hvl.1]
   exact hvl.2
  have hput:YP ⟨8,id,src,dst,name,v⟩=UInt8.ofNat 8::(Xm id++XX name++YN v):=by unfold YP;simp[Yo,Yi]
  rw[hput]
  clear hput
  generalize Xm id=w0 at*
  generalize XX name=w1 at*
  generalize YN v=w2 at*
  obtain⟨vk,vn,vd,vs,vl⟩:=v
  simp only[Xx,Xv] at*
  refine Xg (xs:=[.own 130 ((UInt8.ofNat 8::(w0++w1++w2)).map Xc).length]) Tryz.func82 rfl Tryz.ntmps82 rfl rfl rfl (fun E=> ?_)
  refine Qgi ?_;refine Qvd ?_;refine Qii ?_;refine Z3 (hcon:=hpn) ?_;refine W8_ ?_;refine Qe ?_;refine Z3 (hcon:=hpv) ?_;refine W8_ ?_
  refine X1 ⟨_,Xw 2 (y:= .own 130 ((UInt8.ofNat 8::(w0++w1++w2)).map Xc).length) (AVal.le_of_eq ?_),⟨rfl,trivial⟩,Xn ⟨?_,trivial⟩⟩
  ·refine Qd ?_
   congr 1
   simp only[List.length_append,List.length_map,List.length_cons,List.length_nil]<;>omega
  ·refine Qjd ?_
   simp only[List.map_append,List.map_cons,List.map_nil,List.append_assoc,List.cons_append,List.nil_append]<;>rfl
 omega
theorem Xr5 (c:Chg) (h:YJ c=0):Con Tryz.prog 82 [] [Xx c] [] (.d (Xk (YP c))):=(Xm8 c h).data (by simp)
theorem Xlk (c:Chg):Con Tryz.prog 40 [] [Xx c] [] (.d (Xk (Up c))):=by
 refine Xg (xs:=[.d (Xk (Up c))]) Tryz.func40 rfl Tryz.ntmps40 rfl rfl rfl (fun E=> ?_)
 have hc:=X4c c
 unfold Up
 by_cases h:YJ c=0
 ·have hp:=Xr5 c h
  rw[h] at hc
  rw[if_pos h]
  generalize YP c=w at*
  obtain⟨op,id,src,dst,name,⟨k,n,d,s,l⟩⟩:=c
  simp only[Xx] at*
  refine Qhe ?_;exact Qxd
 ·rw[if_neg h]
  generalize YJ c=e at*
  obtain⟨op,id,src,dst,name,⟨k,n,d,s,l⟩⟩:=c
  simp only[Xx] at*
  refine Qhe ?_;exact Qwd
theorem X8q {c:Chg} (h:YJ c=0):(YP c).length≤200:=by
 obtain⟨h1,h2,h3,h4,h5⟩:=X7X h
 unfold YP
 have p1:=X1H (n:=c.id) (by omega)
 have p2:(if c.op=6 then Xm c.src++Xm c.dst else []).length≤20:=by
  split
  ·rename_i h6
   have q1:=X1H (n:=c.src) (by have:=h3 h6;omega)
   have q2:=X1H (n:=c.dst) (by have:=h3 h6;omega)
   rw[List.length_append];omega
  ·simp
 have p3:(if Yo c.op=true then XX c.name else []).length≤30:=by
  split
  ·rename_i h6
   exact VV (h4 h6)
  ·simp
 have p4:(if Yi c.op=true then YN c.v else []).length≤111:=by
  split
  ·rename_i h6
   unfold YN
   rw[if_pos (h5 h6).1]
   exact(h5 h6).2
  ·simp
 simp only[List.length_cons,List.length_append]
 omega
structure Cmt where
 ts:Int
 l:List Chg
structure Hist where
 base:Int
 g:Gra
 cs:List Cmt
def YV:Gra→List Cmt→Gra×Int
 |g,[]=>(g,0)
 |g,c::r=>if (Yd g c.l).2.2≠0 then (YL,(Yd g c.l).2.2) else YV (Yd g c.l).1 r
def tsV:Int→List Cmt→Bool
 |_,[]=>true
 |b,c::r=>decide (c.ts=b)&&tsV (b+1) r
def Vr (h:Hist):Int:=
 if h.base<0∨1000000000000000<h.base then 1 else if YH h.g≠0 then YH h.g else if 1000<h.cs.length then 4
 else if tsV (h.base+1) h.cs=false then 26 else (YV h.g h.cs).2
def Yy (h:Hist):Int:=h.base+h.cs.length
def YZ (h:Hist) (ts:Int):Int:=if Vr h≠0 then Vr h else if ts<h.base∨Yy h<ts then 23 else 0
def X42 (h:Hist):Int:=if Vr h≠0 then 0 else Yy h
def X2C (h:Hist) (ts:Int):List Chg:=if YZ h ts≠0 then [] else ((h.cs.drop (ts-h.base).toNat).map Cmt.l).flatten
theorem Xhp {l:List Cmt}{b:Int}{i:Nat}{c:Cmt} (h:l[i]? =some c):tsV (b+i) (l.drop i)=(decide (c.ts=b+i)&&tsV (b+(i+1:Nat)) (l.drop (i+1))):=by
 obtain⟨hi,h⟩:=List.getElem?_eq_some_iff.1 h
 rw[List.drop_eq_getElem_cons hi,h,tsV,show b+(i:Int)+1=b+((i+1:Nat):Int) by push_cast;omega]
theorem X6l {g:Gra} (h:GV g):YH g=0:=X6t.2 h
structure HV (h:Hist):Prop where
 b:0≤h.base∧h.base≤1000000000000000
 g:GV h.g
 cl:h.cs.length≤1000
 ts:tsV (h.base+1) h.cs=true
 ok:(YV h.g h.cs).2=0
theorem X4p {h:Hist}:Vr h=0↔HV h:=by
 unfold Vr
 constructor
 ·intro e
  by_cases c1:h.base<0∨1000000000000000<h.base
  ·rw[if_pos c1] at e;simp at e
  rw[if_neg c1] at e
  by_cases c2:YH h.g≠0
  ·rw[if_pos c2] at e;exact absurd e c2
  rw[if_neg c2] at e
  by_cases c3:1000<h.cs.length
  ·rw[if_pos c3] at e;simp at e
  rw[if_neg c3] at e
  by_cases c4:tsV (h.base+1) h.cs=false
  ·rw[if_pos c4] at e;simp at e
  rw[if_neg c4] at e
  exact⟨by omega,X6t.1 (by simpa using c2),by omega,by simpa using c4,e⟩
 ·intro v
  have:=v.b
  have:=v.cl
  rw[if_neg (by omega),if_neg (by simp[X6l v.g]),if_neg (by omega),if_neg (by simp[v.ts])]
  exact v.ok
theorem X1Y {h:Hist}{ts:Int} (e:YZ h ts=0):HV h∧h.base≤ts∧ts≤Yy h:=by
 unfold YZ at e
 by_cases c:Vr h≠0
 ·rw[if_pos c] at e;exact absurd e c
 rw[if_neg c] at e
 by_cases c2:ts<h.base∨Yy h<ts
 ·rw[if_pos c2] at e;simp at e
 exact⟨X4p.1 (by simpa using c),by omega,by omega⟩
theorem XbP {n:Nat}:∀(l:List Cmt),(∀c∈l,c.l.length≤n)→((l.map Cmt.l).flatten).length≤l.length*n
 |[],_=>by simp
 |c::r,h=>by
  have ih:=XbP r fun x hx=>h x (by simp[hx])
  have:=h c (by simp)
  rw[List.map_cons,List.flatten_cons,List.length_append,List.length_cons,Nat.add_mul,Nat.one_mul];omega
theorem XhK {l:List Cmt}{i:Nat}{c:Cmt} (h:l[i]? =some c):((l.drop i).map Cmt.l).flatten=c.l++((l.drop (i+1)).map Cmt.l).flatten:=by
 obtain⟨hl,h⟩:=List.getElem?_eq_some_iff.1 h
 rw[List.drop_eq_getElem_cons hl,h,List.map_cons,List.flatten_cons]
theorem Xbn {h:Hist} (v:HV h):X42 h=Yy h:=by unfold X42;rw[if_neg (by simp[X4p.2 v])]
def Vf (l:List Chg):List UInt8:=Vw Up l
def X2b (h:Hist) (ts:Int):List Cmt:=h.cs.filter fun c=>decide (ts<c.ts)
def X2f (h:Hist) (ts:Int):List (List UInt8):=Ul [ts,Yy h]::(X2b h ts).map fun c=>Vf c.l
def X1d (h:Hist) (ts:Int):List UInt8:=Yn++Yz (X2f h ts)
def X1y (h:Hist) (ts:Int):List UInt8:=if YZ h ts≠0 then [] else X1d h ts
theorem Xhx:∀(l:List Chg) (g:Gra) (k:Nat),(Ur g k l).2.2=0→∀c∈l,YJ c=0
 |[],_,_,_,c,h=>by simp at h
 |x::r,g,k,h,c,hc=>by
  rw[Ur] at h
  by_cases q:(YD g x).2≠0
  ·rw[if_pos q] at h;exact absurd h q
  rw[if_neg q] at h
  rcases List.mem_cons.1 hc with rfl|hc
  ·unfold YD at q
   by_cases z:YJ c≠0
   ·rw[if_pos z] at q;exact absurd z q
   ·simpa using z
  ·exact Xhx r _ _ h c hc
theorem XjI {g:Gra}{l:List Chg} (h:(Yd g l).2.2=0):∀c∈l,YJ c=0:=by
 unfold Yd at h
 by_cases q:YH g≠0
 ·rw[if_pos q] at h;exact absurd h q
 rw[if_neg q] at h
 exact Xhx l _ _ h
theorem X6Z:∀(l:List Cmt) (g:Gra),(YV g l).2=0→∀c∈l,∀x∈c.l,YJ x=0
 |[],_,_,c,h=>by simp at h
 |y::r,g,h,c,hc=>by
  rw[YV] at h
  by_cases q:(Yd g y.l).2.2≠0
  ·rw[if_pos q] at h;exact absurd h q
  rw[if_neg q] at h
  rcases List.mem_cons.1 hc with rfl|hc
  ·exact XjI (by simpa using q)
  ·exact X6Z r _ h c hc
theorem X5P {l:List Chg} (h:∀c∈l,YJ c=0) (hl:l.length≤1000000000):(Vf l).length≤10+200*l.length:=by
 unfold Vf Vw
 have h1:=X1H (n:=(l.length:Nat)) (by omega)
 have h2:=X3d (w:=Up) (k:=200) (l:=l) fun c hc=>by
  rw[show Up c=YP c from if_pos (h c hc)];exact X8q (h c hc)
 simp only[List.length_append]
 omega
def Ud:List Cmt→Nat
 |[]=>0
 |c::r=>1+c.l.length+Ud r
theorem X6R:∀{l:List Cmt}{c:Cmt},c∈l→1+c.l.length≤Ud l
 |x::l,c,h=>by
  rw[Ud]
  rcases List.mem_cons.1 h with rfl|h
  ·omega
  ·have:=X6R h;omega
theorem Xb8:∀l:List Cmt,l.length≤Ud l
 |[]=>by simp
 |c::r=>by have:=Xb8 r;rw[Ud,List.length_cons];omega
theorem Xf5:Tryz.prog.cellsOf 71=10:=by kernel_rfl
section
variable {H:Type}{enc:TypeId×Value→H}{W:World}
theorem XjJ:Opens enc Tryz.prog W 71 X3c Y1:=
 (X6g Tryz.underlying71 Xf5
  (VW rfl X12 (X0O Tryz.underlying3) (VW rfl X12 (X0O Tryz.underlying3) (VW rfl X12 (X0O Tryz.underlying3) (VW rfl X12 (X0O Tryz.underlying3)
   (VW rfl X63 (X6d Tryz.underlying9) (VW rfl X7B XgD X71))))))).to
  (fun r=>⟨r.1,r.2.1,r.2.2.1,r.2.2.2.1,r.2.2.2.2.1,r.2.2.2.2.2.1⟩) fun r h=>⟨⟨h.2.2.2.2.1,h.2.2.2.2.2.1⟩,by
   obtain⟨op,id,src,dst,name,v,u⟩:=r
   cases v
   rfl⟩
end
theorem Xns:Tryz.prog.cellsOf 69=1:=by kernel_rfl
section
variable {H:Type}{enc:TypeId×Value→H}{W:World}
def Xhi (l:List Chg):Prop:=(∀c∈l,X3c c)∧l.length≤9223372036854775807
end
def XV (c:Cmt):List D:=[.v (.int .i64 c.ts),.sl 10 (c.l.map Y1)]
def Xd2 (h:Hist):List D:= .v (.int .i64 h.base)::(Xat h.g++[.sl 2 (h.cs.map XV)])
def YS (h:Hist):AVal:= .agg [ai h.base,.d (.sl 3 (h.g.nodes.map Xp)),.d (.sl 5 (h.g.edges.map Xs)),ai h.g.nn,ai h.g.ne,.d (.sl 2 (h.cs.map XV))]
theorem XhR (h:Hist):YS h= .agg ((Xd2 h).map .d):=rfl
def X7C (c:Cmt):Prop:=Xhi c.l∧ -9223372036854775808≤c.ts∧c.ts≤9223372036854775807
structure HistHold (h:Hist):Prop where
 g:GraHold h.g
 cl:h.cs.length≤9223372036854775807
 cs:∀c∈h.cs,X7C c
theorem XiQ:Tryz.prog.cellsOf 82=2:=by kernel_rfl
theorem Xp0:Tryz.prog.cellsOf 34=1:=by kernel_rfl
theorem Xjc:Tryz.prog.cellsOf 36=6:=by kernel_rfl
structure HistFit (h:Hist):Prop where
 hold:HistHold h
 len:∀c∈h.cs,c.l.length≤2000000
theorem X1E (cs:List Cmt):(cs.map XV).length=cs.length:=by simp
theorem Xex {g:Gra}{l:List Cmt}{i:Nat}{c:Cmt} (h:l[i]? =some c):YV g (l.drop i)=if (Yd g c.l).2.2≠0 then (YL,(Yd g c.l).2.2) else YV (Yd g c.l).1 (l.drop (i+1)):=by
 obtain⟨hl,h⟩:=List.getElem?_eq_some_iff.1 h
 rw[List.drop_eq_getElem_cons hl,h,YV]
theorem XcO (g:Gra) (cs:List Cmt) (hg:GraHold g) (hc:∀c∈cs,X7C c) (hl:cs.length≤9223372036854775807):Con Tryz.prog 51 [] [XG g,.d (.sl 2 (cs.map XV))] [] (.tup [XG (YV g cs).1,ai (YV g cs).2]):=by
 refine Xg (xs:=[XG (YV g cs).1,ai (YV g cs).2]) Tryz.func51 rfl Tryz.ntmps51 rfl rfl rfl (fun E=> ?_)
 have hlm:=X1E cs
 generalize hR:YV g cs=R
 obtain⟨ns,es,nn,ne⟩:=g
 simp only[XG]
 refine XC ?_
 refine XK (ι:=Nat×Gra) (fun q=>q.1≤cs.length∧GraHold q.2∧YV q.2 (cs.drop q.1)=R) (fun q=>⟨32,[(2,.ptr 100 0),(4,.ptr 101 0),(11,.d (.sl 2 (cs.map XV))),(12,ai (cs.map XV).length),(13,ai q.1)],[(100,.box [.d (.sl 3 (q.2.nodes.map Xp)),.d (.sl 5 (q.2.edges.map Xs)),ai q.2.nn,ai q.2.ne]),(101,.box [ani,ani,ai 0,ai 0])]⟩) (fun q=>cs.length-q.1) (0,⟨ns,es,nn,ne⟩) ⟨Nat.zero_le _,hg,by simpa using hR⟩
  (Xd rfl JM ⟨rfl,rfl,trivial⟩) ?_
 rintro⟨i,g⟩ ⟨hi,hg,hr⟩
 simp only at hi hg hr
 clear hR
 by_cases hil:i<cs.length
 case neg=>
  have hn:¬(i:Int)<(cs.map XV).length:=by omega
  rw[List.drop_of_length_le (by omega)] at hr
  have hr:(g,0)=R:=hr
  subst hr
  obtain⟨ns,es,nn,ne⟩:=g
  simp only
  refine W5_ ?_;refine Qma ?_
  (show AWP Tryz.prog E _ _ _;refine X1 ?_;exact(show Xy _ _ _ _ _ from⟨_,St.le_refl _,⟨⟨101,0,_,rfl,rfl,.inr ⟨4,_,rfl,rfl,rfl,rfl⟩⟩,rfl,trivial⟩,X2 _⟩))
 have hn:(i:Int)<(cs.map XV).length:=by omega
 obtain⟨x,hx⟩:=XI (l:=cs) hil
 have hxc:(cs.map XV)[i]? =some (XV x):=Y5 hx
 have hs:=Xa3 g x.l hg (hc x (List.mem_of_getElem? hx)).1.2
 have hg':=XcM g x.l
 rw[Xex hx] at hr
 clear hx hc hg
 generalize (Yd g x.l).1=g' at*
 generalize (Yd g x.l).2.1=m at*
 generalize (Yd g x.l).2.2=e at*
 obtain⟨ts,l⟩:=x
 obtain⟨ns,es,nn,ne⟩:=g
 obtain⟨ns',es',nn',ne'⟩:=g'
 simp only[XG,XV] at*
 by_cases hq:e≠0
 ·rw[if_pos hq] at hr
  subst hr
  simp only[List.map_nil]
  refine Qdh ?_;refine XA ?_;refine QWc ?_
  (show AWP Tryz.prog E _ _ _;refine X1 ?_;exact(show Xy _ _ _ _ _ from⟨_,XF 101 (cs':=[.d (.sl 3 []),.d (.sl 5 []),ai 0,ai 0]) rfl JM rfl,⟨⟨101,0,_,rfl,rfl,.inr ⟨4,_,rfl,rfl,rfl,rfl⟩⟩,rfl,trivial⟩,X2 _⟩))
 rw[if_neg hq] at hr
 obtain rfl:e=0:=by simpa using hq
 refine Qdh ?_;refine XA ?_;refine Qed ?_;exact QRh
theorem Xea (h:Hist) (hf:HistHold h):Con Tryz.prog 52 [] [YS h] [] (ai (Vr h)):=by
 refine Xg (xs:=[ai (Vr h)]) Tryz.func52 rfl Tryz.ntmps52 rfl rfl rfl (fun E=> ?_)
 obtain⟨base,g,cs⟩:=h
 have hgc:=X7q g hf.g
 have hap:=XcO g cs hf.g hf.cs hf.cl
 have hl:=hf.cl
 simp only at hgc hap hl
 have hlm:=X1E cs
 unfold Vr
 simp only
 clear hf
 obtain⟨ns,es,nn,ne⟩:=g
 simp only[YS,XG] at*
 by_cases c1:base<0∨1000000000000000<base
 ·rw[if_pos c1]
  by_cases c0:base<0
  ·refine Xt ?_;refine Qw ?_;refine Qs ?_;refine Qe ?_
   (show AWP Tryz.prog E _ _ _;refine X1 ?_;exact(show Xy _ _ _ _ _ from⟨_,St.le_refl _,⟨rfl,trivial⟩,X2 _⟩))
  ·have c0':1000000000000000<base:=by omega
   refine XA ?_;refine QP ?_;refine Qe ?_
   (show AWP Tryz.prog E _ _ _;refine X1 ?_;exact(show Xy _ _ _ _ _ from⟨_,St.le_refl _,⟨rfl,trivial⟩,X2 _⟩))
 rw[if_neg c1]
 have c2:¬base<0:=by omega
 have c3:¬1000000000000000<base:=by omega
 by_cases c4:YH ⟨ns,es,nn,ne⟩≠0
 ·rw[if_pos c4]
  clear hap
  generalize YH ⟨ns,es,nn,ne⟩=e at*
  refine Qji ?_;refine QCa ?_
  (show AWP Tryz.prog E _ _ _;refine X1 ?_;exact(show Xy _ _ _ _ _ from⟨_,St.le_refl _,⟨rfl,trivial⟩,X2 _⟩))
 rw[if_neg c4]
 have c4:YH ⟨ns,es,nn,ne⟩=0:=by simpa using c4
 rw[c4] at hgc
 clear c4
 by_cases c5:1000<cs.length
 ·rw[if_pos c5]
  have c5':(1000:Int)<(cs.map XV).length:=by omega
  clear hap
  refine Qji ?_;refine Qed ?_;refine Qe ?_
  (show AWP Tryz.prog E _ _ _;refine X1 ?_;exact(show Xy _ _ _ _ _ from⟨_,St.le_refl _,⟨rfl,trivial⟩,X2 _⟩))
 rw[if_neg c5]
 have c5':¬(1000:Int)<(cs.map XV).length:=by omega
 generalize hB:tsV (base+1) cs=B
 generalize YV ⟨ns,es,nn,ne⟩ cs=R at*
 obtain⟨⟨ns',es',nn',ne'⟩,e⟩:=R
 simp only at hap ⊢
 refine Qji ?_;refine Qed ?_;refine QUc ?_
 clear hgc
 refine XK (fun i:Nat=>i≤cs.length∧tsV (base+1+(i:Nat)) (cs.drop i)=B) (fun i=>⟨52,[(1,.ptr 100 0),(27,.d (.sl 2 (cs.map XV))),(28,ai (cs.map XV).length),(29,ai i)],[(100,.box [ai base,.d (.sl 3 (ns.map Xp)),.d (.sl 5 (es.map Xs)),ai nn,ai ne,.d (.sl 2 (cs.map XV))])]⟩) (fun i=>cs.length-i) 0 ⟨Nat.zero_le _,by simpa using hB⟩
  (Xd rfl JM ⟨rfl,trivial⟩) ?_
 rintro i ⟨hi,hg⟩
 clear hB
 by_cases hil:i<cs.length
 case neg=>
  have hn:¬(i:Int)<(cs.map XV).length:=by omega
  rw[List.drop_of_length_le (by omega)] at hg
  have hg:true=B:=hg
  subst hg
  rw[if_neg (by simp)]
  refine W5_ ?_;refine Qma ?_;refine Z3 (hcon:=hap) ?_;refine Xt ?_
  (show AWP Tryz.prog E _ _ _;refine X1 ?_;exact(show Xy _ _ _ _ _ from⟨_,St.le_refl _,⟨rfl,trivial⟩,X2 _⟩))
 have hn:(i:Int)<(cs.map XV).length:=by omega
 obtain⟨x,hx⟩:=XI (l:=cs) hil
 have hxc:(cs.map XV)[i]? =some (XV x):=Y5 hx
 rw[Xhp hx] at hg
 obtain⟨ts,l⟩:=x
 simp only[XV] at hxc hg
 clear hx hap
 by_cases hq:ts=base+1+(i:Int)
 ·rw[decide_eq_true hq,Bool.true_and] at hg
  subst hq
  refine Qk ?_;refine X2a ?_;refine Qc ?_;exact QCh
 ·rw[decide_eq_false hq,Bool.false_and] at hg
  subst hg
  rw[if_pos rfl]
  refine Qk ?_;refine X2a ?_;refine Qe ?_
  (show AWP Tryz.prog E _ _ _;refine X1 ?_;exact(show Xy _ _ _ _ _ from⟨_,St.le_refl _,⟨rfl,trivial⟩,X2 _⟩))
theorem XhE (h:Hist) (hb:0≤h.base∧h.base≤1000000000000000) (hl:h.cs.length≤1000):Con Tryz.prog 53 [] [YS h] [] (ai (Yy h)):=by
 refine Xg (xs:=[ai (Yy h)]) Tryz.func53 rfl Tryz.ntmps53 rfl rfl rfl (fun E=> ?_)
 obtain⟨base,⟨ns,es,nn,ne⟩,cs⟩:=h
 simp only[YS,Yy] at*
 have hlm:=X1E cs
 rw[←hlm]
 refine XA ?_
 (show AWP Tryz.prog E _ _ _;refine X1 ?_;exact(show Xy _ _ _ _ _ from⟨_,St.le_refl _,⟨rfl,trivial⟩,X2 _⟩))
theorem Xfe (h:Hist) (ts:Int) (hf:HistHold h):Con Tryz.prog 49 [] [YS h,ai ts] [] (ai (YZ h ts)):=by
 refine Xg (xs:=[ai (YZ h ts)]) Tryz.func49 rfl Tryz.ntmps49 rfl rfl rfl (fun E=> ?_)
 have hk:=Xea h hf
 have hv:=X4p (h:=h)
 unfold YZ
 by_cases c:Vr h≠0
 ·rw[if_pos c]
  clear hv hf
  generalize Vr h=e at*
  obtain⟨base,⟨ns,es,nn,ne⟩,cs⟩:=h
  simp only[YS] at*
  refine Qki ?_;refine QCa ?_
  (show AWP Tryz.prog E _ _ _;refine X1 ?_;exact(show Xy _ _ _ _ _ from⟨_,St.le_refl _,⟨rfl,trivial⟩,X2 _⟩))
 rw[if_neg c]
 have c:Vr h=0:=by simpa using c
 have hv:=hv.1 c
 rw[c] at hk
 have hl:=XhE h hv.b hv.cl
 clear hv hf c
 generalize Yy h=z at*
 obtain⟨base,⟨ns,es,nn,ne⟩,cs⟩:=h
 simp only[YS] at*
 by_cases c1:ts<base
 ·rw[if_pos (.inl c1)]
  refine Qki ?_;refine Qed ?_;refine QL ?_;refine Qs ?_;refine Qe ?_
  (show AWP Tryz.prog E _ _ _;refine X1 ?_;exact(show Xy _ _ _ _ _ from⟨_,St.le_refl _,⟨rfl,trivial⟩,X2 _⟩))
 by_cases c2:z<ts
 ·rw[if_pos (.inr c2)]
  refine Qli ?_;refine QP ?_;refine Qe ?_
  (show AWP Tryz.prog E _ _ _;refine X1 ?_;exact(show Xy _ _ _ _ _ from⟨_,St.le_refl _,⟨rfl,trivial⟩,X2 _⟩))
 rw[if_neg (by omega)]
 refine Qli ?_;refine QZ ?_
 (show AWP Tryz.prog E _ _ _;refine X1 ?_;exact(show Xy _ _ _ _ _ from⟨_,St.le_refl _,⟨rfl,trivial⟩,X2 _⟩))
theorem Xfa (h:Hist) (hf:HistHold h):Con Tryz.prog 16 [] [YS h] [] (ai (X42 h)):=by
 refine Xg (xs:=[ai (X42 h)]) Tryz.func16 rfl Tryz.ntmps16 rfl rfl rfl (fun E=> ?_)
 have hk:=Xea h hf
 have hv:=X4p (h:=h)
 unfold X42
 by_cases c:Vr h≠0
 ·rw[if_pos c]
  clear hv hf
  generalize Vr h=e at*
  obtain⟨base,⟨ns,es,nn,ne⟩,cs⟩:=h
  simp only[YS] at*
  refine Qze ?_;refine W2_ ?_;refine Qe ?_
  (show AWP Tryz.prog E _ _ _;refine X1 ?_;exact(show Xy _ _ _ _ _ from⟨_,St.le_refl _,⟨rfl,trivial⟩,X2 _⟩))
 rw[if_neg c]
 have c:Vr h=0:=by simpa using c
 have hv:=hv.1 c
 rw[c] at hk
 have hl:=XhE h hv.b hv.cl
 clear hv hf c
 generalize Yy h=z at*
 obtain⟨base,⟨ns,es,nn,ne⟩,cs⟩:=h
 simp only[YS] at*
 refine Qze ?_;refine W2_ ?_;refine Qg ?_;refine QR ?_;refine W2_ ?_
 (show AWP Tryz.prog E _ _ _;refine X1 ?_;exact(show Xy _ _ _ _ _ from⟨_,St.le_refl _,⟨rfl,trivial⟩,X2 _⟩))
theorem XbE {h:Hist}{ts:Int} (e:YZ h ts=0):∃k:Nat,ts-h.base=(k:Int)∧(ts-h.base).toNat=k∧k≤h.cs.length:=by
 obtain⟨v,h1,h2⟩:=X1Y e
 unfold Yy at h2
 exact⟨(ts-h.base).toNat,by omega,rfl,by omega⟩
theorem X9Z {h:Hist}{ts:Int} (e:YZ h ts=0):0≤h.base∧h.base≤1000000000000000∧ -1000000000000000000≤ts∧ts≤1000000000000000000:=by
 obtain⟨v,h1,h2⟩:=X1Y e
 have:=v.b
 have:=v.cl
 unfold Yy at h2
 omega
theorem XqZ (h:Hist) (ts:Int) (hf:HistFit h):Con Tryz.prog 38 [] [YS h,ai ts] [] (.tup [.d (.sl 10 ((X2C h ts).map Y1)),ai (YZ h ts)]):=by
 refine Xg (xs:=[.d (.sl 10 ((X2C h ts).map Y1)),ai (YZ h ts)]) Tryz.func38 rfl Tryz.ntmps38 rfl rfl rfl (fun E=> ?_)
 have hk:=Xfe h ts hf.hold
 unfold X2C
 by_cases c:YZ h ts≠0
 ·rw[if_pos c]
  clear hf
  generalize YZ h ts=e at*
  obtain⟨base,⟨ns,es,nn,ne⟩,cs⟩:=h
  simp only[YS,List.map_nil] at*
  refine Qch ?_;refine Qb ?_
  (show AWP Tryz.prog E _ _ _;refine X1 ?_;exact(show Xy _ _ _ _ _ from⟨_,Xd rfl (τ:=[(4,.d (.sl 10 [])),(5,ai e)]) (L:=[]) JM trivial,⟨rfl,rfl,trivial⟩,X2 _⟩))
 rw[if_neg c]
 have c:YZ h ts=0:=by simpa using c
 rw[c] at hk ⊢
 obtain⟨k,k1,k2,k3⟩:=XbE c
 have hb:=X9Z c
 rw[k2]
 have hcl:=(X1Y c).1.cl
 have hlm:=X1E h.cs
 have hsl:(((h.cs.map XV).take (h.cs.map XV).length).drop k)=(h.cs.drop k).map XV:=by rw[List.take_length];simp
 have hDl:(h.cs.drop k).length≤1000:=by rw[List.length_drop];omega
 have hD:=fun(x:Cmt) (hx:x∈h.cs.drop k)=>hf.len x (List.mem_of_mem_drop hx)
 have hRl:=XbP (h.cs.drop k) hD
 clear hf c k2 hD
 generalize h.cs.drop k=D at*
 generalize hR:(D.map Cmt.l).flatten=R at*
 have hRb:R.length≤2000000000:=by omega
 have hDm:=X1E D
 obtain⟨base,⟨ns,es,nn,ne⟩,cs⟩:=h
 simp only[YS] at*
 have hkl:k≤(cs.map XV).length:=by omega
 refine Qch ?_;refine JF ?_;refine Xr ?_
 (refine Z1 (op:= .sub) (r':= .int .i64 (k:Nat)) (u:= .int .i64 ts) (v:= .int .i64 base) ?_ (hr':=by exact congrArg (Value.int .i64) k1) (hr:=by exact Yl (by unfold XT;omega)))
 refine Z7 (lb:=k) (hb:=(cs.map XV).length) (ys:=D.map XV) ?_ (hys:=by exact hsl);refine W4_ ?_
 clear hsl hk
 refine Xq (V3 7 131 10 rfl rfl rfl) ?_
 refine XK (ι:=Nat×List Chg) (fun q=>q.1≤D.length∧q.2++((D.drop q.1).map Cmt.l).flatten=R) (fun q=>⟨34,[(2,.ptr 100 0),(7,.own 131 (q.2.map Y1).length),(22,.d (.sl 2 (D.map XV))),(23,ai (D.map XV).length),(24,ai q.1)],[(100,.box [ai base,.d (.sl 3 (ns.map Xp)),.d (.sl 5 (es.map Xs)),ai nn,ai ne,.d (.sl 2 (cs.map XV))]),(131,.row 10 (q.2.map Y1))]⟩) (fun q=>D.length-q.1) (0,[]) ⟨Nat.zero_le _,by simpa using hR⟩
  (Xd rfl JM ⟨rfl,rfl,trivial⟩) ?_
 rintro⟨i,out⟩ ⟨hi,hg⟩
 simp only at hi hg
 clear hR
 by_cases hil:i<D.length
 case neg=>
  have hn:¬(i:Int)<(D.map XV).length:=by omega
  rw[List.drop_of_length_le (by omega),List.map_nil,List.flatten_nil,List.append_nil] at hg
  subst hg
  refine W5_ ?_;refine Qma ?_;refine Xq (Yg 131 rfl) ?_;refine Xq (Yx 4 131 rfl rfl rfl) ?_
  (show AWP Tryz.prog E _ _ _;refine X1 ?_;exact(show Xy _ _ _ _ _ from⟨_,St.le_refl _,⟨rfl,rfl,trivial⟩,X2 _⟩))
 have hn:(i:Int)<(D.map XV).length:=by omega
 obtain⟨x,hx⟩:=XI (l:=D) hil
 have hxc:(D.map XV)[i]? =some (XV x):=Y5 hx
 rw[XhK hx,←List.append_assoc] at hg
 have hrm:=X3M hg
 obtain⟨t',l⟩:=x
 simp only[XV] at hxc hg hrm
 rw[List.length_append] at hrm
 have hroom:(out.map Y1).length+(l.map Y1).length≤2000000000:=by rw[List.length_map,List.length_map];omega
 have hap:(out++l).map Y1=out.map Y1++l.map Y1:=List.map_append
 clear hx hRl
 refine Qk ?_;refine UY ?_
 refine⟨(i+1,out++l),⟨by simp only;omega,hg⟩,by simp only;omega,?_⟩
 dsimp only
 rw[hap]
 exact Xd rfl ⟨JL,AVal.le_of_eq (by refine Eq.trans (b:=AVal.own 131 (_+_)) rfl ?_;simp only[List.length_append]),JL,JL,JL,trivial⟩ ⟨rfl,rfl,trivial⟩
def Uf (ts:Int) (l:List Cmt):List (List UInt8):=(l.filter fun c=>decide (ts<c.ts)).map fun c=>Vf c.l
theorem Xhj {ts:Int}{l:List Cmt}{i:Nat}{x:Cmt} (h:l[i]? =some x) (q:ts<x.ts):Uf ts (l.take (i+1))=Uf ts (l.take i)++[Vf x.l]:=by
 unfold Uf
 rw[X3h h,List.filter_append,List.map_append,List.filter_cons,if_pos (by simpa using q)]
 simp
theorem Xeo {ts:Int}{l:List Cmt}{i:Nat}{x:Cmt} (h:l[i]? =some x) (q:¬ts<x.ts):Uf ts (l.take (i+1))=Uf ts (l.take i):=by
 unfold Uf
 rw[X3h h,List.filter_append,List.map_append,List.filter_cons,if_neg (by simpa using q)]
 simp
theorem X9M (ts:Int) (l:List Cmt):(Uf ts l).length≤l.length:=by
 unfold Uf
 rw[List.length_map]
 exact List.length_filter_le _ _
theorem XiH {ts:Int}{l:List Cmt}{b:List UInt8} (h:b∈Uf ts l):∃c∈l,b=Vf c.l:=by
 unfold Uf at h
 obtain⟨c,hc,rfl⟩:=List.mem_map.1 h
 exact⟨c,(List.mem_filter.1 hc).1,rfl⟩
theorem Xec {l:List Chg} (h:∀c∈l,YJ c=0) (k:Nat) (hl:l.length≤60):((l.take k).map Up).flatten.length≤12000:=by
 have h1:=X3d (w:=Up) (k:=200) (l:=l.take k) fun c hc=>by
  have:=h c (List.mem_of_mem_take hc)
  rw[show Up c=YP c from if_pos this];exact X8q this
 have:(l.take k).length≤60:=by simp;omega
 omega
theorem Xjg (a:Int):Ul [a]=Xm a:=by simp[Ul]
theorem Xha (h:Hist) (ts:Int) (hf:HistFit h) (ht:Ud h.cs≤60):Con Tryz.prog 12 [] [YS h,ai ts] [] (.tup [.d (Xk (X1y h ts)),ai (YZ h ts)]):=by
 refine Xg (xs:=[.d (Xk (X1y h ts)),ai (YZ h ts)]) Tryz.func12 rfl Tryz.ntmps12 rfl rfl rfl (fun E=> ?_)
 have hv:=XqZ h ts hf
 have hL:=Xfa h hf.hold
 by_cases he:YZ h ts=0
 case neg=>
  rw[show X1y h ts=[] from if_pos he]
  generalize YZ h ts=e at*
  generalize X2C h ts=ss at*
  clear hL ht hf
  obtain⟨base,⟨ns,es,nn,ne⟩,cs⟩:=h
  simp only[YS] at*
  refine Qmi ?_;refine Qb ?_;exact QXf
 obtain⟨v,h1,h2⟩:=X1Y he
 rw[show X1y h ts=Yn++Yz (X2f h ts) from if_neg (by simp[he]),he]
 rw[he] at hv
 rw[Xbn v] at hL
 have hb:=v.b
 have hcl:=v.cl
 have l0:Yy h≤1000000000001000:=by unfold Yy;omega
 have hchg:=X6Z _ _ v.ok
 have hcl6:h.cs.length≤60:=by have:=Xb8 h.cs;omega
 have hxl6:∀c∈h.cs,c.l.length≤60:=fun c hc=>by have:=X6R hc;omega
 obtain⟨H,hH,hHl⟩:∃H,Ul [ts,Yy h]=H∧H.length≤20:=⟨_,rfl,X5X fun x hx=>by
  simp only[List.mem_cons,List.mem_nil_iff,or_false] at hx
  rcases hx with rfl|rfl<;>omega⟩
 have hI:X2f h ts=[H]++Uf ts h.cs:=by rw[←hH];rfl
 rw[hI]
 have hu0:=(X5C [ts,Yy h] (by simp) (fun x hx=>by
  simp only[List.mem_cons,List.mem_nil_iff,or_false] at hx
  rcases hx with rfl|rfl<;>omega)).data rfl
 rw[hH] at hu0
 simp only[List.map_cons,List.map_nil] at hu0
 clear v h1 h2 hI hH hf he ht
 generalize X2C h ts=ss at*
 generalize Yy h=lh at*
 obtain⟨base,⟨ns,es,nn,ne⟩,cs⟩:=h
 simp only[YS] at*
 have hlm:=X1E cs
 refine Qmi ?_;refine Qc ?_;refine Z3 (hcon:=hL) ?_;refine W1_ ?_;refine Z3 (hcon:=hu0) ?_;refine Z9 (γ:=131) (d:=28) ?_;refine Xi ?_
 clear hv hL hu0
 refine XK (fun i:Nat=>i≤cs.length) (fun i=>⟨64,[(1,ai ts),(2,.ptr 100 0),(8,.own 131 (([H]++Uf ts (cs.take i)).map cBy).length),(30,.d (.sl 2 (cs.map XV))),(31,ai (cs.map XV).length),(32,ai i)],[(100,.box [ai base,.d (.sl 3 (ns.map Xp)),.d (.sl 5 (es.map Xs)),ai nn,ai ne,.d (.sl 2 (cs.map XV))]),(131,.row 1 (([H]++Uf ts (cs.take i)).map cBy))]⟩) (fun i=>cs.length-i) 0 (Nat.zero_le _)
  (by rw[List.take_zero,show Uf ts []=[] from rfl,List.append_nil];exact Xd rfl JM ⟨rfl,rfl,trivial⟩) ?_
 intro i hi
 by_cases hil:i<cs.length
 case neg=>
  obtain rfl:i=cs.length:=by omega
  have hn:¬((cs.length:Nat):Int)<(cs.map XV).length:=by omega
  rw[List.take_length]
  have hlen:=X9M ts cs
  have hfm:=Xj9 Yn rfl ([H]++Uf ts cs) (by simp only[List.length_append,List.length_cons,List.length_nil];omega) (fun b hb=>by
   rcases List.mem_append.1 hb with hb|hb
   ·simp only[List.mem_cons,List.mem_nil_iff,or_false] at hb
    subst hb;omega
   ·obtain⟨c,hc,rfl⟩:=XiH hb
    have:=hxl6 c hc
    have:=X5P (hchg c hc) (by omega)
    omega)
  generalize [H]++Uf ts cs=L at*
  refine W5_ ?_;refine Qo ?_;refine Xq (Yg 131 rfl) ?_;refine Xq (Yx 8 131 rfl rfl rfl) ?_;refine W2_ ?_;refine Z3 (hcon:=hfm) ?_;exact QPc
 have hn:(i:Int)<(cs.map XV).length:=by omega
 obtain⟨x,hxx⟩:=XI (l:=cs) hil
 have hxc:(cs.map XV)[i]? =some (XV x):=Y5 hxx
 have hxm:=List.mem_of_getElem? hxx
 have hx1:=hchg x hxm
 have hx6:=hxl6 x hxm
 have hub:(([H]++Uf ts (cs.take i)).map cBy).length≤10000:=by
  have:=X9M ts (cs.take i)
  simp only[List.length_append,List.length_map,List.length_take,List.length_cons,List.length_nil] at this ⊢
  omega
 clear hchg hxl6
 by_cases q:ts<x.ts
 case neg=>
  have hno:([H]++Uf ts (cs.take (i+1))).map cBy=([H]++Uf ts (cs.take i)).map cBy:=by rw[Xeo hxx q]
  generalize ([H]++Uf ts (cs.take i)).map cBy=u at*
  obtain⟨xt,xl⟩:=x
  simp only[XV] at hxc q
  have q':xt≤ts:=by omega
  clear hx1 hx6 hxm hxx
  refine Qk ?_;refine Us ?_;refine QCa ?_
  refine⟨i+1,hil,by omega,?_⟩
  rw[hno]
  exact QKh
 have hst:([H]++Uf ts (cs.take (i+1))).map cBy=([H]++Uf ts (cs.take i)).map cBy++[cBy (Vf x.l)]:=by
  rw[Xhj hxx q];simp
 generalize ([H]++Uf ts (cs.take i)).map cBy=u at*
 generalize hu':([H]++Uf ts (cs.take (i+1))).map cBy=u' at*
 obtain⟨xt,xl⟩:=x
 simp only[XV] at hxc q hx1 hx6 hst
 have q':¬xt≤ts:=by omega
 have hxlm:(xl.map Y1).length=xl.length:=by simp
 clear hxm hxx
 have hu:=X5C [((xl.map Y1).length:Nat)] (by simp) (fun y hy=>by
  simp only[List.mem_cons,List.mem_nil_iff,or_false] at hy
  rcases hy with rfl
  omega)
 rw[Xjg] at hu
 simp only[List.map_cons,List.map_nil] at hu
 have u2:=X04 (n:=(xl.length:Nat)) (by omega)
 refine Qk ?_;refine Us ?_;refine Qma ?_;refine Qre ?_;refine Xi ?_
 refine XK (fun k:Nat=>k≤xl.length) (fun k=>⟨64,[(1,ai ts),(2,.ptr 100 0),(8,.own 131 u.length),(30,.d (.sl 2 (cs.map XV))),(31,ai (cs.map XV).length),(32,ai i),(11,.own 130 ((Xm (xl.length:Nat)++((xl.take k).map Up).flatten).map Xc).length),(46,.d (.sl 10 (xl.map Y1))),(47,ai (xl.map Y1).length),(48,ai k)],[(100,.box [ai base,.d (.sl 3 (ns.map Xp)),.d (.sl 5 (es.map Xs)),ai nn,ai ne,.d (.sl 2 (cs.map XV))]),(130,.row 1 ((Xm (xl.length:Nat)++((xl.take k).map Up).flatten).map Xc)),(131,.row 1 u)]⟩) (fun k=>xl.length-k) 0 (Nat.zero_le _)
  (Xd rfl ⟨JL,JL,JL,JL,JL,JL,AVal.le_of_eq (by refine Eq.trans (b:=AVal.own 130 _) rfl ?_;simp),JL,JL,JL,trivial⟩ ⟨rfl,by refine Eq.trans (b:=AObj.row 1 _) rfl ?_;simp,rfl,trivial⟩) ?_
 intro k hk
 have hfl:=Xec hx1 k hx6
 by_cases hkl:k<xl.length
 case neg=>
  obtain rfl:k=xl.length:=by omega
  have hkn:¬((xl.length:Nat):Int)<(xl.map Y1).length:=by omega
  rw[List.take_length] at*
  have hw:cBy (Vf xl)=[D.sl 1 ((Xm (xl.length:Nat)++(xl.map Up).flatten).map Xc)]:=rfl
  rw[hw] at hst
  generalize (Xm (xl.length:Nat)++(xl.map Up).flatten).map Xc=A at*
  clear hw
  refine QFg ?_;refine Qof ?_;refine Xq (Yx 11 130 rfl rfl rfl) ?_;refine Xi ?_
  refine⟨i+1,hil,by omega,?_⟩
  rw[hu',hst]
  exact Xd rfl ⟨JL,JL,AVal.le_of_eq (by refine Eq.trans (b:=AVal.own 131 (_+_)) rfl ?_;simp only[List.length_append,List.length_cons,List.length_nil]),JL,JL,JL,trivial⟩ ⟨rfl,rfl,trivial⟩
 have hkn:(k:Int)<(xl.map Y1).length:=by omega
 obtain⟨y,hyy⟩:=XI (l:=xl) hkl
 have hyc:(xl.map Y1)[k]? =some (Y1 y):=Y5 hyy
 have hy1:=hx1 y (List.mem_of_getElem? hyy)
 have hpc:=Xlk y
 have hpl:(Up y).length≤200:=by rw[show Up y=YP y from if_pos hy1];exact X8q hy1
 have hroom:((Xm (xl.length:Nat)++((xl.take k).map Up).flatten).map Xc).length≤13000:=by rw[List.length_map,List.length_append];omega
 have hroom2:((Up y).map Xc).length≤200:=by rw[List.length_map];omega
 have hsn:=X8x (w:=Up) (u:=Xm (xl.length:Nat)) hyy
 generalize (Xm (xl.length:Nat)++((xl.take k).map Up).flatten)=A at*
 generalize Up y=w at*
 obtain⟨op,id,src,dst,name,⟨vk,vn,vd,vs,vl⟩⟩:=y
 simp only[Xx,Y1] at hpc hyc
 clear hyy hx1 hy1 hst hu
 refine Ql ?_;refine Z3 (hcon:=hpc) ?_;refine W7_ ?_
 refine⟨k+1,hkl,by omega,?_⟩
 rw[hsn]
 exact Xd rfl ⟨JL,JL,JL,JL,JL,JL,AVal.le_of_eq (by refine Eq.trans (b:=AVal.own 130 (_+_)) rfl ?_;simp only[List.length_append,List.length_map,List.length_cons,List.length_nil]),JL,JL,JL,trivial⟩ ⟨rfl,rfl,rfl,trivial⟩
end Go.Fw
