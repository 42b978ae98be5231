/- Opening what came in: from the reading of an argument to data over the world's own cells. -/
import Derived.OpenShut
import Derived.Deep.Slices
import Derived.Deep.Strs
import Derived.KernelRfl
import Derived.Test.YtpbgjcbkhgfmkaaGreatDoorM38
set_option maxHeartbeats 16000000
namespace Go.Fw
open Go Go.ChangeShapes Go.WideShapes Go.Deep List
set_option linter.unusedVariables false
section
variable {H:Type}{enc:TypeId×Value->H}{P:Program}{W:World}
theorem X8H {α:Type}{t e:TypeId}{r:Reach}{b0:Nat}{v:Value}{d:DataW H}{ps:List MemPlace}{p:α->Prop}{f:α->D} (ht:P.underlying t=some (.slice e))
  (hval:Value.okWide P W r b0 t v) (hd:DataW.Trod enc P W 0 (fun _=>true) true t v d ps) (ho:Opens enc P W t p (fun x=>[f x])):∃x,p x/\(AVal.d (f x)).sat (g0 W.cell?) v:=by
 obtain⟨a,n,c,rfl⟩:=okWide_slice ht hval;obtain⟨n,hn⟩:=hd;obtain⟨x,h1,h2⟩:=ho.op _ _ _ hn
 grind [g0,Value.cells,AVal.sat,VK]
end
open Go Go.Proofs Tryz
theorem Xum:prog.cellsOf 68=10:=by kernel_rfl
set_option maxRecDepth 100000
set_option linter.unusedSimpArgs false
theorem Xds (bs:List (List UInt8)):∀(d:ak) (a:Nat),DOk d->a+bs.length<=d.aa.length->(∀c∈bs,c.length=64)->d.pending.length+bs.length<=4096->∀x∈VX d a bs,DOk x/\Vp x/\x.aa.length=d.aa.length:=by
 induction bs with
 |nil=>
  intro d a h _ _ hp x hx;simp only[VX,mem_singleton] at hx;subst hx;exact⟨h,X2d h.v (by simpa using hp),rfl⟩
 |cons b bs ih=>
  intro d a h hl hc hp x hx;rw[LC] at hl hp;rw[VX,mem_cons] at hx;rcases hx with rfl|hx
  ·exact⟨h,X2d h.v (by omega),rfl⟩
  ·have:=ih (VM d a b) (a+1) (X5F h (by omega) (hc b (by simp))) (by show a+1+bs.length<=d.aa.length;omega) (fun c q=>hc c (by simp[q]))
    (by show(d.pending++[(⟨(a:Nat),b⟩:Wr)]).length+bs.length<=4096;rw[LA,length_singleton];omega) x hx
   exact⟨this.1,this.2.1,this.2.2⟩
open Go
theorem XfS:∀(l:List UInt8),∀x∈Y5 l,x≠0
 |[],x,h=>by simp[Y5] at h
 |y::r,x,h=>by
  unfold Y5 at h;rw[takeWhile_cons] at h;by_cases hy:(y !=0)=true
  ·rw[PI hy,mem_cons] at h;rcases h with rfl|h
   ·simpa using hy
   ·exact XfS r x h
  ·rw[NI hy] at h;simp at h
def X1i (l:List Rcd):Bool:=decide (l.length<=12)&&l.all fun r=>decide (r.changes.length<=30)
variable{l:List Rcd}
theorem Xf1 (h:X1i l=true):l.length<=12/\∀r∈l,r.changes.length<=30:=by
 unfold X1i at h;rw[Bool.and_eq_true,decide_eq_true_eq,all_eq_true] at h;exact⟨h.1,fun r hr=>by simpa using h.2 r hr⟩
theorem XgM (h:X1i l=true):∀r∈l,(X0k r).length<=60000:=fun r hr=>XcL (by have:=(Xf1 h).2 r hr;omega)
theorem Xbi (l:List Rcd) (hl:l.length<=9223372036854775807):Con prog 15 [] [.d (.sl 10 (l.map Yp))] [] (ab (X1i l)):=by
 refine ZC1 func15 ntmps15 fun E=> ?_;have hlm:(l.map Yp).length=l.length:=by simp
 unfold X1i;by_cases q:l.length<=12
 case neg=>
  rw[DF q,Bool.false_and];have q':((l.map Yp).length:Int)>12:=by omega
  refine Yg ?_
  (show AWP prog E _ _ _;refine X2 ?_;exact(show Xa _ _ _ _ _ from⟨_,St.le_refl _,⟨rfl,TV⟩,X4 _⟩))
 rw[DT q,Bool.true_and];have q':¬((l.map Yp).length:Int)>12:=by omega
 generalize hG:(l.all fun r=>decide (r.changes.length<=30))=G;refine YR ?_
 refine Xn (fun i:Nat=>i<=l.length/\((l.drop i).all fun r=>decide (r.changes.length<=30))=G) (fun i=>⟨20,[(0,.d (.sl 10 (l.map Yp))),(3,ai i)],[]⟩) (fun i=>l.length-i) 0 ⟨Nat.zero_le _,hG⟩
  (ZL0) ?_
 rintro i ⟨hi,hg⟩;by_cases hil:i<l.length
 case neg=>
  obtain rfl:i=l.length:=by omega
  have hn:¬((l.length:Nat):Int)<(l.map Yp).length:=by omega
  rw[drop_length,all_nil] at hg;subst hg;refine XG ?_
  (show AWP prog E _ _ _;refine X2 ?_;exact(show Xa _ _ _ _ _ from⟨_,St.le_refl _,⟨rfl,TV⟩,X4 _⟩))
 have hn:(i:Int)<(l.map Yp).length:=by omega
 obtain⟨x,hx⟩:=Xu (l:=l) hil;have au:(l.map Yp)[i]? =some (Yp x):=XM hx;rw[Xam hx] at hg;have eg:(x.changes.map Xs).length=x.changes.length:=LM ..;obtain⟨kd,ts,cl,⟨k,n,name,key,src,dst⟩,off⟩:=x;simp only[Yp] at au eg hg;clear hx;by_cases h:cl.length<=30
 ·rw[DT h,Bool.true_and] at hg;have h':¬((cl.map Xs).length:Int)>30:=by omega
  refine YT ?_;exact Qwc
 ·rw[DF h,Bool.false_and] at hg;subst hg;have h':((cl.map Xs).length:Int)>30:=by omega
  refine U1 ?_
  (show AWP prog E _ _ _;refine X2 ?_;exact(show Xa _ _ _ _ _ from⟨_,St.le_refl _,⟨rfl,TV⟩,X4 _⟩))
theorem XfT (h:X1i l=true) (hr:∀r∈l,X0z r):(∀r∈l,X6w r)/\l.length<=1000:=
 ⟨fun r h1=>⟨hr r h1,by have:=(Xf1 h).2 r h1;omega⟩,by have:=(Xf1 h).1;omega⟩
theorem opBa (s:ByteArray):X6 s.data.toList=s:=by
 cases s;simp[X6]
theorem opStr {H:Type}{enc:TypeId×Value->H}{P:Program}{W:World} {t:TypeId} (ht:P.underlying t=some .string):Opens enc P W t (fun s:List UInt8=>s.length<=9223372036854775807) (fun s=>[.v (.string (X6 s))]):=by
 refine⟨fun n cs x hx=> ?_⟩
 obtain⟨s,rfl,_,hl⟩:=DataW.trod_string ht hx
 refine⟨s.data.toList,by simp_all [maxLen],?_⟩
 simp only[VK,D.rep,opBa]
 exact⟨⟨trivial,rfl⟩,trivial⟩
structure OpensFN {α:Type} {H:Type} (enc:TypeId×Value->H) (P:Program) (W:World) (n:Nat) (N:Nat) (fs:List Field) (off:Nat) (p:α->Prop) (f:α->List D):Prop where
 op:∀cs:List Value,cs.length=N->(∀q∈fs,∃x,DataW.trod enc P W 0 (fun _=>true) true n q.type ((cs.drop q.offset).take (P.cellsOf q.type))=some x)->∃r,p r/\VK W.cell? (f r) (cs.drop off)
theorem opFNn {H:Type}{enc:TypeId×Value->H}{P:Program}{W:World} {n N:Nat}:OpensFN enc P W n N [] N (fun _:Unit=>True) (fun _=>[]):=by
 refine⟨fun cs hN _=>⟨(),trivial,?_⟩⟩
 grind [VK]
theorem opFNc {H:Type}{enc:TypeId×Value->H}{P:Program}{W:World} {α β:Type} {n N:Nat} {q:Field} {fs:List Field} {off s:Nat} {p:α->Prop} {f:α->List D} {p':β->Prop} {f':β->List D} (hoff:q.offset=off) (hs:P.cellsOf q.type=s)
  (h:OpensN enc P W n q.type p f) (k:OpensFN enc P W n N fs (off+s) p' f'):OpensFN enc P W n N (q::fs) off (fun r:α×β=>p r.1/\p' r.2) (fun r=>f r.1++f' r.2):=by
 refine⟨fun cs hN hall=> ?_⟩
 obtain⟨x,hx⟩:=hall q (by simp)
 rw[hoff,hs] at hx
 obtain⟨r,h1,h2⟩:=h.op _ _ hx
 obtain⟨r',h3,h4⟩:=k.op cs hN fun q' hq'=>hall q' (by simp[hq'])
 refine⟨(r,r'),⟨h1,h3⟩,?_⟩
 grind [Xlw,List.drop_drop,List.take_append_drop]
theorem opNst {H:Type}{enc:TypeId×Value->H}{P:Program}{W:World} {α:Type} {n:Nat} {t:TypeId} {fs:Array Field} {N:Nat} {p:α->Prop} {f:α->List D} (ht:P.underlying t=some (.struct fs)) (hN:P.cellsOf t=N) (h:∀m,n=m+1->OpensFN enc P W m N fs.toList 0 p f):OpensN enc P W n t p f:=by
 refine⟨fun cs x hx=> ?_⟩
 obtain⟨xs,n',hn,_,hl,hlen,hf⟩:=DataW.trod_struct ht hx
 have:=(h n' hn).op cs (hl.trans hN) fun q hq=>by
  grind [List.getElem?_of_mem]
 simpa using this
theorem c9:prog.cellsOf 9=1:=by kernel_rfl
theorem c111:prog.cellsOf 111=1:=by kernel_rfl
theorem c113:prog.cellsOf 113=5:=by kernel_rfl
theorem c115:prog.cellsOf 115=10:=by kernel_rfl
theorem c64:prog.cellsOf 64=1:=by kernel_rfl
theorem c66:prog.cellsOf 66=6:=by kernel_rfl
theorem opValN {H:Type}{enc:TypeId×Value->H}{W:World}:∀n,OpensN enc prog W n 113 UJ UT
 |0=>⟨fun cs x hx=>by simp[DataW.trod] at hx⟩
 |n+1=>
  (opNst underlying113 c113 (fun m hm=>
   opFNc rfl X8O ((X9E underlying3).at m) (opFNc rfl X8O ((X9E underlying3).at m) (opFNc rfl X8O ((X9E underlying3).at m)
    (opFNc rfl c9 ((opStr underlying9).at m)
     (opFNc rfl c111 (XeY (p:=UJ) (f:=UT) underlying111 c113 (by decide) (fun m' hm'=>opValN m')) opFNn)))))).to
   (fun r=> .mk r.1 r.2.1 r.2.2.1 r.2.2.2.1 r.2.2.2.2.1) fun r h=>⟨by rw[UJ];exact⟨h.2.2.2.1,h.2.2.2.2.1.2,Xlr h.2.2.2.2.1.1⟩,by rw[UT,X7h];rfl⟩
termination_by n=>n
decreasing_by omega
theorem opVal {H:Type}{enc:TypeId×Value->H}{W:World}:Opens enc prog W 113 UJ UT:=Xf3 opValN
theorem opChg {H:Type}{enc:TypeId×Value->H}{W:World}:Opens enc prog W 115 Xbf Xs:=
 (Xb6 underlying115 c115
  (X3t rfl X8O (X9E underlying3) (X3t rfl X8O (X9E underlying3) (X3t rfl X8O (X9E underlying3) (X3t rfl X8O (X9E underlying3)
   (X3t rfl c9 (opStr underlying9) (X3t rfl c113 opVal Xbm))))))).to
  (fun r=>⟨r.1,r.2.1,r.2.2.1,r.2.2.2.1,r.2.2.2.2.1,r.2.2.2.2.2.1⟩) fun r h=>⟨⟨h.2.2.2.2.1,h.2.2.2.2.2.1⟩,by
   obtain⟨op,id,src,dst,name,v,u⟩:=r
   cases v
   rfl⟩
theorem opRul {H:Type}{enc:TypeId×Value->H}{W:World}:Opens enc prog W 66 (fun _:Rul=>True) Xh:=
 (Xb6 underlying66 c66
  (X3t rfl X8O (X9E underlying3) (X3t rfl X8O (X9E underlying3)
   (X3t rfl c9 (opStr underlying9) (X3t rfl c9 (opStr underlying9) (X3t rfl c9 (opStr underlying9) (X3t rfl c9 (opStr underlying9) Xbm))))))).to
  (fun r=>⟨r.1,r.2.1,r.2.2.1,r.2.2.2.1,r.2.2.2.2.1,r.2.2.2.2.2.1⟩) fun r h=>⟨trivial,rfl⟩
theorem opChgs {H:Type}{enc:TypeId×Value->H}{W:World}:Opens enc prog W 64 (fun l:List Chg=>(∀c∈l,Xbf c)/\l.length<=9223372036854775807) (fun l=>[.sl 10 (l.map Xs)]):=
 Xf3 fun n=>XeY underlying64 c115 (by decide) fun m _=>opChg.at m
theorem opens_rcd {H:Type}{enc:TypeId×Value->H}{W:World}:Opens enc prog W 68 X0z Yp:=
 (Xb6 underlying68 Xum
  (X3t rfl X8O (X9E underlying3) (X3t rfl X8O (X9E underlying3) (X3t rfl c64 opChgs
   (X3t rfl c66 opRul (X3t rfl XkJ (Xmw underlying4) Xbm)))))).to
  (fun r=>⟨r.1,r.2.1,r.2.2.1,r.2.2.2.1,r.2.2.2.2.1⟩) fun r h=>⟨⟨h.2.2.1.2,h.2.2.1.1⟩,rfl⟩
section
variable {H:Type}{enc:TypeId×Value->H}{W:World}
theorem Xg4:Opens enc prog W 33 (fun l:List Rcd=>(∀r∈l,X0z r)/\l.length<=9223372036854775807) (fun l=>[.sl 10 (l.map Yp)]):=
 Xf3 fun n=>XeY underlying33 Xum (by decide) fun m _=>opens_rcd.at m
end
end Go.Fw
