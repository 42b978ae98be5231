/- The order of rules, valid schemas; the program's and the reference's. -/
import Derived.KernelRfl
import Derived.Test.YtpbgjcbkhgfmkaaGreatDoorM38
import Derived.Test.YtpbgjcbkhgfmkaaGreatDoorM49
set_option maxHeartbeats 16000000
namespace Go.Fw
open Go Go.Proofs Tryz List
set_option maxRecDepth 100000
set_option linter.unusedVariables false
set_option linter.unusedSimpArgs false
theorem Xc4 (s t:List UInt8):Con prog 202 [] [.d (.v (.string (X6 s))),.d (.v (.string (X6 t)))] [] (ai (Ur s t)):=by
 refine ZC1 func202 ntmps202 fun E=> ?_;unfold Ur;cases h1:Op.bytesLess s t with
 |true=>
  rw[PI rfl];refine W9_ ?_;refine QMb ?_;exact QDa
 |false=>
  rw[NI (by simp)];by_cases h2:s=t
  ·rw[PI h2];have h3:(!(Op.bytesLess s t||decide (s=t)))=false:=by simp[h2]
   refine W9_ ?_;refine QNb ?_;exact QI
  ·rw[NI h2];have h3:(!(Op.bytesLess s t||decide (s=t)))=true:=by simp[h1,h2]
   refine W9_ ?_;refine QNb ?_;exact QDa
theorem Xc5 (a b:Rul):Con prog 124 [] [Yu a,Yu b] [] (ai (UM a b)):=by
 refine ZC1 func124 ntmps124 fun E=> ?_;have c2:=Xc4 a.name b.name;have c3:=Xc4 a.key b.key;have c5:=Xc4 a.src b.src;have c6:=Xc4 a.dst b.dst;unfold UM;generalize Ur a.name b.name=r2 at*;generalize Ur a.key b.key=r3 at*;generalize Ur a.src b.src=r5 at*;generalize Ur a.dst b.dst=r6 at*;obtain⟨k,n,name,key,src,dst⟩:=a;obtain⟨k',n',name',key',src',dst'⟩:=b;simp only[Yu] at*;by_cases h1:k<k'
 ·rw[PI h1];have dD:k≠k':=by omega
  refine Vb ?_;exact Zr0
 rw[NI h1];by_cases h2:k'<k
 ·rw[PI h2];have ek:k≠k':=by omega
  refine UP ?_;exact Zr0
 rw[NI h2];obtain rfl:k=k':=by omega
 by_cases h3:r2≠0
 ·rw[PI h3];refine Yq ?_;refine Z3 (af:=c2) ?_;exact Qw
 rw[NI h3];obtain rfl:r2=0:=by omega
 by_cases h4:r3≠0
 ·rw[PI h4];refine Qfe ?_;exact Qw
 rw[NI h4];obtain rfl:r3=0:=by omega
 by_cases h5:n<n'
 ·rw[PI h5];have uZ:n≠n':=by omega
  refine Qfe ?_;refine UD ?_;exact Zr0
 rw[NI h5];by_cases h6:n'<n
 ·rw[PI h6];have v7:n≠n':=by omega
  refine Qfe ?_;refine X00 ?_;exact Zr0
 rw[NI h6];obtain rfl:n=n':=by omega
 by_cases h7:r5≠0
 ·rw[PI h7];refine Qfe ?_;refine U1 ?_;refine Z3 (af:=c5) ?_;exact Qw
 rw[NI h7];obtain rfl:r5=0:=by omega
 refine Qfe ?_;refine U1 ?_;refine Z3 (af:=c5) ?_;refine Yx ?_;refine Z3 (af:=c6) ?_;refine W2_ ?_;exact Zr0
theorem Xeq (l:List Rul) (hl:l.length<=9223372036854775807):Con prog 93 [] [.d (.sl 6 (l.map Xh))] [] (ab (X0W l)):=by
 refine ZC1 func93 ntmps93 fun E=> ?_;have hlm:(l.map Xh).length=l.length:=by simp
 unfold X0W;by_cases v8:40<l.length
 ·rw[DF (by omega:¬l.length<=40),Bool.and_false];have rz:(40:Int)<(l.map Xh).length:=by omega
  refine Yg ?_;exact Zr0
 have rz:¬(40:Int)<(l.map Xh).length:=by omega
 rw[DT (by omega:l.length<=40),Bool.and_true];generalize hG:X2M none l=G;refine YR ?_
 refine Xn (fun i:Nat=>i<=l.length/\X2M (V3 l i) (l.drop i)=G) (fun i=>⟨36,[(0,.d (.sl 6 (l.map Xh))),(3,ai i)],[]⟩) (fun i=>l.length-i) 0 ⟨Nat.zero_le _,by simpa [V3] using hG⟩
  (ZL0) ?_
 rintro i ⟨hi,hg⟩;by_cases hil:i<l.length
 case neg=>
  obtain rfl:i=l.length:=by omega
  have hn:¬((l.length:Nat):Int)<(l.map Xh).length:=by omega
  rw[drop_length,X2M] at hg;subst hg;exact Qy
 have hn:(i:Int)<(l.map Xh).length:=by omega
 obtain⟨x,hx⟩:=Xu (l:=l) hil;have au:(l.map Xh)[i]? =some (Xh x):=XM hx;have hc:=X8y x;rw[Xh7 hx] at hg;by_cases he:Uk x=0
 case neg=>
  rw[DF (fun h=>he h.1),Bool.false_and] at hg;subst hg;generalize Uk x=e at*;obtain⟨k,n,name,key,src,dst⟩:=x;simp only[Yu,Xh] at hc au;refine Yq ?_;refine QIa ?_;refine QG ?_;exact QD
 by_cases h0:i=0
 ·subst h0;rw[DT ⟨he,fun q h=>by simp[V3] at h⟩,Bool.true_and] at hg;rw[he] at hc;obtain⟨k,n,name,key,src,dst⟩:=x;simp only[Yu,Xh] at hc au;refine Qp ?_;exact QOb
 obtain⟨j,rfl⟩:∃j,i=j+1:=⟨i-1,by omega⟩
 obtain⟨p,hp⟩:=Xu (l:=l) (k:=j) (by omega);have cO:(l.map Xh)[j]? =some (Xh p):=XM hp;have ho:=Xc5 p x;rw[he] at hc;by_cases hlt:UM p x<0
 ·rw[DT ⟨he,fun q h=>by rw[X50,hp] at h;injection h with h;rw[<-h];exact hlt⟩,Bool.true_and] at hg;generalize UM p x=o at*;obtain⟨k,n,name,key,src,dst⟩:=x;obtain⟨k',n',name',key',src',dst'⟩:=p;simp only[Yu,Xh] at hc au ho cO;refine Qde ?_;refine Yf ?_;exact QQb
 ·rw[DF (fun h=>hlt (h.2 p (by rw[X50,hp]))),Bool.false_and] at hg;subst hg;have hge:UM p x≥0:=by omega
  generalize UM p x=o at*;obtain⟨k,n,name,key,src,dst⟩:=x;obtain⟨k',n',name',key',src',dst'⟩:=p;simp only[Yu,Xh] at hc au ho cO;refine Qde ?_;refine Yg ?_;exact Zr0
theorem Xck (s:Sta) (h:StaHold s):Con prog 49 [] [Xy s] [] (ab (YN s)):=by
 refine ZC1 func49 ntmps49 fun E=> ?_;have h1:=XbU s.g h.g;have h2:=Xeq s.rules h.rl;obtain⟨r,hr⟩:∃r,r=YN s:=⟨_,rfl⟩
 rw[<-hr];unfold YN at hr;generalize X0n s.g=e1 at*;generalize X0W s.rules=e2 at*;clear h;obtain⟨⟨ns,es,nn,ne⟩,rs,ts,ep,tail⟩:=s;simp only[Xy,Y6] at*;refine XR ?_;refine Yb rfl rfl (fun hq=> ?_) (fun hq=> ?_);refine W5_ ?_;refine X59 rfl rfl (fun hq=> ?_) (fun hq=> ?_);refine W5_ ?_;refine Yb rfl rfl (fun hq=> ?_) (fun hq=> ?_);refine W5_ ?_;refine Yb rfl rfl (fun hq=> ?_) (fun hq=> ?_);refine W5_ ?_;refine Yb rfl rfl (fun hq=> ?_) (fun hq=> ?_);refine W5_ ?_;refine Yb rfl rfl (fun hq=> ?_) (fun hq=> ?_);refine W5_ ?_;refine Yb rfl rfl (fun hq=> ?_) (fun hq=> ?_);refine W6_ ?_;(clear h1 h2;(try simp only at*);simp[*] at hr;subst hr;exact Zr0);refine W6_ ?_;(clear h1 h2;(try simp only at*);simp[*] at hr;subst hr;exact Zr0);refine XK ?_;(clear h1 h2;(try simp only at*);simp[*] at hr;subst hr;exact Zr0);refine Yg ?_;(clear h1 h2;(try simp only at*);simp[*] at hr;subst hr;exact Zr0);refine Ye ?_;(clear h1 h2;(try simp only at*);simp[*] at hr;subst hr;exact Zr0);refine XY ?_;(clear h1 h2;(try simp only at*);simp[*] at hr;subst hr;exact Zr0);refine UP ?_;(clear h1 h2;(try simp only at*);simp[*] at hr;subst hr;exact Zr0);refine X07 ?_
 (clear h1 h2;(try simp only at*);simp[*] at hr;subst hr;exact Zr0)
open Go
def X4p (s:Sta):Bool:=decide (s.g.nodes.length<=40/\s.g.aj.length<=40/\s.rules.length<=60)
theorem XtZ:prog.cellsOf 29=4:=by kernel_rfl
def XxH (g:Gra):List D:=[.sl 3 (g.nodes.map Xm),.sl 5 (g.aj.map Xr),.v (.int .i64 g.nn),.v (.int .i64 g.ne)]
section
variable {H:Type}{enc:TypeId×Value->H}{W:World}
theorem XtR:prog.cellsOf 30=1:=by kernel_rfl
end
theorem qopBa (s:ByteArray):X6 s.data.toList=s:=by
 cases s;simp[X6]
theorem qopStr {H:Type}{enc:TypeId×Value->H}{P:Program}{W:World} {t:TypeId} (ht:P.underlying t=some .string):Opens enc P W t (fun s:List UInt8=>s.length<=9223372036854775807) (fun s=>[.v (.string (X6 s))]):=by
 refine⟨fun n cs x hx=> ?_⟩
 obtain⟨s,rfl,_,hl⟩:=DataW.trod_string ht hx
 refine⟨s.data.toList,by simp_all [maxLen],?_⟩
 simp only[VK,D.rep,qopBa]
 exact⟨⟨trivial,rfl⟩,trivial⟩
structure QpensFN {α:Type} {H:Type} (enc:TypeId×Value->H) (P:Program) (W:World) (n:Nat) (N:Nat) (fs:List Field) (off:Nat) (p:α->Prop) (f:α->List D):Prop where
 op:∀cs:List Value,cs.length=N->(∀q∈fs,∃x,DataW.trod enc P W 0 (fun _=>true) true n q.type ((cs.drop q.offset).take (P.cellsOf q.type))=some x)->∃r,p r/\VK W.cell? (f r) (cs.drop off)
theorem qopFNn {H:Type}{enc:TypeId×Value->H}{P:Program}{W:World} {n N:Nat}:QpensFN enc P W n N [] N (fun _:Unit=>True) (fun _=>[]):=by
 refine⟨fun cs hN _=>⟨(),trivial,?_⟩⟩
 grind [VK]
theorem qopFNc {H:Type}{enc:TypeId×Value->H}{P:Program}{W:World} {α β:Type} {n N:Nat} {q:Field} {fs:List Field} {off s:Nat} {p:α->Prop} {f:α->List D} {p':β->Prop} {f':β->List D} (hoff:q.offset=off) (hs:P.cellsOf q.type=s)
  (h:OpensN enc P W n q.type p f) (k:QpensFN enc P W n N fs (off+s) p' f'):QpensFN enc P W n N (q::fs) off (fun r:α×β=>p r.1/\p' r.2) (fun r=>f r.1++f' r.2):=by
 refine⟨fun cs hN hall=> ?_⟩
 obtain⟨x,hx⟩:=hall q (by simp)
 rw[hoff,hs] at hx
 obtain⟨r,h1,h2⟩:=h.op _ _ hx
 obtain⟨r',h3,h4⟩:=k.op cs hN fun q' hq'=>hall q' (by simp[hq'])
 refine⟨(r,r'),⟨h1,h3⟩,?_⟩
 grind [Xlw,List.drop_drop,List.take_append_drop]
theorem qopNst {H:Type}{enc:TypeId×Value->H}{P:Program}{W:World} {α:Type} {n:Nat} {t:TypeId} {fs:Array Field} {N:Nat} {p:α->Prop} {f:α->List D} (ht:P.underlying t=some (.struct fs)) (hN:P.cellsOf t=N) (h:∀m,n=m+1->QpensFN enc P W m N fs.toList 0 p f):OpensN enc P W n t p f:=by
 refine⟨fun cs x hx=> ?_⟩
 obtain⟨xs,n',hn,_,hl,hlen,hf⟩:=DataW.trod_struct ht hx
 have:=(h n' hn).op cs (hl.trans hN) fun q hq=>by
  grind [List.getElem?_of_mem]
 simpa using this
theorem qc9:prog.cellsOf 9=1:=by kernel_rfl
theorem qc111:prog.cellsOf 111=1:=by kernel_rfl
theorem qc113:prog.cellsOf 113=5:=by kernel_rfl
theorem qc115:prog.cellsOf 115=10:=by kernel_rfl
theorem qc64:prog.cellsOf 64=1:=by kernel_rfl
theorem qc66:prog.cellsOf 66=6:=by kernel_rfl
theorem qopValN {H:Type}{enc:TypeId×Value->H}{W:World}:∀n,OpensN enc prog W n 113 UJ UT
 |0=>⟨fun cs x hx=>by simp[DataW.trod] at hx⟩
 |n+1=>
  (qopNst underlying113 qc113 (fun m hm=>
   qopFNc rfl X8O ((X9E underlying3).at m) (qopFNc rfl X8O ((X9E underlying3).at m) (qopFNc rfl X8O ((X9E underlying3).at m)
    (qopFNc rfl qc9 ((qopStr underlying9).at m)
     (qopFNc rfl qc111 (XeY (p:=UJ) (f:=UT) underlying111 qc113 (by decide) (fun m' hm'=>qopValN m')) qopFNn)))))).to
   (fun r=> .mk r.1 r.2.1 r.2.2.1 r.2.2.2.1 r.2.2.2.2.1) fun r h=>⟨by rw[UJ];exact⟨h.2.2.2.1,h.2.2.2.2.1.2,Xlr h.2.2.2.2.1.1⟩,by rw[UT,X7h];rfl⟩
termination_by n=>n
decreasing_by omega
theorem qopVal {H:Type}{enc:TypeId×Value->H}{W:World}:Opens enc prog W 113 UJ UT:=Xf3 qopValN
theorem qopRul {H:Type}{enc:TypeId×Value->H}{W:World}:Opens enc prog W 66 (fun _:Rul=>True) Xh:=
 (Xb6 underlying66 qc66
  (X3t rfl X8O (X9E underlying3) (X3t rfl X8O (X9E underlying3)
   (X3t rfl qc9 (qopStr underlying9) (X3t rfl qc9 (qopStr underlying9) (X3t rfl qc9 (qopStr underlying9) (X3t rfl qc9 (qopStr underlying9) Xbm))))))).to
  (fun r=>⟨r.1,r.2.1,r.2.2.1,r.2.2.2.1,r.2.2.2.2.1,r.2.2.2.2.2.1⟩) fun r h=>⟨trivial,rfl⟩
theorem qc170:prog.cellsOf 170=1:=by kernel_rfl
theorem qc171:prog.cellsOf 171=1:=by kernel_rfl
theorem qc26:prog.cellsOf 26=1:=by kernel_rfl
theorem qc27:prog.cellsOf 27=1:=by kernel_rfl
theorem qc213:prog.cellsOf 213=6:=by kernel_rfl
theorem qc173:prog.cellsOf 173=3:=by kernel_rfl
theorem qc176:prog.cellsOf 176=5:=by kernel_rfl
theorem qPrp {H:Type}{enc:TypeId×Value->H}{W:World}:Opens enc prog W 213 X9X Xd:=
 (Xb6 underlying213 qc213
  (X3t rfl qc9 (qopStr underlying9) (X3t rfl qc113 qopVal Xbm))).to
  (fun r=>⟨r.1,r.2.1⟩) fun r h=>⟨⟨h.1,h.2.1⟩,by
   obtain⟨k,v,u⟩:=r
   cases v
   simp[Xd,UT]⟩
theorem qPrps {H:Type}{enc:TypeId×Value->H}{W:World}:Opens enc prog W 171 (fun l:List Prp=>(∀c∈l,X9X c)/\l.length<=9223372036854775807) (fun l=>[.sl 6 (l.map Xd)]):=
 Xf3 fun n=>XeY underlying171 qc213 (by decide) fun m _=>qPrp.at m
theorem qStrs {H:Type}{enc:TypeId×Value->H}{W:World}:Opens enc prog W 170 (fun l:List (List UInt8)=>(∀c∈l,c.length<=9223372036854775807)/\l.length<=9223372036854775807) (fun l=>[.sl 1 (l.map Xf)]):=
 Xf3 fun n=>XeY underlying170 qc9 (by decide) fun m _=>(qopStr underlying9).at m
theorem qNod {H:Type}{enc:TypeId×Value->H}{W:World}:Opens enc prog W 173 XgR Xm:=
 (Xb6 underlying173 qc173
  (X3t rfl X8O (X9E underlying3) (X3t rfl qc170 qStrs (X3t rfl qc171 qPrps Xbm)))).to
  (fun r=>⟨r.1,r.2.1,r.2.2.1⟩) fun r h=>⟨⟨h.2.1.2,h.2.1.1,h.2.2.1.2,h.2.2.1.1⟩,rfl⟩
theorem qEdg {H:Type}{enc:TypeId×Value->H}{W:World}:Opens enc prog W 176 XkX Xr:=
 (Xb6 underlying176 qc176
  (X3t rfl X8O (X9E underlying3) (X3t rfl X8O (X9E underlying3) (X3t rfl X8O (X9E underlying3)
   (X3t rfl qc9 (qopStr underlying9) (X3t rfl qc171 qPrps Xbm)))))).to
  (fun r=>⟨r.1,r.2.1,r.2.2.1,r.2.2.2.1,r.2.2.2.2.1⟩) fun r h=>⟨⟨h.2.2.2.1,h.2.2.2.2.1.2,h.2.2.2.2.1.1⟩,rfl⟩
theorem qNods {H:Type}{enc:TypeId×Value->H}{W:World}:Opens enc prog W 26 (fun l:List Nod=>(∀c∈l,XgR c)/\l.length<=9223372036854775807) (fun l=>[.sl 3 (l.map Xm)]):=
 Xf3 fun n=>XeY underlying26 qc173 (by decide) fun m _=>qNod.at m
theorem qEdgs {H:Type}{enc:TypeId×Value->H}{W:World}:Opens enc prog W 27 (fun l:List Edg=>(∀c∈l,XkX c)/\l.length<=9223372036854775807) (fun l=>[.sl 5 (l.map Xr)]):=
 Xf3 fun n=>XeY underlying27 qc176 (by decide) fun m _=>qEdg.at m
theorem opens_gra {H:Type}{enc:TypeId×Value->H}{W:World}:Opens enc prog W 29 GraHold XxH:=
 (Xb6 underlying29 XtZ
  (X3t rfl qc26 qNods (X3t rfl qc27 qEdgs (X3t rfl X8O (X9E underlying3) (X3t rfl X8O (X9E underlying3) Xbm))))).to
  (fun r=>⟨r.1,r.2.1,r.2.2.1,r.2.2.2.1⟩) fun r h=>⟨⟨h.1.2,h.2.1.2,h.1.1,h.2.1.1⟩,rfl⟩
theorem opens_ruls {H:Type}{enc:TypeId×Value->H}{W:World}:Opens enc prog W 30 (fun l:List Rul=>(∀c∈l,True)/\l.length<=9223372036854775807) (fun l=>[.sl 6 (l.map Xh)]):=
 Xf3 fun n=>XeY underlying30 qc66 (by decide) fun m _=>qopRul.at m
section
variable {H:Type}{enc:TypeId×Value->H}{W:World}
def Xn7 (s:Sta):List D:=XxH s.g++[.sl 6 (s.rules.map Xh),.v (.int .i64 s.ts),.v (.int .i64 s.ep),.v (.int .i64 s.tail)]
theorem Xci (s:Sta):Xy s= .agg ((Xn7 s).map .d):=rfl
theorem Xao:Opens enc prog W 32 StaHold Xn7:=
 (Xb6 underlying32 (by kernel_rfl)
  (X3t rfl XtZ opens_gra (X3t rfl XtR opens_ruls (X3t rfl X8O (X9E underlying3) (X3t rfl X8O (X9E underlying3) (X3t rfl X8O (X9E underlying3) Xbm)))))).to
  (fun r=>⟨r.1,r.2.1,r.2.2.1,r.2.2.2.1,r.2.2.2.2.1⟩) fun r h=>⟨⟨h.1,h.2.1.2⟩,by
   obtain⟨g,l,a,b,c,u⟩:=r;rfl⟩
end
theorem Xbb (s:Sta):Con prog 14 [] [Xy s] [] (ab (X4p s)):=by
 refine ZC1 func14 ntmps14 fun E=> ?_;obtain⟨⟨ns,es,nn,ne⟩,rs,ts,ep,tail⟩:=s;have h1:(ns.map Xm).length=ns.length:=LM ..;have h2:(es.map Xr).length=es.length:=LM ..;have h3:(rs.map Xh).length=rs.length:=LM ..;unfold X4p;simp only[Xy];by_cases q0:ns.length<=40
 case neg=>
  have pT:¬((ns.map Xm).length:Int)<=40:=by omega
  rw[DF (fun h=>q0 h.1)];refine U1 ?_
  (show AWP prog E _ _ _;refine X2 ?_;exact(show Xa _ _ _ _ _ from⟨_,St.le_refl _,⟨rfl,TV⟩,X4 _⟩))
 have pT:((ns.map Xm).length:Int)<=40:=by omega
 by_cases q1:es.length<=40
 case neg=>
  have dI:¬((es.map Xr).length:Int)<=40:=by omega
  rw[DF (fun h=>q1 h.2.1)];refine U1 ?_;exact Qge
 have dI:((es.map Xr).length:Int)<=40:=by omega
 by_cases q2:rs.length<=60
 case neg=>
  have fX:¬((rs.map Xh).length:Int)<=60:=by omega
  rw[DF (fun h=>q2 h.2.2)];refine U1 ?_;exact Qge
 have fX:((rs.map Xh).length:Int)<=60:=by omega
 rw[DT ⟨q0,q1,q2⟩];refine U1 ?_;exact X2 ⟨_,Xe 2 (y:=ab true) (AVal.le_of_eq (CG ab (by simp<;>omega))),⟨rfl,TV⟩,X4 _⟩
end Go.Fw
