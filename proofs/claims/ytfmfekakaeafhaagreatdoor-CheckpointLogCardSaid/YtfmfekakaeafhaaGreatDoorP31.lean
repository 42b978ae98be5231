/- Opening what came in, by the number of steps of the reading: for types that contain themselves. Strings. -/
import Derived.KernelRfl
import Derived.Test.YtfmfekakaeafhaaGreatDoorP28
set_option linter.all false
set_option maxHeartbeats 8000000
namespace Go.Fw
open Go Go.ChangeShapes Go.WideShapes Go.Deep List
open List renaming length->J
variable{N n:Nat}
section
variable {H:Type}{enc:TypeId×Value->H}{P:Program}{W:World}
theorem Xud (s:ByteArray):X7 s.data.toList=s:=by
 cases s;simp[X7]
def X5j {t:TypeId} (ht:P.underlying t=some .string):Opens enc P W t (fun s:List UInt8=>J s<=9223372036854775807) (fun s=>[.v (.string (X7 s))]):=by
 refine⟨fun n cs x hx=> ?_⟩;obtain⟨s,rfl,_,hl⟩:=DataW.trod_string ht hx;refine⟨s.data.toList,by simp_all [maxLen],?_⟩;simp only[Vu,D.rep,Xud];exact⟨⟨TV,rfl⟩,TV⟩
def X4y {α:Type}{t:TypeId}{p:α->Prop}{f:α->List D} (h:∀n,OpensN enc P W n t p f):Opens enc P W t p f:=⟨fun n=>(h n).op⟩
def X5c {α:Type}{t e:TypeId}{sz:Nat}{p:α->Prop}{f:α->List D} (ht:P.underlying t=some (.slice e)) (hz:P.cellsOf e=sz) (h0:0<sz) (ho:∀m,n=m+1->OpensN enc P W m e p f):
  OpensN enc P W n t (fun l:List α=>(∀r∈l,p r)/\J l<=9223372036854775807) (fun l=>[.sl sz (l.map f)]):=by
 refine⟨fun cs x hx=> ?_⟩;rcases DataW.trod_slice ht hx with ⟨rfl,_⟩|⟨a,len,cap,elems,rest,n',hn,rfl,_,_,hl,hm,hlen,hel,_,_⟩
 ·refine⟨[],⟨Oc,Oc⟩,?_⟩
  grind [Vu,D.rep]
 have mj:∀i,i<len->∃r,p r/\J (f r)=sz/\∀j d,(f r)[j]? =some d->∃u,W.cell? ((a.add (i*sz)).add j)=some u/\d.rep W.cell? u:=by
  intro i hi;have h0:=hel i hi;rw[getElem?_eq_getElem Oa] at h0;obtain⟨cs',h1,h2⟩:=Option.bind_eq_some_iff.1 h0;obtain⟨r,h3,h4⟩:=(ho n' hn).op _ _ h2;obtain⟨_,h5,h6⟩:=World.cells?_some h1
  grind [Xe8,Xeu]
 obtain⟨l,h1,h2⟩:=Xgw len mj;refine⟨l,⟨fun r hr=> ?_,by rw[h1];have hm':cap<=9223372036854775807:=hm;omega⟩,?_⟩
 ·grind [getElem?_of_mem]
 simp only[Vu,D.rep];refine⟨⟨some a,cap,II,II,hm,?_⟩,TV⟩;by_cases gx:len=0
 ·grind
 right;obtain⟨b,o,sp⟩:=a;have hsp:sp=none:=by
  exact Yt30
 grind [X99,X7t,Vq]
structure OpensFN {α:Type} (enc:TypeId×Value->H) (P:Program) (W:World) (n:Nat) (N:Nat) (fs:List Field) (off:Nat) (p:α->Prop) (f:α->List D):Prop where
 op:∀cs:List Value,J cs=N->(∀q∈fs,∃x,DataW.trod enc P W 0 (fun _=>true) true n q.type ((cs.drop q.offset).take (P.cellsOf q.type))=some x)->∃r,p r/\Vu W.cell? (f r) (cs.drop off)
def XyM:OpensFN enc P W n N [] N (fun _:Unit=>True) (fun _=>[]):=by
 refine⟨fun cs hN _=>⟨(),TV,?_⟩⟩
 grind [Vu]
def X9J {α β:Type}{q:Field}{fs:List Field}{off s:Nat}{p:α->Prop}{f:α->List D}{p':β->Prop}{f':β->List D} (hoff:q.offset=off) (hs:P.cellsOf q.type=s)
  (h:OpensN enc P W n q.type p f) (k:OpensFN enc P W n N fs (off+s) p' f'):OpensFN enc P W n N (q::fs) off (fun r:α×β=>p r.1/\p' r.2) (fun r=>f r.1++f' r.2):=by
 refine⟨fun cs hN hall=> ?_⟩;obtain⟨x,hx⟩:=hall q Oc;rw[hoff,hs] at hx;obtain⟨r,h1,h2⟩:=h.op _ _ hx;obtain⟨r',h3,h4⟩:=k.op cs hN fun q' lC=>hall q' (by simp[lC]);refine⟨(r,r'),⟨h1,h3⟩,?_⟩
 grind [Xg2,drop_drop,take_append_drop]
def XqV {α:Type}{t:TypeId}{fs:Array Field}{p:α->Prop}{f:α->List D} (ht:P.underlying t=some (.struct fs)) (hN:P.cellsOf t=N) (h:∀m,n=m+1->OpensFN enc P W m N fs.toList 0 p f):OpensN enc P W n t p f:=by
 refine⟨fun cs x hx=> ?_⟩;obtain⟨xs,n',hn,_,hl,hlen,hf⟩:=DataW.trod_struct ht hx;have:=(h n' hn).op cs (hl.trans hN) fun q hq=>by
  grind [getElem?_of_mem]
 simpa using this
end
open Go Go.Proofs Tryz
open List renaming length->J
set_option maxRecDepth 100000
abbrev X8q (x:Int):List D:=[.v (.int .i64 x)]
abbrev X8H (l:List Int):D:= .sl 1 (l.map X8q)
def Vo (keep:List Int) (i:Nat):Int:=(keep[i]?).getD 0
def X7P (d:ak) (hl:X05 d):Con prog 45 [] [XY d] [(130,.row 1 (d.aa.map Yd)),(131,.row 2 (d.pending.map cWr))] (.agg [.own 130 (J d.aa),.own 131 (J d.pending),ab d.on]):=by
 obtain⟨secs,af,on⟩:=d;obtain⟨bh,bM,jZ,lI⟩:=hl;simp only at bh bM jZ lI;refine ZC1 func45 ntmps45 fun E=> ?_;refine YS ?_;refine X8 (X1Y 102 0 130 1 (cs:=[aq,aq,ab on]) rfl rfl rfl rfl rfl) ?_;refine X8 (X1Y 102 1 131 2 (cs:=[.own 130 0,aq,ab on]) rfl rfl rfl rfl rfl) ?_
 refine Xl (fun k:Nat=>k<=J secs) (fun k=>⟨56,[(1,.ptr 100 0),(2,.ptr 101 0),(3,.ptr 102 0),(4,ai k)],[(100,.box [.d (XS secs),.d (XW af),ab on]),(101,.box [aq,aq,ab false]),(102,.box [.own 130 k,.own 131 0,ab on]),(130,.row 1 ((secs.take k).map Yd)),(131,.row 2 [])]⟩) (fun k=>J secs-k) 0 Oa
  (X9 rfl ⟨JL,JL,JL,JL,TV⟩ ⟨rfl,rfl,rfl,rfl,rfl,TV⟩) ?_
 intro k hk;by_cases hlt:k<J secs
 ·obtain⟨s,hs⟩:=Xn (l:=secs) (k:=k) Oa;have aL:J s<=4096:=jZ s (mem_of_getElem? hs);refine YJ ?_;refine Zc (γ:=103) ?_;refine XA ?_;refine⟨k+1,Oa,Oa,X9 rfl ⟨JL,JL,JL,JL,TV⟩ ⟨rfl,rfl,?_,?_,rfl,TV⟩⟩
  ·refine Eq.trans (b:=AObj.box [.own 130 _,.own 131 0,ab on]) rfl ?_;congr 3;simp;omega
  ·refine Eq.trans (b:=AObj.row 1 (_++[[.sl 1 ([]++_)]])) rfl ?_;rw[XbZ hs];simp
 obtain rfl:k=J secs:=Oa
 refine Yb ?_
 refine Xl (fun k:Nat=>k<=J af) (fun k=>⟨56,[(1,.ptr 100 0),(2,.ptr 101 0),(3,.ptr 102 0),(5,ai k)],[(100,.box [.d (XS secs),.d (XW af),ab on]),(101,.box [aq,aq,ab false]),(102,.box [.own 130 (J secs),.own 131 k,ab on]),(130,.row 1 (secs.map Yd)),(131,.row 2 ((af.take k).map cWr))]⟩) (fun k=>J af-k) 0 Oa
  (X9 rfl ⟨JL,JL,JL,JL,TV⟩ ⟨rfl,rfl,rfl,(by refine Eq.trans (b:=AObj.row 1 _) rfl ?_;simp),rfl,TV⟩) ?_
 intro k hk;by_cases hlt:k<J af
 ·obtain⟨w,hw⟩:=Xn (l:=af) (k:=k) Oa;have tG:J w.b<=4096:=lI w (mem_of_getElem? hw);refine YG ?_;refine Zc (γ:=103) ?_;refine XB ?_;refine⟨k+1,Oa,Oa,X9 rfl ⟨JL,JL,JL,JL,TV⟩ ⟨rfl,rfl,?_,rfl,?_,TV⟩⟩
  ·refine Eq.trans (b:=AObj.box [.own 130 (J secs),.own 131 _,ab on]) rfl ?_;congr 4;simp;omega
  ·refine Eq.trans (b:=AObj.row 2 (_++[[_,.sl 1 ([]++_)]])) rfl ?_;rw[XbZ hw];simp
 obtain rfl:k=J af:=Oa
 refine Yr ?_;refine X3 ⟨_,ZzS,⟨⟨101,0,_,rfl,rfl,.inr ⟨3,_,rfl,rfl,rfl,rfl⟩⟩,TV⟩,Xm ⟨rfl,?_,TV⟩⟩;refine Eq.trans (b:=AObj.row 2 _) rfl ?_;simp
def Xii (a b:List UInt8) (k:Nat) (ha:J a<=4096) (hb:J b<=4096) (hk:k<=J a) (hk2:k<=J b):Con prog 71 [] [.d (Xc a),ai k,.d (Xc b)] [] (.d (Xc (a.take k++b.drop k))):=by
 refine ZC1 func71 ntmps71 fun E=> ?_;refine YJ ?_;refine X8 (XI 100 rfl) ?_;refine X8 (XX 6 100 rfl rfl Oc) ?_;exact X3 ⟨_,Xe 6 (y:= .d (Xc (a.take k++b.drop k))) (ZzQ (by refine Eq.trans (b:=AVal.d (.sl 1 (([]++_)++_))) rfl ?_;simp[take_of_length_le])),⟨rfl,TV⟩,X5 _⟩
def Xex {α β:Type} (f:α->β):∀{l:List α}{a:Nat} (y:α),a<J l->(l.map f).take a++[f y]++(l.map f).drop (a+1)=(l.set a y).map f
 |x::l,0,y,_=>Oc
 |x::l,a+1,y,h=>by
  have:=Xex f (l:=l) (a:=a) y O2;simpa using this
def XhB (d:ak) (keep:List Int) (hl:X05 d) (hok:okW d.aa d.pending):Con prog 47 [] [XY d,.d (X8H keep)] [] (XY ⟨Vl d (Vo keep),[],d.on⟩):=by
 have hp:=hl.2.1;refine ZC1 func47 ntmps47 fun E=> ?_;refine W8_ ?_;refine Z5 (ag:=X7P d hl) ?_;refine W9_ ?_
 refine Xl (fun k:Nat=>k<=J d.pending) (fun k=>⟨50,[(1,.d (X8H keep)),(2,.ptr 100 0),(4,.ptr 101 0),(5,.ptr 102 0),(6,ai k)],[(100,.box [.d (XS d.aa),.d (XW d.pending),ab d.on]),(101,.box [aq,aq,ab false]),(102,.box [.own 130 (J d.aa),.own 131 (J d.pending),ab d.on]),(130,.row 1 ((VH d.aa d.pending (Vo keep) k).map Yd)),(131,.row 2 (d.pending.map cWr))]⟩) (fun k=>J d.pending-k) 0 Oa
  (X9 rfl ⟨JL,JL,JL,JL,JL,TV⟩ ⟨rfl,rfl,rfl,rfl,rfl,TV⟩) ?_
 intro k hk;by_cases hlt:k<J d.pending
 ·obtain⟨⟨at_,b⟩,hw⟩:=Xn (l:=d.pending) (k:=k) Oa;obtain⟨b1,b2,b3⟩:=hok.2 _ (mem_of_getElem? hw);simp only at b1 b2 b3;obtain⟨a,rfl⟩:∃a:Nat,at_=a:=⟨at_.toNat,Oa⟩
  have aT:=X4Q d.aa d.pending (Vo keep) k;obtain⟨r,hr⟩:=Xn (l:=VH d.aa d.pending (Vo keep) k) (k:=a) Oa;have hrl:=X6t (Vo keep) hok k r (mem_of_getElem? hr);have hc:=Xag (Vo keep k);have hst:=Xm8 hw hr;by_cases hkk:k<J keep
  ·obtain⟨x,hx⟩:=Xn (l:=keep) (k:=k) hkk;have hks:Vo keep k=x:=by simp[Vo,hx]
   rw[hks] at hc hst;refine Uf ?_;refine XaH (ij x) (Xjh x) rfl rfl rfl OV ?_;refine XM ?_;refine Z5 (ag:=Xii b r (ij x) Oa Oa Oa Oa) ?_;refine W8_ ?_;refine⟨k+1,Oa,Oa,X9 rfl ⟨JL,JL,JL,JL,JL,TV⟩ ⟨rfl,rfl,rfl,?_,rfl,TV⟩⟩;refine Eq.trans (b:=AObj.row 1 (take a _++[Yd _]++drop (a+1) _)) rfl ?_;rw[Xex Yd _ Oa,hst]
  ·have hks:Vo keep k=0:=by simp[Vo,Nat.not_lt.1 hkk]
   rw[hks] at hc hst;refine Qxa ?_;refine Z5 (ag:=Xii b r 0 Oa Oa Oa Oa) ?_;refine W8_ ?_;refine⟨k+1,Oa,Oa,X9 rfl ⟨JL,JL,JL,JL,JL,TV⟩ ⟨rfl,rfl,rfl,?_,rfl,TV⟩⟩;refine Eq.trans (b:=AObj.row 1 (take a _++[Yd _]++drop (a+1) _)) rfl ?_;rw[Xex Yd _ Oa,hst];rfl
 obtain rfl:k=J d.pending:=Oa
 refine Y5 ?_;refine Qdc ?_;refine X8 (VR 101 0 130 (cs:=[.own 130 (J d.aa),aq,ab d.on]) (sz:=1) (xs:=(Vl d (Vo keep)).map Yd) rfl rfl rfl (by rw[LM];exact(X4Q _ _ _ _).symm)) ?_;exact X3 ⟨_,Xg 101 (cs:=[.d (XS (Vl d (Vo keep))),aq,ab d.on]) (cs':=[.d (XS (Vl d (Vo keep))),.d (XW []),ab d.on]) rfl ⟨ZzV,AVal.le_nil 2,ZzV,TV⟩ rfl,⟨⟨101,0,_,rfl,rfl,.inr ⟨3,_,rfl,rfl,rfl,rfl⟩⟩,TV⟩,X5 _⟩
def X5t:prog.cellsOf 9=1:=Oh
def Xz4:prog.cellsOf 95=1:=Oh
def Xbi:prog.cellsOf 97=5:=Oh
def Xg6:prog.cellsOf 68=6:=Oh
def Xsh (r:Rul):List D:=[.v (.int .i64 r.kind),.v (.int .i64 r.n),.v (.string (X7 r.name)),.v (.string (X7 r.key)),.v (.string (X7 r.src)),.v (.string (X7 r.dst))]
section
variable {H:Type}{enc:TypeId×Value->H}{W:World}
def XlS:∀n,OpensN enc prog W n 97 U1 UB
 |0=>⟨fun cs x hx=>by simp[DataW.trod] at hx⟩
 |n+1=>
  (XqV underlying97 Xbi (fun m hm=>
   X9J rfl X10 ((X0X underlying3).at m) (X9J rfl X10 ((X0X underlying3).at m) (X9J rfl X10 ((X0X underlying3).at m)
    (X9J rfl X5t ((X5j underlying9).at m)
     (X9J rfl Xz4 (X5c (p:=U1) (f:=UB) underlying95 Xbi Oi (fun m' hm'=>XlS m')) XyM)))))).to
   (fun r=> .mk r.1 r.2.1 r.2.2.1 r.2.2.2.1 r.2.2.2.2.1) fun r h=>⟨by rw[U1];exact⟨h.2.2.2.1,h.2.2.2.2.1.2,XcU h.2.2.2.2.1.1⟩,by rw[UB,X8h];rfl⟩
termination_by n=>n
decreasing_by omega
def Xk9:Opens enc prog W 97 U1 UB:=X4y XlS
def Xny:Opens enc prog W 68 (fun _:Rul=>True) Xsh:=
 (X4b underlying68 Xg6
  (UQ rfl X10 (X0X underlying3) (UQ rfl X10 (X0X underlying3)
   (UQ rfl X5t (X5j underlying9) (UQ rfl X5t (X5j underlying9) (UQ rfl X5t (X5j underlying9) (UQ rfl X5t (X5j underlying9) X47))))))).to
  (fun r=>⟨r.1,r.2.1,r.2.2.1,r.2.2.2.1,r.2.2.2.2.1,r.2.2.2.2.2.1⟩) fun r h=>⟨TV,rfl⟩
end
end Go.Fw
