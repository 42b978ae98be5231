/- Ninth part: the walk's rule for a call; weakening of states; more operations. -/
import Derived.Laws.BytesString
import Derived.KernelRfl
import Derived.Test.YtfmfekakaeafhaaGreatDoorP31
import Derived.Test.YtfmfekakaeafhaaGreatDoorP49
set_option linter.all false
set_option maxHeartbeats 16000000
namespace Go.Fw
open Go List
open List renaming length->J
section
variable {P:Program}{ops:Array Oper}{draw:Bool}{K:XU->St->Prop}{rest:List Oper}{l:XU}{S:St}
variable {d:Nat}{ty:TypeId}{pos:String}{ah:Array Edge}{gd:Option (Nat×Bool)}
end
def Xod {P:Program}{E:Env}{c:Code}{S:St}{Q:Exit->St->Prop} (γ j:Nat) {sz:Nat}{cs:List AVal}{xs:List (List D)} (hL:S.obj γ= .box cs) (hj:cs[j]? =some (.d (.sl sz xs))) (h:J xs<=9223372036854775807->AWP P E c S Q):AWP P E c S Q:=by
 refine⟨fun a w hs=> ?_⟩;obtain⟨g,hg⟩:=hs;have ho:=hg.1.obj γ;rw[hL] at ho;obtain⟨vs,e,fr,_,_,h3,_⟩:=ho;obtain⟨u,_,hu⟩:=X07 h3 j _ hj;simp only[AVal.sat] at hu;exact(h (XfS hu)).run a w ⟨g,hg⟩
open Go Go.Proofs Tryz
open List renaming length->J
set_option maxRecDepth 100000
def Xau (d:ak) (a:Int) (b:List UInt8) (hl:X05 d) (bx:J b<=4096):Con prog 99 [] [XY d,ai a,.d (Xc b)] [] (X2S (XY (VL d a b).1) (VL d a b).2):=by
 refine ZCt func99 ntmps99 fun E=> ?_;by_cases hu:Vh d=0
 ·have hp:=hl.2.1;by_cases h1:a<0
  ·rw[show VL d a b=(Ur,1) by simp[VL,hu];omega];refine QDc ?_;exact Qmb
  by_cases h2:(J d.aa:Int)<=a
  ·rw[show VL d a b=(Ur,1) by simp[VL,hu];omega];refine QDc ?_;exact Qmb
  by_cases h3:J b≠64
  ·rw[show VL d a b=(Ur,1) by simp[VL,hu];omega];refine QDc ?_;exact Qmb
  have h3:J b=64:=Jp
  rw[show VL d a b=(⟨d.aa,d.pending++[⟨a,b⟩],d.on⟩,0) by simp only[VL,hu];rw[NI Oc,PI ⟨Oa,Oa,h3⟩]];refine QDc ?_;refine Uf ?_;refine Z5 (ag:=X7P d hl) ?_;refine XA ?_;refine Zc (γ:=103) ?_;refine QYc ?_;refine X8 (XI 131 rfl) ?_;refine X8 (VR 101 0 130 (cs:=[.own 130 (J d.aa),.own 131 (J (d.pending.map cWr)+1),ab d.on]) (sz:=1) (xs:=d.aa.map Yd) rfl rfl rfl Oc) ?_;refine X8 (VR 101 1 131 (cs:=[.d (XS d.aa),.own 131 (J (d.pending.map cWr)+1),ab d.on]) (sz:=2) (xs:=(d.pending++[(⟨a,b⟩:Wr)]).map cWr) rfl rfl (by refine Eq.trans (b:=AObj.froz 2 (_++[[_,.sl 1 ([]++_)]])) rfl ?_;simp) Oc) ?_;exact Qib
 ·rw[show VL d a b=(Ur,Vh d) by simp[VL,hu]];refine QDc ?_;exact Qlb
def Xmd {rows:List (List UInt8)}{af:List Wr}{kv kv':Nat->Int}:∀n,(∀k,k<n->kv k=kv' k)->VH rows af kv n=VH rows af kv' n
 |0,_=>rfl
 |n+1,h=>by
  simp only[VH];rw[Xmd n (fun k hk=>h k Oa),h n Oa]
theorem Xtu (d:ak):Vl d (Vo (replicate (J d.pending) 64))=Vl d (fun _=>64):=
 Xmd _ fun k hk=>by simp[Vo,hk]
def Xdd (d:ak) (hl:X05 d):Con prog 101 [] [XY d] [] (X2S (XY (V1 d).1) (V1 d).2):=by
 refine ZCt func101 ntmps101 fun E=> ?_;by_cases hu:Vh d=0
 ·have hp:=hl.2.1;have hok:=X4X (X9h hu).1;rw[show V1 d=(⟨Vl d (Vo (replicate (J d.pending) 64)),[],d.on⟩,0) by rw[Xtu];simp[V1,hu]];refine QDc ?_;refine YS ?_;refine X8 (Uo 5 132 1 rfl rfl rfl) ?_
  refine Xl (fun k:Nat=>k<=J d.pending) (fun k=>⟨26,[(1,.ptr 100 0),(2,.ptr 101 0),(5,.own 132 k),(6,ai k)],[(100,.box [.d (XS d.aa),.d (XW d.pending),ab d.on]),(101,.box [aq,aq,ab false]),(132,.row 1 ((replicate k 64).map X8q))]⟩) (fun k=>J d.pending-k) 0 Oa
   (X9 rfl ⟨JL,JL,JL,JL,TV⟩ ⟨rfl,rfl,rfl,TV⟩) ?_
  intro k hk;by_cases hlt:k<J d.pending
  ·refine YA ?_;refine⟨k+1,Oa,Oa,X9 rfl ⟨JL,JL,JL,JL,TV⟩ ⟨rfl,rfl,?_,TV⟩⟩;refine Eq.trans (b:=AObj.row 1 (_++[X8q 64])) rfl ?_;rw[replicate_succ',map_append];rfl
  obtain rfl:k=J d.pending:=Oa
  refine X8 (XI 132 rfl) ?_;refine X8 (XX 5 132 rfl rfl Oc) ?_;refine Ya ?_;refine Z5 (ag:=XhB d (replicate (J d.pending) 64) hl hok) ?_;exact Qjb
 ·rw[show V1 d=(Ur,Vh d) by simp[V1,hu]];refine QDc ?_;exact Qlb
def Xfy (x:ak):Con prog 13 [] [XY x,XY x] [] (ab true):=by
 obtain⟨s,p,on⟩:=x;refine ZC1 func13 ntmps13 fun E=> ?_;refine QO ?_
 refine Xl (fun k:Nat=>k<=J s) (fun k=>⟨87,[(2,.ptr 100 0),(3,.ptr 101 0),(5,ai k)],[(100,.box [.d (XS s),.d (XW p),ab on]),(101,.box [.d (XS s),.d (XW p),ab on])]⟩) (fun k=>J s-k) 0 Oa
  (X9 rfl ⟨JL,JL,JL,TV⟩ ⟨rfl,rfl,TV⟩) ?_
 intro k hk;refine Xod 100 0 (cs:=[.d (XS s),.d (XW p),ab on]) (sz:=1) (xs:=s.map Yd) rfl rfl fun hle=> ?_;rw[LM] at hle;by_cases hlt:k<J s
 ·obtain⟨b,hb⟩:=Xn (l:=s) hlt;refine X04 ?_;exact⟨k+1,Oa,Oa,X9 rfl ⟨JL,JL,JL,TV⟩ ⟨rfl,rfl,TV⟩⟩
 obtain rfl:k=J s:=Oa
 refine Yb ?_
 refine Xl (fun k:Nat=>k<=J p) (fun k=>⟨87,[(2,.ptr 100 0),(3,.ptr 101 0),(6,ai k)],[(100,.box [.d (XS s),.d (XW p),ab on]),(101,.box [.d (XS s),.d (XW p),ab on])]⟩) (fun k=>J p-k) 0 Oa
  (X9 rfl ⟨JL,JL,JL,TV⟩ ⟨rfl,rfl,TV⟩) ?_
 intro k hk;refine Xod 100 1 (cs:=[.d (XS s),.d (XW p),ab on]) (sz:=2) (xs:=p.map cWr) rfl rfl fun hle=> ?_;rw[LM] at hle;by_cases hlt:k<J p
 ·obtain⟨w,hw⟩:=Xn (l:=p) hlt;refine QY ?_;exact⟨k+1,Oa,Oa,X9 rfl ⟨JL,JL,JL,TV⟩ ⟨rfl,rfl,TV⟩⟩
 obtain rfl:k=J p:=Oa
 exact QFa
def X8Y (s:Sta):Bool:=decide (J s.g.nodes<=40/\J s.g.aj<=40/\J s.rules<=60)
def Xjy (l:List ak) (hl:J l<=9223372036854775807):Con prog 15 [] [.d (.sl 3 (l.map XO)),.d (.sl 3 (l.map XO))] [] (ab true):=by
 refine ZC1 func15 ntmps15 fun E=> ?_;have hlm:J (l.map XO)=J l:=Oc
 refine Y5 ?_
 refine Xl (fun i:Nat=>i<=J l) (fun i=>⟨27,[(0,.d (.sl 3 (l.map XO))),(1,.d (.sl 3 (l.map XO))),(5,ai i)],[]⟩) (fun i=>J l-i) 0 (Nat.zero_le _)
  (ZL0) ?_
 intro i hi;by_cases hil:i<J l
 case neg=>
  have hn:¬(i:Int)<J (l.map XO):=Oa
  refine XD ?_
  (exact Zz2)
 have hn:(i:Int)<J (l.map XO):=Oa
 obtain⟨x,hx⟩:=Xn (l:=l) hil;have au:(l.map XO)[i]? =some (XO x):=XC hx;have hc:=Xfy x;clear hx;obtain⟨xs,xp,xo⟩:=x;simp only[XO] at*;refine Uf ?_;exact QDd
def Xop (s:Sta):Con prog 8 [] [Xz s] [] (ab (X8Y s)):=by
 refine ZC1 func8 ntmps8 fun E=> ?_;obtain⟨⟨ns,es,nn,ne⟩,rs,ts,ep,tail⟩:=s;have h1:J (ns.map Xi)=J ns:=LM ..;have h2:J (es.map Xk)=J es:=LM ..;have h3:J (rs.map Xh)=J rs:=LM ..;unfold X8Y;simp only[Xz];by_cases q0:J ns<=40
 case neg=>
  have qy:¬(J (ns.map Xi):Int)<=40:=Oa
  rw[DF (fun h=>q0 h.1)];refine YT ?_
  (exact Zz2)
 have qy:(J (ns.map Xi):Int)<=40:=Oa
 by_cases q1:J es<=40
 case neg=>
  have dF:¬(J (es.map Xk):Int)<=40:=Oa
  rw[DF (fun h=>q1 h.2.1)];refine YT ?_;exact X3 ⟨_,Xe 2 (y:=ab false) (ZzQ (CG ab (by simp<;>omega))),⟨rfl,TV⟩,X5 _⟩
 have dF:(J (es.map Xk):Int)<=40:=Oa
 by_cases q2:J rs<=60
 case neg=>
  have gz:¬(J (rs.map Xh):Int)<=60:=Oa
  rw[DF (fun h=>q2 h.2.2)];refine YT ?_;exact X3 ⟨_,Xe 2 (y:=ab false) (ZzQ (CG ab (by simp<;>omega))),⟨rfl,TV⟩,X5 _⟩
 have gz:(J (rs.map Xh):Int)<=60:=Oa
 rw[DT ⟨q0,q1,q2⟩];refine YT ?_;exact X3 ⟨_,Xe 2 (y:=ab true) (ZzQ (CG ab (by simp<;>omega))),⟨rfl,TV⟩,X5 _⟩
def Xvc:prog.cellsOf 144=1:=Oh
def XjH:prog.cellsOf 145=1:=Oh
def Xuc:prog.cellsOf 26=1:=Oh
def Xxt:prog.cellsOf 27=1:=Oh
def XoN:prog.cellsOf 196=6:=Oh
def XkB:prog.cellsOf 147=3:=Oh
def XjI:prog.cellsOf 150=5:=Oh
def Xls:prog.cellsOf 29=4:=Oh
def XnY (g:Gra):List D:=[.sl 3 (g.nodes.map Xi),.sl 5 (g.aj.map Xk),.v (.int .i64 g.nn),.v (.int .i64 g.ne)]
section
variable {H:Type}{enc:TypeId×Value->H}{W:World}
def XvF:Opens enc prog W 196 X7C Xb:=
 (X4b underlying196 XoN
  (UQ rfl X5t (X5j underlying9) (UQ rfl Xbi Xk9 X47))).to
  (fun r=>⟨r.1,r.2.1⟩) fun r h=>⟨⟨h.1,h.2.1⟩,by
   obtain⟨k,v,u⟩:=r;cases v;simp[Xb,UB]⟩
def XjG:Opens enc prog W 145 (fun l:List Prp=>(∀c∈l,X7C c)/\J l<=9223372036854775807) (fun l=>[.sl 6 (l.map Xb)]):=
 X4y fun n=>X5c underlying145 XoN Oi fun m _=>XvF.at m
def XpI:Opens enc prog W 144 (fun l:List (List UInt8)=>(∀c∈l,J c<=9223372036854775807)/\J l<=9223372036854775807) (fun l=>[.sl 1 (l.map Xf)]):=
 X4y fun n=>X5c underlying144 X5t Oi fun m _=>(X5j underlying9).at m
def Xpq:Opens enc prog W 147 XbH Xi:=
 (X4b underlying147 XkB
  (UQ rfl X10 (X0X underlying3) (UQ rfl Xvc XpI (UQ rfl XjH XjG X47)))).to
  (fun r=>⟨r.1,r.2.1,r.2.2.1⟩) fun r h=>⟨⟨h.2.1.2,h.2.1.1,h.2.2.1.2,h.2.2.1.1⟩,rfl⟩
def Xs3:Opens enc prog W 150 XcN Xk:=
 (X4b underlying150 XjI
  (UQ rfl X10 (X0X underlying3) (UQ rfl X10 (X0X underlying3) (UQ rfl X10 (X0X underlying3)
   (UQ rfl X5t (X5j underlying9) (UQ rfl XjH XjG X47)))))).to
  (fun r=>⟨r.1,r.2.1,r.2.2.1,r.2.2.2.1,r.2.2.2.2.1⟩) fun r h=>⟨⟨h.2.2.2.1,h.2.2.2.2.1.2,h.2.2.2.2.1.1⟩,rfl⟩
def XyL:Opens enc prog W 26 (fun l:List Nod=>(∀c∈l,XbH c)/\J l<=9223372036854775807) (fun l=>[.sl 3 (l.map Xi)]):=
 X4y fun n=>X5c underlying26 XkB Oi fun m _=>Xpq.at m
def Xy3:Opens enc prog W 27 (fun l:List Edg=>(∀c∈l,XcN c)/\J l<=9223372036854775807) (fun l=>[.sl 5 (l.map Xk)]):=
 X4y fun n=>X5c underlying27 XjI Oi fun m _=>Xs3.at m
def Xss:Opens enc prog W 29 GraHold XnY:=
 (X4b underlying29 Xls
  (UQ rfl Xuc XyL (UQ rfl Xxt Xy3 (UQ rfl X10 (X0X underlying3) (UQ rfl X10 (X0X underlying3) X47))))).to
  (fun r=>⟨r.1,r.2.1,r.2.2.1,r.2.2.2.1⟩) fun r h=>⟨⟨h.1.2,h.2.1.2,h.1.1,h.2.1.1⟩,rfl⟩
def Xyl:Opens enc prog W 68 (fun _:Rul=>True) Xh:=Xny
def XzC:prog.cellsOf 30=1:=Oh
def Xyo:Opens enc prog W 30 (fun l:List Rul=>(∀c∈l,True)/\J l<=9223372036854775807) (fun l=>[.sl 6 (l.map Xh)]):=
 X4y fun n=>X5c underlying30 Xg6 Oi fun m _=>Xyl.at m
def Xoy (s:Sta):List D:=XnY s.g++[.sl 6 (s.rules.map Xh),.v (.int .i64 s.ts),.v (.int .i64 s.ep),.v (.int .i64 s.tail)]
theorem Xnf (s:Sta):Xz s= .agg ((Xoy s).map .d):=rfl
def XoK:Opens enc prog W 32 StaHold Xoy:=
 (X4b underlying32 Oh
  (UQ rfl Xls Xss (UQ rfl XzC Xyo (UQ rfl X10 (X0X underlying3) (UQ rfl X10 (X0X underlying3) (UQ rfl X10 (X0X underlying3) X47)))))).to
  (fun r=>⟨r.1,r.2.1,r.2.2.1,r.2.2.2.1,r.2.2.2.2.1⟩) fun r h=>⟨⟨h.1,h.2.1.2⟩,by
   obtain⟨g,l,a,b,c,u⟩:=r;rfl⟩
end
end Go.Fw
