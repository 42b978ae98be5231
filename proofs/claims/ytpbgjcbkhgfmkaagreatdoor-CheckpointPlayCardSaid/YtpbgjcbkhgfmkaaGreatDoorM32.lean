/- What fails in edges. -/
import Derived.Tactics
import Derived.Tactics2
import Derived.Defers
import Derived.Recover
import Derived.Laws.Pointers
import Derived.Test.YtpbgjcbkhgfmkaaGreatDoorM31
set_option maxHeartbeats 32000000
namespace Go.Fw
open Go Go.Proofs Tryz List
set_option maxRecDepth 100000
set_option linter.unusedVariables false
set_option linter.unusedSimpArgs false
theorem XrS (g:Gra) (c:Chg) (hg:GV g) (ho:c.op=6) (q1:XD Edg.id g.aj c.id=true):
  X0c prog 181 (edS g) [.ptr 0 0,Xz c] (X0w 7):=by
 obtain⟨ns,es,nn,ne⟩:=g;have aB:=hg.ns;have ax:=hg.nl;have aO:=hg.es;have hel:=hg.el;simp only at q1 aB aO ax hel;refine X1Q func181 rfl ntmps181 rfl (fun E=> ?_);refine X0y rfl rfl rfl rfl (fun xs ys h1 h2=> ?_);subst h1 h2;have hE:=X4u (xs.map rXN) (ys.map rXE) nn ne c.id (by simp at hel |-;omega) ((X4c ys).2 aO);rw[X4m,X4F,q1] at hE;simp only[edL,LM] at hE hel ax;generalize Xo ltI Edg.id (ys.map (·.1)) c.id=i at*;simp only[edS,LM];clear hg aB aO;obtain⟨op,id,src,dst,name,⟨k0,k1,k2,k3,k4⟩⟩:=c;simp only at ho;subst ho;simp only[Xz,Us] at*;refine Qmd ?_;refine YR ?_;refine X2h 2 rfl (fun _=>rfl) ?_;refine W2_ ?_
 (refine .done (fun h=>Bool.noConfusion h) ?_;apply X2n (af:=X2q 7);(case hxs=>exact rfl);(case hys=>conv=>lhs;whnf);(case hle=>((repeat (first|exact trivial|refine⟨(by(first|((exact AVal.le_refl _))|((exact AVal.le_nil _))|((refine AVal.le_agg ?_;((repeat (first|exact trivial|refine⟨(by(first|((exact AVal.le_refl _))|((exact AVal.le_nil _))|((refine AVal.le_of_eq ?_;(conv=>lhs;whnf);(first|((rfl))|((simp<;>fail))|fail)))|fail)),?_⟩|fail))<;>fail)))|((refine AVal.le_of_eq ?_;(conv=>lhs;whnf);(first|((rfl))|((simp<;>fail))|fail)))|fail)),?_⟩|fail))<;>fail));(case hf=>exact rfl);(case bH=>(repeat (first|exact trivial|refine⟨rfl,?_⟩|fail))<;>fail))
theorem Xqq (g:Gra) (c:Chg) (hg:GV g) (ho:c.op=6) (q1:XD Edg.id g.aj c.id=false) (qs:XD Nod.id g.nodes c.src=false):
  X0c prog 181 (edS g) [.ptr 0 0,Xz c] (X0w 10):=by
 obtain⟨ns,es,nn,ne⟩:=g;have aB:=hg.ns;have ax:=hg.nl;have aO:=hg.es;have hel:=hg.el;simp only at q1 qs aB aO ax hel;refine X1Q func181 rfl ntmps181 rfl (fun E=> ?_);refine X0y rfl rfl rfl rfl (fun xs ys h1 h2=> ?_);subst h1 h2;have gb:=X0X (xs.map rXN) (ys.map rXE) nn ne c.src (by simp at ax |-;omega) ((X0R xs).2 aB);have gf:=X0X (xs.map rXN) (ys.map rXE) nn ne c.dst (by simp at ax |-;omega) ((X0R xs).2 aB);rw[X0N,X13,qs] at gb;rw[X0N,X13] at gf;simp only[edL,LM] at gb gf;have fD:=VR 7;generalize XD Nod.id (xs.map (·.1)) c.dst=bd at*;have hE:=X4u (xs.map rXN) (ys.map rXE) nn ne c.id (by simp at hel |-;omega) ((X4c ys).2 aO);rw[X4m,X4F,q1] at hE;simp only[edL,LM] at hE hel ax;generalize Xo ltI Edg.id (ys.map (·.1)) c.id=i at*;simp only[edS,LM];clear hg aB aO;obtain⟨op,id,src,dst,name,⟨k0,k1,k2,k3,k4⟩⟩:=c;simp only at ho;subst ho;simp only[Xz,Us] at*;refine Qmd ?_;refine YT ?_;refine Qnd ?_;refine W7_ ?_;refine X2h 4 rfl (fun _=>rfl) ?_;refine W4_ ?_
 (refine .done (fun h=>Bool.noConfusion h) ?_;apply X2n (af:=X2q 10);(case hxs=>exact rfl);(case hys=>conv=>lhs;whnf);(case hle=>((repeat (first|exact trivial|refine⟨(by(first|((exact AVal.le_refl _))|((exact AVal.le_nil _))|((refine AVal.le_agg ?_;((repeat (first|exact trivial|refine⟨(by(first|((exact AVal.le_refl _))|((exact AVal.le_nil _))|((refine AVal.le_of_eq ?_;(conv=>lhs;whnf);(first|((rfl))|((simp<;>fail))|fail)))|fail)),?_⟩|fail))<;>fail)))|((refine AVal.le_of_eq ?_;(conv=>lhs;whnf);(first|((rfl))|((simp<;>fail))|fail)))|fail)),?_⟩|fail))<;>fail));(case hf=>exact rfl);(case bH=>(repeat (first|exact trivial|refine⟨rfl,?_⟩|fail))<;>fail))
theorem Xot (g:Gra) (c:Chg) (hg:GV g) (ho:c.op=6) (q1:XD Edg.id g.aj c.id=false) (qs:XD Nod.id g.nodes c.src=true) (qd:XD Nod.id g.nodes c.dst=false):
  X0c prog 181 (edS g) [.ptr 0 0,Xz c] (X0w 10):=by
 obtain⟨ns,es,nn,ne⟩:=g;have aB:=hg.ns;have ax:=hg.nl;have aO:=hg.es;have hel:=hg.el;simp only at q1 qs qd aB aO ax hel;refine X1Q func181 rfl ntmps181 rfl (fun E=> ?_);refine X0y rfl rfl rfl rfl (fun xs ys h1 h2=> ?_);subst h1 h2;have gb:=X0X (xs.map rXN) (ys.map rXE) nn ne c.src (by simp at ax |-;omega) ((X0R xs).2 aB);have gf:=X0X (xs.map rXN) (ys.map rXE) nn ne c.dst (by simp at ax |-;omega) ((X0R xs).2 aB);rw[X0N,X13,qs] at gb;rw[X0N,X13,qd] at gf;simp only[edL,LM] at gb gf;have fD:=VR 7;have hE:=X4u (xs.map rXN) (ys.map rXE) nn ne c.id (by simp at hel |-;omega) ((X4c ys).2 aO);rw[X4m,X4F,q1] at hE;simp only[edL,LM] at hE hel ax;generalize Xo ltI Edg.id (ys.map (·.1)) c.id=i at*;simp only[edS,LM];clear hg aB aO;obtain⟨op,id,src,dst,name,⟨k0,k1,k2,k3,k4⟩⟩:=c;simp only at ho;subst ho;simp only[Xz,Us] at*;refine Qmd ?_;refine YT ?_;refine Qnd ?_;refine W7_ ?_;refine X2h 4 rfl (fun _=>rfl) ?_;refine W4_ ?_
 (refine .done (fun h=>Bool.noConfusion h) ?_;apply X2n (af:=X2q 10);(case hxs=>exact rfl);(case hys=>conv=>lhs;whnf);(case hle=>((repeat (first|exact trivial|refine⟨(by(first|((exact AVal.le_refl _))|((exact AVal.le_nil _))|((refine AVal.le_agg ?_;((repeat (first|exact trivial|refine⟨(by(first|((exact AVal.le_refl _))|((exact AVal.le_nil _))|((refine AVal.le_of_eq ?_;(conv=>lhs;whnf);(first|((rfl))|((simp<;>fail))|fail)))|fail)),?_⟩|fail))<;>fail)))|((refine AVal.le_of_eq ?_;(conv=>lhs;whnf);(first|((rfl))|((simp<;>fail))|fail)))|fail)),?_⟩|fail))<;>fail));(case hf=>exact rfl);(case bH=>(repeat (first|exact trivial|refine⟨rfl,?_⟩|fail))<;>fail))
theorem XvC (g:Gra) (c:Chg) (hg:GV g) (ho:c.op=6) (q1:XD Edg.id g.aj c.id=false) (qs:XD Nod.id g.nodes c.src=true) (qd:XD Nod.id g.nodes c.dst=true) (q2:¬g.aj.length<4000):
  X0c prog 181 (edS g) [.ptr 0 0,Xz c] (X0w 20):=by
 obtain⟨ns,es,nn,ne⟩:=g;have aB:=hg.ns;have ax:=hg.nl;have aO:=hg.es;have hel:=hg.el;simp only at q1 qs qd q2 aB aO ax hel;refine X1Q func181 rfl ntmps181 rfl (fun E=> ?_);refine X0y rfl rfl rfl rfl (fun xs ys h1 h2=> ?_);subst h1 h2;have gb:=X0X (xs.map rXN) (ys.map rXE) nn ne c.src (by simp at ax |-;omega) ((X0R xs).2 aB);have gf:=X0X (xs.map rXN) (ys.map rXE) nn ne c.dst (by simp at ax |-;omega) ((X0R xs).2 aB);rw[X0N,X13,qs] at gb;rw[X0N,X13,qd] at gf;simp only[edL,LM] at gb gf;have fD:=VR 7;have hE:=X4u (xs.map rXN) (ys.map rXE) nn ne c.id (by simp at hel |-;omega) ((X4c ys).2 aO);rw[X4m,X4F,q1] at hE;simp only[edL,LM] at hE hel ax q2;generalize Xo ltI Edg.id (ys.map (·.1)) c.id=i at*;have cq:=VR 10;have ay:ys.length=((ys.map rXE).map cRE).length:=by simp
 have fX:¬(((ys.map rXE).map cRE).length:Int)<4000:=by rw[<-ay];omega
 generalize (ys.map rXE).map cRE=R at*;simp only[edS,LM];clear hg aB aO;obtain⟨op,id,src,dst,name,⟨k0,k1,k2,k3,k4⟩⟩:=c;simp only at ho;subst ho;simp only[Xz,Us] at*;refine Qmd ?_;refine Yw ?_;refine Z3 (af:=fD) ?_;refine W6_ ?_;refine Qnd ?_;refine XR ?_;refine Z3 (af:=cq) ?_;refine W2_ ?_;refine X2h 7 rfl (fun _=>rfl) ?_;refine W6_ ?_;refine Zj (op:= .lss) (r':= .bool false) (u:= .int .i64 (R.length:Nat)) (v:= .int .i64 4000) ?_ (hr':=by exact CG Value.bool (DF fX))
 (refine .done (fun h=>Bool.noConfusion h) ?_;apply X2n (af:=X2q 20);(case hxs=>exact rfl);(case hys=>conv=>lhs;whnf);(case hle=>((repeat (first|exact trivial|refine⟨(by(first|((exact AVal.le_refl _))|((exact AVal.le_nil _))|((refine AVal.le_agg ?_;((repeat (first|exact trivial|refine⟨(by(first|((exact AVal.le_refl _))|((exact AVal.le_nil _))|((refine AVal.le_of_eq ?_;(conv=>lhs;whnf);(first|((rfl))|((simp<;>fail))|fail)))|fail)),?_⟩|fail))<;>fail)))|((refine AVal.le_of_eq ?_;(conv=>lhs;whnf);(first|((rfl))|((simp<;>fail))|fail)))|fail)),?_⟩|fail))<;>fail));(case hf=>exact rfl);(case bH=>(repeat (first|exact trivial|refine⟨rfl,?_⟩|fail))<;>fail))
theorem XvG (g:Gra) (c:Chg) (hg:GV g) (ho:c.op=7) (q1:XD Edg.id g.aj c.id=false):
  X0c prog 181 (edS g) [.ptr 0 0,Xz c] (X0w 11):=by
 obtain⟨ns,es,nn,ne⟩:=g;have aB:=hg.ns;have ax:=hg.nl;have aO:=hg.es;have hel:=hg.el;simp only at q1 aB aO ax hel;refine X1Q func181 rfl ntmps181 rfl (fun E=> ?_);refine X0y rfl rfl rfl rfl (fun xs ys h1 h2=> ?_);subst h1 h2;have hE:=X4u (xs.map rXN) (ys.map rXE) nn ne c.id (by simp at hel |-;omega) ((X4c ys).2 aO);rw[X4m,X4F,q1] at hE;simp only[edL,LM] at hE hel ax;generalize Xo ltI Edg.id (ys.map (·.1)) c.id=i at*;simp only[edS,LM];clear hg aB aO;obtain⟨op,id,src,dst,name,⟨k0,k1,k2,k3,k4⟩⟩:=c;simp only at ho;subst ho;simp only[Xz,Us] at*;refine Qmd ?_;refine Vl ?_;refine Qpd ?_
 (refine .done (fun h=>Bool.noConfusion h) ?_;apply X2n (af:=X2q 11);(case hxs=>exact rfl);(case hys=>conv=>lhs;whnf);(case hle=>((repeat (first|exact trivial|refine⟨(by(first|((exact AVal.le_refl _))|((exact AVal.le_nil _))|((refine AVal.le_agg ?_;((repeat (first|exact trivial|refine⟨(by(first|((exact AVal.le_refl _))|((exact AVal.le_nil _))|((refine AVal.le_of_eq ?_;(conv=>lhs;whnf);(first|((rfl))|((simp<;>fail))|fail)))|fail)),?_⟩|fail))<;>fail)))|((refine AVal.le_of_eq ?_;(conv=>lhs;whnf);(first|((rfl))|((simp<;>fail))|fail)))|fail)),?_⟩|fail))<;>fail));(case hf=>exact rfl);(case bH=>(repeat (first|exact trivial|refine⟨rfl,?_⟩|fail))<;>fail))
theorem Xw2 (g:Gra) (c:Chg) (hg:GV g) (ho:c.op=8) (q1:XD Edg.id g.aj c.id=false):
  X0c prog 181 (edS g) [.ptr 0 0,Xz c] (X0w 11):=by
 obtain⟨ns,es,nn,ne⟩:=g;have aB:=hg.ns;have ax:=hg.nl;have aO:=hg.es;have hel:=hg.el;simp only at q1 aB aO ax hel;refine X1Q func181 rfl ntmps181 rfl (fun E=> ?_);refine X0y rfl rfl rfl rfl (fun xs ys h1 h2=> ?_);subst h1 h2;have hE:=X4u (xs.map rXN) (ys.map rXE) nn ne c.id (by simp at hel |-;omega) ((X4c ys).2 aO);rw[X4m,X4F,q1] at hE;simp only[edL,LM] at hE hel ax;generalize Xo ltI Edg.id (ys.map (·.1)) c.id=i at*;simp only[edS,LM];clear hg aB aO;obtain⟨op,id,src,dst,name,⟨k0,k1,k2,k3,k4⟩⟩:=c;simp only at ho;subst ho;simp only[Xz,Us] at*;refine Qmd ?_;refine Vl ?_;refine Qpd ?_
 (refine .done (fun h=>Bool.noConfusion h) ?_;apply X2n (af:=X2q 11);(case hxs=>exact rfl);(case hys=>conv=>lhs;whnf);(case hle=>((repeat (first|exact trivial|refine⟨(by(first|((exact AVal.le_refl _))|((exact AVal.le_nil _))|((refine AVal.le_agg ?_;((repeat (first|exact trivial|refine⟨(by(first|((exact AVal.le_refl _))|((exact AVal.le_nil _))|((refine AVal.le_of_eq ?_;(conv=>lhs;whnf);(first|((rfl))|((simp<;>fail))|fail)))|fail)),?_⟩|fail))<;>fail)))|((refine AVal.le_of_eq ?_;(conv=>lhs;whnf);(first|((rfl))|((simp<;>fail))|fail)))|fail)),?_⟩|fail))<;>fail));(case hf=>exact rfl);(case bH=>(repeat (first|exact trivial|refine⟨rfl,?_⟩|fail))<;>fail))
theorem Xsf (g:Gra) (c:Chg) (x:Edg) (hg:GV g) (ho:c.op=8) (hx:X0r g.aj c.id=some x) (q1:¬(Ud x.props c.name c.v).length<=16):
  X0c prog 181 (edS g) [.ptr 0 0,Xz c] (X0w 20):=by
 have bw:=Xc9 hx;rw[XnL hg] at hx;obtain⟨ns,es,nn,ne⟩:=g;have aO:=hg.es;have hel:=hg.el;have aD:=(hg.aj x bw.1).2.2.2.2.2;simp only at hx aO hel;obtain⟨x',hx',bA⟩:=Option.bind_eq_some_iff.1 hx;obtain⟨hk,rfl⟩:x'.id=c.id/\x'=x:=by by_cases e:x'.id=c.id<;>simp[e] at bA |-;exact bA
 have q0:XD Edg.id es c.id=true:=by rw[X10 UY aO];exact DT ⟨x',hx',hk⟩
 have hle:Xo ltI Edg.id es c.id<es.length:=(GS.1 hx').1;refine X1Q func181 rfl ntmps181 rfl (fun E=> ?_);refine X0y rfl rfl rfl rfl (fun xs ys h1 h2=> ?_);subst h1 h2;have hE:=X4u (xs.map rXN) (ys.map rXE) nn ne c.id (by simp at hel |-;omega) ((X4c ys).2 aO);rw[X4m,X4F,q0] at hE;simp only[edL,LM] at hE hel hle;generalize Xo ltI Edg.id (ys.map (·.1)) c.id=i at*;obtain⟨⟨x1,u⟩,hy0,rfl⟩:∃y:XE,ys[i]? =some y/\y.1=x':=by
  rw[getElem?_map] at hx';obtain⟨y,e1,e2⟩:=Option.map_eq_some_iff.1 hx';exact⟨y,e1,e2⟩
 simp only at*;have nU:=VR 11;have hS:=Xm5 x1.props c.name c.v aD.pr aD.pl q1;clear q1;have bQ:=Xas hy0;simp only at bQ;have ay:ys.length=((ys.map rXE).map cRE).length:=by simp
 have eu:((ys.map rXE).map cRE)[i]? =some [.v (.int .i64 x1.id),.v (.int .i64 x1.src),.v (.int .i64 x1.dst),.v (.string (X6 x1.typ)),.v u]:=by
  rw[getElem?_map,getElem?_map,hy0];rfl
 have kY:=X6B (ys.map rXE);simp only[edS,LM];clear hg aO hx hx' bA bw aD q0 hel;generalize hR:(ys.map rXE).map cRE=R at*;have hlm:(x1.props.map Xd).length=x1.props.length:=by simp
 generalize ax:x1.props.length=nl at*;obtain⟨op,id,src,dst,name,⟨k0,k1,k2,k3,k4⟩⟩:=c;simp only at ho;subst ho;simp only[Xz,Us,XC,X15] at*;refine Qmd ?_;refine YT ?_;show AWP prog E _ _ _;refine X3R 0 1 4 120 rfl (by omega) rfl rfl ay rfl rfl (fun cp k aI aW bL _=> ?_);refine Qod ?_;rw[hlm];have jw:=X2f (k:=k) kY;generalize map some R.flatten++replicate k none=C at*;have hj:i*5+4<C.length:=by omega
 have hrd:=X57 (y:= .own 121 nl) hj;have cP:0+i*5+4=i*5+4:=by omega
 have fj:=Eq.trans (CG (fun z=>(Yi C (some (_,.own 121 nl)))[z]?) cP) hrd;have hbd:0+i*5+4+1<=C.length:=by omega
 have bg:R.length=ys.length:=ay.symm;clear ay ax;have eH:=hlm.symm
 skip
 refine XjN 19 (by kernel_rfl) rfl (fun _=>rfl) ?_;refine XR ?_;refine Zh (sz:=5) ?_;refine W1_ ?_;refine Qjd ?_;refine .done (fun h=>Bool.noConfusion h) ⟨Xee (zip [.tmp 35,.tmp 37,.tmp 39] [.own 121 nl,.d (.v (.string (X6 name))),.agg [ai k0,ai k1,ai k2,.d (.v (.string (X6 k3))),.d (.sl 5 (XX k4))]]) (some (40,.d (.v undef))) [(121,.row 6 (x1.props.map Xd))],Xhb hS rfl rfl JM rfl,⟨⟨rfl,rfl,rfl,TV⟩,⟨rfl,TV⟩,TV,rfl⟩,?_⟩;have cH:=Xmx (y:= .own 121 nl) (d:= .v undef) hj;refine Zh (sz:=5) ?_;refine W1_ ?_;(refine Zi (cs':=C.set (i*5+4) (some (.v undef))) (ho':=none) ?_ (hcs:= ?hcs59);(case hcs59=>exact(by rw[cP];exact cH)));refine JD ?_;exact rfl
theorem Xmf (p:Addr) (w:World):
  CallsD prog 179 #[.pointer (some p)] .returning w fun e u' w'=>e= .returned (.tuple #[])/\u'= .returning/\w'=w:=by
 have dK:∀w:World,(binOp BinOp.neq 20 .nilIface .nilIface).run prog w= .ok (.bool false) w:=fun _=>by kernel_rfl
 refine callsD_of_wpS func179 rfl fun c₀ cs hu=> ?_;apply wpS_seq;apply wpS_region;simp[wpOpsS,go_sem,recoverD,hu,ntmps179,Exit.thenS];apply wpS_seq;apply wpS_region;simp[wpOpsS,go_sem,dK,Exit.thenS];refine wpS_cond (t:=false) (by simp[Act.eval,Array.replicate]) ?_;simp only[Bool.false_eq_true,if_false];refine wpS_of_wp (wp_skip ?_);cases c₀;simp_all [bodyPostS,results,results179]
theorem Xip (p:Addr) (e e0:Int) (w:World) (hc:w.cell? p=some (.int .i64 e0)) (hz:w.frozen? p=false):
  CallsD prog 179 #[.pointer (some p)] (.panicking [{v:= .iface 216 (.int .i64 e),recovered:=false}]) w fun x u' w'=>
   x= .returned (.tuple #[])/\u'= .panicking [{v:= .iface 216 (.int .i64 e),recovered:=true}]/\w'=w.setCell p (.int .i64 e):=by
 have hne:∀w:World,(binOp BinOp.neq 20 (.iface 216 (.int .i64 e)) .nilIface).run prog w= .ok (.bool true) w:=fun _=>by kernel_rfl
 have qi:∀w:World,(Instr.typeAssert (.iface 216 (.int .i64 e)) 20 216 true).run prog w= .ok (.tuple #[.int .i64 e,.bool true]) w:=fun _=>by kernel_rfl
 refine callsD_of_wpS func179 rfl fun c₀ cs hu=> ?_;apply wpS_seq;apply wpS_region;simp[wpOpsS,go_sem,recoverD,hu,ntmps179,Exit.thenS];apply wpS_seq;apply wpS_region;simp[wpOpsS,go_sem,hne,Exit.thenS];refine wpS_cond (t:=true) (by simp[Act.eval,Array.replicate]) ?_;simp only[if_true];apply wpS_seq;apply wpS_seq;apply wpS_region;simp[wpOpsS,go_sem,qi,Exit.thenS];apply wpS_seq;apply wpS_region;simp[wpOpsS,go_sem,Exit.thenS];refine wpS_cond (t:=true) (by simp[Act.eval,Array.replicate]) ?_;simp only[if_true];apply wpS_seq;apply wpS_region;simp[wpOpsS,go_sem,hc,hz,Exit.thenS];refine wpS_of_wp (wp_ret ?_);simp[bodyPostS,results,results179,Exit.thenS]
abbrev edD:List (Nat×AObj):=[(0,.dead),(3,.dead),(4,.dead)]
theorem Xd2 (γ:Nat):Xp .dead edD γ= .dead:=by
 by_cases h0:(0:Nat)=γ
 ·subst h0;rfl
 ·rw[Yz _ _ _ h0];by_cases h3:(3:Nat)=γ
  ·subst h3;rfl
  ·rw[Yz _ _ _ h3];by_cases h4:(4:Nat)=γ
   ·subst h4;rfl
   ·rw[Yz _ _ _ h4];rfl
section
variable (g g':Gra) (c:Chg)
theorem Xwt (hc:YD c≠0):Con prog 115 (edS g) [.ptr 0 0,Xz c] edD (ai (YD c)):=by
 refine X91 (xs:=[ai (YD c)]) func115 rfl ntmps115 rfl (fun E hds=> ?_);have hk:=X6k c;generalize YD c=e at*;obtain⟨op,id,src,dst,name,⟨k0,k1,k2,k3,k4⟩⟩:=c;simp only[Xz,Us] at*;refine X4B ?_;refine W4_ ?_;show AW prog E _ _ _;refine X4B ?_;refine Yv ?_;show AWP prog E _ _ _;refine X2 ?_;exact fun a w hs=>show Leaves _ _ _ _ _ _ _ from XwK (rs:=[.cell 4 38]) (xs:=[ai e]) hds rfl rfl ⟨_,St.le_refl _,⟨⟨_,_,_,rfl,rfl,.inl ⟨rfl,rfl⟩⟩,TV⟩,fun γ=> .inr (Xd2 γ)⟩ hs
theorem XoD (hc:YD c=0) (ho:c.op<=5) (af:Con prog 180 (edS g) [.ptr 0 0,Xz c] (edN g') (.tup [])):Con prog 115 (edS g) [.ptr 0 0,Xz c] (edN g') (ai 0):=by
 refine X91 (xs:=[ai 0]) func115 rfl ntmps115 rfl (fun E hds=> ?_);have hk:=X6k c;rw[hc] at hk;obtain⟨op,id,src,dst,name,⟨k0,k1,k2,k3,k4⟩⟩:=c;simp only[Xz,Us] at*;refine X4B ?_;refine W4_ ?_;show AW prog E _ _ _;refine X4B ?_;refine XQ ?_;show AW prog E _ _ _;refine XcG (f:=179) 1 101 50 rfl rfl hds (by decide) (Li:=edS g) (Lo:=(edN g')) (xs:=[ai 0]) (fun γ aQ=>by
  simp only[Ya,Bool.or_eq_true,Bool.or_false] at aQ;rcases aQ with h|h|h<;>(have:=Nat.eq_of_beq_eq_true h;omega)) ?_
 refine W1_ ?_;refine .done (fun h=>Bool.noConfusion h) ⟨rfl,fun E' b iq hb fQ=> ?_⟩;refine Qqd ?_;refine Yv ?_;show AWP prog E' _ _ _;refine X2 ?_;exact fun a w hs=>show Leaves _ _ _ _ _ _ _ from Xi4 (rs:=[.cell 4 38]) (xs:=[ai 0]) rfl iq rfl rfl fQ Xmf ⟨_,St.le_refl _,⟨⟨_,_,_,rfl,rfl,.inl ⟨rfl,rfl⟩⟩,TV⟩,Xj ⟨rfl,rfl,rfl,rfl,TV⟩⟩ hs
theorem XrQ (hc:YD c=0) (ho:¬c.op<=5) (af:Con prog 181 (edS g) [.ptr 0 0,Xz c] (edE g') (.tup [])):Con prog 115 (edS g) [.ptr 0 0,Xz c] (edE g') (ai 0):=by
 refine X91 (xs:=[ai 0]) func115 rfl ntmps115 rfl (fun E hds=> ?_);have hk:=X6k c;rw[hc] at hk;obtain⟨op,id,src,dst,name,⟨k0,k1,k2,k3,k4⟩⟩:=c;simp only[Xz,Us] at*;refine X4B ?_;refine W4_ ?_;show AW prog E _ _ _;refine X4B ?_;refine XQ ?_;show AW prog E _ _ _;refine XcG (f:=179) 1 101 50 rfl rfl hds (by decide) (Li:=edS g) (Lo:=(edE g')) (xs:=[ai 0]) (fun γ aQ=>by
  simp only[Ya,Bool.or_eq_true,Bool.or_false] at aQ;rcases aQ with h|h|h<;>(have:=Nat.eq_of_beq_eq_true h;omega)) ?_
 refine W1_ ?_;refine .done (fun h=>Bool.noConfusion h) ⟨rfl,fun E' b iq hb fQ=> ?_⟩;refine Qqd ?_;refine Yv ?_;show AWP prog E' _ _ _;refine X2 ?_;exact fun a w hs=>show Leaves _ _ _ _ _ _ _ from Xi4 (rs:=[.cell 4 38]) (xs:=[ai 0]) rfl iq rfl rfl fQ Xmf ⟨_,St.le_refl _,⟨⟨_,_,_,rfl,rfl,.inl ⟨rfl,rfl⟩⟩,TV⟩,Xj ⟨rfl,rfl,rfl,rfl,TV⟩⟩ hs
theorem Xoa (hc:YD c=0) (ho:c.op<=5) (e:Int) (af:X0c prog 180 (edS g) [.ptr 0 0,Xz c] (X0w e)):Con prog 115 (edS g) [.ptr 0 0,Xz c] edD (ai e):=by
 refine X91 (xs:=[ai e]) func115 rfl ntmps115 rfl (fun E hds=> ?_);have hk:=X6k c;rw[hc] at hk;obtain⟨op,id,src,dst,name,⟨k0,k1,k2,k3,k4⟩⟩:=c;simp only[Xz,Us] at*;refine X4B ?_;refine W4_ ?_;show AW prog E _ _ _;refine X4B ?_;refine XQ ?_;show AW prog E _ _ _;refine XcG (f:=179) 1 101 50 rfl rfl hds (by decide) (Li:=edS g) (Lo:=edD) (xs:=[ai e]) (fun γ aQ=>by
  simp only[Ya,Bool.or_eq_true,Bool.or_false] at aQ;rcases aQ with h|h|h<;>(have:=Nat.eq_of_beq_eq_true h;omega)) ?_
 refine W1_ ?_;refine .done (fun h=>Bool.noConfusion h) ⟨rfl,fun E' b iq hb fQ=> ?_⟩;refine Qqd ?_;refine W8_ ?_;refine Xi5 (ch:=X0w e) 2 rfl ?_;refine W2_ ?_;refine .done (fun h=>Bool.noConfusion h) ⟨edS g,[.ptr 0 0,.agg [ai op,ai id,ai src,ai dst,.d (.v (.string (X6 name))),ai k0,ai k1,ai k2,.d (.v (.string (X6 k3))),.d (.sl 5 (XX k4))]],?_,af,rfl,⟨rfl,rfl,rfl,TV⟩,fun a w hs=> ?_⟩
 ·exact JM
 ·exact Qrd
theorem XqC (hc:YD c=0) (ho:¬c.op<=5) (e:Int) (af:X0c prog 181 (edS g) [.ptr 0 0,Xz c] (X0w e)):Con prog 115 (edS g) [.ptr 0 0,Xz c] edD (ai e):=by
 refine X91 (xs:=[ai e]) func115 rfl ntmps115 rfl (fun E hds=> ?_);have hk:=X6k c;rw[hc] at hk;obtain⟨op,id,src,dst,name,⟨k0,k1,k2,k3,k4⟩⟩:=c;simp only[Xz,Us] at*;refine X4B ?_;refine W4_ ?_;show AW prog E _ _ _;refine X4B ?_;refine XQ ?_;show AW prog E _ _ _;refine XcG (f:=179) 1 101 50 rfl rfl hds (by decide) (Li:=edS g) (Lo:=edD) (xs:=[ai e]) (fun γ aQ=>by
  simp only[Ya,Bool.or_eq_true,Bool.or_false] at aQ;rcases aQ with h|h|h<;>(have:=Nat.eq_of_beq_eq_true h;omega)) ?_
 refine W1_ ?_;refine .done (fun h=>Bool.noConfusion h) ⟨rfl,fun E' b iq hb fQ=> ?_⟩;refine Qqd ?_;refine W8_ ?_;refine Xi5 (ch:=X0w e) 2 rfl ?_;refine W2_ ?_;refine .done (fun h=>Bool.noConfusion h) ⟨edS g,[.ptr 0 0,.agg [ai op,ai id,ai src,ai dst,.d (.v (.string (X6 name))),ai k0,ai k1,ai k2,.d (.v (.string (X6 k3))),.d (.sl 5 (XX k4))]],?_,af,rfl,⟨rfl,rfl,rfl,TV⟩,fun a w hs=> ?_⟩
 ·exact JM
 ·exact Qrd
end
theorem X8I (l:List Nod) (n:Int):XD Nod.id l n=(VH l n).isSome:=by
 unfold XD VH;rw[Bool.eq_iff_iff,any_eq_true,find?_isSome]
theorem Xg0 (l:List Edg) (n:Int):XD Edg.id l n=(X0r l n).isSome:=by
 unfold XD X0r;rw[Bool.eq_iff_iff,any_eq_true,find?_isSome]
section
variable (g:Gra) (c:Chg)
theorem Xjh (hg:GV g) (hc:YD c=0) (ho:c.op<=5):
  ((X0b g c).2=0/\Con prog 180 (edS g) [.ptr 0 0,Xz c] (edN (X0b g c).1) (.tup []))\/((X0b g c).2≠0/\X0c prog 180 (edS g) [.ptr 0 0,Xz c] (X0w (X0b g c).2)):=by
 obtain⟨⟨o1,o8⟩,hid,-,-⟩:=Xb8 hc;by_cases h1:c.op=1
 ·have e:X0b g c=if XD Nod.id g.nodes c.id=true then (VN,7) else if 2000<=g.nodes.length then (VN,20) else (VJ g ⟨c.id,[],[]⟩,0):=by unfold X0b;rw[PI h1]
  rw[e];by_cases q1:XD Nod.id g.nodes c.id=true
  ·rw[PI q1];exact .inr ⟨by simp,Xx6 g c hg h1 q1⟩
  ·rw[NI q1];have q1:XD Nod.id g.nodes c.id=false:=by simpa using q1
   by_cases q2:2000<=g.nodes.length
   ·rw[PI q2];exact .inr ⟨by simp,XvT g c hg h1 q1 (by omega)⟩
   ·rw[NI q2];exact .inl ⟨rfl,Xv4 g c hg hid h1 q1 (by omega)⟩
 have e:X0b g c=match VH g.nodes c.id with|none=>(VN,10)|some n=>X4n g c n:=by unfold X0b;rw[NI h1,NI (by omega),NI (by omega)];rfl
 rw[e];cases hn:VH g.nodes c.id with
 |none=>exact .inr ⟨by simp,Xt3 g c hg h1 (by rw[X8I,hn];rfl)⟩
 |some x=>
  simp only;have q0:XD Nod.id g.nodes c.id=true:=by rw[X8I,hn];rfl
  unfold X4n;by_cases h2:c.op=2
  ·rw[PI h2];by_cases q2:X1O g.aj c.id=true
   ·rw[PI q2];exact .inr ⟨by simp,Xss g c hg h2 q0 q2⟩
   ·rw[NI q2];exact .inl ⟨rfl,Xpr g c hg h2 q0 (by simpa using q2)⟩
  rw[NI h2];by_cases h3:c.op=3
  ·rw[PI h3];by_cases q1:XD Yl x.labels c.name=true
   ·rw[PI q1];exact .inr ⟨by simp,Xwn g c x hg h3 hn q1⟩
   ·rw[NI q1];have q1:XD Yl x.labels c.name=false:=by simpa using q1
    by_cases q2:8<=x.labels.length
    ·rw[PI q2];exact .inr ⟨by simp,XsJ g c x hg h3 hn q1 (by omega)⟩
    ·rw[NI q2];exact .inl ⟨rfl,Xuw g c x hg h3 hn q1 (by omega)⟩
  rw[NI h3];by_cases h4:c.op=4
  ·rw[PI h4];by_cases q1:XD Yl x.labels c.name=false
   ·rw[PI q1];exact .inr ⟨by simp,Xp5 g c x hg h4 hn q1⟩
   ·rw[NI q1];exact .inl ⟨rfl,Xv7 g c x hg h4 hn (by simpa using q1)⟩
  rw[NI h4];have h5:c.op=5:=by omega
  by_cases q1:16<(Ud x.props c.name c.v).length
  ·rw[PI q1];exact .inr ⟨by simp,XuQ g c x hg h5 hn (by omega)⟩
  ·rw[NI q1];exact .inl ⟨rfl,Xqf g c x hg h5 hn (by omega)⟩
theorem XmS (hg:GV g) (hc:YD c=0) (ho:¬c.op<=5):
  ((X0b g c).2=0/\Con prog 181 (edS g) [.ptr 0 0,Xz c] (edE (X0b g c).1) (.tup []))\/((X0b g c).2≠0/\X0c prog 181 (edS g) [.ptr 0 0,Xz c] (X0w (X0b g c).2)):=by
 obtain⟨⟨o1,o8⟩,hid,-,-⟩:=Xb8 hc;by_cases h6:c.op=6
 ·have e:X0b g c=if XD Edg.id g.aj c.id=true then (VN,7) else if XD Nod.id g.nodes c.src=false\/XD Nod.id g.nodes c.dst=false then (VN,10) else if 4000<=g.aj.length then (VN,20) else (X1d g ⟨c.id,c.src,c.dst,c.name,[]⟩,0):=by unfold X0b;rw[NI (by omega),PI h6]
  rw[e];by_cases q1:XD Edg.id g.aj c.id=true
  ·rw[PI q1];exact .inr ⟨by simp,XrS g c hg h6 q1⟩
  rw[NI q1];have q1:XD Edg.id g.aj c.id=false:=by simpa using q1
  cases qs:XD Nod.id g.nodes c.src with
  |false=>rw[PI (.inl rfl)];exact .inr ⟨by simp,Xqq g c hg h6 q1 qs⟩
  |true=>
   cases qd:XD Nod.id g.nodes c.dst with
   |false=>rw[PI (.inr rfl)];exact .inr ⟨by simp,Xot g c hg h6 q1 qs qd⟩
   |true=>
    rw[NI (by simp)];by_cases q2:4000<=g.aj.length
    ·rw[PI q2];exact .inr ⟨by simp,XvC g c hg h6 q1 qs qd (by omega)⟩
    ·rw[NI q2];exact .inl ⟨rfl,Xxo g c hg hid h6 q1 qs qd (by omega)⟩
 have r7:c.op=7\/c.op=8:=by omega
 have e:X0b g c=match X0r g.aj c.id with|none=>(VN,11)|some n=>X58 g c n:=by unfold X0b;rw[NI (by omega),NI h6,PI r7];rfl
 rw[e];cases hn:X0r g.aj c.id with
 |none=>
  have q1:XD Edg.id g.aj c.id=false:=by rw[Xg0,hn];rfl
  rcases r7 with h|h
  ·exact .inr ⟨by simp,XvG g c hg h q1⟩
  ·exact .inr ⟨by simp,Xw2 g c hg h q1⟩
 |some x=>
  simp only;have q0:XD Edg.id g.aj c.id=true:=by rw[Xg0,hn];rfl
  unfold X58;by_cases h8:c.op=8
  ·rw[PI h8];by_cases q1:16<(Ud x.props c.name c.v).length
   ·rw[PI q1];exact .inr ⟨by simp,Xsf g c x hg h8 hn (by omega)⟩
   ·rw[NI q1];exact .inl ⟨rfl,XuF g c x hg h8 hn (by omega)⟩
  ·rw[NI h8];exact .inl ⟨rfl,XqP g c hg (by omega) q0⟩
theorem XsK (hg:GV g) (ho:c.op<=5) (h:(YM g c).2=0):Con prog 115 (edS g) [.ptr 0 0,Xz c] (edN (YM g c).1) (ai 0):=by
 by_cases hc:YD c=0
 ·have e:YM g c=X0b g c:=by unfold YM;rw[NI (by simp[hc])]
  rw[e] at h |-;rcases Xjh g c hg hc ho with ⟨-,k⟩|⟨k,-⟩
  ·exact XoD g _ c hc ho k
  ·exact absurd h k
 ·unfold YM at h;rw[PI hc] at h;exact absurd h hc
theorem XrL (hg:GV g) (ho:¬c.op<=5) (h:(YM g c).2=0):Con prog 115 (edS g) [.ptr 0 0,Xz c] (edE (YM g c).1) (ai 0):=by
 by_cases hc:YD c=0
 ·have e:YM g c=X0b g c:=by unfold YM;rw[NI (by simp[hc])]
  rw[e] at h |-;rcases XmS g c hg hc ho with ⟨-,k⟩|⟨k,-⟩
  ·exact XrQ g _ c hc ho k
  ·exact absurd h k
 ·unfold YM at h;rw[PI hc] at h;exact absurd h hc
theorem Xr3 (hg:GV g) (h:(YM g c).2≠0):Con prog 115 (edS g) [.ptr 0 0,Xz c] edD (ai (YM g c).2):=by
 by_cases hc:YD c=0
 ·have e:YM g c=X0b g c:=by unfold YM;rw[NI (by simp[hc])]
  rw[e] at h |-;by_cases ho:c.op<=5
  ·rcases Xjh g c hg hc ho with ⟨k,-⟩|⟨-,k⟩
   ·exact absurd k h
   ·exact Xoa g c hc ho _ k
  ·rcases XmS g c hg hc ho with ⟨k,-⟩|⟨-,k⟩
   ·exact absurd k h
   ·exact XqC g c hc ho _ k
 ·have e:YM g c=(VN,YD c):=by unfold YM;rw[PI hc]
  rw[e];exact Xwt g c hc
end
theorem XuX (γ:Nat) (xs:List (List D)) (hl:xs.length<=100000):Con prog 175 [] [.d (.sl 3 xs)] [(swp 100 γ 100,.row 3 xs)] (.own (swp 100 γ 100) xs.length):=by
 have h:Con prog 175 [] [.d (.sl 3 xs)] [(100,.row 3 xs)] (.own 100 xs.length):=by
  refine ZC1 func175 ntmps175 fun E=> ?_;refine XA ?_;refine X6m rfl (fun h=> ?_) (fun _=> ?_)
  ·subst h;refine W4_ ?_;refine X2 ?_;exact⟨_,Uu 2 100 3 rfl rfl rfl,⟨rfl,TV⟩,Xj ⟨rfl,TV⟩⟩
  ·refine W8_ ?_;refine X2 ?_;refine⟨_,St.le_refl _,⟨?_,TV⟩,Xj ⟨rfl,TV⟩⟩;simp only[X5h];simp[St.get,St.set,St.own,Xp]
 exact YK 100 γ h
theorem XoZ (γ:Nat) (xs:List (List D)) (hl:xs.length<=100000):Con prog 178 [] [.d (.sl 5 xs)] [(swp 100 γ 100,.row 5 xs)] (.own (swp 100 γ 100) xs.length):=by
 have h:Con prog 178 [] [.d (.sl 5 xs)] [(100,.row 5 xs)] (.own 100 xs.length):=by
  refine ZC1 func178 ntmps178 fun E=> ?_;refine XA ?_;refine X6m rfl (fun h=> ?_) (fun _=> ?_)
  ·subst h;refine W4_ ?_;refine X2 ?_;exact⟨_,Uu 2 100 5 rfl rfl rfl,⟨rfl,TV⟩,Xj ⟨rfl,TV⟩⟩
  ·refine W8_ ?_;refine X2 ?_;refine⟨_,St.le_refl _,⟨?_,TV⟩,Xj ⟨rfl,TV⟩⟩;simp only[X5h];simp[St.get,St.set,St.own,Xp]
 exact YK 100 γ h
theorem Xpc (γ:Nat) (xs:List (List D)) (hl:xs.length<=100000):Con prog 176 [] [.d (.sl 1 xs)] [(swp 100 γ 100,.row 1 xs)] (.own (swp 100 γ 100) xs.length):=by
 have h:Con prog 176 [] [.d (.sl 1 xs)] [(100,.row 1 xs)] (.own 100 xs.length):=by
  refine ZC1 func176 ntmps176 fun E=> ?_;refine XA ?_;refine X6m rfl (fun h=> ?_) (fun _=> ?_)
  ·subst h;refine W4_ ?_;refine X2 ?_;exact⟨_,Uu 2 100 1 rfl rfl rfl,⟨rfl,TV⟩,Xj ⟨rfl,TV⟩⟩
  ·refine W8_ ?_;refine X2 ?_;refine⟨_,St.le_refl _,⟨?_,TV⟩,Xj ⟨rfl,TV⟩⟩;simp only[X5h];simp[St.get,St.set,St.own,Xp]
 exact YK 100 γ h
theorem XlP (γ:Nat) (xs:List (List D)) (hl:xs.length<=100000):Con prog 177 [] [.d (.sl 6 xs)] [(swp 100 γ 100,.row 6 xs)] (.own (swp 100 γ 100) xs.length):=by
 have h:Con prog 177 [] [.d (.sl 6 xs)] [(100,.row 6 xs)] (.own 100 xs.length):=by
  refine ZC1 func177 ntmps177 fun E=> ?_;refine XA ?_;refine X6m rfl (fun h=> ?_) (fun _=> ?_)
  ·subst h;refine W4_ ?_;refine X2 ?_;exact⟨_,Uu 2 100 6 rfl rfl rfl,⟨rfl,TV⟩,Xj ⟨rfl,TV⟩⟩
  ·refine W8_ ?_;refine X2 ?_;refine⟨_,St.le_refl _,⟨?_,TV⟩,Xj ⟨rfl,TV⟩⟩;simp only[X5h];simp[St.get,St.set,St.own,Xp]
 exact YK 100 γ h
end Go.Fw
