/- What fails in nodes. -/
import Derived.Test.YtpbgjcbkhgfmkaaGreatDoorM30
set_option maxHeartbeats 32000000
namespace Go.Fw
open Go Go.Proofs Tryz List
set_option maxRecDepth 100000
set_option linter.unusedVariables false
set_option linter.unusedSimpArgs false
theorem Xx6 (g:Gra) (c:Chg) (hg:GV g) (ho:c.op=1) (q1:XD Nod.id g.nodes c.id=true):
  X0c prog 180 (edS g) [.ptr 0 0,Xz c] (X0w 7):=by
 obtain⟨ns,es,nn,ne⟩:=g;have aB:=hg.ns;have ax:=hg.nl;have aO:=hg.es;have hel:=hg.el;simp only at q1 aB aO ax hel;refine X1Q func180 rfl ntmps180 rfl (fun E=> ?_);refine X0y rfl rfl rfl rfl (fun xs ys h1 h2=> ?_);subst h1 h2;have hN:=X0X (xs.map rXN) (ys.map rXE) nn ne c.id (by simp at ax |-;omega) ((X0R xs).2 aB);rw[X0N,X13,q1] at hN;simp only[edL,LM] at hN ax;generalize Xo ltI Nod.id (xs.map (·.1)) c.id=i at*;simp only[edS,LM];clear hg aB aO;obtain⟨op,id,src,dst,name,⟨k0,k1,k2,k3,k4⟩⟩:=c;simp only at ho;subst ho;simp only[Xz,Us] at*;refine Qad ?_;refine Yx ?_;refine X2h 2 rfl (fun _=>rfl) ?_;refine W2_ ?_
 (refine .done (fun h=>Bool.noConfusion h) ?_;apply X2n (af:=X2q 7);(case hxs=>exact rfl);(case hys=>conv=>lhs;whnf);(case hle=>((repeat (first|exact trivial|refine⟨(by(first|((exact AVal.le_refl _))|((exact AVal.le_nil _))|((refine AVal.le_agg ?_;((repeat (first|exact trivial|refine⟨(by(first|((exact AVal.le_refl _))|((exact AVal.le_nil _))|((refine AVal.le_of_eq ?_;(conv=>lhs;whnf);(first|((rfl))|((simp<;>fail))|fail)))|fail)),?_⟩|fail))<;>fail)))|((refine AVal.le_of_eq ?_;(conv=>lhs;whnf);(first|((rfl))|((simp<;>fail))|fail)))|fail)),?_⟩|fail))<;>fail));(case hf=>exact rfl);(case bH=>(repeat (first|exact trivial|refine⟨rfl,?_⟩|fail))<;>fail))
theorem XvT (g:Gra) (c:Chg) (hg:GV g) (ho:c.op=1) (q1:XD Nod.id g.nodes c.id=false) (q2:¬g.nodes.length<2000):
  X0c prog 180 (edS g) [.ptr 0 0,Xz c] (X0w 20):=by
 obtain⟨ns,es,nn,ne⟩:=g;have aB:=hg.ns;have ax:=hg.nl;have aO:=hg.es;have hel:=hg.el;simp only at q1 q2 aB aO ax hel;refine X1Q func180 rfl ntmps180 rfl (fun E=> ?_);refine X0y rfl rfl rfl rfl (fun xs ys h1 h2=> ?_);subst h1 h2;have hN:=X0X (xs.map rXN) (ys.map rXE) nn ne c.id (by simp at ax |-;omega) ((X0R xs).2 aB);rw[X0N,X13,q1] at hN;simp only[edL,LM] at hN ax q2;generalize Xo ltI Nod.id (xs.map (·.1)) c.id=i at*;have fD:=VR 7;have ay:xs.length=((xs.map rXN).map cRN).length:=by simp
 have fX:¬(((xs.map rXN).map cRN).length:Int)<2000:=by rw[<-ay];omega
 generalize (xs.map rXN).map cRN=R at*;simp only[edS,LM];clear hg aB aO;obtain⟨op,id,src,dst,name,⟨k0,k1,k2,k3,k4⟩⟩:=c;simp only at ho;subst ho;simp only[Xz,Us] at*;refine Qad ?_;refine Ye ?_;refine X2h 7 rfl (fun _=>rfl) ?_;refine W6_ ?_;refine Zj (op:= .lss) (r':= .bool false) (u:= .int .i64 (R.length:Nat)) (v:= .int .i64 2000) ?_ (hr':=by exact CG Value.bool (DF fX))
 (refine .done (fun h=>Bool.noConfusion h) ?_;apply X2n (af:=X2q 20);(case hxs=>exact rfl);(case hys=>conv=>lhs;whnf);(case hle=>((repeat (first|exact trivial|refine⟨(by(first|((exact AVal.le_refl _))|((exact AVal.le_nil _))|((refine AVal.le_agg ?_;((repeat (first|exact trivial|refine⟨(by(first|((exact AVal.le_refl _))|((exact AVal.le_nil _))|((refine AVal.le_of_eq ?_;(conv=>lhs;whnf);(first|((rfl))|((simp<;>fail))|fail)))|fail)),?_⟩|fail))<;>fail)))|((refine AVal.le_of_eq ?_;(conv=>lhs;whnf);(first|((rfl))|((simp<;>fail))|fail)))|fail)),?_⟩|fail))<;>fail));(case hf=>exact rfl);(case bH=>(repeat (first|exact trivial|refine⟨rfl,?_⟩|fail))<;>fail))
theorem Xt3 (g:Gra) (c:Chg) (hg:GV g) (ho:¬c.op=1) (q1:XD Nod.id g.nodes c.id=false):
  X0c prog 180 (edS g) [.ptr 0 0,Xz c] (X0w 10):=by
 obtain⟨ns,es,nn,ne⟩:=g;have aB:=hg.ns;have ax:=hg.nl;have aO:=hg.es;have hel:=hg.el;simp only at q1 aB aO ax hel;refine X1Q func180 rfl ntmps180 rfl (fun E=> ?_);refine X0y rfl rfl rfl rfl (fun xs ys h1 h2=> ?_);subst h1 h2;have hN:=X0X (xs.map rXN) (ys.map rXE) nn ne c.id (by simp at ax |-;omega) ((X0R xs).2 aB);rw[X0N,X13,q1] at hN;simp only[edL,LM] at hN ax;generalize Xo ltI Nod.id (xs.map (·.1)) c.id=i at*;simp only[edS,LM];clear hg aB aO;obtain⟨op,id,src,dst,name,⟨k0,k1,k2,k3,k4⟩⟩:=c;simp only at ho;simp only[Xz,Us] at*;refine Qad ?_;refine XK ?_;refine Zl (op:= .eql) (r':= .bool false) (u:= .int .i64 op) (v:= .int .i64 1) ?_ (hr':=by exact CG Value.bool (DF ho));refine W4_ ?_;refine Qpd ?_
 (refine .done (fun h=>Bool.noConfusion h) ?_;apply X2n (af:=X2q 10);(case hxs=>exact rfl);(case hys=>conv=>lhs;whnf);(case hle=>((repeat (first|exact trivial|refine⟨(by(first|((exact AVal.le_refl _))|((exact AVal.le_nil _))|((refine AVal.le_agg ?_;((repeat (first|exact trivial|refine⟨(by(first|((exact AVal.le_refl _))|((exact AVal.le_nil _))|((refine AVal.le_of_eq ?_;(conv=>lhs;whnf);(first|((rfl))|((simp<;>fail))|fail)))|fail)),?_⟩|fail))<;>fail)))|((refine AVal.le_of_eq ?_;(conv=>lhs;whnf);(first|((rfl))|((simp<;>fail))|fail)))|fail)),?_⟩|fail))<;>fail));(case hf=>exact rfl);(case bH=>(repeat (first|exact trivial|refine⟨rfl,?_⟩|fail))<;>fail))
theorem Xua (ys:List XE) (n:Int) (h:X1O (ys.map (·.1)) n=true):∃k,∃hk:k<ys.length,(ys[k].1.src=n\/ys[k].1.dst=n)/\∀j (hj:j<ys.length),j<k->ys[j].1.src≠n/\ys[j].1.dst≠n:=by
 induction ys with
 |nil=>simp[X1O] at h
 |cons y ys ih=>
  by_cases hy:y.1.src=n\/y.1.dst=n
  ·exact⟨0,by simp,hy,fun j _ h=>by omega⟩
  ·have h':X1O (ys.map (·.1)) n=true:=by
    unfold X1O at h |-;rw[map_cons,any_cons] at h;simpa [hy] using h
   obtain⟨k,hk,e1,e2⟩:=ih h';refine⟨k+1,by simpa using hk,e1,fun j hj dB=> ?_⟩;cases j with
   |zero=>exact⟨fun e=>hy (.inl e),fun e=>hy (.inr e)⟩
   |succ j=>exact e2 j (by simpa using hj) (by omega)
theorem Xss (g:Gra) (c:Chg) (hg:GV g) (ho:c.op=2) (q1:XD Nod.id g.nodes c.id=true) (q2:X1O g.aj c.id=true):
  X0c prog 180 (edS g) [.ptr 0 0,Xz c] (X0w 12):=by
 obtain⟨ns,es,nn,ne⟩:=g;have aB:=hg.ns;have ax:=hg.nl;have aO:=hg.es;have hel:=hg.el;simp only at q1 q2 aB aO ax hel;refine X1Q func180 rfl ntmps180 rfl (fun E=> ?_);refine X0y rfl rfl rfl rfl (fun xs ys h1 h2=> ?_);subst h1 h2;have hle:=(GS.1 (Xdj aB q1).choose_spec.1).1;have hN:=X0X (xs.map rXN) (ys.map rXE) nn ne c.id (by simp at ax |-;omega) ((X0R xs).2 aB);rw[X0N,X13,q1] at hN;simp only[edL,LM] at hN ax hel hle;generalize Xo ltI Nod.id (xs.map (·.1)) c.id=i at*;have ay:xs.length=((xs.map rXN).map cRN).length:=by simp
 have cq:=VR 10;have lS:=VR 12;obtain⟨pJ,uq,bY,hkb⟩:=Xua ys c.id q2;have lT:ys.length=((ys.map rXE).map cRE).length:=by simp
 have ld:=X6B (ys.map rXE);have jv:∀k (h:k<ys.length),((ys.map rXE).map cRE)[k]? =some (cRE (rXE ys[k])):=fun k h=>by simp[getElem?_map,getElem?_eq_getElem h]
 generalize lU:(ys.map rXE).map cRE=RE' at*;generalize hR:(xs.map rXN).map cRN=R at*;clear q1 q2;simp only[edS,LM];clear hg aB aO;obtain⟨op,id,src,dst,name,⟨k0,k1,k2,k3,k4⟩⟩:=c;simp only at ho;subst ho;simp only[Xz,Us] at*;refine Qad ?_;refine Yf ?_;refine Z3 (af:=cq) ?_;refine W9_ ?_;refine Qbd ?_;refine XY ?_;refine Xn (fun k:Nat=>k<=pJ) (fun k=>⟨183,[(0,.ptr 0 0),(3,.ptr 100 0),(4,ai (i:Nat)),(91,.own 4 ys.length),(92,ai RE'.length),(93,ai k)],[(0,.box [.own 3 xs.length,.own 4 ys.length,ai nn,ai ne]),(3,.row 3 R),(210,.bag (Y0 xs)),(4,.row 5 RE'),(211,.bag (U0 ys)),(100,.box [ai 2,ai id,ai src,ai dst,.d (.v (.string (X6 name))),ai k0,ai k1,ai k2,.d (.v (.string (X6 k3))),.d (.sl 5 (XX k4))])]⟩) (fun k=>RE'.length-k) 0 (Nat.zero_le _) (ZL0) ?_;intro k hk;have aE:k<ys.length:=by omega
 have g6:(k:Int)<RE'.length:=by omega
 have hy:=jv k aE;generalize n7:ys[k]=y at hy;have hpart:(RE'.flatten.drop (k*5)).take 5=[.v (.int .i64 y.1.id),.v (.int .i64 y.1.src),.v (.int .i64 y.1.dst),.v (.string (X6 y.1.typ)),.v y.2]:=by
  have:=X8C ld hy (o:=0) (q:=5) (by omega);simpa [cRE,rXE] using this
 have hroom:k*5+5<=RE'.length*5:=by omega
 by_cases hkk:k<pJ
 case pos=>
  obtain⟨n1,n2⟩:=hkb k aE hkk;rw[n7] at n1 n2;clear bY hkb jv n7 hy hR lU;refine Qcd ?_;refine W8_ ?_;refine Qdd ?_;refine Zk (op:= .neq) (r':= .bool true) (u:= .int .i64 y.1.dst) (v:= .int .i64 id) ?_ (hr':=by exact CG Value.bool (DT n2));refine W1_ ?_;refine Z3 (af:=lS) ?_;refine W5_ ?_;clear ld hpart hroom lT;exact⟨k+1,by omega,by omega,ZL0⟩
 obtain rfl:k=pJ:=by omega
 rw[n7] at bY;clear hkb jv n7 hy hR lU;by_cases n1:y.1.src=id
 case pos=>
  have ow:¬(y.1.src≠id):=fun h=>h n1;refine Qcd ?_;refine W3_ ?_;refine X2h 12 rfl (fun _=>rfl) ?_;refine W4_ ?_;refine Zk (op:= .neq) (r':= .bool false) (u:= .int .i64 y.1.src) (v:= .int .i64 id) ?_ (hr':=by exact CG Value.bool (DF ow));refine W7_ ?_
  (refine .done (fun h=>Bool.noConfusion h) ?_;apply X2n (af:=X2q 12);(case hxs=>exact rfl);(case hys=>conv=>lhs;whnf);(case hle=>((repeat (first|exact trivial|refine⟨(by(first|((exact AVal.le_refl _))|((exact AVal.le_nil _))|((refine AVal.le_agg ?_;((repeat (first|exact trivial|refine⟨(by(first|((exact AVal.le_refl _))|((exact AVal.le_nil _))|((refine AVal.le_of_eq ?_;(conv=>lhs;whnf);(first|((rfl))|((simp<;>fail))|fail)))|fail)),?_⟩|fail))<;>fail)))|((refine AVal.le_of_eq ?_;(conv=>lhs;whnf);(first|((rfl))|((simp<;>fail))|fail)))|fail)),?_⟩|fail))<;>fail));(case hf=>exact rfl);(case bH=>(repeat (first|exact trivial|refine⟨rfl,?_⟩|fail))<;>fail))
 have n2:y.1.dst=id:=by rcases bY with h|h;exact(n1 h).elim;exact h
 have qy:¬(y.1.dst≠id):=fun h=>h n2;refine Qcd ?_;refine W3_ ?_;refine X2h 12 rfl (fun _=>rfl) ?_;refine W4_ ?_;refine Qdd ?_;refine Zk (op:= .neq) (r':= .bool false) (u:= .int .i64 y.1.dst) (v:= .int .i64 id) ?_ (hr':=by exact CG Value.bool (DF qy));refine W1_ ?_
 (refine .done (fun h=>Bool.noConfusion h) ?_;apply X2n (af:=X2q 12);(case hxs=>exact rfl);(case hys=>conv=>lhs;whnf);(case hle=>((repeat (first|exact trivial|refine⟨(by(first|((exact AVal.le_refl _))|((exact AVal.le_nil _))|((refine AVal.le_agg ?_;((repeat (first|exact trivial|refine⟨(by(first|((exact AVal.le_refl _))|((exact AVal.le_nil _))|((refine AVal.le_of_eq ?_;(conv=>lhs;whnf);(first|((rfl))|((simp<;>fail))|fail)))|fail)),?_⟩|fail))<;>fail)))|((refine AVal.le_of_eq ?_;(conv=>lhs;whnf);(first|((rfl))|((simp<;>fail))|fail)))|fail)),?_⟩|fail))<;>fail));(case hf=>exact rfl);(case bH=>(repeat (first|exact trivial|refine⟨rfl,?_⟩|fail))<;>fail))
theorem Xwn (g:Gra) (c:Chg) (x:Nod) (hg:GV g) (ho:c.op=3) (hx:VH g.nodes c.id=some x) (q1:XD Yl x.labels c.name=true):
  X0c prog 180 (edS g) [.ptr 0 0,Xz c] (X0w 7):=by
 have bw:=X5c hx;rw[X6G hg] at hx;obtain⟨ns,es,nn,ne⟩:=g;have aB:=hg.ns;have ax:=hg.nl;have aD:=(hg.nodes x bw.1).2.2;simp only at hx aB ax;obtain⟨x',hx',bA⟩:=Option.bind_eq_some_iff.1 hx;obtain⟨hk,rfl⟩:x'.id=c.id/\x'=x:=by by_cases e:x'.id=c.id<;>simp[e] at bA |-;exact bA
 have q0:XD Nod.id ns c.id=true:=by rw[X10 UY aB];exact DT ⟨x',hx',hk⟩
 have hle:Xo ltI Nod.id ns c.id<ns.length:=(GS.1 hx').1;refine X1Q func180 rfl ntmps180 rfl (fun E=> ?_);refine X0y rfl rfl rfl rfl (fun xs ys h1 h2=> ?_);subst h1 h2;have hN:=X0X (xs.map rXN) (ys.map rXE) nn ne c.id (by simp at ax |-;omega) ((X0R xs).2 aB);rw[X0N,X13,q0] at hN;simp only[edL,LM] at hN ax hle;generalize Xo ltI Nod.id (xs.map (·.1)) c.id=i at*;obtain⟨⟨x1,u,v⟩,hy0,rfl⟩:∃y:XN,xs[i]? =some y/\y.1=x':=by
  rw[getElem?_map] at hx';obtain⟨y,e1,e2⟩:=Option.map_eq_some_iff.1 hx';exact⟨y,e1,e2⟩
 simp only at*;have cq:=VR 10;have hlr:=aD.lr;have pI:=aD.ll;have hS:=X5l 121 (X8X x1.labels c.name (by omega) hlr);have bF:(x1.labels.map Xf).length=x1.labels.length:=by simp
 rw[q1,bF] at hS;clear hlr q1 bF;generalize Xo aA Yl x1.labels c.name=p at*;have bQ:=X5I hy0;simp only at bQ;have ay:xs.length=((xs.map rXN).map cRN).length:=by simp
 have eu:((xs.map rXN).map cRN)[i]? =some [.v (.int .i64 x1.id),.v u,.v v]:=by
  rw[getElem?_map,getElem?_map,hy0];rfl
 have aT:=X4Q (xs.map rXN);simp only[edS,LM];clear hg aB hx hx' bA bw aD q0 ax;generalize hR:(xs.map rXN).map cRN=R at*;have hlm:(x1.labels.map Xf).length=x1.labels.length:=by simp
 generalize ax:x1.labels.length=nl at*;obtain⟨op,id,src,dst,name,⟨k0,k1,k2,k3,k4⟩⟩:=c;simp only at ho;subst ho;simp only[Xz,Us,XC,X15] at*;refine Qad ?_;refine Ye ?_;show AWP prog E _ _ _;refine X3R 0 0 3 120 rfl (by omega) rfl rfl ay rfl rfl (fun cp k aI aW bL _=> ?_);refine Qkd ?_;rw[hlm];have jw:=X2f (k:=k) aT;generalize map some R.flatten++replicate k none=C at*;have hj:i*3+1<C.length:=by omega
 have hrd:=X57 (y:= .own 121 nl) hj;have cP:0+i*3+1=i*3+1:=by omega
 have fj:=Eq.trans (CG (fun z=>(Yi C (some (_,.own 121 nl)))[z]?) cP) hrd;have hbd:0+i*3+1+1<=C.length:=by omega
 have bg:R.length=xs.length:=ay.symm;clear ay ax;have eH:=hlm.symm;refine Qid ?_;refine XA ?_;refine X2h 2 rfl (fun _=>rfl) ?_;refine W2_ ?_
 (refine .done (fun h=>Bool.noConfusion h) ?_;apply X2n (af:=X2q 7);(case hxs=>exact rfl);(case hys=>conv=>lhs;whnf);(case hle=>((repeat (first|exact trivial|refine⟨(by(first|((exact AVal.le_refl _))|((exact AVal.le_nil _))|((refine AVal.le_agg ?_;((repeat (first|exact trivial|refine⟨(by(first|((exact AVal.le_refl _))|((exact AVal.le_nil _))|((refine AVal.le_of_eq ?_;(conv=>lhs;whnf);(first|((rfl))|((simp<;>fail))|fail)))|fail)),?_⟩|fail))<;>fail)))|((refine AVal.le_of_eq ?_;(conv=>lhs;whnf);(first|((rfl))|((simp<;>fail))|fail)))|fail)),?_⟩|fail))<;>fail));(case hf=>exact rfl);(case bH=>(repeat (first|exact trivial|refine⟨rfl,?_⟩|fail))<;>fail))
theorem XsJ (g:Gra) (c:Chg) (x:Nod) (hg:GV g) (ho:c.op=3) (hx:VH g.nodes c.id=some x) (q1:XD Yl x.labels c.name=false) (q2:¬x.labels.length<8):
  X0c prog 180 (edS g) [.ptr 0 0,Xz c] (X0w 20):=by
 have bw:=X5c hx;rw[X6G hg] at hx;obtain⟨ns,es,nn,ne⟩:=g;have aB:=hg.ns;have ax:=hg.nl;have aD:=(hg.nodes x bw.1).2.2;simp only at hx aB ax;obtain⟨x',hx',bA⟩:=Option.bind_eq_some_iff.1 hx;obtain⟨hk,rfl⟩:x'.id=c.id/\x'=x:=by by_cases e:x'.id=c.id<;>simp[e] at bA |-;exact bA
 have q0:XD Nod.id ns c.id=true:=by rw[X10 UY aB];exact DT ⟨x',hx',hk⟩
 have hle:Xo ltI Nod.id ns c.id<ns.length:=(GS.1 hx').1;refine X1Q func180 rfl ntmps180 rfl (fun E=> ?_);refine X0y rfl rfl rfl rfl (fun xs ys h1 h2=> ?_);subst h1 h2;have hN:=X0X (xs.map rXN) (ys.map rXE) nn ne c.id (by simp at ax |-;omega) ((X0R xs).2 aB);rw[X0N,X13,q0] at hN;simp only[edL,LM] at hN ax hle;generalize Xo ltI Nod.id (xs.map (·.1)) c.id=i at*;obtain⟨⟨x1,u,v⟩,hy0,rfl⟩:∃y:XN,xs[i]? =some y/\y.1=x':=by
  rw[getElem?_map] at hx';obtain⟨y,e1,e2⟩:=Option.map_eq_some_iff.1 hx';exact⟨y,e1,e2⟩
 simp only at*;have cq:=VR 10;have hlr:=aD.lr;have pI:=aD.ll;have hS:=X5l 121 (X8X x1.labels c.name (by omega) hlr);have bF:(x1.labels.map Xf).length=x1.labels.length:=by simp
 rw[q1,bF] at hS;clear hlr q1 bF;generalize Xo aA Yl x1.labels c.name=p at*;have fD:=VR 7;have pH:¬((x1.labels.map Xf).length:Int)<8:=by rw[LM];omega
 clear q2;have bQ:=X5I hy0;simp only at bQ;have ay:xs.length=((xs.map rXN).map cRN).length:=by simp
 have eu:((xs.map rXN).map cRN)[i]? =some [.v (.int .i64 x1.id),.v u,.v v]:=by
  rw[getElem?_map,getElem?_map,hy0];rfl
 have aT:=X4Q (xs.map rXN);simp only[edS,LM];clear hg aB hx hx' bA bw aD q0 ax;generalize hR:(xs.map rXN).map cRN=R at*;have hlm:(x1.labels.map Xf).length=x1.labels.length:=by simp
 generalize ax:x1.labels.length=nl at*;obtain⟨op,id,src,dst,name,⟨k0,k1,k2,k3,k4⟩⟩:=c;simp only at ho;subst ho;simp only[Xz,Us,XC,X15] at*;refine Qfd ?_;show AWP prog E _ _ _;refine X3R 0 0 3 120 rfl (by omega) rfl rfl ay rfl rfl (fun cp k aI aW bL _=> ?_);refine Qkd ?_;rw[hlm];have jw:=X2f (k:=k) aT;generalize map some R.flatten++replicate k none=C at*;have hj:i*3+1<C.length:=by omega
 have hrd:=X57 (y:= .own 121 nl) hj;have cP:0+i*3+1=i*3+1:=by omega
 have fj:=Eq.trans (CG (fun z=>(Yi C (some (_,.own 121 nl)))[z]?) cP) hrd;have hbd:0+i*3+1+1<=C.length:=by omega
 have bg:R.length=xs.length:=ay.symm;clear ay ax;have eH:=hlm.symm;refine Qid ?_;refine XQ ?_;refine Z3 (af:=fD) ?_;refine W2_ ?_;refine X2h 6 rfl (fun _=>rfl) ?_;refine W3_ ?_;refine Qhd ?_;refine W1_ ?_;refine Zj (op:= .lss) (r':= .bool false) (u:= .int .i64 ((x1.labels.map Xf).length:Nat)) (v:= .int .i64 8) ?_ (hr':=by exact CG Value.bool (DF pH))
 (refine .done (fun h=>Bool.noConfusion h) ?_;apply X2n (af:=X2q 20);(case hxs=>exact rfl);(case hys=>conv=>lhs;whnf);(case hle=>((repeat (first|exact trivial|refine⟨(by(first|((exact AVal.le_refl _))|((exact AVal.le_nil _))|((refine AVal.le_agg ?_;((repeat (first|exact trivial|refine⟨(by(first|((exact AVal.le_refl _))|((exact AVal.le_nil _))|((refine AVal.le_of_eq ?_;(conv=>lhs;whnf);(first|((rfl))|((simp<;>fail))|fail)))|fail)),?_⟩|fail))<;>fail)))|((refine AVal.le_of_eq ?_;(conv=>lhs;whnf);(first|((rfl))|((simp<;>fail))|fail)))|fail)),?_⟩|fail))<;>fail));(case hf=>exact rfl);(case bH=>(repeat (first|exact trivial|refine⟨rfl,?_⟩|fail))<;>fail))
theorem Xp5 (g:Gra) (c:Chg) (x:Nod) (hg:GV g) (ho:c.op=4) (hx:VH g.nodes c.id=some x) (q1:XD Yl x.labels c.name=false):
  X0c prog 180 (edS g) [.ptr 0 0,Xz c] (X0w 23):=by
 have bw:=X5c hx;rw[X6G hg] at hx;obtain⟨ns,es,nn,ne⟩:=g;have aB:=hg.ns;have ax:=hg.nl;have aD:=(hg.nodes x bw.1).2.2;simp only at hx aB ax;obtain⟨x',hx',bA⟩:=Option.bind_eq_some_iff.1 hx;obtain⟨hk,rfl⟩:x'.id=c.id/\x'=x:=by by_cases e:x'.id=c.id<;>simp[e] at bA |-;exact bA
 have q0:XD Nod.id ns c.id=true:=by rw[X10 UY aB];exact DT ⟨x',hx',hk⟩
 have hle:Xo ltI Nod.id ns c.id<ns.length:=(GS.1 hx').1;refine X1Q func180 rfl ntmps180 rfl (fun E=> ?_);refine X0y rfl rfl rfl rfl (fun xs ys h1 h2=> ?_);subst h1 h2;have hN:=X0X (xs.map rXN) (ys.map rXE) nn ne c.id (by simp at ax |-;omega) ((X0R xs).2 aB);rw[X0N,X13,q0] at hN;simp only[edL,LM] at hN ax hle;generalize Xo ltI Nod.id (xs.map (·.1)) c.id=i at*;obtain⟨⟨x1,u,v⟩,hy0,rfl⟩:∃y:XN,xs[i]? =some y/\y.1=x':=by
  rw[getElem?_map] at hx';obtain⟨y,e1,e2⟩:=Option.map_eq_some_iff.1 hx';exact⟨y,e1,e2⟩
 simp only at*;have cq:=VR 10;have hlr:=aD.lr;have pI:=aD.ll;have hS:=X5l 121 (X8X x1.labels c.name (by omega) hlr);have bF:(x1.labels.map Xf).length=x1.labels.length:=by simp
 rw[q1,bF] at hS;clear hlr q1 bF;generalize Xo aA Yl x1.labels c.name=p at*;have bQ:=X5I hy0;simp only at bQ;have ay:xs.length=((xs.map rXN).map cRN).length:=by simp
 have eu:((xs.map rXN).map cRN)[i]? =some [.v (.int .i64 x1.id),.v u,.v v]:=by
  rw[getElem?_map,getElem?_map,hy0];rfl
 have aT:=X4Q (xs.map rXN);simp only[edS,LM];clear hg aB hx hx' bA bw aD q0 ax;generalize hR:(xs.map rXN).map cRN=R at*;have hlm:(x1.labels.map Xf).length=x1.labels.length:=by simp
 generalize ax:x1.labels.length=nl at*;obtain⟨op,id,src,dst,name,⟨k0,k1,k2,k3,k4⟩⟩:=c;simp only at ho;subst ho;simp only[Xz,Us,XC,X15] at*;refine Qad ?_;refine Ye ?_;show AWP prog E _ _ _;refine X3R 0 0 3 120 rfl (by omega) rfl rfl ay rfl rfl (fun cp k aI aW bL _=> ?_);refine Qkd ?_;rw[hlm];have jw:=X2f (k:=k) aT;generalize map some R.flatten++replicate k none=C at*;have hj:i*3+1<C.length:=by omega
 have hrd:=X57 (y:= .own 121 nl) hj;have cP:0+i*3+1=i*3+1:=by omega
 have fj:=Eq.trans (CG (fun z=>(Yi C (some (_,.own 121 nl)))[z]?) cP) hrd;have hbd:0+i*3+1+1<=C.length:=by omega
 have bg:R.length=xs.length:=ay.symm;clear ay ax;have eH:=hlm.symm;refine Qgd ?_;refine UP ?_;refine Qhd ?_;refine XA ?_;refine Qpd ?_
 (refine .done (fun h=>Bool.noConfusion h) ?_;apply X2n (af:=X2q 23);(case hxs=>exact rfl);(case hys=>conv=>lhs;whnf);(case hle=>((repeat (first|exact trivial|refine⟨(by(first|((exact AVal.le_refl _))|((exact AVal.le_nil _))|((refine AVal.le_agg ?_;((repeat (first|exact trivial|refine⟨(by(first|((exact AVal.le_refl _))|((exact AVal.le_nil _))|((refine AVal.le_of_eq ?_;(conv=>lhs;whnf);(first|((rfl))|((simp<;>fail))|fail)))|fail)),?_⟩|fail))<;>fail)))|((refine AVal.le_of_eq ?_;(conv=>lhs;whnf);(first|((rfl))|((simp<;>fail))|fail)))|fail)),?_⟩|fail))<;>fail));(case hf=>exact rfl);(case bH=>(repeat (first|exact trivial|refine⟨rfl,?_⟩|fail))<;>fail))
theorem Xmx {C:List (Option D)}{j:Nat}{y:AVal}{d:D} (h:j<C.length):Yi (C.set j (some d)) none=(Yi C (some (j,y))).take j++[.d d]++(Yi C (some (j,y))).drop (j+1):=by
 have e:Yi (C.set j (some d)) none=Yi C (some (j,.d d)):=by simp only[Yi,map_set];rfl
 rw[e];exact X94 h
theorem XuQ (g:Gra) (c:Chg) (x:Nod) (hg:GV g) (ho:c.op=5) (hx:VH g.nodes c.id=some x) (q1:¬(Ud x.props c.name c.v).length<=16):
  X0c prog 180 (edS g) [.ptr 0 0,Xz c] (X0w 20):=by
 have bw:=X5c hx;rw[X6G hg] at hx;obtain⟨ns,es,nn,ne⟩:=g;have aB:=hg.ns;have ax:=hg.nl;have aD:=(hg.nodes x bw.1).2.2;simp only at hx aB ax;obtain⟨x',hx',bA⟩:=Option.bind_eq_some_iff.1 hx;obtain⟨hk,rfl⟩:x'.id=c.id/\x'=x:=by by_cases e:x'.id=c.id<;>simp[e] at bA |-;exact bA
 have q0:XD Nod.id ns c.id=true:=by rw[X10 UY aB];exact DT ⟨x',hx',hk⟩
 have hle:Xo ltI Nod.id ns c.id<ns.length:=(GS.1 hx').1;refine X1Q func180 rfl ntmps180 rfl (fun E=> ?_);refine X0y rfl rfl rfl rfl (fun xs ys h1 h2=> ?_);subst h1 h2;have hN:=X0X (xs.map rXN) (ys.map rXE) nn ne c.id (by simp at ax |-;omega) ((X0R xs).2 aB);rw[X0N,X13,q0] at hN;simp only[edL,LM] at hN ax hle;generalize Xo ltI Nod.id (xs.map (·.1)) c.id=i at*;obtain⟨⟨x1,u,v⟩,hy0,rfl⟩:∃y:XN,xs[i]? =some y/\y.1=x':=by
  rw[getElem?_map] at hx';obtain⟨y,e1,e2⟩:=Option.map_eq_some_iff.1 hx';exact⟨y,e1,e2⟩
 simp only at*;have cq:=VR 10;have hS:=Xm5 x1.props c.name c.v aD.pr aD.pl q1;clear q1;have bQ:=X5I hy0;simp only at bQ;have ay:xs.length=((xs.map rXN).map cRN).length:=by simp
 have eu:((xs.map rXN).map cRN)[i]? =some [.v (.int .i64 x1.id),.v u,.v v]:=by
  rw[getElem?_map,getElem?_map,hy0];rfl
 have aT:=X4Q (xs.map rXN);simp only[edS,LM];clear hg aB hx hx' bA bw aD q0 ax;generalize hR:(xs.map rXN).map cRN=R at*;have hlm:(x1.props.map Xd).length=x1.props.length:=by simp
 generalize ax:x1.props.length=nl at*;obtain⟨op,id,src,dst,name,⟨k0,k1,k2,k3,k4⟩⟩:=c;simp only at ho;subst ho;simp only[Xz,Us,XC,X15] at*;refine Qad ?_;refine Ye ?_;show AWP prog E _ _ _;refine X3R 0 0 3 120 rfl (by omega) rfl rfl ay rfl rfl (fun cp k aI aW bL _=> ?_);refine Qld ?_;rw[hlm];have jw:=X2f (k:=k) aT;generalize map some R.flatten++replicate k none=C at*;have hj:i*3+2<C.length:=by omega
 have hrd:=X57 (y:= .own 121 nl) hj;have cP:0+i*3+2=i*3+2:=by omega
 have fj:=Eq.trans (CG (fun z=>(Yi C (some (_,.own 121 nl)))[z]?) cP) hrd;have hbd:0+i*3+2+1<=C.length:=by omega
 have bg:R.length=xs.length:=ay.symm;clear ay ax;have eH:=hlm.symm;refine Qgd ?_;refine XY ?_;refine XjN 9 (by kernel_rfl) rfl (fun _=>rfl) ?_;refine W4_ ?_;refine Qjd ?_;refine .done (fun h=>Bool.noConfusion h) ⟨Xee (zip [.tmp 77,.tmp 79,.tmp 81] [.own 121 nl,.d (.v (.string (X6 name))),.agg [ai k0,ai k1,ai k2,.d (.v (.string (X6 k3))),.d (.sl 5 (XX k4))]]) (some (82,.d (.v undef))) [(121,.row 6 (x1.props.map Xd))],Xhb hS rfl rfl JM rfl,⟨⟨rfl,rfl,rfl,TV⟩,⟨rfl,TV⟩,TV,rfl⟩,?_⟩;have cH:=Xmx (y:= .own 121 nl) (d:= .v undef) hj;refine W2_ ?_;(refine Zi (cs':=C.set (i*3+2) (some (.v undef))) (ho':=none) ?_ (hcs:= ?hcs58);(case hcs58=>exact(by rw[cP];exact cH)));refine JD ?_;exact rfl
end Go.Fw
