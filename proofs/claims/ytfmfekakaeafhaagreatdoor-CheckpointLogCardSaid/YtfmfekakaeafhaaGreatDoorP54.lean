/- The worked example of chapter 43. -/
import Derived.Test.YtfmfekakaeafhaaGreatDoorP47
import Derived.Test.YtfmfekakaeafhaaGreatDoorP50
set_option linter.all false
set_option maxHeartbeats 128000000
namespace Go.Fw
open Go Go.Proofs Tryz List
open List renaming length->J
set_option maxRecDepth 100000
def X6j {s:Sta} (h:YH s=true):StaHold s:=by
 obtain⟨h1,h2,_⟩:=Vz.1 h;exact⟨X49 h1,by have:=h2.len;omega⟩
def XtB:StaHold X3s:=X6j X8L.2.1.kept.1
def XhM:StaHold X2A:=X6j Xfq.kept.1
def Xwq:Vx X2C/\Vx X3Y:=⟨X8L.2.1.log.few,Xfq.log.few⟩
def Xn9 (ts id:Int):X6T (X1W ts id):=⟨⟨by simp[X1W],fun c hc=>by simp only[X1W,mem_singleton] at hc;subst hc;exact⟨Oc,X6p⟩⟩,by simp[X1W]⟩
def XbC:Con prog 10 [] [] [] (ab true):=by
 refine ZC1 func10 ntmps10 fun E=> ?_;have hl:=X5r 16;rw[show X0x 16=(3,8,true) from rfl] at hl;have hf:=XkV 16 Oi;have c1:=XoO 1 1;have c3:=XoO 3 2;have hh:=Xwq;have hg:=X98 X2C X3s [X1W 1 1] XtB hh.1 Oc (fun r hr=>by rw[mem_singleton.1 hr];exact Xn9 1 1);have hr:=X9z X3Y hh.2;have iq:=X98 X3Y X2A [X1W 3 2] XhM hh.2 Oc (fun r hr=>by rw[mem_singleton.1 hr];exact Xn9 3 2);have gh:=X9z Ur ⟨Oi,Oi⟩;have aU:=X8E X2A XhM;obtain⟨x1,x2,x3,x4,x5,x6⟩:=Xsz;rw[show X0F 16=(X2C,X3s,0) from x1] at hf;rw[x2] at hg;rw[x3] at hr;have e2:(YF X3Y X2A [X1W 3 2]).2.2=26:=x4;rw[e2] at iq;have e3:(Vs Ur).2=1:=x5;rw[e3] at gh;obtain⟨d1,b,d2,d3,d4,d5,t1,t2,t3⟩:=x6;have dm:J (X2C.aa.map Yd)=16:=by rw[LM];exact d1
 have dc:(X2C.aa.map Yd)[5]? =some (Yd b):=XC d2;have b2:(b.map X6)[2]? =some (X6 1):=XC d4;have b3:(b.map X6)[3]? =some (X6 1):=XC d5;have bl:J (b.map X6)=64:=by rw[LM];exact d3
 have tm:J (X2A.g.nodes.map Xi)=1:=Jy
 simp only[Yd,X6] at dc b2 b3;have sB:(Um ⟨1,1,[⟨1,1,0,0,[],zV⟩],zR,false⟩)=Um (X1W 1 1):=rfl;have sC:(Um ⟨1,3,[⟨1,2,0,0,[],zV⟩],zR,false⟩)=Um (X1W 3 2):=rfl;simp only[map_cons,map_nil,Um,Y6,X1W,zR,Xp,zV] at c1 c3 hg iq;clear x1 x2 x3 x4 x5 e2 e3 hh d1 d2 d3 d4 d5 sB sC;generalize (YF X3Y X2A _).1=Y1 at*;generalize (YF X3Y X2A _).2.1=Y2 at*;generalize (Vs Ur).1=Y3 at*;generalize X2C=D1 at*;generalize X3s=S1 at*;generalize X3Y=D2 at*;generalize X2A=S2 at*;obtain⟨ds,dp,dn⟩:=D1;obtain⟨es,kU,en⟩:=D2;obtain⟨fs,fp,fn⟩:=Y1;obtain⟨⟨an,ae,rY,rZ⟩,ar,at',ap,al⟩:=S1;obtain⟨⟨bn,be,bnn,bne⟩,br,bt,bp,bl'⟩:=S2;obtain⟨⟨cn,ce,cnn,cne⟩,cr,ct,cp,cl⟩:=Y2;obtain⟨⟨gn,ge,rW,rX⟩,gr,gt,gp,gl⟩:=Y3;simp only[Xz] at*;refine Uf ?_;refine Z5 (ag:=c1) ?_;refine W1_ ?_;refine Z5 (ag:=hg) ?_;refine XK ?_;refine Z5 (ag:=hr) ?_;refine XB ?_;refine Z5 (ag:=c3) ?_;refine W1_ ?_;refine Z5 (ag:=iq) ?_;refine XK ?_;refine Z5 (ag:=gh) ?_;refine XM ?_;refine X4 ?_;refine U7 ?_;refine Z5 (ag:=aU) ?_;refine W2_ ?_;refine .done (fun _=>Oh) ?_
 (exact Zz2)
open Classical in
def jB (x y:Rul):Bool:=X2g [.int .i64 x.kind,.int .i64 x.n,.string (X7 x.name),.string (X7 x.key),.string (X7 x.src),.string (X7 x.dst)] [.int .i64 y.kind,.int .i64 y.n,.string (X7 y.name),.string (X7 y.key),.string (X7 y.src),.string (X7 y.dst)]
end Go.Fw
