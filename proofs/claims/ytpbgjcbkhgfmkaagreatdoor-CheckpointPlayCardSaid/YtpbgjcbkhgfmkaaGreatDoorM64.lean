/- Nodes and edges put by the reference. -/
import Derived.Test.YtpbgjcbkhgfmkaaGreatDoorM63
set_option maxHeartbeats 16000000
namespace Go.Fw
open Go Go.Proofs Tryz List
set_option maxRecDepth 100000
set_option linter.unusedVariables false
set_option linter.unusedSimpArgs false
theorem Xh6 (g:Gra) (n:Nod) (hl:g.nodes.length<=100000) (eC:0<=n.id) (hn2:n.id<=1000000):Con prog 198 [] [Y6 g,.agg [ai n.id,.d (.sl 1 (n.labels.map Xf)),.d (.sl 6 (n.props.map Xd))]] [] (Y6 (VJ g n)):=by
 refine ZC1 func198 ntmps198 fun E=> ?_;obtain⟨ns,es,nn,ne⟩:=g;obtain⟨aH,nl,np⟩:=n;unfold VJ Y6;simp only at hl eC hn2 |-;have bg:(UC ltI Nod.id ns aH [(⟨aH,nl,np⟩:Nod)]).length<=ns.length+1:=by
  have:=X5K (lt:=ltI) (key:=Nod.id) (l:=ns) (k:=aH) (ns:=[(⟨aH,nl,np⟩:Nod)]);simpa using this
 generalize hR:UC ltI Nod.id ns aH [(⟨aH,nl,np⟩:Nod)]=R at*;have hlm:(ns.map Xm).length=ns.length:=by simp
 refine U8 ?_;refine X8 (Uu 5 130 3 rfl rfl rfl) ?_
 refine Xn (ι:=Nat×Bool×List Nod) (fun q=>q.1<=ns.length/\q.2.2++X2P ltI Nod.id (ns.drop q.1) aH [(⟨aH,nl,np⟩:Nod)] q.2.1=R) (fun q=>⟨65,[(2,.ptr 100 0),(3,.ptr 101 0),(4,.ptr 102 0),(5,.own 130 (q.2.2.map Xm).length),(6,ab q.2.1),(7,ai q.1)],[(100,.box [.d (.sl 3 (ns.map Xm)),.d (.sl 5 (es.map Xr)),ai nn,ai ne]),(101,.box [ai aH,.d (.sl 1 (nl.map Xf)),.d (.sl 6 (np.map Xd))]),(102,.box [aq,aq,ai 0,ai 0]),(130,.row 3 (q.2.2.map Xm))]⟩) (fun q=>ns.length-q.1) (0,false,[]) ⟨Nat.zero_le _,by simpa [X2P] using hR⟩
  (ZL0) ?_
 rintro⟨i,b,out⟩ ⟨hi,hg⟩;simp only at hi hg;have eW:=X7Y hg;have hroom:(out.map Xm).length<=100001:=by rw[LM];omega
 by_cases hil:i<ns.length
 case neg=>
  have hn:¬(i:Int)<(ns.map Xm).length:=by omega
  rw[drop_of_length_le (by omega),XfH] at hg;have tK:R.length<=ns.length+1:=bg;cases b with
  |true=>
   rw[PI rfl,append_nil] at hg;subst hg;refine U8 ?_;refine Qse ?_
   (show AWP prog E _ _ _;refine X2 ?_;exact(show Xa _ _ _ _ _ from⟨_,St.le_refl _,⟨⟨102,0,_,rfl,rfl,.inr ⟨4,_,rfl,rfl,rfl,rfl⟩⟩,TV⟩,X4 _⟩))
  |false=>
   rw[NI (by simp)] at hg;subst hg;have hap:(out++[(⟨aH,nl,np⟩:Nod)]).map Xm=out.map Xm++[[.v (.int .i64 aH),.sl 1 (nl.map Xf),.sl 6 (np.map Xd)]]:=by simp[Xm]
   rw[hap];refine XY ?_;refine Qse ?_
   (show AWP prog E _ _ _;refine X2 ?_;exact(show Xa _ _ _ _ _ from⟨_,St.le_refl _,⟨⟨102,0,_,rfl,rfl,.inr ⟨4,_,rfl,rfl,rfl,rfl⟩⟩,TV⟩,X4 _⟩))
 have hn:(i:Int)<(ns.map Xm).length:=by omega
 obtain⟨x,hx⟩:=Xu (l:=ns) hil;have au:(ns.map Xm)[i]? =some (Xm x):=XM hx;have e7:ltI x.id aH=true->x.id≠aH:=fun h e=>by rw[e,UY.irr] at h;cases h
 rw[XdC hx e7] at hg;obtain⟨aJ,xl,xp⟩:=x;simp only[Xm] at au hg e7;clear hx;cases b with
 |true=>
  rw[NI (by simp),nil_append,Bool.true_or] at hg;by_cases hq:aJ=aH
  ·subst hq;rw[PI rfl,nil_append] at hg;refine QX ?_;refine⟨(i+1,true,out),⟨by simp only;omega,hg⟩,by simp only;omega,?_⟩;dsimp only
   skip
   exact Xb rfl ⟨JL,JL,JL,JL,JL,JL,TV⟩ ⟨rfl,rfl,rfl,rfl,TV⟩
  ·rw[NI hq,<-AS] at hg;have hap:(out++[(⟨aJ,xl,xp⟩:Nod)]).map Xm=out.map Xm++[[.v (.int .i64 aJ),.sl 1 (xl.map Xf),.sl 6 (xp.map Xd)]]:=by simp[Xm]
   refine QUa ?_;refine⟨(i+1,true,out++[(⟨aJ,xl,xp⟩:Nod)]),⟨by simp only;omega,hg⟩,by simp only;omega,?_⟩;dsimp only;rw[hap];exact Qte
 |false=>
  by_cases hp:aJ<aH
  ·have iY:ltI aJ aH=true:=DT hp;have hq:=e7 iY;have hp':¬aH<=aJ:=by omega
   rw[iY,NI (by simp),NI hq,nil_append,<-AS] at hg;have hap:(out++[(⟨aJ,xl,xp⟩:Nod)]).map Xm=out.map Xm++[[.v (.int .i64 aJ),.sl 1 (xl.map Xf),.sl 6 (xp.map Xd)]]:=by simp[Xm]
   refine QUa ?_;refine⟨(i+1,false,out++[(⟨aJ,xl,xp⟩:Nod)]),⟨by simp only;omega,hg⟩,by simp only;omega,?_⟩;dsimp only;rw[hap];exact Qte
  ·have iY:ltI aJ aH=false:=DF hp;have hp':aH<=aJ:=by omega
   rw[iY,PI ⟨rfl,rfl⟩] at hg;by_cases hq:aJ=aH
   ·subst hq;rw[PI rfl,append_nil,<-AS] at hg;have hap:(out++[(⟨aJ,nl,np⟩:Nod)]).map Xm=out.map Xm++[[.v (.int .i64 aJ),.sl 1 (nl.map Xf),.sl 6 (np.map Xd)]]:=by simp[Xm]
    refine QUa ?_;refine⟨(i+1,true,out++[(⟨aJ,nl,np⟩:Nod)]),⟨by simp only;omega,hg⟩,by simp only;omega,?_⟩;dsimp only;rw[hap];exact Qte
   ·rw[NI hq,AS,<-AS,<-AS] at hg;have hap:(out++[(⟨aH,nl,np⟩:Nod)]++[(⟨aJ,xl,xp⟩:Nod)]).map Xm=(out.map Xm++[[.v (.int .i64 aH),.sl 1 (nl.map Xf),.sl 6 (np.map Xd)]])++[[.v (.int .i64 aJ),.sl 1 (xl.map Xf),.sl 6 (xp.map Xd)]]:=by simp[Xm]
    refine X7 ?_;refine UP ?_;refine⟨(i+1,true,out++[(⟨aH,nl,np⟩:Nod)]++[(⟨aJ,xl,xp⟩:Nod)]),⟨by simp only;omega,hg⟩,by simp only;omega,?_⟩;dsimp only;rw[hap];exact Qte
theorem XmG (g:Gra) (n:Edg) (hl:g.aj.length<=100000) (eC:0<=n.id) (hn2:n.id<=1000000):Con prog 199 [] [Y6 g,.agg [ai n.id,ai n.src,ai n.dst,Xi n.typ,.d (.sl 6 (n.props.map Xd))]] [] (Y6 (X1d g n)):=by
 refine ZC1 func199 ntmps199 fun E=> ?_;obtain⟨ns,es,nn,ne⟩:=g;obtain⟨aH,nsr,nds,nt,np⟩:=n;unfold X1d Y6;simp only at hl eC hn2 |-;have bg:(UC ltI Edg.id es aH [(⟨aH,nsr,nds,nt,np⟩:Edg)]).length<=es.length+1:=by
  have:=X5K (lt:=ltI) (key:=Edg.id) (l:=es) (k:=aH) (ns:=[(⟨aH,nsr,nds,nt,np⟩:Edg)]);simpa using this
 generalize hR:UC ltI Edg.id es aH [(⟨aH,nsr,nds,nt,np⟩:Edg)]=R at*;have hlm:(es.map Xr).length=es.length:=by simp
 refine U8 ?_;refine X8 (Uu 5 130 5 rfl rfl rfl) ?_
 refine Xn (ι:=Nat×Bool×List Edg) (fun q=>q.1<=es.length/\q.2.2++X2P ltI Edg.id (es.drop q.1) aH [(⟨aH,nsr,nds,nt,np⟩:Edg)] q.2.1=R) (fun q=>⟨65,[(2,.ptr 100 0),(3,.ptr 101 0),(4,.ptr 102 0),(5,.own 130 (q.2.2.map Xr).length),(6,ab q.2.1),(7,ai q.1)],[(100,.box [.d (.sl 3 (ns.map Xm)),.d (.sl 5 (es.map Xr)),ai nn,ai ne]),(101,.box [ai aH,ai nsr,ai nds,.d (.v (.string (X6 nt))),.d (.sl 6 (np.map Xd))]),(102,.box [aq,aq,ai 0,ai 0]),(130,.row 5 (q.2.2.map Xr))]⟩) (fun q=>es.length-q.1) (0,false,[]) ⟨Nat.zero_le _,by simpa [X2P] using hR⟩
  (ZL0) ?_
 rintro⟨i,b,out⟩ ⟨hi,hg⟩;simp only at hi hg;have eW:=X7Y hg;have hroom:(out.map Xr).length<=100001:=by rw[LM];omega
 by_cases hil:i<es.length
 case neg=>
  have hn:¬(i:Int)<(es.map Xr).length:=by omega
  rw[drop_of_length_le (by omega),XfH] at hg;have tK:R.length<=es.length+1:=bg;cases b with
  |true=>
   rw[PI rfl,append_nil] at hg;subst hg;refine U8 ?_;refine Qse ?_
   (show AWP prog E _ _ _;refine X2 ?_;exact(show Xa _ _ _ _ _ from⟨_,St.le_refl _,⟨⟨102,0,_,rfl,rfl,.inr ⟨4,_,rfl,rfl,rfl,rfl⟩⟩,TV⟩,X4 _⟩))
  |false=>
   rw[NI (by simp)] at hg;subst hg;have hap:(out++[(⟨aH,nsr,nds,nt,np⟩:Edg)]).map Xr=out.map Xr++[[.v (.int .i64 aH),.v (.int .i64 nsr),.v (.int .i64 nds),.v (.string (X6 nt)),.sl 6 (np.map Xd)]]:=by simp[Xr]
   rw[hap];refine XY ?_;refine Qse ?_
   (show AWP prog E _ _ _;refine X2 ?_;exact(show Xa _ _ _ _ _ from⟨_,St.le_refl _,⟨⟨102,0,_,rfl,rfl,.inr ⟨4,_,rfl,rfl,rfl,rfl⟩⟩,TV⟩,X4 _⟩))
 have hn:(i:Int)<(es.map Xr).length:=by omega
 obtain⟨x,hx⟩:=Xu (l:=es) hil;have au:(es.map Xr)[i]? =some (Xr x):=XM hx;have e7:ltI x.id aH=true->x.id≠aH:=fun h e=>by rw[e,UY.irr] at h;cases h
 rw[XdC hx e7] at hg;obtain⟨aJ,xs,xd,xt,xp⟩:=x;simp only[Xr] at au hg e7;clear hx;cases b with
 |true=>
  rw[NI (by simp),nil_append,Bool.true_or] at hg;by_cases hq:aJ=aH
  ·subst hq;rw[PI rfl,nil_append] at hg;refine QX ?_;refine⟨(i+1,true,out),⟨by simp only;omega,hg⟩,by simp only;omega,?_⟩;dsimp only
   skip
   exact Xb rfl ⟨JL,JL,JL,JL,JL,JL,TV⟩ ⟨rfl,rfl,rfl,rfl,TV⟩
  ·rw[NI hq,<-AS] at hg;have hap:(out++[(⟨aJ,xs,xd,xt,xp⟩:Edg)]).map Xr=out.map Xr++[[.v (.int .i64 aJ),.v (.int .i64 xs),.v (.int .i64 xd),.v (.string (X6 xt)),.sl 6 (xp.map Xd)]]:=by simp[Xr]
   refine QUa ?_;refine⟨(i+1,true,out++[(⟨aJ,xs,xd,xt,xp⟩:Edg)]),⟨by simp only;omega,hg⟩,by simp only;omega,?_⟩;dsimp only;rw[hap];exact Qte
 |false=>
  by_cases hp:aJ<aH
  ·have iY:ltI aJ aH=true:=DT hp;have hq:=e7 iY;have hp':¬aH<=aJ:=by omega
   rw[iY,NI (by simp),NI hq,nil_append,<-AS] at hg;have hap:(out++[(⟨aJ,xs,xd,xt,xp⟩:Edg)]).map Xr=out.map Xr++[[.v (.int .i64 aJ),.v (.int .i64 xs),.v (.int .i64 xd),.v (.string (X6 xt)),.sl 6 (xp.map Xd)]]:=by simp[Xr]
   refine QUa ?_;refine⟨(i+1,false,out++[(⟨aJ,xs,xd,xt,xp⟩:Edg)]),⟨by simp only;omega,hg⟩,by simp only;omega,?_⟩;dsimp only;rw[hap];exact Qte
  ·have iY:ltI aJ aH=false:=DF hp;have hp':aH<=aJ:=by omega
   rw[iY,PI ⟨rfl,rfl⟩] at hg;by_cases hq:aJ=aH
   ·subst hq;rw[PI rfl,append_nil,<-AS] at hg;have hap:(out++[(⟨aJ,nsr,nds,nt,np⟩:Edg)]).map Xr=out.map Xr++[[.v (.int .i64 aJ),.v (.int .i64 nsr),.v (.int .i64 nds),.v (.string (X6 nt)),.sl 6 (np.map Xd)]]:=by simp[Xr]
    refine QUa ?_;refine⟨(i+1,true,out++[(⟨aJ,nsr,nds,nt,np⟩:Edg)]),⟨by simp only;omega,hg⟩,by simp only;omega,?_⟩;dsimp only;rw[hap];exact Qte
   ·rw[NI hq,AS,<-AS,<-AS] at hg;have hap:(out++[(⟨aH,nsr,nds,nt,np⟩:Edg)]++[(⟨aJ,xs,xd,xt,xp⟩:Edg)]).map Xr=(out.map Xr++[[.v (.int .i64 aH),.v (.int .i64 nsr),.v (.int .i64 nds),.v (.string (X6 nt)),.sl 6 (np.map Xd)]])++[[.v (.int .i64 aJ),.v (.int .i64 xs),.v (.int .i64 xd),.v (.string (X6 xt)),.sl 6 (xp.map Xd)]]:=by simp[Xr]
    refine X7 ?_;refine UP ?_;refine⟨(i+1,true,out++[(⟨aH,nsr,nds,nt,np⟩:Edg)]++[(⟨aJ,xs,xd,xt,xp⟩:Edg)]),⟨by simp only;omega,hg⟩,by simp only;omega,?_⟩;dsimp only;rw[hap];exact Qte
open Go
abbrev AD:=Int×Int×Int
def cAD (a:AD):List D:=[.v (.int .i64 a.1),.v (.int .i64 a.2.1),.v (.int .i64 a.2.2)]
def ltA (a b:AD):Bool:=decide (a.2.1<b.2.1)||(decide (a.2.1=b.2.1)&&decide (a.2.2<b.2.2))
def X3O (out:List AD) (a:AD):Nat->Nat
 |0=>0
 |k+1=>match out[k]? with
  |some b=>if ltA a b then X3O out a k else k+1
  |none=>k+1
def X2Q (out:List AD) (a:AD):List AD:=out.take (X3O out a out.length)++a::out.drop (X3O out a out.length)
theorem Xih (out:List AD) (a:AD):∀k,X3O out a k<=k
 |0=>Nat.le_refl _
 |k+1=>by
  rw[X3O];cases h:out[k]? with
  |none=>exact Nat.le_refl _
  |some b=>
   simp only;split
   ·exact Nat.le_succ_of_le (Xih out a k)
   ·exact Nat.le_refl _
variable{a b:AD}{i k sz:Nat}{out:List AD}{T:List (Option D)}{id:Int}{l:List Edg}
theorem Xu4 (h:out[k]? =some b):X3O out a (k+1)=if ltA a b then X3O out a k else k+1:=by rw[X3O,h]
theorem XiX (out:List AD) (a:AD):(X2Q out a).length=out.length+1:=by
 have:=Xih out a out.length;unfold X2Q;rw[LA,LC,LT,LD];omega
def Vr (out:List AD) (a:AD) (k:Nat):List AD:=if k=out.length then out++[a] else out.take (k+1)++out.drop k
theorem Xdt (h:k<=out.length):(Vr out a k).length=out.length+1:=by
 unfold Vr;split
 ·simp
 ·rw[LA,LT,LD];omega
theorem XvH (h:out[k]? =some b):(Vr out a (k+1))[k]? =some b:=by
 have hl:=(GS.1 h).1;unfold Vr;split
 ·rw[getElem?_append_left hl];exact h
 ·rw[getElem?_append_left (by rw[LT];omega),getElem?_take,PI (by omega)];exact h
theorem Xx1 (h:out[k]? =some b):(Vr out a (k+1)).set (k+1) b=Vr out a k:=by
 obtain⟨hl,hb⟩:=GS.1 h;have e:Vr out a k=out.take (k+1)++out.drop k:=by unfold Vr;rw[NI (by omega)]
 have ed:out.drop k=b::out.drop (k+1):=by rw[drop_eq_getElem_cons hl,hb]
 rw[e];unfold Vr;split
 ·rename_i q;rw[set_append_right _ _ (by omega),q,Nat.sub_self,set_cons_zero,take_length,ed,show k+1=out.length from q,drop_length]
 ·rename_i q;have hk:k+1<out.length:=by omega
  rw[show k+1+1=(k+1)+1 from rfl,take_succ_eq_append_getElem hk,AS,set_append_right _ _ (by rw[LT];omega),LT,Nat.min_eq_left (by omega),Nat.sub_self,ed];rfl
theorem Xou (h:k<=out.length):(Vr out a k).set k a=out.take k++a::out.drop k:=by
 unfold Vr;split
 ·rename_i q;subst q;rw[set_append_right _ _ (Nat.le_refl _),Nat.sub_self,set_cons_zero,take_length,drop_length]
 ·rename_i q;have hk:k<out.length:=by omega
  rw[take_succ_eq_append_getElem hk,AS,set_append_right _ _ (by rw[LT];omega),LT,Nat.min_eq_left (by omega),Nat.sub_self];rfl
def X41 (e:Edg) (id:Int):AD:=if e.src=id then (id,e.dst,e.id) else if e.dst=id then (id,e.src,e.id) else (0,0,0)
def isA (e:Edg) (id:Int):Bool:=decide (e.src=id)||decide (e.dst=id)
def X1S (id:Int):List AD->List Edg->List AD
 |out,[]=>out
 |out,e::r=>if isA e id then X1S id (X2Q out (X41 e id)) r else X1S id out r
theorem XqW {e:Edg} (h:l[i]? =some e):X1S id out (l.drop i)=if isA e id then X1S id (X2Q out (X41 e id)) (l.drop (i+1)) else X1S id out (l.drop (i+1)):=by
 obtain⟨hl,h⟩:=GS.1 h;rw[drop_eq_getElem_cons hl,h,X1S]
theorem XbA (id:Int):∀(l:List Edg) (out:List AD),(X1S id out l).length=out.length+l.countP fun e=>isA e id
 |[],out=>by simp[X1S]
 |e::r,out=>by
  rw[X1S,countP_cons];split
  ·rw[XbA id r,XiX];omega
  ·rw[XbA id r];omega
theorem XwR (l:List Edg) (id:Int):decide (0<(X1S id [] l).length)=X1O l id:=by
 rw[XbA,length_nil,Nat.zero_add];unfold X1O;rw[Bool.eq_iff_iff];simp only[decide_eq_true_eq,any_eq_true];rw[countP_pos_iff];simp only[isA,Bool.or_eq_true,decide_eq_true_eq]
def X6j (l:List Edg) (id:Int):Option Edg:=l.find? fun e=>decide (e.id=id)
abbrev X7a:Edg:=⟨0,0,0,[],[]⟩
def X0Q (e:Edg):AVal:= .agg [ai e.id,ai e.src,ai e.dst,Xi e.typ,.d (.sl 6 (e.props.map Xd))]
theorem Xpy {n:Edg} (h:l[i]? =some n):X6j (l.drop i) id=if n.id=id then some n else X6j (l.drop (i+1)) id:=by
 obtain⟨hi,h⟩:=GS.1 h;unfold X6j;rw[drop_eq_getElem_cons hi,h,find?_cons];by_cases q:n.id=id<;>simp[q]
theorem Xqs (g:Gra) (id:Int) (hl:g.aj.length<=9223372036854775807):Con prog 197 [] [Y6 g,ai id] [] (.tup [X0Q ((X6j g.aj id).getD X7a),ab (X6j g.aj id).isSome]):=by
 refine ZCt func197 ntmps197 fun E=> ?_;obtain⟨ns,es,nn,ne⟩:=g;unfold Y6;simp only at hl |-;generalize hG:X6j es id=G;refine XR ?_
 refine Xn (fun i:Nat=>i<=es.length/\X6j (es.drop i) id=G) (fun i=>⟨28,[(1,ai id),(2,.ptr 100 0),(4,.ptr 101 0),(6,ai i)],[(100,.box [.d (.sl 3 (ns.map Xm)),.d (.sl 5 (es.map Xr)),ai nn,ai ne]),(101,.box [ai 0,ai 0,ai 0,Xi [],aq])]⟩) (fun i=>es.length-i) 0 ⟨Nat.zero_le _,by simpa using hG⟩
  (ZL0) ?_
 rintro i ⟨hi,hg⟩;by_cases hil:i<es.length
 case neg=>
  have hn:¬(i:Int)<(es.map Xr).length:=by rw[LM];omega
  rw[drop_of_length_le (by omega)] at hg;have hg:none=G:=hg;subst hg;simp only[Option.getD_none,Option.isSome_none,X7a,X0Q,map_nil];refine Yv ?_
  (show AWP prog E _ _ _;refine X2 ?_;exact(show Xa _ _ _ _ _ from⟨_,Xq 101 (cs':=[ai 0,ai 0,ai 0,Xi [],.d (.sl 6 [])]) rfl JM rfl,⟨⟨101,0,_,rfl,rfl,.inr ⟨5,_,rfl,rfl,rfl,rfl⟩⟩,rfl,TV⟩,X4 _⟩))
 have hn:(i:Int)<(es.map Xr).length:=by rw[LM];omega
 obtain⟨x,hx⟩:=Xu (l:=es) hil;have au:(es.map Xr)[i]? =some (Xr x):=XM hx;rw[Xpy hx] at hg;obtain⟨aJ,src,dst,typ,props⟩:=x;simp only[Xr] at au hg;clear hx;by_cases hq:aJ=id
 ·rw[PI hq] at hg;subst hg;subst hq;simp only[Option.getD_some,Option.isSome_some,X0Q];refine UX ?_
  (show AWP prog E _ _ _;refine X2 ?_;exact(show Xa _ _ _ _ _ from⟨_,St.le_refl _,⟨⟨101,0,_,rfl,rfl,.inr ⟨5,_,rfl,rfl,rfl,rfl⟩⟩,rfl,TV⟩,X4 _⟩))
 rw[NI hq] at hg;exact Qce
theorem XmH {q o:Nat}{R:List (List D)}{r:List D}{d:D} (hz:∀x∈R,x.length=sz) (hq:R[q]? =some r) (ho:r[o]? =some d):(Yi (R.flatten.map some++T) none)[0+q*sz+o]? =some (.d d):=by
 rw[Nat.zero_add];simp only[Yi,getElem?_map,X4l T hz hq ho];rfl
theorem Xkg {xs:List (List D)}{b b':List D} (h:∀x∈xs,x.length=sz) (hx:xs[i]? =some b) (hb:b'.length=sz):
  Yi ((xs.set i b').flatten.map some++T) none=(Yi (xs.flatten.map some++T) none).take (0+i*sz)++b'.map .d++(Yi (xs.flatten.map some++T) none).drop (0+i*sz+(b'.map AVal.d).length):=by
 have e:=Xgz (a:=[]) (b:=b) (c:=[]) (b':=b') (o:=0) (T:=T) h (by simpa using hx) rfl (by rw[hb,h b (mem_of_getElem? hx)]);simp only[nil_append,append_nil,Nat.add_zero,Nat.zero_add] at e |-;exact e
theorem Xkj (l:List AD):∀x∈l.map cAD,x.length=3:=fun x hx=>by obtain⟨p,_,rfl⟩:=mem_map.1 hx;rfl
theorem XwB (e:Edg) (id:Int):Con prog 360 [] [X0Q e,ai id,ai 3] [] (.tup [.agg [ai (X41 e id).1,ai (X41 e id).2.1,ai (X41 e id).2.2],ab (isA e id)]):=by
 refine ZCt func360 ntmps360 fun E=> ?_;obtain⟨ij,src,dst,typ,ps⟩:=e;simp only[X0Q];by_cases h1:src=id
 ·have hs:X41 ⟨ij,src,dst,typ,ps⟩ id=(id,dst,ij):=PI h1;have hi:isA ⟨ij,src,dst,typ,ps⟩ id=true:=by simp[isA,h1]
  rw[hs,hi];clear hs hi;subst h1;refine X00 ?_
  (show AWP prog E _ _ _;refine X2 ?_;exact(show Xa _ _ _ _ _ from⟨_,St.le_refl _,⟨⟨101,0,_,rfl,rfl,.inr ⟨3,_,rfl,rfl,rfl,rfl⟩⟩,rfl,TV⟩,X4 _⟩))
 by_cases h2:dst=id
 ·have hs:X41 ⟨ij,src,dst,typ,ps⟩ id=(id,src,ij):=by unfold X41;rw[NI h1,PI h2]
  have hi:isA ⟨ij,src,dst,typ,ps⟩ id=true:=by simp[isA,h2]
  rw[hs,hi];clear hs hi;subst h2;refine Qla ?_
  (show AWP prog E _ _ _;refine X2 ?_;exact(show Xa _ _ _ _ _ from⟨_,St.le_refl _,⟨⟨101,0,_,rfl,rfl,.inr ⟨3,_,rfl,rfl,rfl,rfl⟩⟩,rfl,TV⟩,X4 _⟩))
 have hs:X41 ⟨ij,src,dst,typ,ps⟩ id=(0,0,0):=by unfold X41;rw[NI h1,NI h2]
 have hi:isA ⟨ij,src,dst,typ,ps⟩ id=false:=by simp[isA,h1,h2]
 rw[hs,hi];clear hs hi;refine X7 ?_;refine W8_ ?_
 (show AWP prog E _ _ _;refine X2 ?_;exact(show Xa _ _ _ _ _ from⟨_,St.le_refl _,⟨⟨101,0,_,rfl,rfl,.inr ⟨3,_,rfl,rfl,rfl,rfl⟩⟩,rfl,TV⟩,X4 _⟩))
theorem Xrx (e:Edg):Con prog 361 [] [X0Q e,.d (.sl 1 [])] [] (ab true):=by
 refine ZC1 func361 ntmps361 fun E=> ?_;obtain⟨ij,src,dst,typ,ps⟩:=e;simp only[X0Q];refine Yf ?_
 (show AWP prog E _ _ _;refine X2 ?_;exact(show Xa _ _ _ _ _ from⟨_,St.le_refl _,⟨rfl,TV⟩,X4 _⟩))
theorem Xro (g:Gra) (id:Int) (hl:g.aj.length<=100000):Con prog 321 [] [Y6 g,ai id,.d (.sl 1 []),ai 3] [] (.d (.sl 3 ((X1S id [] g.aj).map cAD))):=by
 refine ZC1 func321 ntmps321 fun E=> ?_;obtain⟨ns,es,nn,ne⟩:=g;unfold Y6;simp only at hl |-;have hlm:(es.map Xr).length=es.length:=by simp
 have bg:(X1S id [] es).length<=es.length:=by
  rw[XbA];simp only[length_nil,Nat.zero_add];exact countP_le_length
 generalize hR:X1S id [] es=R at*;refine Yx ?_;refine X8 (Uu 9 130 3 rfl rfl rfl) ?_
 refine Xn (ι:=Nat×List AD) (fun q=>q.1<=es.length/\X1S id q.2 (es.drop q.1)=R/\q.2.length<=q.1) (fun q=>⟨100,[(1,ai id),(2,.d (.sl 1 [])),(3,ai 3),(4,.ptr 100 0),(9,.own 130 (q.2.map cAD).length),(10,ai q.1)],[(100,.box [.d (.sl 3 (ns.map Xm)),.d (.sl 5 (es.map Xr)),ai nn,ai ne]),(130,.row 3 (q.2.map cAD))]⟩) (fun q=>es.length-q.1) (0,[]) ⟨Nat.zero_le _,by simpa using hR,Nat.le_refl _⟩
  (ZL0) ?_
 rintro⟨i,out⟩ ⟨hi,hg,qp⟩;simp only at hi hg qp;have tL:(out.map cAD).length=out.length:=by simp
 by_cases hil:i<es.length
 case neg=>
  have hn:¬(i:Int)<(es.map Xr).length:=by omega
  rw[drop_of_length_le (by omega)] at hg;have hg:out=R:=hg;subst hg;refine Yg ?_;refine Qwb ?_;refine X8 (Y7 8 130 rfl rfl rfl) ?_
  (show AWP prog E _ _ _;refine X2 ?_;exact(show Xa _ _ _ _ _ from⟨_,St.le_refl _,⟨rfl,TV⟩,X4 _⟩))
 have hn:(i:Int)<(es.map Xr).length:=by omega
 obtain⟨x,hx⟩:=Xu (l:=es) hil;have au:(es.map Xr)[i]? =some (Xr x):=XM hx;rw[XqW hx] at hg;have h7:=XwB x id;have h8:=Xrx x;clear hx hR bg;generalize X41 x id=a at*;generalize isA x id=ia at*;obtain⟨ij,src,dst,typ,ps⟩:=x;simp only[X0Q,Xr] at h7 h8 au;cases ia with
 |false=>
  rw[NI (by simp)] at hg;refine X7 ?_;refine XQ ?_;exact⟨(i+1,out),⟨by simp only;omega,hg,by simp only;omega⟩,by simp only;omega,ZL0⟩
 |true=>
  rw[PI rfl] at hg;have hroom:(out.map cAD).length<=100000:=by omega
  refine X7 ?_;refine Yq ?_;clear h7 h8 au;obtain⟨a1,a2,a3⟩:=a;have hfl:(out.map cAD++[[.v (.int .i64 a1),.v (.int .i64 a2),.v (.int .i64 a3)]])=(Vr out (a1,a2,a3) out.length).map cAD:=by unfold Vr;rw[PI rfl];simp[cAD]
  refine X2Z 9 130 120 (n:=out.length+1) (xs:=out.map cAD++[[.v (.int .i64 a1),.v (.int .i64 a2),.v (.int .i64 a3)]]) (by conv=>lhs;whnf) (by simp) (Eq.trans (b:= .own 130 ((out.map cAD).length+1)) rfl (by rw[tL])) (by simp) rfl rfl (fun c k aI aW bL hz=> ?_);rw[hfl] at aI bL |-;have aK:∀j,j<=out.length->((Vr out (a1,a2,a3) j).map cAD).length=out.length+1:=fun j hj=>by rw[LM,Xdt hj]
  rw[aK _ (Nat.le_refl _)] at aI bL
  refine Xn (fun j:Nat=>j<=out.length/\X3O out (a1,a2,a3) j=X3O out (a1,a2,a3) out.length) (fun j=>⟨100,[(1,ai id),(2,.d (.sl 1 [])),(3,ai 3),(4,.ptr 100 0),(9,.rs 120 0 (out.length+1) c),(10,ai i),(11,.ptr 101 0),(13,ai j)],[(100,.box [.d (.sl 3 (ns.map Xm)),.d (.sl 5 (es.map Xr)),ai nn,ai ne]),(101,.box [ai a1,ai a2,ai a3]),(120,.raw (((Vr out (a1,a2,a3) j).map cAD).flatten.map some++replicate k none) none)]⟩) (fun j=>j) out.length ⟨Nat.le_refl _,rfl⟩
   (ZL0) ?_
  rintro j ⟨hj,hp⟩;have aT:=Xkj (Vr out (a1,a2,a3) j);have hlen:=X2f (k:=k) aT;rw[aK j hj] at hlen;have hjn:j<out.length+1:=by omega
  obtain⟨y,hy⟩:=Xu (l:=Vr out (a1,a2,a3) j) (k:=j) (by rw[Xdt hj];omega);have kX:((Vr out (a1,a2,a3) j).map cAD)[j]? =some (cAD y):=XM hy;have hput:X3O out (a1,a2,a3) j=j->Yi (((X2Q out (a1,a2,a3)).map cAD).flatten.map some++replicate k none) none=(Yi (((Vr out (a1,a2,a3) j).map cAD).flatten.map some++replicate k none) none).take (0+j*3)++[ai a1,ai a2,ai a3]++(Yi (((Vr out (a1,a2,a3) j).map cAD).flatten.map some++replicate k none) none).drop (0+j*3+[ai a1,ai a2,ai a3].length):=fun kG=>by
   have e:=Xkg (b':=cAD (a1,a2,a3)) (T:=replicate k none) aT kX rfl;rw[show cAD (a1,a2,a3)=cAD (a1,a2,a3) from rfl,<-map_set,Xou hj,show out.take j++(a1,a2,a3)::out.drop j=X2Q out (a1,a2,a3) by unfold X2Q;rw[<-hp,kG]] at e;exact e
  have hbd:0+j*3+3<=(((Vr out (a1,a2,a3) j).map cAD).flatten.map some++replicate k (none:Option D)).length:=by rw[hlen];omega
  have ax:(X2Q out (a1,a2,a3)).length=out.length+1:=XiX _ _;have hnm:((X2Q out (a1,a2,a3)).map cAD).length=out.length+1:=by rw[LM];exact ax
  have hnz:=Xkj (X2Q out (a1,a2,a3));have iZ:=X2f (k:=k) hnz;rw[hnm] at iZ;clear hy kX y hfl hz;cases j with
  |zero=>
   have kG:=hput rfl;clear hput hp;generalize X2Q out (a1,a2,a3)=O at*;generalize hC:((Vr out (a1,a2,a3) 0).map cAD).flatten.map some++replicate k (none:Option D)=C at*;refine Yg ?_;refine QIa ?_;refine QIa ?_;refine Qm ?_;refine W9_ ?_;refine Zh (sz:=3) ?_;(refine Zi (cs':=((O.map cAD).flatten.map some++replicate k none)) (ho':=none) ?_ (hcs:= ?hcs78);(case hcs78=>exact kG));refine W6_ ?_;refine⟨(i+1,O),⟨by simp only;omega,hg,by simp only;omega⟩,by simp only;omega,?_⟩;refine St.le_trans (X14 9 120 130 (n:=out.length+1) (c:=c) (O.map cAD) (by conv=>lhs;whnf) (by conv=>lhs;whnf) ?_ hnm hnz aI aW (by rw[iZ];exact bL) rfl rfl) ?_
   ·rw[<-hnm];exact X8o hnz
   ·dsimp only;rw[hnm];exact ZL0
  |succ j=>
   obtain⟨⟨b1,b2,b3⟩,hb⟩:=Xu (l:=out) (k:=j) (by omega);have jk:=XvH (a:=(a1,a2,a3)) hb;have hsc:((Vr out (a1,a2,a3) (j+1)).map cAD)[j]? =some (cAD (b1,b2,b3)):=XM jk;have jC:=Xx1 (a:=(a1,a2,a3)) hb;rw[Xu4 hb] at hp hput;have hsub:(((j+1:Nat):Int)-1)=((j:Nat):Int):=by omega
   have fL:(Yi (((Vr out (a1,a2,a3) (j+1)).map cAD).flatten.map some++replicate k none) none)[0+j*3+1]? =some (ai b2):=XmH (T:=replicate k none) aT hsc rfl;have dj:(Yi (((Vr out (a1,a2,a3) (j+1)).map cAD).flatten.map some++replicate k none) none)[0+j*3+2]? =some (ai b3):=XmH (T:=replicate k none) aT hsc rfl;have hrow:((Yi (((Vr out (a1,a2,a3) (j+1)).map cAD).flatten.map some++replicate k none) none).drop (0+j*3)).take 3=[ai b1,ai b2,ai b3]:=XdF (replicate k none) aT hsc;obtain⟨y',hy'⟩:=Xu (l:=Vr out (a1,a2,a3) (j+1)) (k:=j+1) (by rw[Xdt hj];omega);have nB:Yi (((Vr out (a1,a2,a3) j).map cAD).flatten.map some++replicate k none) none=(Yi (((Vr out (a1,a2,a3) (j+1)).map cAD).flatten.map some++replicate k none) none).take (0+(j+1)*3)++[ai b1,ai b2,ai b3]++(Yi (((Vr out (a1,a2,a3) (j+1)).map cAD).flatten.map some++replicate k none) none).drop (0+(j+1)*3+[ai b1,ai b2,ai b3].length):=by
    have e:=Xkg (b':=cAD (b1,b2,b3)) (T:=replicate k none) aT (XM hy') rfl;rw[<-map_set,jC] at e;exact e
   clear jk hsc jC hb hy' y';have hlt:ltA (a1,a2,a3) (b1,b2,b3)=(decide (a2<b2)||(decide (a2=b2)&&decide (a3<b3))):=rfl;rw[hlt] at hp hput;generalize hC:((Vr out (a1,a2,a3) (j+1)).map cAD).flatten.map some++replicate k (none:Option D)=C at*;by_cases c1:a2<b2
   ·rw[DT c1,Bool.true_or,PI rfl] at hp;clear hput;generalize pW:((Vr out (a1,a2,a3) j).map cAD).flatten.map some++replicate k (none:Option D)=C' at*;refine XA ?_;refine Qve ?_;refine XR ?_;refine QIa ?_;refine Qf ?_;refine XQ ?_;refine Que ?_;(refine Zm (ys:=[ai b1,ai b2,ai b3]) (sz:=3) ?_ (hy:= ?hy79);(case hy79=>exact hrow));refine Zh (sz:=3) ?_;(refine Zi (cs':=C') (ho':=none) ?_ (hcs:= ?hcs80);(case hcs80=>exact nB));refine W3_ ?_;refine ZBs (((j+1:Nat):Int)) (1) ((j:Nat)) ?_ (e:=hsub);refine W2_ ?_;exact⟨j,⟨by omega,hp⟩,by omega,Xb rfl JM ⟨rfl,rfl,by rw[pW];rfl,TV⟩⟩
   ·by_cases c2:a2=b2
    ·by_cases c3:a3<b3
     ·rw[DT c2,DT c3,Bool.and_true,Bool.or_true,PI rfl] at hp;clear hput;generalize pW:((Vr out (a1,a2,a3) j).map cAD).flatten.map some++replicate k (none:Option D)=C' at*;refine XA ?_;refine Qve ?_;refine W6_ ?_;refine Qve ?_;refine W6_ ?_;refine Que ?_;refine W1_ ?_;refine X0L (hg:=JSa) (hx:=JSb) (hL:=JSb) (ht:=JSb) (hd:=JSb) ?_ (hy:=by exact dj);refine XG ?_;refine Que ?_;(refine Zm (ys:=[ai b1,ai b2,ai b3]) (sz:=3) ?_ (hy:= ?hy81);(case hy81=>exact hrow));refine Zh (sz:=3) ?_;(refine Zi (cs':=C') (ho':=none) ?_ (hcs:= ?hcs82);(case hcs82=>exact nB));refine W3_ ?_;refine ZBs (((j+1:Nat):Int)) (1) ((j:Nat)) ?_ (e:=hsub);refine W2_ ?_;exact⟨j,⟨by omega,hp⟩,by omega,Xb rfl JM ⟨rfl,rfl,by rw[pW];rfl,TV⟩⟩
     ·rw[DF c1,DF c3,Bool.and_false,Bool.or_false,NI (by simp)] at hput;have kG:=hput rfl;clear hput hp nB;generalize X2Q out (a1,a2,a3)=O at*;refine XA ?_;refine Qve ?_;refine W6_ ?_;refine Qve ?_;refine W6_ ?_;refine Que ?_;refine W1_ ?_;refine X0L (hg:=JSa) (hx:=JSb) (hL:=JSb) (ht:=JSb) (hd:=JSb) ?_ (hy:=by exact dj);refine XK ?_;refine Zh (sz:=3) ?_;(refine Zi (cs':=((O.map cAD).flatten.map some++replicate k none)) (ho':=none) ?_ (hcs:= ?hcs83);(case hcs83=>exact kG));refine W6_ ?_;refine⟨(i+1,O),⟨by simp only;omega,hg,by simp only;omega⟩,by simp only;omega,?_⟩;refine St.le_trans (X14 9 120 130 (n:=out.length+1) (c:=c) (O.map cAD) (by conv=>lhs;whnf) (by conv=>lhs;whnf) ?_ hnm hnz aI aW (by rw[iZ];exact bL) rfl rfl) ?_
      ·rw[<-hnm];exact X8o hnz
      ·dsimp only;rw[hnm];exact ZL0
    ·rw[DF c1,DF c2,Bool.false_and,Bool.or_false,NI (by simp)] at hput;have kG:=hput rfl;clear hput hp nB;generalize X2Q out (a1,a2,a3)=O at*;refine XA ?_;refine Qve ?_;refine W6_ ?_;refine Qve ?_;refine Ye ?_;refine Zh (sz:=3) ?_;(refine Zi (cs':=((O.map cAD).flatten.map some++replicate k none)) (ho':=none) ?_ (hcs:= ?hcs84);(case hcs84=>exact kG));refine W6_ ?_;refine⟨(i+1,O),⟨by simp only;omega,hg,by simp only;omega⟩,by simp only;omega,?_⟩;refine St.le_trans (X14 9 120 130 (n:=out.length+1) (c:=c) (O.map cAD) (by conv=>lhs;whnf) (by conv=>lhs;whnf) ?_ hnm hnz aI aW (by rw[iZ];exact bL) rfl rfl) ?_
     ·rw[<-hnm];exact X8o hnz
     ·dsimp only;rw[hnm];exact ZL0
end Go.Fw
