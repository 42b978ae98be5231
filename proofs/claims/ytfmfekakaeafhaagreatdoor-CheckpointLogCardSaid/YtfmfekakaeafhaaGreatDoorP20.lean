/- Strings that rise, names of a list; the program's and the reference's. -/
import Derived.Test.YtfmfekakaeafhaaGreatDoorChecked
import Derived.Test.YtfmfekakaeafhaaGreatDoorP13
set_option linter.all false
set_option maxHeartbeats 16000000
namespace Go.Fw
open Go Go.Proofs Tryz List
open List renaming length->J
set_option maxRecDepth 100000
variable{b r:List UInt8}{i k n:Nat}{l rows:List (List UInt8)}{a:Int}{d:ak}{af:List Wr}
def Xoz {a:List UInt8} (ha:l[i]? =some a) (hb:l[i+1]? =some b):X0f (l.drop i)=(!(Op.bytesLess b a||decide (b=a))&&X0f (l.drop (i+1))):=by
 obtain⟨hi,rfl⟩:=GS.1 ha;obtain⟨hi',rfl⟩:=GS.1 hb;rw[drop_eq_getElem_cons hi,drop_eq_getElem_cons hi',X0f]
def Xi0 (h:J l<=i+1):X0f (l.drop i)=true:=by
 match hd:l.drop i with
 |[]=>rfl
 |[a]=>rfl
 |a::b::r=>
  have:=CG length hd;simp only[LD,LC] at this;omega
def XnM (l:List (List UInt8)) (hl:J l<=9223372036854775807):Con prog 167 [] [.d (.sl 1 (l.map Xf))] [] (ab (X0f l)):=by
 refine ZC1 func167 ntmps167 fun E=> ?_;have hlm:J (l.map Xf)=J l:=Oc
 exact Yt5
def Xnl (l:List (List UInt8)) (hl:J l<=9223372036854775807):Con prog 244 [] [.d (.sl 1 (l.map Xf))] [] (ab (X0f l)):=by
 refine ZC1 func244 ntmps244 fun E=> ?_;have hlm:J (l.map Xf)=J l:=Oc
 exact Yt5
def Xx6 (s:List UInt8):Con prog 166 [] [.d (.v (.string (X7 s)))] [] (ab (!Yc s)):=by
 refine ZC1 func166 ntmps166 fun E=> ?_;have hn:=X7a s;exact Qn
def X3z:List (List UInt8)->Nat->Int
 |[],_=> -1
 |s::r,i=>if Yc s=false then (i:Int) else X3z r (i+1)
def XsP {x:List UInt8} (h:l[i]? =some x):X3z (l.drop i) i=if Yc x=false then (i:Int) else X3z (l.drop (i+1)) (i+1):=by
 obtain⟨hi,rfl⟩:=GS.1 h;rw[drop_eq_getElem_cons hi,X3z]
def XoE:∀(l:List (List UInt8)) (i:Nat),decide (X3z l i≥0)= !l.all Yc
 |[],i=>by simp[X3z]
 |s::r,i=>by
  rw[X3z,all_cons];cases h:Yc s with
  |false=>simp
  |true=>simp[XoE r (i+1)]
def Xpz (l:List (List UInt8)) (hl:J l<=9223372036854775807):Con prog 225 [] [.d (.sl 1 (l.map Xf)),.fn 166 []] [] (ai (X3z l 0)):=by
 refine ZC1 func225 ntmps225 fun E=> ?_;have hlm:J (l.map Xf)=J l:=Oc
 generalize hG:X3z l 0=G;refine XG ?_
 refine Xl (fun i:Nat=>i<=J l/\X3z (l.drop i) i=G) (fun i=>⟨19,[(0,.d (.sl 1 (l.map Xf))),(1,.fn 166 []),(7,ai (J (l.map Xf))),(8,ai i)],[]⟩) (fun i=>J l-i) 0 ⟨Oa,OX⟩
  (X9 rfl ⟨JL,JL,JL,JL,TV⟩ trivial) ?_
 rintro i ⟨hi,hg⟩;by_cases hil:i<J l
 case neg=>
  have hn:¬(i:Int)<J (l.map Xf):=Oa
  rw[drop_of_length_le Oa,X3z] at hg;subst hg;exact Qn
 have hn:(i:Int)<J (l.map Xf):=Oa
 obtain⟨x,hx⟩:=Xn (l:=l) hil;have au:(l.map Xf)[i]? =some (Xf x):=XC hx;have hu:=Xx6 x;rw[XsP hx] at hg;cases hq:Yc x with
 |true=>
  rw[hq] at hg hu;simp only[Bool.true_eq_false,if_false] at hg;refine Y5 ?_;refine Z7 (ag:=hu) ?_;refine W7_ ?_;exact⟨i+1,⟨Oa,hg⟩,Oa,X9 rfl ⟨JL,JL,JL,JL,TV⟩ TV⟩
 |false=>
  rw[hq] at hg hu;simp only[if_true] at hg;subst hg;refine Y5 ?_;refine Z7 (ag:=hu) ?_;exact QNa
def Xjk (l:List (List UInt8)) (hl:J l<=9223372036854775807):Con prog 165 [] [.d (.sl 1 (l.map Xf)),.fn 166 []] [] (ab (!l.all Yc)):=by
 refine ZC1 func165 ntmps165 fun E=> ?_;have hi:=Xpz l hl;rw[<-XoE l 0];generalize X3z l 0=q at*;exact Qi
def Xvr {α:Type}{p:α->Bool}{l:List α}{x:α} (h:l[i]? =some x):(l.drop i).all p=(p x&&(l.drop (i+1)).all p):=by
 obtain⟨hi,rfl⟩:=GS.1 h;rw[drop_eq_getElem_cons hi,all_cons]
def Xlx (l:List (List UInt8)) (hl:J l<=9223372036854775807):Con prog 243 [] [.d (.sl 1 (l.map Xf))] [] (ab (l.all Yc)):=by
 refine ZC1 func243 ntmps243 fun E=> ?_;have hlm:J (l.map Xf)=J l:=Oc
 generalize hG:l.all Yc=G;refine XA ?_
 refine Xl (fun i:Nat=>i<=J l/\(l.drop i).all Yc=G) (fun i=>⟨16,[(0,.d (.sl 1 (l.map Xf))),(3,ai i)],[]⟩) (fun i=>J l-i) 0 ⟨Oa,OX⟩
  (X9 rfl ⟨JL,JL,TV⟩ trivial) ?_
 rintro i ⟨hi,hg⟩;by_cases hil:i<J l
 case neg=>
  have hn:¬(i:Int)<J (l.map Xf):=Oa
  rw[drop_of_length_le Oa,all_nil] at hg;subst hg;exact Qh
 have hn:(i:Int)<J (l.map Xf):=Oa
 obtain⟨x,hx⟩:=Xn (l:=l) hil;have au:(l.map Xf)[i]? =some (Xf x):=XC hx;have hu:=Xei x;rw[Xvr hx] at hg;cases hq:Yc x with
 |true=>
  rw[hq] at hg hu;rw[Bool.true_and] at hg;refine U7 ?_;exact⟨i+1,⟨Oa,hg⟩,Oa,X9 rfl ⟨JL,JL,TV⟩ TV⟩
 |false=>
  rw[hq] at hg hu;rw[Bool.false_and] at hg;subst hg;exact Qga
def ij (x:Int):Nat:=(min (max x 0) 64).toNat
def X6c (rows:List (List UInt8)) (w:Wr) (n:Nat):List (List UInt8):=rows.set w.at_.toNat (w.b.take n++((rows[w.at_.toNat]?).getD []).drop n)
def VH (rows:List (List UInt8)) (af:List Wr) (kv:Nat->Int):Nat->List (List UInt8)
 |0=>rows
 |k+1=>match af[k]? with
  |some w=>X6c (VH rows af kv k) w (ij (kv k))
  |none=>VH rows af kv k
def okW (rows:List (List UInt8)) (af:List Wr):Prop:=(∀s∈rows,J s=64)/\∀w∈af,0<=w.at_/\w.at_<J rows/\J w.b=64
def Xag (x:Int):ij x<=64:=by unfold ij;omega
def Xyx {w:Wr} (hn:n<=64) (h:∀s∈rows,J s=64) (hw:0<=w.at_/\w.at_<J rows/\J w.b=64):∀s∈X6c rows w n,J s=64:=by
 intro s hs;rcases mem_or_eq_of_mem_set hs with h1|h1
 ·exact h s h1
 ·obtain⟨r,hr⟩:=Xn (l:=rows) (k:=w.at_.toNat) Oa;have hl:=h r (mem_of_getElem? hr);rw[h1,hr];simp[hl,hw.2.2];omega
theorem XqY (rows:List (List UInt8)) (w:Wr) (n:Nat):J (X6c rows w n)=J rows:=by simp[X6c]
theorem X4Q (rows:List (List UInt8)) (af:List Wr) (kv:Nat->Int):∀k,J (VH rows af kv k)=J rows
 |0=>rfl
 |k+1=>by
  simp only[VH];split
  ·rw[XqY,X4Q rows af kv k]
  ·exact X4Q rows af kv k
def X6t (kv:Nat->Int) (h:okW rows af):∀k,∀s∈VH rows af kv k,J s=64
 |0=>h.1
 |k+1=>by
  simp only[VH];split
  ·rename_i w hw;exact Xyx (Xag _) (X6t kv h k) (by rw[X4Q];exact h.2 w (mem_of_getElem? hw))
  ·exact X6t kv h k
def Xm8 {kv:Nat->Int}{a:Nat} (hw:af[k]? =some ⟨a,b⟩) (hr:(VH rows af kv k)[a]? =some r):
  VH rows af kv (k+1)=(VH rows af kv k).set a (b.take (ij (kv k))++r.drop (ij (kv k))):=by
 simp only[VH,hw,X6c,Int.toNat_natCast,hr,Option.getD_some]
def Xpj (hn:n<=64) (hb:J b=64) (hr:J r=64):
  take (min (J (drop 0 (take n (map X6 b)))) (J (map X6 r))) (drop 0 (take n (map X6 b)))++drop (min (J (drop 0 (take n (map X6 b)))) (J (map X6 r))) (map X6 r)=
   (b.take n++r.drop n).map X6:=by
 have e:min (J (drop 0 (take n (map X6 b)))) (J (map X6 r))=n:=Ou
 rw[e];simp[take_take]
def Xrd (i:Int):Con prog 153 [] [ai i] [] (ai 64):=by
 refine ZC1 func153 ntmps153 fun E=> ?_;exact QE
section
variable {P:Program}{ops:Array Oper}{draw:Bool}{K:XU->St->Prop}{rest:List Oper}{l:XU}{S:St}
variable {d:Nat}{ty:TypeId}{pos:String}{ah:Array Edge}{gd:Option (Nat×Bool)}
def XaH {x y:Operand}{tys:Array TypeId}{k:IntKind}{b:Int} (c:Nat) (hc:min a b=(c:Nat)) (hx:S.ev x= .d (.v (.int k a))) (hy:S.ev y= .d (.v (.int k b))) (hd:Nat.blt d S.n=true) (hg:XL ops S gd)
  (h:Walk P ops draw K rest ((J l,⟨some d,.call ⟨.builtin .min,#[x,y],tys⟩,ty,pos,ah,gd⟩,⟨XH ops gd++[(x,.d (.v (.int k a))),(y,.d (.v (.int k b)))],some (d,.d (.v (.int k c))),[],[],[]⟩)::l) (S.set d (.d (.v (.int k c))))):
  Walk P ops draw K (⟨some d,.call ⟨.builtin .min,#[x,y],tys⟩,ty,pos,ah,gd⟩::rest) l S:=by
 rw[<-hc] at h;exact Xvg hx hy hd hg h
end
def Xjh (x:Int):min (max x 0) 64=(ij x:Int):=by unfold ij;omega
def Xvv (rows:List (List UInt8)) (af:List Wr) (hok:okW rows af) (hl:J rows<=4096) (hp:J af<=4096):Con prog 213 [(0,.mat 1 (rows.map fun s=>s.map X6))] [.agg [.d (XW af)],.own 0 (J rows),.fn 153 []]
  [(0,.mat 1 ((VH rows af (fun _=>64) (J af)).map fun s=>s.map X6))] (.own 0 (J rows)):=by
 refine ZC1 func213 ntmps213 fun E=> ?_;refine XD ?_
 refine Xl (fun k:Nat=>k<=J af) (fun k=>⟨35,[(1,.own 0 (J rows)),(2,.fn 153 []),(11,.d (XW af)),(12,ai (J (af.map cWr))),(13,ai k)],[(100,.box [.d (XW af)]),(0,.mat 1 ((VH rows af (fun _=>64) k).map fun s=>s.map X6))]⟩) (fun k=>J af-k) 0 Oa
  (X9 rfl ⟨JL,JL,JL,JL,JL,TV⟩ ⟨rfl,rfl,TV⟩) ?_
 intro k hk;refine W5_ ?_;refine X2E rfl (fun h=> ?_) (fun h=> ?_)
 ·have h:=of_decide_eq_true h;simp only[LM] at h;obtain⟨⟨at_,b⟩,hw⟩:=Xn (l:=af) (k:=k) Oa;obtain⟨b1,b2,b3⟩:=hok.2 _ (mem_of_getElem? hw);simp only at b1 b2 b3;obtain⟨a,rfl⟩:∃a:Nat,at_=a:=⟨at_.toNat,Oa⟩
  have aT:=X4Q rows af (fun _=>64) k;obtain⟨r,hr⟩:=Xn (l:=VH rows af (fun _=>64) k) (k:=a) Oa;have hrl:=X6t (fun _=>64) hok k r (mem_of_getElem? hr);have hc:=Xag 64;refine Yr ?_;refine Z7 (ag:=Xrd k) ?_;refine W1_ ?_;refine XaH (ij 64) (Xjh 64) rfl rfl rfl OV ?_;refine Yh ?_;refine⟨k+1,Oa,Oa,X9 rfl ⟨JL,JL,JL,JL,JL,TV⟩ ⟨rfl,?_,TV⟩⟩;refine Eq.trans (b:=AObj.mat 1 (set _ _ _)) rfl ?_;rw[Xm8 hw hr,map_set];congr 2;exact Xpj (Xag 64) b3 hrl
 have h:=of_decide_eq_false h;simp only[LM] at h;obtain rfl:k=J af:=Oa
 refine W6_ ?_;exact Qo
def Xuv (rows:List (List UInt8)) (af:List Wr) (hok:okW rows af) (hl:J rows<=4096) (hp:J af<=4096):Con prog 213 [(1,.mat 1 (rows.map fun s=>s.map X6))] [.agg [.d (XW af)],.own 1 (J rows),.fn 153 []]
  [(1,.mat 1 ((VH rows af (fun _=>64) (J af)).map fun s=>s.map X6))] (.own 1 (J rows)):=by
 have h:=YU 0 1 (Xvv rows af hok hl hp);exact h
def Xy5 (rows:List (List UInt8)) (af:List Wr) (on:Bool) (hok:okW rows af) (hl:J rows<=4096) (hp:J af<=4096):Con prog 152 [(0,.row 2 (af.map cWr)),(1,.mat 1 (rows.map fun s=>s.map X6))] [.agg [.own 0 (J af),.own 1 (J rows),ab on],.fn 153 []]
  [(0,.froz 2 (af.map cWr)),(1,.mat 1 ((VH rows af (fun _=>64) (J af)).map fun s=>s.map X6)),(122,.row 2 [])] (.agg [.own 122 0,.own 1 (J rows),ab on]):=by
 refine ZC1 func152 ntmps152 fun E=> ?_;refine X7Y ?_;refine W3_ ?_;refine JD ?_;refine X8 (XI 0 rfl) ?_;refine X8 (VR 100 0 0 (cs:=[.own 0 (J af),.own 1 (J rows),ab on]) (sz:=2) (xs:=af.map cWr) rfl rfl rfl Oc) ?_;refine W7_ ?_;refine Z5 (ag:=Xuv rows af hok hl hp) ?_;refine XD ?_;refine X8 (X1Y 101 0 122 2 (cs:=[aq,.own 1 (J rows),ab on]) rfl rfl rfl rfl rfl) ?_;exact X3 ⟨_,ZzS,⟨⟨101,0,_,rfl,rfl,.inr ⟨3,_,rfl,rfl,rfl,rfl⟩⟩,TV⟩,Xm ⟨rfl,rfl,rfl,TV⟩⟩
def Xy7 (rows:List (List UInt8)) (af:List Wr) (on:Bool) (hok:okW rows af) (hl:J rows<=4096) (hp:J af<=4096):Con prog 152 [(120,.row 2 (af.map cWr)),(121,.mat 1 (rows.map fun s=>s.map X6))] [.agg [.own 120 (J af),.own 121 (J rows),ab on],.fn 153 []]
  [(120,.froz 2 (af.map cWr)),(121,.mat 1 ((VH rows af (fun _=>64) (J af)).map fun s=>s.map X6)),(122,.row 2 [])] (.agg [.own 122 0,.own 121 (J rows),ab on]):=by
 have h:=YU 1 121 (YU 0 120 (Xy5 rows af on hok hl hp));exact h
def Xxl (secs:List (List UInt8)) (n:Nat) (hn:J secs=n) (on:Bool):Con prog 102 [(122,.row 2 []),(121,.mat 1 (secs.map fun s=>s.map X6))] [.agg [.own 122 0,.own 121 n,ab on]] [(122,.froz 2 []),(121,.froz 1 (secs.map Yd))] (XY ⟨secs,[],on⟩):=by
 subst hn;have h:=YU 1 121 (YU 0 122 (Xnx ⟨secs,[],on⟩));exact h
def Xrv (d:ak) (xs:List (List D)) (n:Nat) (hx:xs=d.pending.map cWr) (hn:n=J d.pending):Con prog 102 [(120,.row 2 xs),(121,.mat 1 (d.aa.map fun s=>s.map X6))] [.agg [.own 120 n,.own 121 (J d.aa),ab d.on]] [(120,.froz 2 xs),(121,.froz 1 (d.aa.map Yd))] (XY d):=by
 subst hx hn;exact XyK d
abbrev X2S (x:AVal) (e:Int):AVal:= .tup [x,ai e]
def Uz:List UInt8:=replicate 64 0
def Ur:ak:=⟨[],[],false⟩
def X0O (n:Int):ak×Int:=if 1<=n/\n<=4096 then (⟨replicate n.toNat Uz,[],true⟩,0) else (Ur,1)
def VF (af:List Wr) (a:Int) (s:List UInt8):Nat->List UInt8
 |0=>s
 |k+1=>match af[k]? with
  |some w=>if w.at_=a then w.b else VF af a s k
  |none=>VF af a s k
def YZ (d:ak) (a:Int):List UInt8×Int:=
 if Vh d≠0 then ([],Vh d) else if 0<=a/\a<J d.aa then (VF d.pending a ((d.aa[a.toNat]?).getD []) (J d.pending),0) else ([],1)
def VL (d:ak) (a:Int) (b:List UInt8):ak×Int:=
 if Vh d≠0 then (Ur,Vh d) else if 0<=a/\a<J d.aa/\J b=64 then (⟨d.aa,d.pending++[⟨a,b⟩],d.on⟩,0) else (Ur,1)
def Vl (d:ak) (kv:Nat->Int):List (List UInt8):=VH d.aa d.pending kv (J d.pending)
def V1 (d:ak):ak×Int:=if Vh d≠0 then (Ur,Vh d) else (⟨Vl d (fun _=>64),[],d.on⟩,0)
def X4X (h:UF d=true):okW d.aa d.pending:=by
 simp only[UF,decide_eq_true_eq] at h;exact⟨h.2.2.2.1,h.2.2.2.2⟩
def X9h (h:Vh d=0):UF d=true/\d.on=true:=by
 unfold Vh at h;split at h
 ·rename_i hv;split at h
  ·rename_i ho;exact⟨hv,ho⟩
  ·simp at h
 ·simp at h
def X64 (d:ak) (hl:X05 d):Con prog 91 [] [XY d] [] (X2S (XY (V1 d).1) (V1 d).2):=by
 refine ZCt func91 ntmps91 fun E=> ?_;by_cases hu:Vh d=0
 ·rw[show V1 d=(⟨Vl d (fun _=>64),[],d.on⟩,0) by simp[V1,hu]];have hok:=X4X (X9h hu).1;refine Qhb ?_;refine XG ?_;refine Z5 (ag:=XmF d hl) ?_;refine Z5 (ag:=Xy7 d.aa d.pending d.on hok hl.1 hl.2.1) ?_;refine Z5 (ag:=Xxl (Vl d (fun _=>64)) (J d.aa) (X4Q _ _ _ _) d.on) ?_;exact Qjb
 ·rw[show V1 d=(Ur,Vh d) by simp[V1,hu]];refine Qhb ?_;exact Qlb
def X5H (d:ak) (a:Int) (b:List UInt8) (hl:X05 d) (bx:J b<=4096):Con prog 90 [] [XY d,ai a,.d (Xc b)] [] (X2S (XY (VL d a b).1) (VL d a b).2):=by
 refine ZCt func90 ntmps90 fun E=> ?_;by_cases hu:Vh d=0
 ·have hp:=hl.2.1;by_cases h1:a<0
  ·rw[show VL d a b=(Ur,1) by simp[VL,hu];omega];refine Qhb ?_;exact Qmb
  by_cases h2:(J d.aa:Int)<=a
  ·rw[show VL d a b=(Ur,1) by simp[VL,hu];omega];refine Qhb ?_;exact Qmb
  by_cases h3:J b≠64
  ·rw[show VL d a b=(Ur,1) by simp[VL,hu];omega];refine Qhb ?_;exact Qmb
  have h3:J b=64:=Jp
  rw[show VL d a b=(⟨d.aa,d.pending++[⟨a,b⟩],d.on⟩,0) by simp only[VL,hu];rw[NI Oc,PI ⟨Oa,Oa,h3⟩]];refine Qhb ?_;refine Uf ?_;refine Z5 (ag:=XmF d hl) ?_;refine XA ?_;(refine Z5 (ag:=Xl7 (b.map X6) Ou) ?_);refine XA ?_;refine Z5 (ag:=Xrv ⟨d.aa,d.pending++[⟨a,b⟩],d.on⟩ (d.pending.map cWr++[cWr ⟨a,b⟩]) (J (d.pending.map cWr)+1) Oc Oc) ?_;exact Qjb
 ·rw[show VL d a b=(Ur,Vh d) by simp[VL,hu]];refine Qhb ?_;exact Qlb
def Xri (d:ak):Con prog 102 [] [.agg [.d (XW d.pending),.d (XS d.aa),ab d.on]] [] (XY d):=by
 refine ZC1 func102 ntmps102 fun E=> ?_;refine Yb ?_;exact Qnb
def Xwh (hb:J b=64) (hr:J r=64):take (min (J (map X6 b)) (J (map X6 r))) (map X6 b)++drop (min (J (map X6 b)) (J (map X6 r))) (map X6 r)=map X6 b:=by
 rw[LM,LM,hb,hr,take_of_length_le (by simp[hb]),drop_of_length_le (by simp[hr])];simp
def X8B {s:List UInt8} (hok:okW d.aa d.pending) (hs:J s=64):∀k,J (VF d.pending a s k)=64
 |0=>hs
 |k+1=>by
  simp only[VF];split
  ·rename_i w hw;split
   ·exact(hok.2 w (mem_of_getElem? hw)).2.2
   ·exact X8B hok hs k
  ·exact X8B hok hs k
def XwT (n:Int):Con prog 58 [] [ai n] [] (X2S (XY (X0O n).1) (X0O n).2):=by
 refine ZCt func58 ntmps58 fun E=> ?_;by_cases h1:n<1
 ·rw[show X0O n=(Ur,1) by unfold X0O;rw[NI Oa]];refine YJ ?_;exact Qob
 by_cases h2:4096<n
 ·rw[show X0O n=(Ur,1) by unfold X0O;rw[NI Oa]];refine YJ ?_;exact Qob
 obtain⟨m,rfl⟩:∃m:Nat,n=m:=⟨n.toNat,Oa⟩
 rw[show X0O (m:Int)=(⟨replicate m Uz,[],true⟩,0) by unfold X0O;rw[PI Oa,Int.toNat_natCast]];refine UI ?_;refine X8 (X1Y 101 1 121 1 (cs:=[aq,aq,ab true]) rfl rfl rfl rfl rfl) ?_
 refine Xl (fun k:Nat=>k<=m) (fun k=>⟨25,[(2,.ptr 100 0),(4,.ptr 101 0),(13,ai m),(14,ai k)],[(100,.box [aq,aq,ab false]),(101,.box [aq,.own 121 k,ab true]),(121,.row 1 ((replicate k Uz).map Yd))]⟩) (fun k=>m-k) 0 Oa
  (X9 rfl ⟨JL,JL,JL,JL,TV⟩ ⟨rfl,rfl,rfl,TV⟩) ?_
 intro k hk;refine W5_ ?_;refine X2E rfl (fun h=> ?_) (fun h=> ?_)
 ·have h:=of_decide_eq_true h;refine Yr ?_;refine⟨k+1,Oa,Oa,X9 rfl ⟨JL,JL,JL,JL,TV⟩ ⟨rfl,?_,?_,TV⟩⟩
  ·refine Eq.trans (b:=AObj.box [aq,.own 121 _,ab true]) rfl ?_;congr 3;simp
  ·refine Eq.trans (b:=AObj.row 1 (_++[_])) rfl ?_;rw[show replicate (k+1) Uz=replicate k Uz++[Uz] from replicate_succ',map_append];rfl
 have h:=of_decide_eq_false h;obtain rfl:k=m:=Oa
 refine X8 (XI 121 rfl) ?_;refine X8 (VR 101 1 121 (cs:=[aq,.own 121 k,ab true]) (sz:=1) (xs:=(replicate k Uz).map Yd) rfl rfl rfl Oc) ?_;refine X8 (Xg 101 (cs:=[aq,.d (XS (replicate k Uz)),ab true]) (cs':=[.d (XW []),.d (XS (replicate k Uz)),ab true]) rfl ⟨AVal.le_nil 2,ZzV,ZzV,TV⟩ rfl) ?_;refine W4_ ?_;refine Z5 (ag:=Xri ⟨replicate k Uz,[],true⟩) ?_;refine W3_ ?_;exact Qja
def Xxn (d:ak) (k:Nat) (hl:X05 d) (hu:Vh d=0) (hk:k<J d.aa):Con prog 72 [] [XY d,ai (k:Nat)] [(110,.row 1 ((YZ d (k:Nat)).1.map X6))] (X2S (.own 110 64) (YZ d (k:Nat)).2):=by
 refine ZCt func72 ntmps72 fun E=> ?_;have hp:=hl.2.1;obtain⟨s,hs⟩:=Xn (l:=d.aa) (k:=k) Oa;have aL:=hl.2.2.1 s (mem_of_getElem? hs);refine Qhb ?_;refine UK ?_;(refine Z5 (ag:=XiM (s.map X6) Ou) ?_);refine XB ?_;have hok:=X4X (X9h hu).1;rw[show YZ d (k:Int)=(VF d.pending k s (J d.pending),0) by unfold YZ;rw[NI (by simpa using hu),PI Oa,Int.toNat_natCast,hs];rfl]
 refine Xl (fun j:Nat=>j<=J d.pending) (fun j=>⟨47,[(1,ai k),(2,.ptr 100 0),(7,.own 110 64),(31,.d (XW d.pending)),(32,ai (J (d.pending.map cWr))),(33,ai j)],[(100,.box [.d (XS d.aa),.d (XW d.pending),ab d.on]),(110,.row 1 ((VF d.pending k s j).map X6))]⟩) (fun j=>J d.pending-j) 0 Oa
  (X9 rfl ⟨JL,JL,(by refine ZzQ ?_;refine Eq.trans (b:=AVal.own 110 _) rfl ?_;simp[hok.1 s (mem_of_getElem? hs)]),JL,JL,JL,TV⟩ ⟨rfl,rfl,TV⟩) ?_
 intro j hj;refine W5_ ?_;refine X2E rfl (fun h=> ?_) (fun h=> ?_)
 ·have h:=of_decide_eq_true h;simp only[LM] at h;obtain⟨⟨at_,b⟩,hw⟩:=Xn (l:=d.pending) (k:=j) Oa;obtain⟨b1,b2,b3⟩:=hok.2 _ (mem_of_getElem? hw);simp only at b1 b2 b3;have bx:=X8B (a:=(k:Int)) hok (hok.1 s (mem_of_getElem? hs)) j;by_cases aY:at_=(k:Int)
  ·subst aY;refine U7 ?_;refine⟨j+1,Oa,Oa,X9 rfl ⟨JL,JL,JL,JL,JL,JL,TV⟩ ⟨rfl,?_,TV⟩⟩;refine Eq.trans (b:=AObj.row 1 _) rfl ?_;simp only[VF,hw,if_true];exact CG (AObj.row 1) (Xwh b3 bx)
  ·refine Us ?_;refine⟨j+1,Oa,Oa,X9 rfl ⟨JL,JL,JL,JL,JL,JL,TV⟩ ⟨rfl,?_,TV⟩⟩;refine Eq.trans (b:=AObj.row 1 _) rfl ?_;simp[VF,hw,aY]
 have h:=of_decide_eq_false h;simp only[LM] at h;obtain rfl:j=J d.pending:=Oa
 have bx:=X8B (a:=(k:Int)) hok (hok.1 s (mem_of_getElem? hs)) (J d.pending);refine W7_ ?_;exact X3 ⟨_,ZzS,⟨rfl,rfl,TV⟩,Xm ⟨rfl,TV⟩⟩
def Xrw (hu:Vh d=0) (hk:k<J d.aa):J (YZ d (k:Nat)).1=64:=by
 obtain⟨s,hs⟩:=Xn (l:=d.aa) hk;have hok:=X4X (X9h hu).1;rw[show YZ d (k:Int)=(VF d.pending k s (J d.pending),0) by unfold YZ;rw[NI (by simpa using hu),PI Oa,Int.toNat_natCast,hs];rfl];exact X8B hok (hok.1 s (mem_of_getElem? hs)) _
def Xf8 (d:ak) (a:Int) (hl:X05 d):Con prog 72 [] [XY d,ai a] [] (X2S (.d (Xc (YZ d a).1)) (YZ d a).2):=by
 by_cases hs:Vh d=0/\0<=a/\a<J d.aa
 ·obtain⟨hu,h0,h1⟩:=hs;obtain⟨k,rfl⟩:∃k:Nat,a=k:=⟨a.toNat,Oa⟩
  exact(Xxn d k hl hu Oa).dataT (by rw[LM,Xrw hu Oa])
 refine ZCt func72 ntmps72 fun E=> ?_;by_cases hu:Vh d=0
 ·have hp:=hl.2.1;by_cases h1:a<0
  ·rw[show YZ d a=([],1) by simp[YZ,hu];omega];refine Qhb ?_;exact Qqb
  by_cases h2:(J d.aa:Int)<=a
  ·rw[show YZ d a=([],1) by simp[YZ,hu];omega];refine Qhb ?_;exact Qqb
  exact absurd ⟨hu,Oa,Oa⟩ hs
 ·rw[show YZ d a=([],Vh d) by simp[YZ,hu]];refine Qhb ?_;refine XD ?_;exact Qpb
section
variable {sz k c i:Nat}{xs:List (List D)}{T:List (Option D)}
def X55 (hz:∀x∈xs,J x=sz) (hT:J T=k):J (map some xs.flatten++T)=J xs*sz+k:=by rw[LA,hT];exact CG (· +k) (X0Y hz)
def X2y (hz:∀x∈xs,J x=sz) (h:c≠i):(if c=i then 0 else 0+i*sz)=i*sz:=by rw[NI h,Nat.zero_add]
def X51 (hz:∀x∈xs,J x=sz) (c:Nat):(if c=0 then 0 else 0+0*sz)=0:=by split<;>simp
def X97 (hz:∀x∈xs,J x=sz) (hc:c*sz<=J xs*sz+k) (h:J xs+1<=c):sz<=k:=by
 have:=Nat.mul_le_mul_right sz h;rw[Nat.succ_mul] at this;omega
def X9W (hz:∀x∈xs,J x=sz) (hi:i<J xs):X3b (((map some xs.flatten++T).drop (i*sz)).take ((J xs-i)*sz))=true:=by rw[show map some xs.flatten=fl xs from rfl,X6V hz hi];exact Xp9 _
def X9B (hz:∀x∈xs,J x=sz) (hi:i<J xs) {off:Nat} (hc:J xs<=c) (ho:(if c=i+1 then 0 else 0+(i+1)*sz)=off):∃A:List (Option D),
  (fl xs++T).take (0+i*sz)++((fl xs++T).drop off).take ((J xs-(i+1))*sz)++(fl xs++T).drop (0+i*sz+(J xs-(i+1))*sz)=A/\J A=J xs*sz+J T/\
  ∀V,(A.take ((J xs-1)*sz)++V).take ((J xs-1)*sz)=(xs.take i++xs.drop (i+1)).flatten.map some:=
 ⟨_,XtP hz hi hc ho,XsM hz hi,fun V=>Xw9 hz hi _ V⟩
def X9f (hz:∀x∈xs,J x=sz) (hi:i<J xs) {off:Nat} (hc:J xs<=c) (ho:(if c=i+1 then 0 else 0+(i+1)*sz)=off):X3b (((map some xs.flatten++T).drop off).take ((J xs-(i+1))*sz))=true:=by rw[show map some xs.flatten=fl xs from rfl,Xjs hz hi hc ho];exact Xp9 _
def X9P (hz:∀x∈xs,J x=sz):∀x∈xs.take i++xs.drop (i+1),J x=sz:=fun x hx=>(mem_append.1 hx).elim (X3Q hz i x) (Xf6 hz _ x)
def X9a (hz:∀x∈xs,J x=sz):(map some xs.flatten++T).take (J xs*sz)=xs.flatten.map some:=take_left' (X0Y hz)
end
def XwR (xs:List (List D)) (i:Nat) (v:List D) (hz:∀x∈xs,J x=3) (hv:J v=3) (hi:i<=J xs) (hx:J xs<=5000):
  Con prog 283 [(1,.row 3 xs)] [.own 1 (J xs),ai (i:Nat),.d (.sl 3 [v])] [(1,.dead),(110,.row 3 (xs.take i++v::xs.drop i))] (.own 110 (J xs+1)):=by
 refine ZC1 func283 ntmps283 fun E=> ?_;have mc:=func327;by_cases hin:i=J xs
 case pos=>
  exact Yt11
 exact Yt0
def Xxs (xs:List (List D)) (i:Nat) (v:List D) (hz:∀x∈xs,J x=5) (hv:J v=5) (hi:i<=J xs) (hx:J xs<=5000):
  Con prog 290 [(1,.row 5 xs)] [.own 1 (J xs),ai (i:Nat),.d (.sl 5 [v])] [(1,.dead),(110,.row 5 (xs.take i++v::xs.drop i))] (.own 110 (J xs+1)):=by
 refine ZC1 func290 ntmps290 fun E=> ?_;have mc:=func339;by_cases hin:i=J xs
 case pos=>
  exact Yt11
 exact Yt0
def Xra (xs:List (List D)) (i:Nat) (v:List D) (hz:∀x∈xs,J x=1) (hv:J v=1) (hi:i<=J xs) (hx:J xs<=5000):
  Con prog 286 [(1,.row 1 xs)] [.own 1 (J xs),ai (i:Nat),.d (.sl 1 [v])] [(1,.dead),(110,.row 1 (xs.take i++v::xs.drop i))] (.own 110 (J xs+1)):=by
 refine ZC1 func286 ntmps286 fun E=> ?_;have mc:=func331;by_cases hin:i=J xs
 case pos=>
  exact Yt11
 exact Yt0
def XyE (xs:List (List D)) (i:Nat) (v:List D) (hz:∀x∈xs,J x=6) (hv:J v=6) (hi:i<=J xs) (hx:J xs<=5000):
  Con prog 336 [(1,.row 6 xs)] [.own 1 (J xs),ai (i:Nat),.d (.sl 6 [v])] [(1,.dead),(110,.row 6 (xs.take i++v::xs.drop i))] (.own 110 (J xs+1)):=by
 refine ZC1 func336 ntmps336 fun E=> ?_;have mc:=func362;by_cases hin:i=J xs
 case pos=>
  exact Yt11
 exact Yt0
def Xwm (xs:List (List D)) (i:Nat) (hz:∀x∈xs,J x=3) (hi:i<J xs) (hx:J xs<=5000):
  Con prog 284 [(1,.row 3 xs)] [.own 1 (J xs),ai (i:Nat),ai ((i+1:Nat):Int)] [(1,.dead),(110,.row 3 (xs.take i++xs.drop (i+1)))] (.own 110 (J xs-1)):=by
 refine ZC1 func284 ntmps284 fun E=> ?_;refine X3J 0 1 120 rfl Oa rfl rfl rfl rfl (fun c k aO bC bZ _=> ?_);have hT:J (replicate k (none:Option D))=k:=length_replicate;generalize replicate k (none:Option D)=T at*;have hlen:=X55 hz hT;have s0:=X51 hz c;obtain⟨off,ho⟩:∃off,(if c=i+1 then 0 else 0+(i+1)*3)=off:=⟨_,rfl⟩
 have s5:=X2y hz (c:=c) (i:=J xs-1) Oa;have e3:=X9D (T:=T) hi aO ho hz;obtain⟨A,e1,lA,e4⟩:=X9B (T:=T) hz hi aO ho;have cA:=X9f (T:=T) hz hi aO ho;have dO:=XaT hi;have hok:=X9P (i:=i) hz;refine QDb ?_;refine X9u (lb:=i) (hb:=i+1) (mb:=J xs) (sz:=3) (hg:=JSa) (hx:=JSb) (hlo:=JSb) (hhi:=JSb) (cU:=JSb) (cg:=JSh) (hh:=JSh) (hm:=JSh) (hT:=JSb) (hd:=JSb) ?_;refine QEb ?_;(refine Zh (n':=J xs-1) (cs':=A) ?_ (hc:= ?aO) (hcs:= ?cM);(case aO=>exact cA);(case cM=>exact e1));refine QFb ?_;refine Zd (lb:=J xs-1) (hb:=J xs) (m:=1) (c':=c-(J xs-1)) (o':=(J xs-1)*3) ?_ (ho':=by exact s5)
 (refine XaO (cs':=A.take ((J xs-1)*3)++(replicate (1*3) none++A.drop ((J xs-1)*3+1*3))) (sz:=3) (hg:=JSa) (hx:=JSb) (hL:=JSb) (hn:=JSh) (hb:=JSh) (hB:=JSc) (hT:=JSb) ?_ (hcs:= ?aM);(case aM=>exact AS _ _ _))
 exact Yt14
def XyJ (xs:List (List D)) (i:Nat) (hz:∀x∈xs,J x=5) (hi:i<J xs) (hx:J xs<=5000):
  Con prog 291 [(1,.row 5 xs)] [.own 1 (J xs),ai (i:Nat),ai ((i+1:Nat):Int)] [(1,.dead),(110,.row 5 (xs.take i++xs.drop (i+1)))] (.own 110 (J xs-1)):=by
 refine ZC1 func291 ntmps291 fun E=> ?_;refine X3J 0 1 120 rfl Oa rfl rfl rfl rfl (fun c k aO bC bZ _=> ?_);have hT:J (replicate k (none:Option D))=k:=length_replicate;generalize replicate k (none:Option D)=T at*;have hlen:=X55 hz hT;have s0:=X51 hz c;obtain⟨off,ho⟩:∃off,(if c=i+1 then 0 else 0+(i+1)*5)=off:=⟨_,rfl⟩
 have s5:=X2y hz (c:=c) (i:=J xs-1) Oa;have e3:=X9D (T:=T) hi aO ho hz;obtain⟨A,e1,lA,e4⟩:=X9B (T:=T) hz hi aO ho;have cA:=X9f (T:=T) hz hi aO ho;have dO:=XaT hi;have hok:=X9P (i:=i) hz;refine QDb ?_;refine X9u (lb:=i) (hb:=i+1) (mb:=J xs) (sz:=5) (hg:=JSa) (hx:=JSb) (hlo:=JSb) (hhi:=JSb) (cU:=JSb) (cg:=JSh) (hh:=JSh) (hm:=JSh) (hT:=JSb) (hd:=JSb) ?_;refine QEb ?_;(refine Zh (n':=J xs-1) (cs':=A) ?_ (hc:= ?aO) (hcs:= ?cM);(case aO=>exact cA);(case cM=>exact e1));refine QFb ?_;refine Zd (lb:=J xs-1) (hb:=J xs) (m:=1) (c':=c-(J xs-1)) (o':=(J xs-1)*5) ?_ (ho':=by exact s5)
 (refine XaO (cs':=A.take ((J xs-1)*5)++(replicate (1*5) none++A.drop ((J xs-1)*5+1*5))) (sz:=5) (hg:=JSa) (hx:=JSb) (hL:=JSb) (hn:=JSh) (hb:=JSh) (hB:=JSc) (hT:=JSb) ?_ (hcs:= ?aM);(case aM=>exact AS _ _ _))
 exact Yt14
def Xvq (xs:List (List D)) (i:Nat) (hz:∀x∈xs,J x=1) (hi:i<J xs) (hx:J xs<=5000):
  Con prog 287 [(1,.row 1 xs)] [.own 1 (J xs),ai (i:Nat),ai ((i+1:Nat):Int)] [(1,.dead),(110,.row 1 (xs.take i++xs.drop (i+1)))] (.own 110 (J xs-1)):=by
 refine ZC1 func287 ntmps287 fun E=> ?_;refine X3J 0 1 120 rfl Oa rfl rfl rfl rfl (fun c k aO bC bZ _=> ?_);have hT:J (replicate k (none:Option D))=k:=length_replicate;generalize replicate k (none:Option D)=T at*;have hlen:=X55 hz hT;have s0:=X51 hz c;obtain⟨off,ho⟩:∃off,(if c=i+1 then 0 else 0+(i+1)*1)=off:=⟨_,rfl⟩
 have s5:=X2y hz (c:=c) (i:=J xs-1) Oa;have e3:=X9D (T:=T) hi aO ho hz;obtain⟨A,e1,lA,e4⟩:=X9B (T:=T) hz hi aO ho;have cA:=X9f (T:=T) hz hi aO ho;have dO:=XaT hi;have hok:=X9P (i:=i) hz;refine QDb ?_;refine X9u (lb:=i) (hb:=i+1) (mb:=J xs) (sz:=1) (hg:=JSa) (hx:=JSb) (hlo:=JSb) (hhi:=JSb) (cU:=JSb) (cg:=JSh) (hh:=JSh) (hm:=JSh) (hT:=JSb) (hd:=JSb) ?_;refine QEb ?_;(refine Zh (n':=J xs-1) (cs':=A) ?_ (hc:= ?aO) (hcs:= ?cM);(case aO=>exact cA);(case cM=>exact e1));refine QFb ?_;refine Zd (lb:=J xs-1) (hb:=J xs) (m:=1) (c':=c-(J xs-1)) (o':=(J xs-1)*1) ?_ (ho':=by exact s5)
 (refine XaO (cs':=A.take ((J xs-1)*1)++(replicate (1*1) none++A.drop ((J xs-1)*1+1*1))) (sz:=1) (hg:=JSa) (hx:=JSb) (hL:=JSb) (hn:=JSh) (hb:=JSh) (hB:=JSc) (hT:=JSb) ?_ (hcs:= ?aM);(case aM=>exact AS _ _ _))
 exact Yt14
def Xw8 (xs:List (List D)) (i:Nat) (hz:∀x∈xs,J x=6) (hi:i<J xs) (hx:J xs<=5000):
  Con prog 335 [(1,.row 6 xs)] [.own 1 (J xs),ai (i:Nat),ai ((i+1:Nat):Int)] [(1,.dead),(110,.row 6 (xs.take i++xs.drop (i+1)))] (.own 110 (J xs-1)):=by
 refine ZC1 func335 ntmps335 fun E=> ?_;refine X3J 0 1 120 rfl Oa rfl rfl rfl rfl (fun c k aO bC bZ _=> ?_);have hT:J (replicate k (none:Option D))=k:=length_replicate;generalize replicate k (none:Option D)=T at*;have hlen:=X55 hz hT;have s0:=X51 hz c;obtain⟨off,ho⟩:∃off,(if c=i+1 then 0 else 0+(i+1)*6)=off:=⟨_,rfl⟩
 have s5:=X2y hz (c:=c) (i:=J xs-1) Oa;have e3:=X9D (T:=T) hi aO ho hz;obtain⟨A,e1,lA,e4⟩:=X9B (T:=T) hz hi aO ho;have cA:=X9f (T:=T) hz hi aO ho;have dO:=XaT hi;have hok:=X9P (i:=i) hz;refine QDb ?_;refine QHb ?_;refine QEb ?_;(refine Zh (n':=J xs-1) (cs':=A) ?_ (hc:= ?aO) (hcs:= ?cM);(case aO=>exact cA);(case cM=>exact e1));refine QFb ?_;refine Zd (lb:=J xs-1) (hb:=J xs) (m:=1) (c':=c-(J xs-1)) (o':=(J xs-1)*6) ?_ (ho':=by exact s5)
 (refine XaO (cs':=A.take ((J xs-1)*6)++(replicate (1*6) none++A.drop ((J xs-1)*6+1*6))) (sz:=6) (hg:=JSa) (hx:=JSb) (hL:=JSb) (hn:=JSh) (hb:=JSh) (hB:=JSc) (hT:=JSb) ?_ (hcs:= ?aM);(case aM=>exact AS _ _ _))
 exact Yt14
end Go.Fw
