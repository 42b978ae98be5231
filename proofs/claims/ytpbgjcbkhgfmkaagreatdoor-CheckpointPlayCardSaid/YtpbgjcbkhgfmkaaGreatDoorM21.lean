/- The disk: W40e. -/
import Derived.Test.YtpbgjcbkhgfmkaaGreatDoorM19
import Derived.Test.YtpbgjcbkhgfmkaaGreatDoorM20
set_option maxHeartbeats 8000000
namespace Go.Fw
open Go Go.Proofs Tryz List
set_option maxRecDepth 100000
set_option linter.unusedVariables false
set_option linter.unusedSimpArgs false
theorem XlW (d:ak):Con prog 105 [(0,.row 2 (d.pending.map cWr)),(1,.mat 1 (d.aa.map fun s=>s.map X5))] [.agg [.own 0 d.pending.length,.own 1 d.aa.length,ab d.on]] [(0,.froz 2 (d.pending.map cWr)),(1,.froz 1 (d.aa.map XV))] (XU d):=by
 obtain⟨secs,ag,on⟩:=d;refine ZC1 func105 ntmps105 fun E=> ?_;refine Yv ?_;refine X8 (XP 0 rfl) ?_;refine X8 (XuM 1 rfl) ?_;refine X8 (X03 101 0 1 (cs:=[.own 1 secs.length,.own 0 ag.length,ab on]) (sz:=1) (xs:=secs.map XV) rfl rfl (by refine Eq.trans (b:=AObj.froz 1 _) rfl ?_;simp) (by simp)) ?_;refine X8 (X03 101 1 0 (cs:=[.d (XL secs),.own 0 ag.length,ab on]) (sz:=2) (xs:=ag.map cWr) rfl rfl rfl (by simp)) ?_;refine X2 ⟨_,St.le_refl _,⟨⟨101,0,_,rfl,rfl,.inr ⟨3,_,rfl,rfl,rfl,rfl⟩⟩,TV⟩,Xj ⟨rfl,?_,TV⟩⟩;refine Eq.trans (b:=AObj.froz 1 _) rfl ?_;simp
theorem Xsw (d:ak):Con prog 105 [(120,.row 2 (d.pending.map cWr)),(121,.mat 1 (d.aa.map fun s=>s.map X5))] [.agg [.own 120 d.pending.length,.own 121 d.aa.length,ab d.on]] [(120,.froz 2 (d.pending.map cWr)),(121,.froz 1 (d.aa.map XV))] (XU d):=by
 have h:=YK 1 121 (YK 0 120 (XlW d));exact h
def fy (x:Int):Nat:=(min (max x 0) 64).toNat
def X4W (rows:List (List UInt8)) (w:Wr) (n:Nat):List (List UInt8):=rows.set w.at_.toNat (w.b.take n++((rows[w.at_.toNat]?).getD []).drop n)
def UW (rows:List (List UInt8)) (ag:List Wr) (kv:Nat->Int):Nat->List (List UInt8)
 |0=>rows
 |k+1=>match ag[k]? with
  |some w=>X4W (UW rows ag kv k) w (fy (kv k))
  |none=>UW rows ag kv k
def okW (rows:List (List UInt8)) (ag:List Wr):Prop:=(∀s∈rows,s.length=64)/\∀w∈ag,0<=w.at_/\w.at_<rows.length/\w.b.length=64
theorem X8b (x:Int):fy x<=64:=by unfold fy;omega
variable{n:Nat}{ls rows:List (List UInt8)}{a:Int}{b r:List UInt8}{c:Chg}{d:ak}{g:Gra}{l:List Chg}{ps:List Prp}{v:Val}{ag:List Wr}
theorem XtG {w:Wr} (hn:n<=64) (h:∀s∈rows,s.length=64) (hw:0<=w.at_/\w.at_<rows.length/\w.b.length=64):∀s∈X4W rows w n,s.length=64:=by
 intro s hs;rcases mem_or_eq_of_mem_set hs with h1|h1
 ·exact h s h1
 ·obtain⟨r,hr⟩:=Xu (l:=rows) (k:=w.at_.toNat) (by omega);have hl:=h r (mem_of_getElem? hr);rw[h1,hr];simp[hl,hw.2.2];omega
theorem Xv3 (rows:List (List UInt8)) (w:Wr) (n:Nat):(X4W rows w n).length=rows.length:=by simp[X4W]
theorem X3U (rows:List (List UInt8)) (ag:List Wr) (kv:Nat->Int):∀k,(UW rows ag kv k).length=rows.length
 |0=>rfl
 |k+1=>by
  simp only[UW];split
  ·rw[Xv3,X3U rows ag kv k]
  ·exact X3U rows ag kv k
theorem X5W (kv:Nat->Int) (h:okW rows ag):∀k,∀s∈UW rows ag kv k,s.length=64
 |0=>h.1
 |k+1=>by
  simp only[UW];split
  ·rename_i w hw;exact XtG (X8b _) (X5W kv h k) (by rw[X3U];exact h.2 w (mem_of_getElem? hw))
  ·exact X5W kv h k
theorem XgU {kv:Nat->Int}{k a:Nat} (hw:ag[k]? =some ⟨a,b⟩) (hr:(UW rows ag kv k)[a]? =some r):
  UW rows ag kv (k+1)=(UW rows ag kv k).set a (b.take (fy (kv k))++r.drop (fy (kv k))):=by
 simp only[UW,hw,X4W,Int.toNat_natCast,hr,Option.getD_some]
theorem Xp6 (hn:n<=64) (hb:b.length=64) (hr:r.length=64):
  take (min (drop 0 (take n (map X5 b))).length (map X5 r).length) (drop 0 (take n (map X5 b)))++drop (min (drop 0 (take n (map X5 b))).length (map X5 r).length) (map X5 r)=
   (b.take n++r.drop n).map X5:=by
 have e:min (drop 0 (take n (map X5 b))).length (map X5 r).length=n:=by simp;omega
 rw[e];simp[take_take]
theorem XqF (i:Int):Con prog 135 [] [ai i] [] (ai 64):=by
 refine ZC1 func135 ntmps135 fun E=> ?_;exact QD
section
variable {P:Program}{ops:Array Oper}{draw:Bool}{K:XW->St->Prop}{rest:List Oper}{l:XW}{S:St}
variable {d:Nat}{ty:TypeId}{pos:String}{ah:Array Edge}{gd:Option (Nat×Bool)}
theorem X8S {x y:Operand}{tys:Array TypeId}{k:IntKind}{b:Int} (c:Nat) (hc:min a b=(c:Nat)) (hx:S.ev x= .d (.v (.int k a))) (hy:S.ev y= .d (.v (.int k b))) (hd:Nat.blt d S.n=true) (hg:XH ops S gd)
  (h:Walk P ops draw K rest ((l.length,⟨some d,.call ⟨.builtin .min,#[x,y],tys⟩,ty,pos,ah,gd⟩,⟨XF ops gd++[(x,.d (.v (.int k a))),(y,.d (.v (.int k b)))],some (d,.d (.v (.int k c))),[],[],[]⟩)::l) (S.set d (.d (.v (.int k c))))):
  Walk P ops draw K (⟨some d,.call ⟨.builtin .min,#[x,y],tys⟩,ty,pos,ah,gd⟩::rest) l S:=by
 rw[<-hc] at h;exact XqN hx hy hd hg h
end
theorem Xkh (x:Int):min (max x 0) 64=(fy x:Int):=by unfold fy;omega
theorem Xxb (rows:List (List UInt8)) (ag:List Wr) (hok:okW rows ag) (hl:rows.length<=4096) (hp:ag.length<=4096):Con prog 209 [(0,.mat 1 (rows.map fun s=>s.map X5))] [.agg [.d (XS ag)],.own 0 rows.length,.fn 135 []]
  [(0,.mat 1 ((UW rows ag (fun _=>64) ag.length).map fun s=>s.map X5))] (.own 0 rows.length):=by
 refine ZC1 func209 ntmps209 fun E=> ?_;refine XG ?_
 refine Xn (fun k:Nat=>k<=ag.length) (fun k=>⟨35,[(1,.own 0 rows.length),(2,.fn 135 []),(11,.d (XS ag)),(12,ai (ag.map cWr).length),(13,ai k)],[(100,.box [.d (XS ag)]),(0,.mat 1 ((UW rows ag (fun _=>64) k).map fun s=>s.map X5))]⟩) (fun k=>ag.length-k) 0 (by omega)
  (Xb rfl ⟨JL,JL,JL,JL,JL,TV⟩ ⟨rfl,rfl,TV⟩) ?_
 intro k hk;refine W5_ ?_;refine X20 rfl (fun h=> ?_) (fun h=> ?_)
 ·have h:=of_decide_eq_true h;simp only[LM] at h;obtain⟨⟨at_,b⟩,hw⟩:=Xu (l:=ag) (k:=k) (by omega);obtain⟨b1,b2,b3⟩:=hok.2 _ (mem_of_getElem? hw);simp only at b1 b2 b3;obtain⟨a,rfl⟩:∃a:Nat,at_=a:=⟨at_.toNat,by omega⟩
  have bf:=X3U rows ag (fun _=>64) k;obtain⟨r,hr⟩:=Xu (l:=UW rows ag (fun _=>64) k) (k:=a) (by omega);have hrl:=X5W (fun _=>64) hok k r (mem_of_getElem? hr);have hc:=X8b 64;refine Yg ?_;refine Z5 (af:=XqF k) ?_;refine W1_ ?_;refine X8S (fy 64) (Xkh 64) rfl rfl rfl (by(first|((exact True.intro))|((exact⟨rfl,rfl⟩))|((exact⟨rfl,CG ab (by(first|((rfl))|((assumption))|((simp only[LM,LT,LA,decide_eq_true_eq,decide_eq_false_iff_not,ne_eq,Classical.not_not];omega))|((simp<;>fail))|((simp[*]<;>fail))|((simp;omega))|fail))⟩))|fail)) ?_;refine Yf ?_;refine⟨k+1,by omega,by omega,Xb rfl ⟨JL,JL,JL,JL,JL,TV⟩ ⟨rfl,?_,TV⟩⟩;refine Eq.trans (b:=AObj.mat 1 (set _ _ _)) rfl ?_;rw[XgU hw hr,map_set];congr 2;exact Xp6 (X8b 64) b3 hrl
 have h:=of_decide_eq_false h;simp only[LM] at h;obtain rfl:k=ag.length:=by omega
 refine W6_ ?_;exact Qb
theorem Xs4 (rows:List (List UInt8)) (ag:List Wr) (hok:okW rows ag) (hl:rows.length<=4096) (hp:ag.length<=4096):Con prog 209 [(1,.mat 1 (rows.map fun s=>s.map X5))] [.agg [.d (XS ag)],.own 1 rows.length,.fn 135 []]
  [(1,.mat 1 ((UW rows ag (fun _=>64) ag.length).map fun s=>s.map X5))] (.own 1 rows.length):=by
 have h:=YK 0 1 (Xxb rows ag hok hl hp);exact h
theorem XvW (rows:List (List UInt8)) (ag:List Wr) (on:Bool) (hok:okW rows ag) (hl:rows.length<=4096) (hp:ag.length<=4096):Con prog 134 [(0,.row 2 (ag.map cWr)),(1,.mat 1 (rows.map fun s=>s.map X5))] [.agg [.own 0 ag.length,.own 1 rows.length,ab on],.fn 135 []]
  [(0,.froz 2 (ag.map cWr)),(1,.mat 1 ((UW rows ag (fun _=>64) ag.length).map fun s=>s.map X5)),(122,.row 2 [])] (.agg [.own 122 0,.own 1 rows.length,ab on]):=by
 refine ZC1 func134 ntmps134 fun E=> ?_;refine X8n ?_;refine W3_ ?_;refine JD ?_;refine X8 (XP 0 rfl) ?_;refine X8 (X03 100 0 0 (cs:=[.own 0 ag.length,.own 1 rows.length,ab on]) (sz:=2) (xs:=ag.map cWr) rfl rfl rfl (by simp)) ?_;refine W7_ ?_;refine Z3 (af:=Xs4 rows ag hok hl hp) ?_;refine XG ?_;refine X8 (X2y 101 0 122 2 (cs:=[aq,.own 1 rows.length,ab on]) rfl rfl rfl rfl rfl) ?_;exact X2 ⟨_,St.le_refl _,⟨⟨101,0,_,rfl,rfl,.inr ⟨3,_,rfl,rfl,rfl,rfl⟩⟩,TV⟩,Xj ⟨rfl,rfl,rfl,TV⟩⟩
theorem Xvy (rows:List (List UInt8)) (ag:List Wr) (on:Bool) (hok:okW rows ag) (hl:rows.length<=4096) (hp:ag.length<=4096):Con prog 134 [(120,.row 2 (ag.map cWr)),(121,.mat 1 (rows.map fun s=>s.map X5))] [.agg [.own 120 ag.length,.own 121 rows.length,ab on],.fn 135 []]
  [(120,.froz 2 (ag.map cWr)),(121,.mat 1 ((UW rows ag (fun _=>64) ag.length).map fun s=>s.map X5)),(122,.row 2 [])] (.agg [.own 122 0,.own 121 rows.length,ab on]):=by
 have h:=YK 1 121 (YK 0 120 (XvW rows ag on hok hl hp));exact h
theorem XrA (secs:List (List UInt8)) (n:Nat) (hn:secs.length=n) (on:Bool):Con prog 105 [(122,.row 2 []),(121,.mat 1 (secs.map fun s=>s.map X5))] [.agg [.own 122 0,.own 121 n,ab on]] [(122,.froz 2 []),(121,.froz 1 (secs.map XV))] (XU ⟨secs,[],on⟩):=by
 subst hn;have h:=YK 1 121 (YK 0 122 (XlW ⟨secs,[],on⟩));exact h
theorem XpZ (d:ak) (xs:List (List D)) (n:Nat) (hx:xs=d.pending.map cWr) (hn:n=d.pending.length):Con prog 105 [(120,.row 2 xs),(121,.mat 1 (d.aa.map fun s=>s.map X5))] [.agg [.own 120 n,.own 121 d.aa.length,ab d.on]] [(120,.froz 2 xs),(121,.froz 1 (d.aa.map XV))] (XU d):=by
 subst hx hn;exact Xsw d
abbrev X0O (x:AVal) (e:Int):AVal:= .tup [x,ai e]
def Yy:List UInt8:=replicate 64 0
def YU:ak:=⟨[],[],false⟩
def Uy (n:Int):ak×Int:=if 1<=n/\n<=4096 then (⟨replicate n.toNat Yy,[],true⟩,0) else (YU,1)
def Vx (ag:List Wr) (a:Int) (s:List UInt8):Nat->List UInt8
 |0=>s
 |k+1=>match ag[k]? with
  |some w=>if w.at_=a then w.b else Vx ag a s k
  |none=>Vx ag a s k
def Yo (d:ak) (a:Int):List UInt8×Int:=
 if V8 d≠0 then ([],V8 d) else if 0<=a/\a<d.aa.length then (Vx d.pending a ((d.aa[a.toNat]?).getD []) d.pending.length,0) else ([],1)
def Vs (d:ak) (a:Int) (b:List UInt8):ak×Int:=
 if V8 d≠0 then (YU,V8 d) else if 0<=a/\a<d.aa.length/\b.length=64 then (⟨d.aa,d.pending++[⟨a,b⟩],d.on⟩,0) else (YU,1)
def V5 (d:ak) (kv:Nat->Int):List (List UInt8):=UW d.aa d.pending kv d.pending.length
def Uw (d:ak):ak×Int:=if V8 d≠0 then (YU,V8 d) else (⟨V5 d (fun _=>64),[],d.on⟩,0)
theorem X4e (h:Ux d=true):okW d.aa d.pending:=by
 simp only[Ux,decide_eq_true_eq] at h;exact⟨h.2.2.2.1,h.2.2.2.2⟩
theorem X9z (h:V8 d=0):Ux d=true/\d.on=true:=by
 unfold V8 at h;split at h
 ·rename_i hv;split at h
  ·rename_i ho;exact⟨hv,ho⟩
  ·simp at h
 ·simp at h
open Go
def X3X (x:UInt8):List UInt8:=if x.toNat<=1 then [1,x+1] else [x]
def Yt:List UInt8->List UInt8
 |[]=>[]
 |x::r=>X3X x++Yt r
def Uc (ep:Int) (r:Rcd):List UInt8:=Xl ep++X0k r
def VP (ep:Int) (r:Rcd):List UInt8:=Yt (Yn (Uc ep r))++[0]
def XZ (ep:Int):List Rcd->List UInt8
 |[]=>[]
 |r::l=>VP ep r++XZ ep l
def V7:List Rcd->Int
 |[]=>0
 |r::l=>if UH r≠0 then UH r else V7 l
def X3d (ep:Int) (l:List Rcd):List UInt8:=if V7 l≠0 then [] else XZ ep l
def Uh (d:ak) (f t ep tail:Int):Int:=
 if Ux d=false then 1 else if d.on=false then 22 else if f<0\/t<=f\/(d.aa.length:Int)<t then 1
 else if ep<0\/1000000000000000<ep\/tail<0\/(t-f)*64<tail then 1 else 0
def U6 (d:ak):Nat->Nat->List UInt8
 |_,0=>[]
 |f,n+1=>(Yo d (f:Nat)).1++U6 d (f+1) n
def Y9 (d:ak) (f t:Int):List UInt8:=U6 d f.toNat (t-f).toNat
def VM (d:ak) (a:Nat) (b:List UInt8):ak:=⟨d.aa,d.pending++[⟨(a:Nat),b⟩],d.on⟩
def VX:ak->Nat->List (List UInt8)->List ak
 |d,_,[]=>[d]
 |d,a,b::r=>d::VX (VM d a b) (a+1) r
def Yc:ak->Nat->List (List UInt8)->ak
 |d,_,[]=>d
 |d,a,b::r=>Yc (VM d a b) (a+1) r
def YC (l:List UInt8):List UInt8:=l++replicate ((64-l.length%64)%64) 0
def UN:Nat->List UInt8->List (List UInt8)
 |0,_=>[]
 |n+1,l=>l.take 64::UN n (l.drop 64)
def X1w (d:ak) (f t tail:Int) (add:List UInt8):List UInt8:=YC (((Y9 d f t).take tail.toNat).drop (tail.toNat/64*64)++add)
def X0V (d:ak) (f t tail:Int) (add:List UInt8):List (List UInt8):=
 if add=[] then [] else UN ((X1w d f t tail add).length/64) (X1w d f t tail add)
def X3D (d:ak) (f t tail:Int) (add:List UInt8):List ak:=
 VX d (f.toNat+tail.toNat/64) (X0V d f t tail add)++[(Uw (Yc d (f.toNat+tail.toNat/64) (X0V d f t tail add))).1]
def YI (d:ak) (f t ep tail:Int) (l:List Rcd):List ak×Int×Int:=
 if Uh d f t ep tail≠0 then ([],0,Uh d f t ep tail) else if V7 l≠0 then ([],0,V7 l)
 else if (t-f)*64<tail+(XZ ep l).length then ([],0,20) else (X3D d f t tail (XZ ep l),tail+(XZ ep l).length,0)
def Um (d:ak) (f t ep tail:Int) (l:List Rcd):ak×Int×Int:=
 if (YI d f t ep tail l).2.2≠0 then (YU,0,(YI d f t ep tail l).2.2) else (((YI d f t ep tail l).1.getLast?).getD YU,(YI d f t ep tail l).2.1,0)
def Vj:List UInt8->Option (List UInt8)
 |[]=>some []
 |[x]=>if x=1 then none else some [x]
 |x::y::r=>if x=1 then (if y=1\/y=2 then (Vj r).map (fun l=>(y-1)::l) else none) else (Vj (y::r)).map (fun l=>x::l)
def X8Q (c:List UInt8) (ep:Int) (u:Int×Int×Int):Rcd×Bool:=
 if u.2.2≠0\/u.1≠ep then (X53,false) else ((rdS (c.drop u.2.1.toNat)).1,decide ((rdS (c.drop u.2.1.toNat)).2=0))
def X5Y (raw:List UInt8) (ep:Int) (u:List UInt8×Int×Int):Rcd×Bool:=
 if u.2.2≠0\/u.2.1≠raw.length then (X53,false) else X8Q u.1 ep (XB u.1 0)
def X0t (b:List UInt8) (ep:Int):Rcd×Bool:=match Vj b with
 |none=>(X53,false)
 |some raw=>X5Y raw ep (cj raw 0)
def Y5 (b:List UInt8):List UInt8:=b.takeWhile fun x=>x !=0
def X1o (b:List UInt8):Bool:=b.any fun x=>x==0
def V6 (ep:Int):Nat->List UInt8->Nat->List Rcd×Nat
 |0,_,a=>([],a)
 |n+1,b,a=>if X1o b=true/\(X0t (Y5 b) ep).2=true then
   ((X0t (Y5 b) ep).1::(V6 ep n (b.drop ((Y5 b).length+1)) (a+((Y5 b).length+1))).1,(V6 ep n (b.drop ((Y5 b).length+1)) (a+((Y5 b).length+1))).2)
  else ([],a)
def X05 (ep:Int) (b:List UInt8):List Rcd×Nat:=V6 ep (b.length+1) b 0
def X0B (d:ak) (f t ep:Int):List Rcd×Int×Int:=
 if Uh d f t ep 0≠0 then ([],0,Uh d f t ep 0) else ((X05 ep (Y9 d f t)).1,((X05 ep (Y9 d f t)).2:Nat),0)
def Ud (l:List Prp) (k:List UInt8) (v:Val):List Prp:=UC aA Prp.key l k (if V4 v=true then [] else [⟨k,v⟩])
def X1O (es:List Edg) (n:Int):Bool:=es.any fun e=>decide (e.src=n\/e.dst=n)
def VH (l:List Nod) (n:Int):Option Nod:=l.find? fun x=>decide (x.id=n)
def X0r (l:List Edg) (n:Int):Option Edg:=l.find? fun x=>decide (x.id=n)
def VJ (g:Gra) (n:Nod):Gra:={g with nodes:=UC ltI Nod.id g.nodes n.id [n],nn:=max g.nn (n.id+1)}
def X1d (g:Gra) (e:Edg):Gra:={g with aj:=UC ltI Edg.id g.aj e.id [e],ne:=max g.ne (e.id+1)}
def X4n (g:Gra) (c:Chg) (n:Nod):Gra×Int:=
 if c.op=2 then (if X1O g.aj c.id=true then (VN,12) else ({g with nodes:=UL Nod.id g.nodes c.id},0))
 else if c.op=3 then (if XD Yl n.labels c.name=true then (VN,7) else if 8<=n.labels.length then (VN,20) else (VJ g ⟨n.id,UC aA Yl n.labels c.name [c.name],n.props⟩,0))
 else if c.op=4 then (if XD Yl n.labels c.name=false then (VN,23) else (VJ g ⟨n.id,UL Yl n.labels c.name,n.props⟩,0))
 else if 16<(Ud n.props c.name c.v).length then (VN,20) else (VJ g ⟨n.id,n.labels,Ud n.props c.name c.v⟩,0)
def X58 (g:Gra) (c:Chg) (e:Edg):Gra×Int:=
 if c.op=8 then (if 16<(Ud e.props c.name c.v).length then (VN,20) else (X1d g ⟨e.id,e.src,e.dst,e.typ,Ud e.props c.name c.v⟩,0))
 else ({g with aj:=UL Edg.id g.aj c.id},0)
def X0b (g:Gra) (c:Chg):Gra×Int:=
 if c.op=1 then (if XD Nod.id g.nodes c.id=true then (VN,7) else if 2000<=g.nodes.length then (VN,20) else (VJ g ⟨c.id,[],[]⟩,0))
 else if c.op=6 then (if XD Edg.id g.aj c.id=true then (VN,7) else if XD Nod.id g.nodes c.src=false\/XD Nod.id g.nodes c.dst=false then (VN,10) else if 4000<=g.aj.length then (VN,20) else (X1d g ⟨c.id,c.src,c.dst,c.name,[]⟩,0))
 else if c.op=7\/c.op=8 then (match X0r g.aj c.id with|none=>(VN,11)|some e=>X58 g c e)
 else (match VH g.nodes c.id with|none=>(VN,10)|some n=>X4n g c n)
def YM (g:Gra) (c:Chg):Gra×Int:=if YD c≠0 then (VN,YD c) else X0b g c
def VO:Gra->Nat->List Chg->Gra×Nat×Int
 |g,k,[]=>(g,k,0)
 |g,k,c::r=>if (YM g c).2≠0 then (VN,k,(YM g c).2) else VO (YM g c).1 (k+1) r
def V9 (g:Gra) (l:List Chg):Gra×Nat×Int:=if X0n g≠0 then (VN,0,X0n g) else VO g 0 l
theorem XmJ {α κ:Type} [DecidableEq κ] {lt:κ->κ->Bool}{key:α->κ} (ho:KOrd lt) {l:List α}{k:κ} (hs:YW lt key l):l.find? (fun x=>decide (key x=k))=(l[Xo lt key l k]?).bind fun x=>if key x=k then some x else none:=by
 have hh:=X10 (k:=k) ho hs;cases hf:l.find? (fun x=>decide (key x=k)) with
 |none=>
  have h0:XD key l k=false:=by
   unfold XD;rw[any_eq_false];exact find?_eq_none.1 hf
  rw[h0] at hh;have hh:=(decide_eq_false_iff_not.1 hh.symm)
  cases hx:l[Xo lt key l k]? with
  |none=>rfl
  |some x=>
   simp only[Option.bind_some];rw[NI (fun e=>hh ⟨x,hx,e⟩)]
 |some x=>
  have hx:=mem_of_find?_eq_some hf;have he:key x=k:=by have:=find?_some hf;simpa using this
  have h0:XD key l k=true:=by
   unfold XD;rw[any_eq_true];exact⟨x,hx,by simpa using he⟩
  rw[h0] at hh;obtain⟨y,hy,e⟩:=decide_eq_true_iff.1 hh.symm;rw[hy,Option.bind_some,PI e];obtain⟨i,hi⟩:=getElem?_of_mem hx;have jK:i<l.length:=(GS.1 hi).1;have oQ:Xo lt key l k<l.length:=(GS.1 hy).1;have iO:l[i]=x:=by rw[getElem?_eq_getElem jK] at hi;simpa using hi
  have oR:l[Xo lt key l k]=y:=by rw[getElem?_eq_getElem oQ] at hy;simpa using hy
  rcases Nat.lt_trichotomy i (Xo lt key l k) with q|q|q
  ·have:=(pairwise_iff_getElem.1 hs) i (Xo lt key l k) jK oQ q;rw[iO,oR,he,e,ho.irr] at this;cases this
  ·subst q;rw[<-iO,oR]
  ·have:=(pairwise_iff_getElem.1 hs) (Xo lt key l k) i oQ jK q;rw[iO,oR,he,e,ho.irr] at this;cases this
theorem X6G (h:GV g) (n:Int):VH g.nodes n=(g.nodes[Xo ltI Nod.id g.nodes n]?).bind fun x=>if x.id=n then some x else none:=XmJ UY h.ns
theorem XnL (h:GV g) (n:Int):X0r g.aj n=(g.aj[Xo ltI Edg.id g.aj n]?).bind fun x=>if x.id=n then some x else none:=XmJ UY h.es
theorem X5c {l:List Nod}{n:Int}{x:Nod} (h:VH l n=some x):x∈l/\x.id=n:=⟨mem_of_find?_eq_some h,by have:=find?_some h;simpa using this⟩
theorem Xc9 {l:List Edg}{n:Int}{x:Edg} (h:X0r l n=some x):x∈l/\x.id=n:=⟨mem_of_find?_eq_some h,by have:=find?_some h;simpa using this⟩
theorem X5K {α κ:Type} [DecidableEq κ] {lt:κ->κ->Bool}{key:α->κ}{l:List α}{k:κ}{ns:List α}:(UC lt key l k ns).length<=l.length+ns.length:=by
 unfold UC;rw[LA,LA];have h1:=length_filter_le (fun x=> !decide (key x=k)) (l.dropWhile fun x=>lt (key x) k);have h2:(l.takeWhile fun x=>lt (key x) k).length+(l.dropWhile fun x=>lt (key x) k).length=l.length:=by rw[<-LA,takeWhile_append_dropWhile]
 omega
theorem Xf4 {α κ:Type} [DecidableEq κ] {lt:κ->κ->Bool}{key:α->κ}{l:List α}{k:κ}{n:α} (ho:KOrd lt) (hs:YW lt key l) (hh:XD key l k=true):(UC lt key l k [n]).length=l.length:=by
 rw[X10 ho hs] at hh;obtain⟨x,hx,e⟩:=decide_eq_true_iff.1 hh;have hlt:Xo lt key l k<l.length:=(GS.1 hx).1;rw[X7P ho hs hx e,LA,LA,LT,LD,length_singleton];omega
theorem XhP {l:List Nod}{n:Nod}{k:Int} (h:XD Nod.id l k=true):XD Nod.id (UC ltI Nod.id l n.id [n]) k=true:=by
 unfold XD at h |-;rw[any_eq_true] at h |-;obtain⟨x,hx,e⟩:=h;have e:x.id=k:=by simpa using e
 by_cases q:n.id=k
 ·exact⟨n,by unfold UC;simp,by simpa using q⟩
 ·refine⟨x,?_,by simpa using e⟩;unfold UC;rw[<-takeWhile_append_dropWhile (p:=fun x=>ltI (Nod.id x) n.id) (l:=l)] at hx;rcases mem_append.1 hx with hx|hx
  ·exact mem_append_left _ (mem_append_left _ hx)
  ·refine mem_append_right _ (mem_filter.2 ⟨hx,?_⟩);simp only[Bool.not_eq_true',decide_eq_false_iff_not];omega
theorem XaH {n:Nod} (h:GV g) (h1:1<=n.id/\n.id<=1000000) (hp:PV n.labels n.props) (hl:(UC ltI Nod.id g.nodes n.id [n]).length<=2000):GV (VJ g n):=by
 have h3:=h.nn;refine⟨hl,h.el,⟨?_,?_⟩,h.ne,fun x hx=> ?_,X8D UY h.ns (.inr ⟨n,rfl,rfl⟩),fun e he=> ?_,h.es⟩
 ·show 1<=max g.nn (n.id+1);omega
 ·show max g.nn (n.id+1)<=1000001;omega
 ·show 1<=x.id/\x.id<max g.nn (n.id+1)/\_;rcases Xa2 hx with hx|hx
  ·obtain rfl:=mem_singleton.1 hx;exact⟨h1.1,by omega,hp⟩
  ·obtain⟨q1,q2,q3⟩:=h.nodes x hx;exact⟨q1,by omega,q3⟩
 ·obtain⟨q1,q2,q3,q4,q5⟩:=h.aj e he;exact⟨q1,q2,XhP q3,XhP q4,q5⟩
theorem XkU {e:Edg} (h:GV g) (h1:1<=e.id/\e.id<=1000000) (hs:XD Nod.id g.nodes e.src=true) (hd:XD Nod.id g.nodes e.dst=true) (ht:Y8 e.typ=true) (hp:PV [] e.props) (hl:(UC ltI Edg.id g.aj e.id [e]).length<=4000):GV (X1d g e):=by
 have h3:=h.ne;refine⟨h.nl,hl,h.nn,⟨?_,?_⟩,h.nodes,h.ns,fun x hx=> ?_,X8D UY h.es (.inr ⟨e,rfl,rfl⟩)⟩
 ·show 1<=max g.ne (e.id+1);omega
 ·show max g.ne (e.id+1)<=1000001;omega
 ·show 1<=x.id/\x.id<max g.ne (e.id+1)/\_;rcases Xa2 hx with hx|hx
  ·obtain rfl:=mem_singleton.1 hx;exact⟨h1.1,by omega,hs,hd,ht,hp⟩
  ·obtain⟨q1,q2,q3⟩:=h.aj x hx;exact⟨q1,by omega,q3⟩
theorem Xmv {k:List UInt8} (h:PV ls ps) (hk:Y8 k=true) (hv:V4 v=true\/Ui v=true) (hl:(Ud ps k v).length<=16):PV ls (Ud ps k v):=by
 have hm:∀p∈Ud ps k v,p∈ps\/(p=⟨k,v⟩/\V4 v=false):=by
  intro p hp;rcases Xa2 hp with hp|hp
  ·by_cases q:V4 v=true
   ·rw[PI q] at hp;simp at hp
   ·rw[NI q] at hp;exact .inr ⟨mem_singleton.1 hp,by simpa using q⟩
  ·exact .inl hp
 refine⟨h.ll,hl,h.ln,fun p hp=> ?_,h.lr,X8D X1t h.pr ?_,fun p hp=> ?_⟩
 ·rcases hm p hp with hp|⟨rfl,_⟩
  ·exact h.pn p hp
  ·exact hk
 ·by_cases q:V4 v=true
  ·rw[PI q];exact .inl rfl
  ·rw[NI q];exact .inr ⟨_,rfl,rfl⟩
 ·rcases hm p hp with hp|⟨rfl,q⟩
  ·exact h.pv p hp
  ·rcases hv with hv|hv
   ·rw[hv] at q;cases q
   ·exact hv
theorem Xb8 (h:YD c=0):(1<=c.op/\c.op<=8)/\(1<=c.id/\c.id<=1000000)/\(YS c.op=true->Y8 c.name=true)/\(YL c.op=true->V4 c.v=true\/Ui c.v=true):=by
 unfold YD at h;by_cases c1:decide (1<=c.op/\c.op<=8)=false\/idV c.id=false
 ·rw[PI c1] at h;simp at h
 rw[NI c1] at h;by_cases c2:(c.op=6/\(idV c.src=false\/idV c.dst=false))\/(c.op≠6/\(c.src≠0\/c.dst≠0))
 ·rw[PI c2] at h;simp at h
 rw[NI c2] at h;by_cases c3:(YS c.op=false/\c.name≠[])\/(YL c.op=false/\V4 c.v=false)
 ·rw[PI c3] at h;simp at h
 rw[NI c3] at h;by_cases c4:YS c.op=true/\Y8 c.name=false
 ·rw[PI c4] at h;simp at h
 rw[NI c4] at h;by_cases c5:YL c.op=true/\V4 c.v=false/\Ui c.v=false
 ·rw[PI c5] at h;simp at h
 simp only[not_or,Bool.not_eq_false,decide_eq_true_eq,idV] at c1;refine⟨c1.1,c1.2,fun q=> ?_,fun q=> ?_⟩
 ·by_cases r:Y8 c.name=true
  ·exact r
  ·exact absurd ⟨q,by simpa using r⟩ c4
 ·by_cases r:V4 c.v=true
  ·exact .inl r
  ·by_cases r2:Ui c.v=true
   ·exact .inr r2
   ·exact absurd ⟨q,by simpa using r,by simpa using r2⟩ c5
theorem Xea (h:GV g) (hs:(YM g c).2=0):GV (YM g c).1:=by
 unfold YM at hs |-;by_cases hc:YD c≠0
 ·rw[PI hc] at hs;exact absurd hs hc
 rw[NI hc] at hs |-;obtain⟨o1,o2,o3,o4⟩:=Xb8 (by simpa using hc);unfold X0b at hs |-;by_cases p1:c.op=1
 ·rw[PI p1] at hs |-;by_cases q1:XD Nod.id g.nodes c.id=true
  ·rw[PI q1] at hs;simp at hs
  rw[NI q1] at hs |-;by_cases q2:2000<=g.nodes.length
  ·rw[PI q2] at hs;simp at hs
  rw[NI q2];refine XaH h o2 ⟨by simp,by simp,by simp,by simp,Pairwise.nil,Pairwise.nil,by simp⟩ ?_;have:=X5K (lt:=ltI) (key:=Nod.id) (l:=g.nodes) (k:=c.id) (ns:=[⟨c.id,[],[]⟩]);simp only[length_singleton] at this;exact Nat.le_trans this (by omega)
 rw[NI p1] at hs |-;by_cases p6:c.op=6
 ·rw[PI p6] at hs |-;by_cases q1:XD Edg.id g.aj c.id=true
  ·rw[PI q1] at hs;simp at hs
  rw[NI q1] at hs |-;by_cases q2:XD Nod.id g.nodes c.src=false\/XD Nod.id g.nodes c.dst=false
  ·rw[PI q2] at hs;simp at hs
  rw[NI q2] at hs |-;by_cases q3:4000<=g.aj.length
  ·rw[PI q3] at hs;simp at hs
  rw[NI q3];simp only[not_or,Bool.not_eq_false] at q2;refine XkU h o2 q2.1 q2.2 (o3 (by rw[p6];rfl)) ⟨by simp,by simp,by simp,by simp,Pairwise.nil,Pairwise.nil,by simp⟩ ?_;have:=X5K (lt:=ltI) (key:=Edg.id) (l:=g.aj) (k:=c.id) (ns:=[⟨c.id,c.src,c.dst,c.name,[]⟩]);simp only[length_singleton] at this;exact Nat.le_trans this (by omega)
 rw[NI p6] at hs |-;by_cases p7:c.op=7\/c.op=8
 ·rw[PI p7] at hs |-;cases he:X0r g.aj c.id with
  |none=>rw[he] at hs;simp at hs
  |some e=>
   rw[he] at hs;simp only at hs |-;obtain⟨em,ei⟩:=Xc9 he;obtain⟨e1,e2,e3,e4,e5,e6⟩:=h.aj e em;unfold X58 at hs |-;by_cases p8:c.op=8
   ·rw[PI p8] at hs |-;by_cases q1:16<(Ud e.props c.name c.v).length
    ·rw[PI q1] at hs;simp at hs
    rw[NI q1];have hne:=h.ne;refine XkU h ⟨e1,by show e.id<=_;omega⟩ e3 e4 e5 (Xmv e6 (o3 (by rw[p8];rfl)) (o4 (by rw[p8];rfl)) (by omega)) ?_;have hh:XD Edg.id g.aj e.id=true:=by unfold XD;rw[any_eq_true];exact⟨e,em,by simp⟩
    show(UC ltI Edg.id g.aj e.id _).length<=4000;rw[Xf4 UY h.es hh];exact h.el
   ·rw[NI p8];refine⟨h.nl,Nat.le_trans (length_filter_le _ _) h.el,h.nn,h.ne,h.nodes,h.ns,fun x hx=>h.aj x (XbV hx).1,XbB h.es⟩
 rw[NI p7] at hs |-;cases hn:VH g.nodes c.id with
 |none=>rw[hn] at hs;simp at hs
 |some n=>
  rw[hn] at hs;simp only at hs |-;obtain⟨nm,ni⟩:=X5c hn;obtain⟨n1,n2,n3⟩:=h.nodes n nm;have dF:=h.nn;have hh:XD Nod.id g.nodes n.id=true:=by unfold XD;rw[any_eq_true];exact⟨n,nm,by simp⟩
  have hlen:∀m:Nod,(UC ltI Nod.id g.nodes n.id [m]).length<=2000:=fun m=>by rw[Xf4 UY h.ns hh];exact h.nl
  unfold X4n at hs |-;by_cases p2:c.op=2
  ·rw[PI p2] at hs |-;by_cases q1:X1O g.aj c.id=true
   ·rw[PI q1] at hs;simp at hs
   rw[NI q1];refine⟨Nat.le_trans (length_filter_le _ _) h.nl,h.el,h.nn,h.ne,fun x hx=>h.nodes x (XbV hx).1,XbB h.ns,fun e he=> ?_,h.es⟩;obtain⟨e1,e2,e3,e4,e5,e6⟩:=h.aj e he;have dI:X1O g.aj c.id=false:=by simpa using q1
   unfold X1O at dI;have hu:=(any_eq_false.1 dI) e he;have hu:¬(e.src=c.id\/e.dst=c.id):=by simpa using hu
   have keep:∀k,k≠c.id->V1 g.nodes k=true->V1 (UL Nod.id g.nodes c.id) k=true:=by
    intro k hk hh;unfold V1 at hh |-;rw[any_eq_true] at hh |-;obtain⟨x,hx,e⟩:=hh;have e:x.id=k:=by simpa using e
    exact⟨x,mem_filter.2 ⟨hx,by simp only[Bool.not_eq_true',decide_eq_false_iff_not];omega⟩,by simpa using e⟩
   exact⟨e1,e2,keep _ (fun q=>hu (.inl q)) e3,keep _ (fun q=>hu (.inr q)) e4,e5,e6⟩
  rw[NI p2] at hs |-;by_cases p3:c.op=3
  ·rw[PI p3] at hs |-;by_cases q1:XD Yl n.labels c.name=true
   ·rw[PI q1] at hs;simp at hs
   rw[NI q1] at hs |-;by_cases q2:8<=n.labels.length
   ·rw[PI q2] at hs;simp at hs
   rw[NI q2];refine XaH h ⟨n1,by show n.id<=_;omega⟩ ⟨?_,n3.pl,fun s hs=> ?_,n3.pn,X8D X1t n3.lr (.inr ⟨_,rfl,rfl⟩),n3.pr,n3.pv⟩ (hlen _)
   ·have:=X5K (lt:=aA) (key:=Yl) (l:=n.labels) (k:=c.name) (ns:=[c.name]);simp only[length_singleton] at this;exact Nat.le_trans this (by omega)
   ·rcases Xa2 hs with hs|hs
    ·rw[mem_singleton.1 hs];exact o3 (by rw[p3];rfl)
    ·exact n3.ln s hs
  rw[NI p3] at hs |-;by_cases p4:c.op=4
  ·rw[PI p4] at hs |-;by_cases q1:XD Yl n.labels c.name=false
   ·rw[PI q1] at hs;simp at hs
   rw[NI q1];exact XaH h ⟨n1,by show n.id<=_;omega⟩ ⟨Nat.le_trans (length_filter_le _ _) n3.ll,n3.pl,fun s hs=>n3.ln s (XbV hs).1,n3.pn,XbB n3.lr,n3.pr,n3.pv⟩ (hlen _)
  rw[NI p4] at hs |-;by_cases q1:16<(Ud n.props c.name c.v).length
  ·rw[PI q1] at hs;simp at hs
  rw[NI q1];have p5:c.op=5:=by omega
  exact XaH h ⟨n1,by show n.id<=_;omega⟩ (Xmv n3 (o3 (by rw[p5];rfl)) (o4 (by rw[p5];rfl)) (by omega)) (hlen _)
theorem XgH:∀(l:List Chg) (g:Gra) (k:Nat),GV g->(VO g k l).2.2=0->GV (VO g k l).1
 |[],g,k,h,_=>h
 |c::r,g,k,h,hs=>by
  rw[VO] at hs |-;by_cases q:(YM g c).2≠0
  ·rw[PI q] at hs;exact absurd hs q
  ·rw[NI q] at hs |-;exact XgH r _ _ (Xea h (by simpa using q)) hs
theorem XjZ (h:(V9 g l).2.2=0):GV (V9 g l).1:=by
 unfold V9 at h |-;by_cases q:X0n g≠0
 ·rw[PI q] at h;exact absurd h q
 ·rw[NI q] at h |-;exact XgH l g 0 (X5Q.1 (by simpa using q)) h
section
variable {α κ:Type}{lt:κ->κ->Bool}{key:α->κ}
theorem XnG (ho:KOrd lt) {l:List α}{k:κ}{i:Nat} (h:i<=l.length) (h1:∀x∈l.take i,lt (key x) k=true) (h2:∀x,l[i]? =some x->lt (key x) k=false):Xo lt key l k=i:=by
 unfold Xo;exact Xcy h (fun j x hj hx=>h1 x (by rw[mem_take_iff_getElem];obtain⟨hl,rfl⟩:=GS.1 hx;exact⟨j,by omega,rfl⟩)) (fun x hx=>h2 x hx)
end
theorem Xrz (h:Ui v=true):UJ v:=by
 obtain⟨k,n,d,s,l⟩:=v;obtain⟨_,_,_,rfl,_,_,p7,_⟩:=XrC h;rw[UJ];exact⟨by omega,by simp,by simp[X3G]⟩
theorem XgA (h:PV ls ps):ls.length<=9223372036854775807/\(∀s∈ls,s.length<=9223372036854775807)/\ps.length<=9223372036854775807/\∀p∈ps,X9X p:=by
 have h1:=h.ll;have h2:=h.pl;refine⟨by omega,fun s hs=>by have:=Xfq (h.ln s hs);omega,by omega,fun p hp=>⟨by have:=Xfq (h.pn p hp);omega,Xrz (h.pv p hp)⟩⟩
theorem X5u (h:GV g):GraHold g:=by
 have h1:=h.nl;have h2:=h.el;refine⟨by omega,by omega,fun n hn=>XgA (h.nodes n hn).2.2,fun e he=> ?_⟩;obtain⟨_,_,_,_,q,r⟩:=h.aj e he;obtain⟨_,_,r3,r4⟩:=XgA r;exact⟨by have:=Xfq q;omega,r3,r4⟩
theorem X2Y:GraHold VN:=⟨by simp,by simp,by simp,by simp⟩
theorem Xrj (hz:(V9 g l).2.2≠0->(V9 g l).1=VN):GraHold (V9 g l).1:=by
 by_cases q:(V9 g l).2.2=0
 ·exact X5u (XjZ q)
 ·rw[hz q];exact X2Y
theorem Xma:∀(l:List Chg) (g:Gra) (k:Nat),(VO g k l).2.2≠0->(VO g k l).1=VN
 |[],g,k,h=>by simp[VO] at h
 |c::r,g,k,h=>by
  rw[VO] at h |-;by_cases q:(YM g c).2≠0
  ·rw[PI q]
  ·rw[NI q] at h |-;exact Xma r _ _ h
theorem Xts (h:(V9 g l).2.2≠0):(V9 g l).1=VN:=by
 unfold V9 at h |-;by_cases q:X0n g≠0
 ·rw[PI q]
 ·rw[NI q] at h |-;exact Xma l g 0 h
theorem XhI (g:Gra) (l:List Chg):GraHold (V9 g l).1:=Xrj Xts
theorem XlT:∀(a b:List Chg) (g:Gra) (k:Nat),VO g k (a++b)=if (VO g k a).2.2≠0 then VO g k a else VO (VO g k a).1 (k+a.length) b
 |[],b,g,k=>by simp[VO]
 |c::r,b,g,k=>by
  rw[cons_append,VO,VO];by_cases q:(YM g c).2≠0
  ·rw[PI q,PI q,PI q]
  ·rw[NI q,NI q,XlT r b];have e:k+1+r.length=k+(c::r).length:=by rw[LC];omega
   rw[e]
def X2C:Rd->Chg×Rd:=X1J zC X1T
theorem Xi3:PartR X2C:=Xan zC X1T
theorem Xvg {c:List UInt8}{x:Chg}{e:Int} (h:X1T c a=(x,e,0)):only c a e (U2 x)/\a<e/\YD x=0:=by
 unfold X1T at h;by_cases h0:a<0\/(c.length:Int)<a
 ·rw[PI h0] at h;simp at h
 ·rw[NI h0] at h;generalize hr:Vu c a 0=r at h;obtain⟨y,z,e'⟩:=r;simp only at h;by_cases he:e'=0
  ·subst he;simp only[if_true] at h;by_cases hy:YD y=0
   ·rw[NI (by simp[hy])] at h;simp only[Prod.mk.injEq,and_true] at h;obtain⟨rfl,rfl⟩:=h;obtain⟨h1,h2,_⟩:=Xle (by omega) hr;exact⟨h1,h2,hy⟩
   ·rw[PI hy] at h;simp only[Prod.mk.injEq] at h;exact absurd h.2.2 hy
  ·rw[NI he,PI he] at h;simp only[Prod.mk.injEq] at h;exact absurd h.2.2 he
theorem Xo7:X3z (fun c=>YD c=0) VT X2C:=Xg9 fun c q x t hx h=>by
 have hp:VT x=U2 x:=PI hx;rw[hp] at h |-;have h1:=(Xlo hx h).1;have hq:=h.le;unfold X1T;rw[NI (by omega)];simp only[h1,hx,if_true,ne_eq,not_true_eq_false,if_false]
theorem Xnm:GoR 1 X2C:=XdX (by omega) fun c a x e h=>by
 obtain⟨h1,h2,_⟩:=Xvg h;exact⟨by omega,h1.2.2.1⟩
end Go.Fw
