/- Checkpoints, in plain Lean: what the functions compute. -/
import Derived.Test.YtpbgjcbkhgfmkaaGreatDoorM21
set_option maxHeartbeats 16000000
namespace Go.Fw
open Go List
set_option linter.unusedVariables false
set_option linter.unusedSimpArgs false
structure Sta where
 g:Gra
 rules:List Rul
 ts:Int
 ep:Int
 tail:Int
abbrev Yd:Sta:=⟨VN,[],0,0,0⟩
abbrev UA:Gra:=⟨[],[],1,1⟩
def VA (n:Int):Int×Int×Bool:=if n<16\/4096<n then (0,0,false) else ((n-2)/4,2+2*((n-2)/4),true)
def Xt (d:ak):Nat:=(d.aa.length-2)/4
def X9 (d:ak):Nat:=2+2*Xt d
def YN (s:Sta):Bool:=decide (X0n s.g=0)&&(X0W s.rules&&decide (0<=s.ts/\s.ts<=1000000000000000/\1<=s.ep/\s.ep<=1000000000000000/\0<=s.tail/\s.tail<=262144))
def Uo (d:ak):Int:=if Ux d=false then 1 else if d.on=false then 22 else if (VA d.aa.length).2.2=false then 1 else 0
def Vc (l:List Rul) (r:Rul):List Rul×Int:=
 if X0W l=false then ([],19) else if Uk r≠0 then ([],Uk r) else if XD YB l r=true then ([],7) else if l.length=40 then ([],20) else (UC ltR YB l r [r],0)
def VC (l:List Rul) (r:Rul):List Rul×Int:=
 if X0W l=false then ([],19) else if Uk r≠0 then ([],Uk r) else if XD YB l r=false then ([],23) else (UL YB l r,0)
def fU (n:Nod):Chg:=⟨1,n.id,0,0,[],zV⟩
def fV (e:Edg):Chg:=⟨6,e.id,e.src,e.dst,e.typ,zV⟩
def X52 (id:Int) (l:List (List UInt8)):List Chg:=l.map fun s=>⟨3,id,0,0,s,zV⟩
def Va (op id:Int) (l:List Prp):List Chg:=l.map fun p=>⟨op,id,0,0,p.key,p.v⟩
def dy (n:Nod):List Chg:=X52 n.id n.labels++Va 5 n.id n.props
def dU (e:Edg):List Chg:=Va 8 e.id e.props
def X0H (l:List Nod):List Chg:=l.map fU++(l.map dy).flatten
def X1r (l:List Edg):List Chg:=l.map fV++(l.map dU).flatten
def X0i (g:Gra):List Chg:=X0H g.nodes++X1r g.aj
def Xv (g:Gra) (rs:List Rul):List UInt8:=X5n VS rs++(X5n VT (X0i g)++(Xl g.nn++Xl g.ne))
def X66:Rd->(List Rul×List Chg×Int×Int)×Rd:=X3F (X16 X1X) fun _=>X3F (X16 X2C) fun _=>X3F YF fun _=>YF
def X8i (b:List UInt8) (ts ep:Int) (rs:List Rul) (a z:Int) (r:Gra×Nat×Int):Sta×Bool:=
 if r.2.2≠0 then (Yd,false) else (⟨⟨r.1.nodes,r.1.aj,a,z⟩,rs,ts,ep,0⟩,YN ⟨⟨r.1.nodes,r.1.aj,a,z⟩,rs,ts,ep,0⟩&&decide (Xv ⟨r.1.nodes,r.1.aj,a,z⟩ rs=b))
def X1E (b:List UInt8) (ts ep:Int):Sta×Bool:=
 let p:=X66 ⟨0,b,0,0⟩
 if p.2.e≠0\/p.2.a≠b.length then (Yd,false) else X8i b ts ep p.1.1 p.1.2.2.1 p.1.2.2.2 (V9 UA p.1.2.1)
def VL (a b c e:Int):List UInt8:=Yn (X04 [a,b,c,e])
def UI (a b c e:Int):List UInt8:=VL a b c e++(replicate (63-(VL a b c e).length) 0++[1])
def Xax:Rd->(Int×Int×Int×Int)×Rd:=X3F YF fun _=>X3F YF fun _=>X3F YF fun _=>YF
def YZ (b:List UInt8):(Int×Int×Int×Int)×Bool:=
 let u:=cj b 0
 if u.2.2≠0 then ((0,0,0,0),false) else
 let p:=Xax ⟨0,u.1,0,0⟩
 (p.1,decide (p.2.e=0/\p.2.a=u.1.length)&&decide (UI p.1.1 p.1.2.1 p.1.2.2.1 p.1.2.2.2=b))
def X0D (d:ak) (k:Nat):List UInt8:=U6 d (2+k*Xt d) (Xt d)
def X4D (d:ak) (k:Nat) (h:Int×Int×Int×Int):Sta×Bool:=
 if (XT ((X0D d k).take h.2.2.1.toNat):Int)≠h.2.2.2 then (Yd,false) else X1E ((X0D d k).take h.2.2.1.toNat) h.2.1 h.1
def X3T (d:ak) (k:Nat) (h:Int×Int×Int×Int):Prop:=1<=h.1/\h.1<=1000000000000000/\h.1%2=k/\h.2.1<=1000000000000000/\h.2.2.1<=(Xt d*64:Nat)
instance {d:ak}{k:Nat}{h:Int×Int×Int×Int}:Decidable (X3T d k h):=by unfold X3T;infer_instance
def Vd (d:ak) (k:Nat):Sta×Bool:=
 let h:=YZ (Yo d (k:Nat)).1
 if h.2=true/\X3T d k h.1 then X4D d k h.1 else (Yd,false)
def X5e (s t:Sta×Bool):Sta×Bool:=if t.2=true/\(s.2=false\/s.1.ep<t.1.ep) then (t.1,true) else s
def VW (d:ak):Sta×Bool:=X5e (Vd d 0) (Vd d 1)
def ofA (s:Sta) (ts:Int) (a:Gra×Nat×Int):Sta×Int:=if a.2.2≠0 then (Yd,a.2.2) else (⟨a.1,s.rules,ts,s.ep,s.tail⟩,0)
def ofR (s:Sta) (ts:Int) (a:List Rul×Int):Sta×Int:=if a.2≠0 then (Yd,a.2) else (⟨s.g,a.1,ts,s.ep,s.tail⟩,0)
def U3 (s:Sta) (r:Rcd):Sta×Int:=
 if YN s=false then (Yd,19) else if UH r≠0 then (Yd,UH r)
 else if (r.kind=3/\r.ts<s.ts)\/(r.kind≠3/\r.ts≠s.ts+1) then (Yd,26)
 else if r.kind=1 then ofA s r.ts (V9 s.g r.changes)
 else if r.kind=2 then (if r.off=true then ofR s r.ts (VC s.rules r.rule) else ofR s r.ts (Vc s.rules r.rule))
 else (s,0)
def YA:Sta->List Rcd->Sta×Int
 |s,[]=>(s,0)
 |s,r::l=>if (U3 s r).2≠0 then (Yd,(U3 s r).2) else YA (U3 s r).1 l
def Uz (s:Sta) (t:Int):Sta:=⟨s.g,s.rules,s.ts,s.ep,t⟩
def Ys (d:ak) (s:Sta) (l:List Rcd):ak×Sta×Int:=
 if Uo d≠0 then (YU,Yd,Uo d) else if YN s=false then (YU,Yd,19) else if (YA s l).2≠0 then (YU,Yd,(YA s l).2) else
 let a:=Um d (X9 d:Nat) (d.aa.length:Nat) s.ep s.tail l
 if a.2.2≠0 then (YU,Yd,a.2.2) else (a.1,Uz (YA s l).1 a.2.1,0)
def X47 (s:Sta) (x:List Rcd×Int×Int):Sta×Int:=if (YA s x.1).2≠0 then (Yd,19) else (Uz (YA s x.1).1 x.2.1,0)
def VF (d:ak):Sta×Int:=
 if Uo d≠0 then (Yd,Uo d) else if (VW d).2=false then (Yd,23) else
 X47 (VW d).1 (X0B d (X9 d:Nat) (d.aa.length:Nat) (VW d).1.ep)
def Vo (b:List UInt8):List (List UInt8):=UN ((YC b).length/64) (YC b)
def X0U (d:ak):List (List UInt8):=replicate (d.aa.length-X9 d) Yy
def sv1 (d:ak) (b:List UInt8) (k:Nat):ak:=Yc d (2+k*Xt d) (Vo b)
def sv2 (d:ak) (b:List UInt8) (k:Nat):ak:=VM (sv1 d b k) k Yy
def sv3 (d:ak) (b:List UInt8) (k:Nat):ak:=(Uw (sv2 d b k)).1
def sv4 (d:ak) (b:List UInt8) (k:Nat) (ep ts:Int):ak:=VM (sv3 d b k) k (UI ep ts (b.length:Nat) (XT b:Nat))
def sv5 (d:ak) (b:List UInt8) (k:Nat) (ep ts:Int):ak:=(Uw (sv4 d b k ep ts)).1
def sv6 (d:ak) (b:List UInt8) (k:Nat) (ep ts:Int):ak:=(Uw (Yc (sv5 d b k ep ts) (X9 d) (X0U d))).1
def svT (d:ak) (b:List UInt8) (k:Nat) (ep ts:Int):List ak:=
 VX d (2+k*Xt d) (Vo b)++([sv2 d b k,sv3 d b k,sv4 d b k ep ts]++(VX (sv5 d b k ep ts) (X9 d) (X0U d)++[sv6 d b k ep ts]))
def XJ (ep:Int):Nat:=(ep%2).toNat
def UR (d:ak) (s:Sta) (ep:Int):ak×Sta×Int:=
 if (Xt d*64:Nat)<(Xv s.g s.rules).length then (YU,Yd,20) else (sv6 d (Xv s.g s.rules) (XJ ep) ep s.ts,⟨s.g,s.rules,s.ts,ep,0⟩,0)
def Ve (n:Int):ak×Sta×Int:=if (VA n).2.2=false then (YU,Yd,1) else UR (Uy n).1 ⟨UA,[],0,0,0⟩ 1
def VG (d:ak) (s:Sta):Int:=if Uo d≠0 then Uo d else if YN s=false\/s.ep=1000000000000000 then 19 else 0
def U7 (d:ak) (s:Sta):ak×Sta×Int:=if VG d s≠0 then (YU,Yd,VG d s) else UR d s (s.ep+1)
section
variable {α κ:Type}{lt:κ->κ->Bool}{key:α->κ}
theorem XsS (ho:KOrd lt) {A B:List α}{x:α} (hs:YW lt key (A++x::B)):Xo lt key (A++x::B) (key x)=A.length:=by
 refine XnG ho (by simp) (fun y hy=> ?_) (fun y hy=> ?_)
 ·rw[take_left] at hy;exact(pairwise_append.1 hs).2.2 y hy x (mem_cons_self ..)
 ·rw[getElem?_append_right (Nat.le_refl _),Nat.sub_self] at hy;simp only[getElem?_cons_zero,Option.some.injEq] at hy;subst hy;exact ho.irr _
theorem Xw1 (ho:KOrd lt) {l:List α}{k:κ} (h:∀y∈l,lt (key y) k=true):Xo lt key l k=l.length:=by
 refine XnG ho (Nat.le_refl _) (fun y hy=> ?_) (fun y hy=> ?_)
 ·rw[take_length] at hy;exact h y hy
 ·rw[getElem?_eq_none (Nat.le_refl _)] at hy;cases hy
variable [DecidableEq κ]
theorem Xdh (ho:KOrd lt) {A B ns:List α}{x:α} (hs:YW lt key (A++x::B)):UC lt key (A++x::B) (key x) ns=A++ns++B:=by
 have hl:=XsS ho hs;rw[X7P ho hs (x:=x) (by rw[hl,getElem?_append_right (Nat.le_refl _),Nat.sub_self];rfl) rfl,hl,take_left,<-drop_drop,drop_left];rfl
theorem XcC (ho:KOrd lt) {l ns:List α}{k:κ} (h:∀y∈l,lt (key y) k=true):UC lt key l k ns=l++ns:=by
 unfold UC;rw[XbY,X9r,Xw1 ho h,take_length,drop_length];simp
theorem XfW (ho:KOrd lt) {l:List α}{k:κ} (h:∀y∈l,lt (key y) k=true):XD key l k=false:=by
 unfold XD;rw[any_eq_false];intro y hy e;have e:key y=k:=by simpa using e
 have:=h y hy;rw[e,ho.irr] at this;cases this
end
def X2V (g:Gra) (l:List Chg) (h:Gra):Prop:=∀k,VO g k l=(h,k+l.length,0)
theorem X6y (g:Gra):X2V g [] g:=fun k=>rfl
variable{g h:Gra}{i:Int}{p:Prp}{v:Val}
theorem X8N {c:Chg} (e:YM g c=(h,0)):X2V g [c] h:=fun k=>by
 rw[VO,e,NI (by simp)];rfl
theorem X3N {m:Gra}{a b:List Chg} (p:X2V g a h) (q:X2V h b m):X2V g (a++b) m:=fun k=>by
 rw[XlT,p k,NI (by simp)];simp only;rw[q,LA,Nat.add_assoc]
abbrev X1y (i:Int):Prop:=1<=i/\i<=1000000
def X32 (l:List Nod):Prop:=(l.map Nod.id).Pairwise fun a b=>ltI a b=true
def X5m (l:List Edg):Prop:=(l.map Edg.id).Pairwise fun a b=>ltI a b=true
theorem X7R {l:List Nod}:X32 l↔YW ltI Nod.id l:=pairwise_map
theorem X8J {l:List Edg}:X5m l↔YW ltI Edg.id l:=pairwise_map
abbrev X44 (n:Nod):Nod:=⟨n.id,[],[]⟩
abbrev X4G (e:Edg):Edg:=⟨e.id,e.src,e.dst,e.typ,[]⟩
theorem XcR:V4 zV=true:=by decide
theorem Xqm {n:Nod} (h:X1y n.id):YD (fU n)=0:=by
 unfold YD fU;simp[idV,YS,YL,XcR,h.1,h.2]
theorem Xpx {s:List UInt8} (h:X1y i) (hs:Y8 s=true):YD ⟨3,i,0,0,s,zV⟩=0:=by
 unfold YD;simp[idV,YS,YL,XcR,h.1,h.2,hs]
theorem XnM {op:Int} (ho:op=5\/op=8) (h:X1y i) (hs:Y8 p.key=true) (hv:Ui p.v=true):YD ⟨op,i,0,0,p.key,p.v⟩=0:=by
 unfold YD;rcases ho with rfl|rfl<;>simp[idV,YS,YL,h.1,h.2,hs,hv]
theorem Xrt {e:Edg} (h:X1y e.id) (h1:X1y e.src) (h2:X1y e.dst) (hs:Y8 e.typ=true):YD (fV e)=0:=by
 unfold YD fV;simp[idV,YS,YL,XcR,h.1,h.2,h1.1,h1.2,h2.1,h2.2,hs]
theorem Xx5 (h:Ui v=true):V4 v=false:=by
 have:=(XeH h).2;obtain⟨k,n,d,s,l⟩:=v;simp only[Val.kind] at this;unfold V4;have hk:k≠0:=by omega
 rw[show decide ((Val.mk k n d s l).kind=0)=false from DF hk,Bool.and_false]
theorem Xme:∀(l A:List Nod) (g:Gra),g.nodes=A->X32 (A++l)->(∀n∈l,X1y n.id)->(A++l).length<=2000->∃h,X2V g (l.map fU) h/\h.nodes=A++l.map X44/\h.aj=g.aj
 |[],A,g,hg,_,_,_=>⟨g,X6y g,by simp[hg],rfl⟩
 |n::r,A,g,hg,hs,hv,hl=>by
  have hn:=hv n (mem_cons_self ..);have hlt:∀y∈A,ltI y.id n.id=true:=fun y hy=>(pairwise_append.1 (X7R.1 hs)).2.2 y hy n (mem_cons_self ..);have hlen:A.length<2000:=by rw[LA,LC] at hl;omega
  have e:YM g (fU n)=(VJ g (X44 n),0):=by
   unfold YM;rw[NI (by rw[Xqm hn];simp)];unfold X0b fU;simp only[if_true];rw[NI (by rw[hg,XfW UY hlt];simp),NI (by rw[hg];omega)]
  have hp:(VJ g (X44 n)).nodes=A++[X44 n]:=by
   show UC ltI Nod.id g.nodes n.id [X44 n]=_;rw[hg,XcC UY hlt]
  obtain⟨h,h1,h2,h3⟩:=Xme r (A++[X44 n]) (VJ g (X44 n)) hp (by unfold X32 at hs |-;simpa using hs) (fun m hm=>hv m (mem_cons_of_mem _ hm)) (by simp only[LA,LC,length_nil] at hl |-;omega);refine⟨h,?_,by rw[h2];simp,h3⟩;have:=X3N (X8N e) h1;simpa using this
theorem Xlf {A B:List Nod}{x:Nod} (hs:X32 (A++x::B)):VH (A++x::B) x.id=some x:=by
 unfold VH;rw[find?_append];have:A.find? (fun y=>decide (y.id=x.id))=none:=by
  rw[find?_eq_none];intro y hy e;have e:y.id=x.id:=by simpa using e
  have:=(pairwise_append.1 (X7R.1 hs)).2.2 y hy x (mem_cons_self ..);rw[e,UY.irr] at this;cases this
 rw[this,find?_cons_of_pos (by simp)];rfl
theorem Xpl {A B:List Edg}{x:Edg} (hs:X5m (A++x::B)):X0r (A++x::B) x.id=some x:=by
 unfold X0r;rw[find?_append];have:A.find? (fun y=>decide (y.id=x.id))=none:=by
  rw[find?_eq_none];intro y hy e;have e:y.id=x.id:=by simpa using e
  have:=(pairwise_append.1 (X8J.1 hs)).2.2 y hy x (mem_cons_self ..);rw[e,UY.irr] at this;cases this
 rw[this,find?_cons_of_pos (by simp)];rfl
theorem Xlu:∀(ls L:List (List UInt8)) (A B:List Nod) (i:Int) (P:List Prp) (g:Gra),g.nodes=A++⟨i,L,P⟩::B->X32 g.nodes->X1y i->YW aA Yl (L++ls)->(∀s∈ls,Y8 s=true)->(L++ls).length<=8->
  ∃h,X2V g (X52 i ls) h/\h.nodes=A++⟨i,L++ls,P⟩::B/\h.aj=g.aj
 |[],L,A,B,i,P,g,hg,_,_,_,_,_=>⟨g,X6y g,by simp[hg],rfl⟩
 |s::r,L,A,B,i,P,g,hg,hi,hid,hs,hv,hl=>by
  have hlt:∀y∈L,aA (Yl y) s=true:=fun y hy=>(pairwise_append.1 hs).2.2 y hy s (mem_cons_self ..);have hlen:L.length<8:=by rw[LA,LC] at hl;omega
  rw[hg] at hi;have e:YM g ⟨3,i,0,0,s,zV⟩=(VJ g ⟨i,L++[s],P⟩,0):=by
   unfold YM;rw[NI (by rw[Xpx hid (hv s (mem_cons_self ..))];simp)];unfold X0b;simp only[show ¬(3:Int)=1 by decide,show ¬(3:Int)=6 by decide,show ¬((3:Int)=7\/(3:Int)=8) by decide,if_false];rw[hg,show VH (A++⟨i,L,P⟩::B) i=some ⟨i,L,P⟩ from Xlf hi];simp only;unfold X4n;simp only[show ¬(3:Int)=2 by decide,if_false,if_true];rw[NI (by rw[XfW X1t hlt];simp),NI (by omega),XcC X1t hlt]
  have hp:(VJ g ⟨i,L++[s],P⟩).nodes=A++⟨i,L++[s],P⟩::B:=by
   show UC ltI Nod.id g.nodes (Nod.id ⟨i,L,P⟩) [⟨i,L++[s],P⟩]=_;rw[hg,Xdh UY (X7R.1 hi)];simp
  obtain⟨h,h1,h2,h3⟩:=Xlu r (L++[s]) A B i P (VJ g ⟨i,L++[s],P⟩) hp (by rw[hp];unfold X32 at hi |-;simpa using hi) hid (by simpa using hs) (fun t ht=>hv t (mem_cons_of_mem _ ht)) (by simp only[LA,LC,length_nil] at hl |-;omega);refine⟨h,?_,by rw[h2];simp,h3⟩;have:=X3N (X8N e) h1;simpa [X52] using this
theorem XmY {ps:List Prp} (h:∀y∈ps,aA y.key p.key=true) (hv:Ui p.v=true):Ud ps p.key p.v=ps++[p]:=by
 unfold Ud;rw[Xx5 hv,NI (by simp),XcC X1t h]
theorem Xjm:∀(ps P:List Prp) (A B:List Nod) (i:Int) (L:List (List UInt8)) (g:Gra),g.nodes=A++⟨i,L,P⟩::B->X32 g.nodes->X1y i->YW aA Prp.key (P++ps)->(∀p∈ps,Y8 p.key=true/\Ui p.v=true)->(P++ps).length<=16->
  ∃h,X2V g (Va 5 i ps) h/\h.nodes=A++⟨i,L,P++ps⟩::B/\h.aj=g.aj
 |[],P,A,B,i,L,g,hg,_,_,_,_,_=>⟨g,X6y g,by simp[hg],rfl⟩
 |p::r,P,A,B,i,L,g,hg,hi,hid,hs,hv,hl=>by
  have hlt:∀y∈P,aA y.key p.key=true:=fun y hy=>(pairwise_append.1 hs).2.2 y hy p (mem_cons_self ..);have gE:=hv p (mem_cons_self ..);have hlen:P.length<16:=by rw[LA,LC] at hl;omega
  rw[hg] at hi;have e:YM g ⟨5,i,0,0,p.key,p.v⟩=(VJ g ⟨i,L,P++[p]⟩,0):=by
   unfold YM;rw[NI (by rw[XnM (.inl rfl) hid gE.1 gE.2];simp)];unfold X0b;simp only[show ¬(5:Int)=1 by decide,show ¬(5:Int)=6 by decide,show ¬((5:Int)=7\/(5:Int)=8) by decide,if_false];rw[hg,show VH (A++⟨i,L,P⟩::B) i=some ⟨i,L,P⟩ from Xlf hi];simp only;unfold X4n;simp only[show ¬(5:Int)=2 by decide,show ¬(5:Int)=3 by decide,show ¬(5:Int)=4 by decide,if_false];rw[XmY hlt gE.2,NI (by rw[LA,length_singleton];omega)]
  have hp:(VJ g ⟨i,L,P++[p]⟩).nodes=A++⟨i,L,P++[p]⟩::B:=by
   show UC ltI Nod.id g.nodes (Nod.id ⟨i,L,P⟩) [⟨i,L,P++[p]⟩]=_;rw[hg,Xdh UY (X7R.1 hi)];simp
  obtain⟨h,h1,h2,h3⟩:=Xjm r (P++[p]) A B i L (VJ g ⟨i,L,P++[p]⟩) hp (by rw[hp];unfold X32 at hi |-;simpa using hi) hid (by simpa using hs) (fun t ht=>hv t (mem_cons_of_mem _ ht)) (by simp only[LA,LC,length_nil] at hl |-;omega);refine⟨h,?_,by rw[h2];simp,h3⟩;have:=X3N (X8N e) h1;simpa [Va] using this
theorem Xig:∀(ps P:List Prp) (A B:List Edg) (i s d:Int) (T:List UInt8) (g:Gra),g.aj=A++⟨i,s,d,T,P⟩::B->X5m g.aj->X1y i->YW aA Prp.key (P++ps)->(∀p∈ps,Y8 p.key=true/\Ui p.v=true)->(P++ps).length<=16->
  ∃h,X2V g (Va 8 i ps) h/\h.aj=A++⟨i,s,d,T,P++ps⟩::B/\h.nodes=g.nodes
 |[],P,A,B,i,s,d,T,g,hg,_,_,_,_,_=>⟨g,X6y g,by simp[hg],rfl⟩
 |p::r,P,A,B,i,s,d,T,g,hg,hi,hid,hs,hv,hl=>by
  have hlt:∀y∈P,aA y.key p.key=true:=fun y hy=>(pairwise_append.1 hs).2.2 y hy p (mem_cons_self ..);have gE:=hv p (mem_cons_self ..);have hlen:P.length<16:=by rw[LA,LC] at hl;omega
  rw[hg] at hi;have e:YM g ⟨8,i,0,0,p.key,p.v⟩=(X1d g ⟨i,s,d,T,P++[p]⟩,0):=by
   unfold YM;rw[NI (by rw[XnM (.inr rfl) hid gE.1 gE.2];simp)];unfold X0b;rw[NI (show ¬(8:Int)=1 by decide),NI (show ¬(8:Int)=6 by decide),PI (show(8:Int)=7\/(8:Int)=8 by decide)];rw[hg,show X0r (A++⟨i,s,d,T,P⟩::B) i=some ⟨i,s,d,T,P⟩ from Xpl hi];simp only;unfold X58;simp only[if_true];rw[XmY hlt gE.2,NI (by rw[LA,length_singleton];omega)]
  have hp:(X1d g ⟨i,s,d,T,P++[p]⟩).aj=A++⟨i,s,d,T,P++[p]⟩::B:=by
   show UC ltI Edg.id g.aj (Edg.id ⟨i,s,d,T,P⟩) [⟨i,s,d,T,P++[p]⟩]=_;rw[hg,Xdh UY (X8J.1 hi)];simp
  obtain⟨h,h1,h2,h3⟩:=Xig r (P++[p]) A B i s d T (X1d g ⟨i,s,d,T,P++[p]⟩) hp (by rw[hp];unfold X5m at hi |-;simpa using hi) hid (by simpa using hs) (fun t ht=>hv t (mem_cons_of_mem _ ht)) (by simp only[LA,LC,length_nil] at hl |-;omega);refine⟨h,?_,by rw[h2];simp,h3⟩;have:=X3N (X8N e) h1;simpa [Va] using this
theorem Xlp:∀(l A:List Nod) (g:Gra),g.nodes=A++l.map X44->X32 (A++l)->(∀n∈l,X1y n.id/\PV n.labels n.props)->∃h,X2V g (l.map dy).flatten h/\h.nodes=A++l/\h.aj=g.aj
 |[],A,g,hg,_,_=>⟨g,X6y g,by simpa using hg,rfl⟩
 |n::r,A,g,hg,hs,hv=>by
  obtain⟨hid,pv⟩:=hv n (mem_cons_self ..);have hi:X32 g.nodes:=by rw[hg];unfold X32 at hs |-;simpa [Function.comp_def] using hs
  have jr:g.nodes=A++⟨n.id,[],[]⟩::r.map X44:=by rw[hg];rfl
  obtain⟨h,h1,h2,h3⟩:=Xlu n.labels [] A (r.map X44) n.id [] g jr hi hid (by simpa using pv.lr) pv.ln (by simpa using pv.ll);have hi2:X32 h.nodes:=by rw[h2];rw[jr] at hi;unfold X32 at hi |-;simpa using hi
  obtain⟨m,m1,m2,m3⟩:=Xjm n.props [] A (r.map X44) n.id n.labels h (by rw[h2];simp) hi2 hid (by simpa using pv.pr) (fun p hp=>⟨pv.pn p hp,pv.pv p hp⟩) (by simpa using pv.pl);obtain⟨z,z1,z2,z3⟩:=Xlp r (A++[n]) m (by rw[m2];simp) (by simpa using hs) (fun x hx=>hv x (mem_cons_of_mem _ hx));refine⟨z,?_,by rw[z2];simp,by rw[z3,m3,h3]⟩;have:=X3N (X3N h1 m1) z1;simpa [dy] using this
theorem Xin:∀(l A:List Edg) (g:Gra),g.aj=A->X5m (A++l)->(∀e∈l,X1y e.id/\X1y e.src/\X1y e.dst/\V1 g.nodes e.src=true/\V1 g.nodes e.dst=true/\Y8 e.typ=true)->(A++l).length<=4000->
  ∃h,X2V g (l.map fV) h/\h.aj=A++l.map X4G/\h.nodes=g.nodes
 |[],A,g,hg,_,_,_=>⟨g,X6y g,by simp[hg],rfl⟩
 |n::r,A,g,hg,hs,hv,hl=>by
  obtain⟨hn,eC,hn2,tc,td,tf⟩:=hv n (mem_cons_self ..);have hlt:∀y∈A,ltI y.id n.id=true:=fun y hy=>(pairwise_append.1 (X8J.1 hs)).2.2 y hy n (mem_cons_self ..);have hlen:A.length<4000:=by rw[LA,LC] at hl;omega
  have e:YM g (fV n)=(X1d g (X4G n),0):=by
   unfold YM;rw[NI (by rw[Xrt hn eC hn2 tf];simp)];unfold X0b fV;simp only[show ¬(6:Int)=1 by decide,if_false,if_true];rw[NI (by rw[hg,XfW UY hlt];simp),NI (by
    rw[show XD Nod.id g.nodes n.src=true from tc,show XD Nod.id g.nodes n.dst=true from td];simp),NI (by rw[hg];omega)]
  have hp:(X1d g (X4G n)).aj=A++[X4G n]:=by
   show UC ltI Edg.id g.aj n.id [X4G n]=_;rw[hg,XcC UY hlt]
  obtain⟨h,h1,h2,h3⟩:=Xin r (A++[X4G n]) (X1d g (X4G n)) hp (by unfold X5m at hs |-;simpa using hs) (fun m hm=>hv m (mem_cons_of_mem _ hm)) (by simp only[LA,LC,length_nil] at hl |-;omega);refine⟨h,?_,by rw[h2];simp,h3⟩;have:=X3N (X8N e) h1;simpa using this
theorem Xkz:∀(l A:List Edg) (g:Gra),g.aj=A++l.map X4G->X5m (A++l)->(∀e∈l,X1y e.id/\PV [] e.props)->∃h,X2V g (l.map dU).flatten h/\h.aj=A++l/\h.nodes=g.nodes
 |[],A,g,hg,_,_=>⟨g,X6y g,by simpa using hg,rfl⟩
 |n::r,A,g,hg,hs,hv=>by
  obtain⟨hid,pv⟩:=hv n (mem_cons_self ..);have hi:X5m g.aj:=by rw[hg];unfold X5m at hs |-;simpa [Function.comp_def] using hs
  have jr:g.aj=A++⟨n.id,n.src,n.dst,n.typ,[]⟩::r.map X4G:=by rw[hg];rfl
  obtain⟨m,m1,m2,m3⟩:=Xig n.props [] A (r.map X4G) n.id n.src n.dst n.typ g jr hi hid (by simpa using pv.pr) (fun p hp=>⟨pv.pn p hp,pv.pv p hp⟩) (by simpa using pv.pl);obtain⟨z,z1,z2,z3⟩:=Xkz r (A++[n]) m (by rw[m2];simp) (by simpa using hs) (fun x hx=>hv x (mem_cons_of_mem _ hx));refine⟨z,?_,by rw[z2];simp,by rw[z3,m3]⟩;have:=X3N m1 z1;simpa [dU] using this
theorem Xnw (v:GV g):∃h,X2V UA (X0i g) h/\h.nodes=g.nodes/\h.aj=g.aj:=by
 have hn:∀n∈g.nodes,X1y n.id:=fun n hn=>by have:=v.nodes n hn;have:=v.nn;exact⟨by omega,by omega⟩
 have hid:∀i,V1 g.nodes i=true->X1y i:=by
  intro i hi;unfold V1 at hi;rw[any_eq_true] at hi;obtain⟨x,hx,e⟩:=hi;have e:x.id=i:=by simpa using e
  exact e ▸ hn x hx
 have he:∀e∈g.aj,X1y e.id:=fun e he=>by have:=v.aj e he;have:=v.ne;exact⟨by omega,by omega⟩
 obtain⟨a,a1,a2,a3⟩:=Xme g.nodes [] UA rfl (by simpa using X7R.2 v.ns) hn (by simpa using v.nl);obtain⟨b,b1,b2,b3⟩:=Xlp g.nodes [] a (by simpa using a2) (by simpa using X7R.2 v.ns) (fun n h=>⟨hn n h,(v.nodes n h).2.2⟩);have hb:b.nodes=g.nodes:=by simpa using b2
 obtain⟨c,c1,c2,c3⟩:=Xin g.aj [] b (by rw[b3,a3]) (by simpa using X8J.2 v.es) (fun e h=>by
  obtain⟨_,_,h3,h4,h5,_⟩:=v.aj e h;exact⟨he e h,hid _ h3,hid _ h4,by rw[hb];exact h3,by rw[hb];exact h4,h5⟩) (by simpa using v.el)
 obtain⟨d,d1,d2,d3⟩:=Xkz g.aj [] c (by simpa using c2) (by simpa using X8J.2 v.es) (fun e h=>⟨he e h,(v.aj e h).2.2.2.2.2⟩);refine⟨d,?_,by rw[d3,c3,hb],by simpa using d2⟩;unfold X0i X0H X1r;exact X3N (X3N a1 b1) (X3N c1 d1)
theorem Xa9:X0n UA=0:=by decide
theorem XqE (v:GV g):(V9 UA (X0i g)).2.2=0/\(V9 UA (X0i g)).1.nodes=g.nodes/\(V9 UA (X0i g)).1.aj=g.aj:=by
 obtain⟨h,h1,h2,h3⟩:=Xnw v;have e:V9 UA (X0i g)=VO UA 0 (X0i g):=by unfold V9;rw[NI (by rw[Xa9];simp)]
 rw[e,h1 0];exact⟨rfl,h2,h3⟩
open Go Go.Proofs Tryz
set_option maxRecDepth 100000
abbrev oS (xs:List (List D)):List (Nat×AObj):=[(0,.box [.own 1 xs.length]),(1,.row 10 xs)]
theorem XeE (h:Ui v=true):Xk 8 v=true/\X01 v.kind≠0:=by
 have hk:=(XeH h).2;refine⟨?_,?_⟩
 ·unfold Ui X8c at h;rw[Bool.and_eq_true] at h;exact h.2
 ·unfold X01;split
  ·omega
  ·split<;>omega
theorem Xp8 (k n d:Int) (s:List UInt8) (l:List Val) (h:X01 k≠0):Con prog 300 [] [XC zV,XC (.mk k n d s l)] [] (ai (YP 0 (X01 k))):=by
 refine ZC1 func300 ntmps300 fun E=> ?_;have c1:=X9w k n d s l;have c2:=X9w 0 0 0 [] [];have c3:=X5A 0 (X01 k);rw[show X01 0=0 from rfl] at c2;have hz:YP 0 (X01 k)≠0:=by
  unfold YP;split
  ·omega
  ·split
   ·omega
   ·omega
 generalize YP 0 (X01 k)=z at*;generalize X01 k=c at*;simp only[XC,XX] at c1 c2 |-;refine XA ?_;refine Z3 (af:=c2) ?_;refine W1_ ?_;refine Z3 (af:=c1) ?_;refine XG ?_
 (show AWP prog E _ _ _;refine X2 ?_;exact(show Xa _ _ _ _ _ from⟨_,St.le_refl _,⟨rfl,TV⟩,X4 _⟩))
def X9D (v:Val):Int:=YP 0 (X01 v.kind)
theorem XvA (h:Ui v=true):X9D v≠0:=by
 have:=(XeE h).2;unfold X9D YP;split
 ·omega
 ·split<;>omega
theorem XqU (v:Val) (h:Ui v=true):Con prog 241 [] [XC zV,XC v] [] (ai (X9D v)):=by
 refine ZC1 func241 ntmps241 fun E=> ?_;obtain⟨h8,hc⟩:=XeE h;have hv:=X2w v;have hz:=X2w zV;rw[show Xk 8 zV=true by rw[Xk];simp] at hz;rw[h8] at hv;unfold X9D;obtain⟨k,n,d,s,l⟩:=v;simp only[Val.kind] at hc |-;have ho:=Xp8 k n d s l hc;generalize YP 0 (X01 k)=z at*;simp only[XC,XX] at hv hz ho |-;refine W9_ ?_;refine Z3 (af:=hz) ?_;refine W1_ ?_;refine Z3 (af:=hv) ?_;refine Ye ?_
 (show AWP prog E _ _ _;refine X2 ?_;exact(show Xa _ _ _ _ _ from⟨_,St.le_refl _,⟨rfl,TV⟩,X4 _⟩))
theorem Xu3:Con prog 374 [] [] [] (XC zV):=by
 refine ZC1 func374 ntmps374 fun E=> ?_;simp only[XC,XX];refine W9_ ?_;exact X2 ⟨_,Xq 100 (cs:=[ai 0,ai 0,ai 0,Xi [],aq]) (cs':=[ai 0,ai 0,ai 0,Xi [],.d (.sl 5 [])]) rfl ⟨AVal.le_refl _,AVal.le_refl _,AVal.le_refl _,AVal.le_refl _,AVal.le_nil 5,TV⟩ rfl,⟨⟨100,0,_,rfl,rfl,.inr ⟨5,_,rfl,rfl,rfl,rfl⟩⟩,TV⟩,X4 _⟩
theorem XoV (s:List UInt8):Con prog 340 [] [.d (.sl 6 []),Xi s] [] (XC zV):=by
 refine ZC1 func340 ntmps340 fun E=> ?_;have hn:=Xu3;simp only[XC,XX] at*;refine XR ?_
 refine Xn (fun _:Unit=>True) (fun _=>⟨22,[(4,.ptr 100 0),(8,ai 0),(9,ai 0)],[(100,.box [ai 0,ai 0,ai 0,Xi [],aq])]⟩) (fun _=>0) () trivial
  (ZL0) ?_
 intro _ _;refine XR ?_;exact X2 ⟨_,St.le_refl _,⟨⟨100,0,_,rfl,rfl,.inr ⟨5,_,rfl,rfl,rfl,rfl⟩⟩,TV⟩,X4 _⟩
theorem Xio (es:List Edg) (nn ne id:Int):Con prog 295 [] [Y6 ⟨[],es,nn,ne⟩,ai id] [] (.tup [.agg [ai 0,.d (.sl 1 []),.d (.sl 6 [])],ab false]):=by
 refine ZCt func295 ntmps295 fun E=> ?_;simp only[Y6,map_nil];refine Yx ?_
 refine Xn (fun _:Unit=>True) (fun _=>⟨29,[(4,.ptr 101 0),(10,ai 0),(11,ai 0)],[(101,.box [ai 0,aq,aq])]⟩) (fun _=>0) () trivial
  (ZL0) ?_
 intro _ _;refine XQ ?_;exact Qgc
theorem XgC (ns:List Nod) (nn ne id:Int):Con prog 292 [] [Y6 ⟨ns,[],nn,ne⟩,ai id] [] (.tup [.agg [ai 0,ai 0,ai 0,Xi [],.d (.sl 6 [])],ab false]):=by
 refine ZCt func292 ntmps292 fun E=> ?_;simp only[Y6,map_nil];refine Yx ?_
 refine Xn (fun _:Unit=>True) (fun _=>⟨26,[(4,.ptr 101 0),(10,ai 0),(11,ai 0)],[(101,.box [ai 0,ai 0,ai 0,Xi [],aq])]⟩) (fun _=>0) () trivial
  (ZL0) ?_
 intro _ _;refine XQ ?_;exact Qhc
theorem Xak (xs:List (List D)) (c:Chg) (hx:xs.length<=1000000):Con prog 294 (oS xs) [.ptr 0 0,Xz c] (oS (xs++[Xs c])) (.tup []):=by
 refine X0I (xs:=[]) func294 rfl ntmps294 rfl rfl rfl (fun E=> ?_);obtain⟨op,id,src,dst,name,⟨k,n,d,s,l⟩⟩:=c;simp only[Xz,Xs];refine Yv ?_;exact Qic
theorem Xcm (l:List Prp) (hl:l.length<=1000000):Con prog 297 [] [.d (.sl 6 (l.map Xd))] [] (.d (.sl 1 ((l.map Prp.key).map Xf))):=by
 refine ZC1 func297 ntmps297 fun E=> ?_;have hlm:(l.map Xd).length=l.length:=by simp
 obtain⟨X,hX⟩:∃X:Nat->List (List D),∀i,((l.take i).map fun p=>Xf p.key)++replicate (l.length-i) (Xf [])=X i:=⟨_,fun _=>rfl⟩
 have aU:∀i,i<=l.length->(X i).length=l.length:=fun i hi=>by rw[<-hX,LA,LM,LT,length_replicate];omega
 have bz:replicate (l.map Xd).length (Xf [])=X 0:=by rw[<-hX,hlm];simp
 have fA:X l.length=(l.map Prp.key).map Xf:=by rw[<-hX];simp
 have bk:∀i p,l[i]? =some p->(X i).take i++[Xf p.key]++(X i).drop (i+1)=X (i+1):=fun i p hp=>by
  have hi:=(GS.1 hp).1;have e1:((l.take i).map fun p=>Xf p.key).length=i:=by rw[LM,LT];omega
  have e2:X i=((l.take i).map fun p=>Xf p.key)++Xf []::replicate (l.length-(i+1)) (Xf []):=by rw[<-hX,show l.length-i=(l.length-(i+1))+1 by omega,replicate_succ]
  rw[e2,take_left' e1,drop_append,e1,drop_of_length_le (by rw[e1];omega),show i+1-i=1 by omega,<-hX,X19 hp,map_append];simp
 rw[<-fA];clear hX;refine W8_ ?_;refine Qca ?_;refine XA ?_
 refine Xn (fun i:Nat=>i<=l.length) (fun i=>⟨23,[(3,.own 130 (l.map Xd).length),(9,.d (.sl 6 (l.map Xd))),(10,ai (l.map Xd).length),(11,ai i)],[(130,.row 1 (X i))]⟩) (fun i=>l.length-i) 0 (Nat.zero_le _)
  (Xb rfl JM ⟨(by refine Eq.trans (b:=AObj.row 1 (replicate (l.map Xd).length (Xf []))) rfl ?_;rw[bz]),TV⟩) ?_
 intro i hi;have hxl:=aU i hi;by_cases hil:i<l.length
 case neg=>
  obtain rfl:i=l.length:=by omega
  have hn:¬((l.length:Nat):Int)<(l.map Xd).length:=by omega
  refine QDb ?_;refine X8 (Y7 2 130 rfl rfl (by omega)) ?_
  (show AWP prog E _ _ _;refine X2 ?_;exact(show Xa _ _ _ _ _ from⟨_,St.le_refl _,⟨rfl,TV⟩,X4 _⟩))
 have hn:(i:Int)<(l.map Xd).length:=by omega
 obtain⟨p,hp⟩:=Xu (l:=l) hil;have aR:(l.map Xd)[i]? =some (Xd p):=XM hp;have hs:=bk i p hp;have oT:i<(X i).length:=by omega
 have uk:(l.map Xd).length=(X i).length:=by omega
 clear bk aU bz fA;obtain⟨key,⟨k0,k1,k2,k3,k4⟩⟩:=p;simp only[Xd,UT,Xf] at aR hs;refine Vb ?_;exact⟨i+1,by omega,by omega,Xb rfl JM ⟨CG (AObj.row 1) hs,TV⟩⟩
theorem XxJ (xs:List (List D)) (op id:Int) (l:List (List UInt8)) (hx:xs.length+l.length<=1000000):Con prog 296 (oS xs) [.ptr 0 0,ai op,ai id,.d (.sl 1 (l.map Xf)),.d (.sl 1 [])] (oS (xs++l.map fun s=>Xs ⟨op,id,0,0,s,zV⟩)) (.tup []):=by
 refine X0I (xs:=[]) func296 rfl ntmps296 rfl rfl rfl (fun E=> ?_);have hlm:(l.map Xf).length=l.length:=by simp
 obtain⟨X,hX⟩:∃X:Nat->List (List D),∀i,(xs++(l.take i).map fun s=>Xs ⟨op,id,0,0,s,zV⟩)=X i:=⟨_,fun _=>rfl⟩
 have bz:xs=X 0:=by rw[<-hX];simp
 have fA:(xs++l.map fun s=>Xs ⟨op,id,0,0,s,zV⟩)=X l.length:=by rw[<-hX,take_length]
 have aU:∀i,(X i).length<=1000000:=fun i=>by rw[<-hX,LA,LM,LT];omega
 have bk:∀i s,l[i]? =some s->X i++[Xs ⟨op,id,0,0,s,zV⟩]=X (i+1):=fun i s hs=>by rw[<-hX,<-hX,X19 hs,map_append,AS];rfl
 rw[fA];have hlb:l.length<=1000000:=by omega
 clear hX fA hx;rw[bz];generalize hl:l.map Xf=C at*;clear bz;refine W7_ ?_
 refine Xn (fun i:Nat=>i<=l.length) (fun i=>⟨29,[(0,.ptr 0 0),(1,ai op),(2,ai id),(4,.d (.sl 1 [])),(12,.d (.sl 1 C)),(13,ai C.length),(14,ai i)],oS (X i)⟩) (fun i=>l.length-i) 0 (Nat.zero_le _)
  (ZL0) ?_
 intro i hi;by_cases hil:i<l.length
 case neg=>
  obtain rfl:i=l.length:=by omega
  have hn:¬((l.length:Nat):Int)<C.length:=by omega
  exact Qjc
 have hn:(i:Int)<C.length:=by omega
 obtain⟨s,hs⟩:=Xu (l:=l) hil;have hsc:C[i]? =some (Xf s):=by rw[<-hl];exact XM hs
 simp only[Xf] at hsc;have hc:Con prog 339 [] [.d (.sl 1 []),Xi s] [] (ab false):=Xxd [] s (by simp);have ha:=Xak (X i) ⟨op,id,0,0,s,zV⟩ (aU i);rw[bk i s hs] at ha;simp only[Xz] at ha;clear bk aU hl;refine UX ?_;exact Qac
theorem Xey (xs:List (List D)) (op id:Int) (C:List (List D)):Con prog 296 (oS xs) [.ptr 0 0,ai op,ai id,.d (.sl 1 []),.d (.sl 1 C)] (oS xs) (.tup []):=by
 refine X0I (xs:=[]) func296 rfl ntmps296 rfl rfl rfl (fun E=> ?_);refine W7_ ?_
 refine Xn (fun _:Unit=>True) (fun _=>⟨29,[(13,ai 0),(14,ai 0)],oS xs⟩) (fun _=>0) () trivial
  (ZL0) ?_
 intro _ _;exact Qjc
theorem Xkk (xs:List (List D)) (op id:Int) (l:List Prp) (hv:∀p∈l,Ui p.v=true) (hx:xs.length+l.length<=1000000):Con prog 298 (oS xs) [.ptr 0 0,ai op,ai id,.d (.sl 6 []),.d (.sl 6 (l.map Xd))] (oS (xs++(Va op id l).map Xs)) (.tup []):=by
 refine X0I (xs:=[]) func298 rfl ntmps298 rfl rfl rfl (fun E=> ?_);have hlm:(l.map Xd).length=l.length:=by simp
 obtain⟨X,hX⟩:∃X:Nat->List (List D),∀i,xs++(Va op id (l.take i)).map Xs=X i:=⟨_,fun _=>rfl⟩
 have bz:xs=X 0:=by rw[<-hX];simp[Va]
 have fA:xs++(Va op id l).map Xs=X l.length:=by rw[<-hX,take_length]
 have aU:∀i,(X i).length<=1000000:=fun i=>by rw[<-hX,LA,LM];unfold Va;rw[LM,LT];omega
 have bk:∀i p,l[i]? =some p->X i++[Xs ⟨op,id,0,0,p.key,p.v⟩]=X (i+1):=fun i p hp=>by rw[<-hX,<-hX,X19 hp];unfold Va;rw[map_append,map_append,AS];rfl
 rw[fA];have hlb:l.length<=1000000:=by omega
 clear hX fA hx;rw[bz];generalize hl:l.map Xd=C at*;clear bz;refine W7_ ?_
 refine Xn (fun i:Nat=>i<=l.length) (fun i=>⟨36,[(0,.ptr 0 0),(1,ai op),(2,ai id),(3,.d (.sl 6 [])),(12,.d (.sl 6 C)),(13,ai C.length),(14,ai i)],oS (X i)⟩) (fun i=>l.length-i) 0 (Nat.zero_le _)
  (ZL0) ?_
 intro i hi;by_cases hil:i<l.length
 case neg=>
  obtain rfl:i=l.length:=by omega
  have hn:¬((l.length:Nat):Int)<C.length:=by omega
  exact Qjc
 have hn:(i:Int)<C.length:=by omega
 obtain⟨p,hp⟩:=Xu (l:=l) hil;have aR:C[i]? =some (Xd p):=by rw[<-hl];exact XM hp
 have aD:=hv p (mem_of_getElem? hp);have hnz:=XvA aD;have hc:=XoV p.key;have ho:=XqU p.v aD;have ha:=Xak (X i) ⟨op,id,0,0,p.key,p.v⟩ (aU i);rw[bk i p hp] at ha;generalize X9D p.v=z at*;clear bk aU hl hv aD hp;obtain⟨key,⟨k0,k1,k2,k3,k4⟩⟩:=p;simp only[Xd,UT,Xz,XC,XX] at*;refine QMa ?_;exact Qac
end Go.Fw
