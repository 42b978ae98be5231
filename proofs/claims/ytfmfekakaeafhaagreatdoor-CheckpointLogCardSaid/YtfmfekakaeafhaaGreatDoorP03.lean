/- Data without room: s[lo:hi:hi], and what is appended to it. -/
import Derived.WalkSmall
import Derived.Defers
import Derived.WalkKit
import Derived.ProofKit
import Derived.ChangeSame
import Derived.OpenShut
import Derived.Deep.Slices
import Derived.Deep.Strs
import Derived.Lib.BytesEntry
import Derived.Lib.IndexLaws
import Derived.Test.YtfmfekakaeafhaaGreatDoorP02
set_option linter.all false
namespace Go.Fw
open Go List
open List renaming length->J
variable{N b bytes c c1 c2 hb id k lb m n n' n1 n2 o o1 o2 sz β γ:Nat}{hi lo mx x y:Operand}{xs ys:List (List D)}{A B:List Hd}{E:Env}{L:Nat->AObj}{g g':Gh}{W W' w:World}{Li Lo:List (Nat×AObj)}{ch:List PanicEntry}{M:Mem}{P:Program}{Q:Exit->St->Prop}{R:Ending->World->Prop}{S T:St}{e:Exit}{a:Act}{args:Array Operand}{post zs:List AVal}{h u:Value}{cs cs':List (Option D)}{ho:Option (Nat×AVal)}{kd:IntKind}{p:Addr}{vs:Array Value}{res yv:AVal}{cd:Code}{f:FuncId}{fn:Func}{ops:Array Oper}{us:List Value}
section
variable {P:Program}{ops:Array Oper}{draw:Bool}{K:XU->St->Prop}{rest:List Oper}{l:XU}{S:St}
variable {d:Nat}{ty:TypeId}{pos:String}{ah:Array Edge}{gd:Option (Nat×Bool)}
def Xij {T:TypeId} (hx:S.ev x= .d (.sl sz xs)) (hlo:S.ev lo=ai lb) (hhi:S.ev hi=ai hb) (cU:S.ev mx=ai hb) (cg:lb<=hb) (hm:hb<=J xs) (hys:(xs.take hb).drop lb=ys)
  (hT:UT P T sz=true) (hd:Nat.blt d S.n=true) (hg:XL ops S gd)
  (h:Walk P ops draw K rest ((J l,⟨some d,.slice T x (some lo) (some hi) (some mx),ty,pos,ah,gd⟩,⟨XH ops gd++[(x,.d (.sl sz xs)),(lo,ai lb),(hi,ai hb),(mx,ai hb)],some (d,.dx sz ys),[],[],[]⟩)::l) (S.set d (.dx sz ys))):
  Walk P ops draw K (⟨some d,.slice T x (some lo) (some hi) (some mx),ty,pos,ah,gd⟩::rest) l S:=by
 subst hys;refine Yq h hg (Uk rfl fun E S g a w hs hq hl=> ?_) ⟨⟨hx,hlo,hhi,cU,TV⟩,TV,TV,hd⟩;obtain⟨e,h1,h2,h3⟩:=X29 hT;obtain⟨aN,bJ,hq3,hq4,_⟩:=hq;simp only[AVal.sat,D.rep] at aN;obtain⟨b,cap,hv,c1,c2,c3⟩:=aN;have e2:=Uy bJ;have e3:=Uy hq3;have e4:=Uy hq4;have nx:hb<=cap:=by omega
 have hbd:(Instr.sliceBounds true (J xs) cap (some (a.eval lo)) (some (a.eval hi)) (some (a.eval mx))).run P w= .ok (lb,hb,hb) w:=by
  simp_all [Instr.sliceBounds,run_sliceBound]
 have hrun:=run_slice_any (P:=P) w T b (J xs) cap (by rw[h3];exact h1) (some (a.eval lo)) (some (a.eval hi)) (some (a.eval mx));rw[hbd,Result.andThen_ok,h3,h2 w,Result.andThen_ok] at hrun;refine⟨sliced b lb hb hb sz,?_,?_⟩
 ·simp_all [execOp,Instr.sliceAt,run_underlying]
 grind [AVal.sat,D.rep,sliced,Xbk,Xaf,Vq]
def XwI {T T2:TypeId} (hx:S.ev x= .dx sz xs) (hy:S.ev y= .d (.sl sz ys)) (hne:ys≠[])
  (hB:elB P T=bytes) (hT:X1w P T sz bytes=true) (bN:cy P T2=true) (hb0:Nat.beq bytes 0=false) (hroom:(J xs+J ys)*bytes<=140737488355328)
  (av:S.obj γ= .dead) (hf:S.free γ=true) (hd:Nat.blt d S.n=true) (hg:XL ops S gd)
  (h:Walk P ops draw K rest ((J l,⟨some d,.call ⟨.builtin .append,#[x,y],#[T,T2]⟩,ty,pos,ah,gd⟩,⟨XH ops gd++[(x,.dx sz xs),(y,.d (.sl sz ys))],some (d,.own γ (J xs+J ys)),[(γ,.dead)],[(γ,.row sz (xs++ys))],[γ]⟩)::l) ((S.set d (.own γ (J xs+J ys))).own γ (.row sz (xs++ys)))):
  Walk P ops draw K (⟨some d,.call ⟨.builtin .append,#[x,y],#[T,T2]⟩,ty,pos,ah,gd⟩::rest) l S:=by
 refine Yq h hg (X3H rfl fun E S g a w hs hq hl iR=> ?_) ⟨⟨hx,hy,TV⟩,⟨av,TV⟩,⟨hf,TV⟩,hd⟩;obtain⟨e,i,z,hu,hi,hsz,gI,bH,hzs,cE⟩:=X6x hT;have sY:=X5L hb0;obtain⟨aN,bJ,_⟩:=hq;simp only[AVal.sat] at aN;obtain⟨a0,hv,cQ⟩:=aN;simp only[AVal.sat] at bJ;obtain⟨olds,ho1,oY,ho3⟩:=X9T hs.1 cQ;obtain⟨news,k1,k2,k3⟩:=X9T hs.1 bJ;have sZ:J ys≠0:=fun e=>hne (eq_nil_of_length_eq_zero e);have bh:∀r∈xs,J r=sz:=by
  grind
 have bM:∀r∈ys,J r=sz:=k3.resolve_left hne;rw[hv] at ho1;have tc:Builtin.nextslicecap (J xs+J ys) (J xs)*i.bytes<=2^48:=by
  have h1:=nextslicecap_le (need:=J xs+J ys) (old:=J xs) (by omega);have h2:Builtin.nextslicecap (J xs+J ys) (J xs)*i.bytes<=2*(J xs+J ys)*i.bytes:=Nat.mul_le_mul_right _ h1
  grind
 have dy:J xs+J ys<2^63:=by
  have:J xs+J ys<=(J xs+J ys)*bytes:=Nat.le_mul_of_pos_right _ (by omega);omega
 have hr:=Xb7 (P:=P) (w:=w) (T:=T) (T2:=T2) (ty:=ty) (base:=a0) (n:=J xs) (cap:=J xs) (x:=a.eval y) (olds:=olds) (news:=news) (m:=J ys) hu hi bH (.inl (X5R bN)) (by rw[gI];exact sY)
  (by rw[hsz];exact k1) (fun w' hw'=>by have:=(ho1.1 w' hw').2;rw[hsz];exact this) (by omega) tc
 obtain⟨c1,c2⟩:=XaW (J xs+J ys) (J xs) e (w.tape w.drawn (.appendCap (J xs+J ys) (J xs) e)) dy;revert hr c1 c2;generalize (Question.appendCap (J xs+J ys) (J xs) e).cut (w.tape w.drawn (.appendCap (J xs+J ys) (J xs) e))=nc;intro hr c1 c2;have z1:olds.size=J xs*sz:=ho1.2;have z2:news.size=J ys*sz:=k1.2;have bf:Xy g ((xs++ys).flatten.map .d) ((olds++news++Builtin.zeroCells z.cells (nc-(J xs+J ys))).toList.take (J (xs++ys)*sz)):=by
  grind [Nat.add_mul,Xdq]
 have hinv:=Xe7 (w:=w.drew) (Xih hs.1) γ iR.1 hl.1 (sz:=sz) (xs:=xs++ys) (vs:=olds++news++Builtin.zeroCells z.cells (nc-(J xs+J ys))) (e:=e) (fr:=(0,0)) (cap:=nc)
  (fun r hr=>(mem_append.1 hr).elim (bh r) (bM r)) bf (by grind) c2
  (by simp[X79,z1,z2,hzs,<-Nat.add_mul];grind) (X6J _)
 rw[LA] at hinv;exact⟨_,_,_,X7o rfl (by rw[hv];exact hr),X9Q (w:=w),hinv,X44 iR.1 hs.2.2.2⟩
def Xr2 {T T2:TypeId} (hx:S.ev x= .dx sz xs) (hy:S.ev y= .d (.sl sz ys)) (he:ys=[])
  (hB:elB P T=bytes) (hT:X1w P T sz bytes=true) (bN:cy P T2=true) (hd:Nat.blt d S.n=true) (hg:XL ops S gd)
  (h:Walk P ops draw K rest ((J l,⟨some d,.call ⟨.builtin .append,#[x,y],#[T,T2]⟩,ty,pos,ah,gd⟩,⟨XH ops gd++[(x,.dx sz xs),(y,.d (.sl sz ys))],some (d,.dx sz xs),[],[],[]⟩)::l) (S.set d (.dx sz xs))):
  Walk P ops draw K (⟨some d,.call ⟨.builtin .append,#[x,y],#[T,T2]⟩,ty,pos,ah,gd⟩::rest) l S:=by
 subst he;refine Yq h hg (Uk rfl fun E S g a w hs hq hl=> ?_) ⟨⟨hx,hy,TV⟩,TV,TV,hd⟩;obtain⟨e,i,z,hu,hi,hsz,gI,bH,hzs,cE⟩:=X6x hT;obtain⟨aN,bJ,_⟩:=hq;have vp:=aN;simp only[AVal.sat] at aN bJ;obtain⟨a0,hv,cQ⟩:=aN;obtain⟨news,k1,k2,k3⟩:=X9T hs.1 bJ;have hr:=Xap (P:=P) (w:=w) (T:=T) (T2:=T2) (ty:=ty) (base:=a0) (n:=J xs) (cap:=J xs) (x:=a.eval y) (news:=news) (m:=0) hu hi (.inl (X5R bN)) (by rw[hsz];exact k1) (by omega);have hn0:news= #[]:=by
  grind [Xy]
 subst hn0;have gh:(Builtin.append_ #[T,T2] ty #[.slice a0 (J xs) (J xs),a.eval y]).run P w= .ok (.slice a0 (J xs) (J xs)) w:=by
  cases a0<;>simp_all [storeCells]
 grind [X7o]
def Xp7 {T:TypeId} (hx:S.ev x= .dx sz xs) (hT:cy P T=true)
  (hd:Nat.blt d S.n=true) (hg:XL ops S gd)
  (h:Walk P ops draw K rest ((J l,⟨some d,.call ⟨.builtin .len,#[x],#[T]⟩,ty,pos,ah,gd⟩,⟨XH ops gd++[(x,.dx sz xs)],some (d,ai (J xs)),[],[],[]⟩)::l) (S.set d (ai (J xs)))):
  Walk P ops draw K (⟨some d,.call ⟨.builtin .len,#[x],#[T]⟩,ty,pos,ah,gd⟩::rest) l S:=
 Yq h hg (Uk rfl fun E S g a w hs hq hl=>by
  obtain⟨e,h1⟩:=X5R hT;have:=hq.1;simp only[AVal.sat] at this;obtain⟨b,hv,_⟩:=this;refine⟨.int .i64 (J xs),?_,X0k rfl⟩;simp[execOp,resolve,invoke,builtin,hv,Builtin.len_,run_underlying h1,goInt]) ⟨⟨hx,TV⟩,TV,TV,hd⟩
theorem Inv.part {L':Nat->AObj} (hi:Inv E L g w) (sp:Nat->Prop) (hM:g'.M=g.M)
  (gR:∀k,¬sp k->L' k=L k/\g'.az k=g.az k/\g'.hd k=g.hd k/\g'.aI k=g.aI k)
  (bf:∀k cs us,¬sp k->(L k).says=cs->Xy g cs us->Xy g' cs us)
  (gU:∀k,sp k->Ud g' w k (L' k))
  (hlv:∀k b,sp k->Xw g' (L' k) k b->∃k',sp k'/\Xw g (L k') k' b)
  (hinj:∀k k' b,sp k->sp k'->Xw g' (L' k) k b->Xw g' (L' k') k' b->k=k')
  (hkp:∀k,sp k->k<100->g.keeps g' k):Inv E L' g' w:=by
 have hl:∀k b,¬sp k->(Xw g' (L' k) k b↔Xw g (L k) k b):=fun k b hk=>by
  grind [X5l]
 have oF:∀k b,Xw g' (L' k) k b->∃k',(sp k↔sp k')/\(¬sp k->k'=k)/\Xw g (L k') k' b:=by
  grind
 refine⟨fun k=> ?_,fun k k' b h h'=> ?_,fun a v h=> ?_,fun k b h a v ha=> ?_,fun k b h=> ?_,hM ▸ hi.ext,fun a v h=> ?_,hi.frame,hi.size,hi.os,hi.out,fun k hk=> ?_⟩
 ·by_cases hk:sp k
  ·exact gU k hk
  ·obtain⟨h1,h2,h3,h4⟩:=gR k hk;rw[h1];exact X8s (by grind [YN.refl]) h2 h3 h4 (fun _ _=>rfl) (fun cs us e hs=>bf k cs us hk e hs) (hi.obj k)
 ·by_cases hk:sp k
  ·by_cases hk':sp k'
   ·grind
   ·obtain⟨j,h1,h2⟩:=hlv k b hk h;have:=hi.inj _ _ _ h2 ((hl k' b hk').1 h')
    grind
  ·by_cases hk':sp k'
   ·obtain⟨j,h1,h2⟩:=hlv k' b hk' h';have:=hi.inj _ _ _ ((hl k b hk).1 h) h2
    grind
   ·exact hi.inj _ _ _ ((hl k b hk).1 h) ((hl k' b hk').1 h')
 ·rw[hM] at h;exact hi.mem a v h
 ·rw[hM] at ha;obtain⟨k',_,_,h2⟩:=oF k b h;exact hi.sep k' b h2 a v ha
 ·obtain⟨k',_,_,h2⟩:=oF k b h;exact hi.new k' b h2
 ·rw[hM] at h;exact hi.lim a v h
 ·by_cases hk':sp k
  ·exact(hi.kp k hk).trans' (hkp k hk' hk)
  ·obtain⟨_,h2,h3,h4⟩:=gR k hk';exact(hi.kp k hk).trans' (Gh.keeps_of h2 h3 h4)
theorem Xtv (h:S.free γ=true) (t:Nat):(S.get t).ment γ=false:=by
 grind [St.free,X88,St.get,Xgf,XgP,AVal.ment]
def Xdw (h:S.free γ=true):100<=γ:=by
 grind [St.free,Nat.ble_eq]
def X9X (hM:g'.M=g.M) (sp:Nat->Prop) (hsp:∀k,sp k->S.free k=true\/g.keeps g' k) (gR:∀k,¬sp k->g'.az k=g.az k/\g'.hd k=g.hd k/\g'.aI k=g.aI k)
  (h:∀t,(S.get t).sat g (a.tmps.getD t undef)):∀t,(S.get t).sat g' (a.tmps.getD t undef):=by grind [AVal.sat_mono,YN.refl,Xtv,Gh.keeps_of]
def XaE (hM:g'.M=g.M) (sp:Nat->Prop) (hsp:∀k,sp k->S.free k=true\/g.keeps g' k) (gR:∀k,¬sp k->g'.az k=g.az k/\g'.hd k=g.hd k/\g'.aI k=g.aI k)
  {k:Nat}{cs:List AVal}{us:List Value} (e:(S.obj k).says=cs) (h:Xy g cs us):Xy g' cs us:=
 X22 (by grind [YN.refl]) _ _ (fun γ hm=>by
  by_cases hk:sp γ
  ·rcases hsp γ hk with hf|hf
   ·have:=Xdx hf k
    grind [AObj.ment]
   ·exact hf
  grind [Gh.keeps_of]) h
def XcH {c:Code}{ι:Type} (T:ι->St) (I:ι->Prop) (h:∀E a w,holds E S a w->∃i,I i/\holds E (T i) a w) (k:∀i,I i->AWP P E c (T i) Q):AWP P E c S Q:=
 ⟨fun a w hs=>let ⟨i,hI,hi⟩:=h E a w hs;(k i hI).run a w hi⟩
def XlY {c:Code} (γ δ:Nat) {sz:Nat}{xs:List (List NC)} (hL:S.obj γ= .nest sz xs) (av:S.obj δ= .dead)
  (h:∀(rows:List (List D)) (hs:List Hd),J rows=J xs->X15 xs.flatten rows.flatten hs->(∀x∈rows,J x=sz)->AWP P E c ⟨S.n,S.τ,(γ,.row sz rows)::(δ,.bag hs)::S.L⟩ Q):AWP P E c S Q:=by
 refine XcH (ι:=List (List D)×List Hd) (fun i=>⟨S.n,S.τ,(γ,.row sz i.1)::(δ,.bag i.2)::S.L⟩) (fun i=>J i.1=J xs/\X15 xs.flatten i.1.flatten i.2/\∀x∈i.1,J x=sz) ?_ (fun i hi=>h i.1 i.2 hi.1 hi.2.1 hi.2.2);rintro E a w ⟨g,hs⟩;have hne:γ≠δ:=by grind
 have ho:=hs.1.obj γ;rw[hL] at ho;obtain⟨⟨rows,h1,h2,h3⟩,h4,h5⟩:=ho;refine⟨(rows,X4J (g.aI γ) xs),⟨h1,h2,h3.1⟩,g,?_,hs.2.1,hs.2.2.1,hs.2.2.2⟩;have b6:Xs .dead ((γ,AObj.row sz rows)::(δ,.bag (X4J (g.aI γ) xs))::S.L) γ= .row sz rows:=YK _ _ _ _;have qS:Xs .dead ((γ,AObj.row sz rows)::(δ,.bag (X4J (g.aI γ) xs))::S.L) δ= .bag (X4J (g.aI γ) xs):=by grind [YC,YK]
 refine Inv.part hs.1 (fun k=>k=γ\/k=δ) rfl (fun k hk=> ?_) (fun _ _ _ _ _ h=>h) (fun k hk=> ?_) (fun k b hk hb=> ?_) (fun k k' b hk hk' hb hb'=> ?_) (fun _ _ _=>Gh.keeps_refl _ _)
 ·grind [YC,St.obj]
 ·grind [Ud,St.obj]
 ·grind [Xw,St.obj]
 ·have key:∀b,Xw g (.row sz rows) γ b->Xw g (.bag (X4J (g.aI γ) xs)) δ b->False:=fun b hb ⟨q,hq,gY⟩=>h5 q hq b gY hb
  grind [St.obj]
def XoD (us:Nat->Value):∀(l:List (Nat×List (List D))) (j:Nat) (hs:List Hd),hs.map (·.2)=l->(∀i h,hs[i]? =some h->us (j+i)=h.1)->Xc3 us j l=hs
 |[],j,[],_,_=>rfl
 |[],j,h::hs,e,_=>by simp at e
 |p::l,j,[],e,_=>by simp at e
 |p::l,j,h::hs,e,hu=>by
  simp only[map_cons,cons.injEq] at e;rw[Xc3,XoD us l (j+1) hs e.2 fun i q hq=>by rw[show j+1+i=j+(i+1) by omega];exact hu (i+1) q (by simpa using hq)];have:=hu 0 h (by simp);rw[Nat.add_zero] at this;rw[this,<-e.1]
def Xgm:∀(cs:List NC) (ds:List D) (hs:List Hd),X15 cs ds hs->hs.map (·.2)=XbK cs
 |[],[],[],_=>rfl
 |[],[],_::_,h=>h.elim
 |[],_::_,_,h=>by simp[X15] at h
 | .d x::cs,[],hs,h=>by simp[X15] at h
 | .d x::cs,y::ds,hs,h=>Xgm cs ds hs h.2
 | .r z rows::cs,[],hs,h=>by simp[X15] at h
 | .r z rows::cs,y::ds,[],h=>by simp[X15] at h
 | .r z rows::cs,y::ds,k::hs,h=>by
  rw[map_cons,Xgm cs ds hs h.2.2,h.2.1];rfl
def XmZ (γ δ:Nat) {sz:Nat}{rows:List (List D)}{hs:List Hd} (xs:List (List NC)) (hL:S.obj γ= .row sz rows) (hB:S.obj δ= .bag hs) (hlen:J rows=J xs) (hres:X15 xs.flatten rows.flatten hs):
  S.le ⟨S.n,S.τ,(γ,.nest sz xs)::(δ,.dead)::S.L⟩:=by
 rintro E a w ⟨g,hg⟩;have hne:γ≠δ:=by grind
 have ho:=hg.1.obj γ;rw[hL] at ho;have hb0:=hg.1.obj δ;rw[hB] at hb0;have ho:UZ g w (g.hd γ) sz rows:=ho;have hb0:X1X g w hs:=hb0;let g':Gh:={g with aI:=fun k j=>if k=γ/\KK<=j then ((hs[j-KK]?).map (·.1)).getD undef else g.aI k j}
 have hH:X4J (g'.aI γ) xs=hs:=by
  refine XoD _ _ _ _ (Xgm _ _ _ hres) fun i h hi=> ?_;simp[g',hi]
 have hm:∀a m c,g.hd γ= .slice a m c->m<=KK:=by
  grind [maxLen,KK,UZ]
 have b8:g.keeps g' γ:=⟨rfl,.inl rfl,fun i a m c e hi=>by
  grind⟩
 have oG:∀k,k≠γ->g'.az k=g.az k/\g'.hd k=g.hd k/\g'.aI k=g.aI k:=fun k hk=>⟨rfl,rfl,by grind⟩
 have b6:Xs .dead ((γ,AObj.nest sz xs)::(δ,.dead)::S.L) γ= .nest sz xs:=YK _ _ _ _;have qS:Xs .dead ((γ,AObj.nest sz xs)::(δ,.dead)::S.L) δ= .dead:=by grind [YC,YK]
 refine⟨g',Inv.part hg.1 (fun k=>k=γ\/k=δ) rfl (fun k hk=> ?_) (fun k cs us _ e h=>XaE (S:=S) (g:=g) (g':=g') rfl (fun k=>k=γ) (fun k e=> .inr (e ▸ b8)) oG e h) (fun k hk=> ?_) (fun k b hk hb=> ?_) (fun k k' b hk hk' hb hb'=> ?_) (fun k hk _=> ?_),hg.2.1,hg.2.2.1,X9X (g:=g) (g':=g') rfl (fun k=>k=γ) (fun k e=> .inr (e ▸ b8)) oG hg.2.2.2⟩
 ·grind [YC,St.obj]
 ·show Ud _ _ _ (Xs _ _ _);rcases hk with rfl|rfl
  ·rw[b6];refine⟨⟨rows,hlen,by rw[hH];exact hres,X4M (g:=g) (g':=g') (YN.refl _) (fun _ _=>rfl) ho⟩,by grind [XgE,YN.refl],fun q hq b gY hb=> ?_⟩;rw[hH] at hq;exact hne (hg.1.inj _ _ b (by rw[hL];exact hb) (by grind [Xw]))
  ·rw[qS];trivial
 ·grind [Xw,St.obj]
 ·grind [Xw,St.obj]
 grind [Gh.keeps_of]
theorem Xcq {cs:List AVal} (h:Xy g cs us) {j:Nat}{x:AVal} (hx:∀u,us[j]? =some u->x.sat g u):Xy g (cs.set j x) us:=by
 grind [V6,X4k,X07]
theorem Xjo:∀(us:List Value),Xy g (replicate (J us) .any) us
 :=by intro x;induction x<;>simp_all [Xy,replicate_succ,AVal.sat]
theorem X2F (hk:k≠γ):(g.put γ b h).az k=g.az k/\(g.put γ b h).hd k=g.hd k/\(g.put γ b h).aI k=g.aI k:=⟨by simp[Gh.put,hk],by simp[Gh.put,hk],rfl⟩
def Xi5 (hs:Vr E S g a w) {γ β sz:Nat}{xs:List (List D)} (hL:S.obj γ= .row sz xs) (hne:0<J xs) (av:S.obj β= .dead) (hf:S.free β=true):
  ∃c k b,J xs<=c/\c<=maxLen/\c*sz<=J xs*sz+k/\(∀x∈xs,J x=sz)/\g.hd γ= .slice (some ⟨b,0,none⟩) (J xs) c/\
   Vr E ⟨S.n,S.τ,(γ,.dead)::(β,.raw (xs.flatten.map some++replicate k none) none)::S.L⟩ (g.put β b undef) a w:=by
 have lZ:γ≠β:=by grind
 have ho:=hs.1.obj γ;rw[hL] at ho;have ho:UZ g w (g.hd γ) sz xs:=ho;rcases ho.2 with ⟨_,rfl⟩|⟨b,c,vs,e,fr,h1,h2,h3,h4,h5,h6,h7⟩
 ·simp at hne
 have nr:=X2m xs ho.1;have hle:J xs*sz<=vs.size:=Nat.le_trans (Nat.mul_le_mul_right _ h2) h6;refine⟨c,vs.size-J xs*sz,b,h2,h3,by omega,ho.1,h1,?_⟩;generalize hcs:xs.flatten.map some++replicate (vs.size-J xs*sz) none=cs;have bf:Xy g (Yj cs none) vs.toList:=by
  rw[<-hcs,<-take_append_drop (J xs*sz) vs.toList];have e1:Yj (xs.flatten.map some++replicate (vs.size-J xs*sz) none) none=xs.flatten.map AVal.d++replicate (vs.size-J xs*sz) .any:=by
   simp only[Yj,map_append,map_map,map_replicate];rfl
  grind [X4D,Xjo,LD]
 have gm:Xs .dead ((γ,AObj.dead)::(β,.raw cs none)::S.L) γ= .dead:=YK _ _ _ _;have jy:Xs .dead ((γ,AObj.dead)::(β,.raw cs none)::S.L) β= .raw cs none:=by grind [YC,YK]
 have oH:(g.put β b undef).az β=b:=by simp[Gh.put]
 refine⟨Inv.part hs.1 (fun k=>k=γ\/k=β) rfl (fun k hk=> ?_) (fun k cs us _ e h=>XaE (S:=S) (g:=g) (g':=g.put β b undef) rfl (fun k=>k=β) (fun k e=> .inl (e ▸ hf)) (fun k hk=>X2F hk) e h) (fun k hk=> ?_) (fun k b' hk hb=> ?_) (fun k k' b' hk hk' hb hb'=> ?_) (fun k hk gZ=> ?_),hs.2.1,hs.2.2.1,X9X (S:=S) (g:=g) (g':=g.put β b undef) rfl (fun k=>k=β) (fun k e=> .inl (e ▸ hf)) (fun k hk=>X2F hk) hs.2.2.2⟩
 ·grind [YC,St.obj,Gh.put]
 ·show Ud _ _ _ (Xs _ _ _);rcases hk with rfl|rfl
  ·rw[gm];trivial
  ·rw[jy];exact⟨vs,e,fr,by rw[oH];exact h4,h5,Xg9 (g:=g) (g':=g.put k b undef) (YN.refl _) (fun vs h=>by cases vs<;>exact h) bf⟩
 ·replace hb:Xw _ (Xs _ _ _) k b':=hb;rcases hk with rfl|rfl
  ·grind [Xw]
  ·rw[jy] at hb;refine⟨γ,.inl rfl,?_⟩;rw[hL];replace hb:(g.put k b undef).az k=b':=hb;rw[oH] at hb;subst hb;exact⟨_,_,_,h1,rfl⟩
 ·grind [Xw,St.obj]
 ·rcases hk with rfl|rfl
  ·grind [Gh.keeps_of,X2F]
  ·have:=Xdw hf;omega
def X3J (t γ β:Nat) {sz n:Nat}{xs:List (List D)} (hL:S.obj γ= .row sz xs) (hne:0<J xs) (ht:S.get t= .own γ n) (hn:n=J xs) (av:S.obj β= .dead) (hf:S.free β=true)
  (h:∀c k:Nat,J xs<=c->c<=maxLen->c*sz<=J xs*sz+k->(∀x∈xs,J x=sz)->AWP P E cd ⟨S.n,(t,.rs β 0 n c)::S.τ,(γ,.dead)::(β,.raw (xs.flatten.map some++replicate k none) none)::S.L⟩ Q):AWP P E cd S Q:=by
 refine XcH (ι:=Nat×Nat) (fun i=>⟨S.n,(t,.rs β 0 n i.1)::S.τ,(γ,.dead)::(β,.raw (xs.flatten.map some++replicate i.2 none) none)::S.L⟩) (fun i=>J xs<=i.1/\i.1<=maxLen/\i.1*sz<=J xs*sz+i.2/\∀x∈xs,J x=sz) ?_ (fun i hi=>h i.1 i.2 hi.1 hi.2.1 hi.2.2.1 hi.2.2.2);rintro E a w ⟨g,hs⟩;obtain⟨c,k,b,h1,h2,h3,h4,h5,h6⟩:=Xi5 hs hL hne av hf;refine⟨(c,k),⟨h1,h2,h3,h4⟩,_,h6.1,h6.2.1,h6.2.2.1,fun t'=> ?_⟩;by_cases oZ:t'=t
 ·subst oZ;show AVal.sat _ (Xs .any ((t',_)::S.τ) t') _;rw[YK]
  grind [AVal.sat,Gh.put,Vr]
 grind [YC,St.get,Vr]
def Xp8 (hs:Vr E S g a w) {κ i:Nat}{bs:List AVal}{y:AVal} (hK:S.obj κ= .box bs) {x:AVal} (hi:bs[i]? =some x) (hx:∀u,x.sat g u->y.sat g u) (hy:y.cellish=true):
  Vr E ⟨S.n,S.τ,(κ,.box (bs.set i y))::S.L⟩ g a w:=by
 have ho:=hs.1.obj κ;rw[hK] at ho;obtain⟨vs,e,fr,h1,h2,h3,h4⟩:=ho;refine⟨Inv.upd hs.1 κ _ (YK _ _ _ _) (fun k hk=>YC _ _ _ (Ne.symm hk)) (fun _ _ _=>rfl) (Nat.le_refl _) rfl rfl rfl (fun _ _=>⟨rfl,rfl,rfl⟩) (fun _ _ _ _ _ h=>h) ?_ (fun b hb'=> .inl (by rw[hK];exact hb')) (fun _=>Gh.keeps_refl _ _),hs.2.1,hs.2.2.1,hs.2.2.2⟩
 grind [Xcq,X07,Ud]
def X3T (κ i γ β:Nat) {sz n:Nat}{xs:List (List D)}{bs:List AVal} (hL:S.obj γ= .row sz xs) (hne:0<J xs) (hK:S.obj κ= .box bs) (hi:bs[i]? =some (.own γ n)) (hn:n=J xs) (av:S.obj β= .dead) (hf:S.free β=true)
  (h:∀c k:Nat,J xs<=c->c<=maxLen->c*sz<=J xs*sz+k->(∀x∈xs,J x=sz)->AWP P E cd ⟨S.n,S.τ,(κ,.box (bs.set i (.rs β 0 n c)))::(γ,.dead)::(β,.raw (xs.flatten.map some++replicate k none) none)::S.L⟩ Q):AWP P E cd S Q:=by
 refine XcH (ι:=Nat×Nat) (fun j=>⟨S.n,S.τ,(κ,.box (bs.set i (.rs β 0 n j.1)))::(γ,.dead)::(β,.raw (xs.flatten.map some++replicate j.2 none) none)::S.L⟩) (fun i=>J xs<=i.1/\i.1<=maxLen/\i.1*sz<=J xs*sz+i.2/\∀x∈xs,J x=sz) ?_ (fun i hi=>h i.1 i.2 hi.1 hi.2.1 hi.2.2.1 hi.2.2.2);rintro E a w ⟨g,hs⟩;have p9:κ≠γ:=by grind
 have pg:κ≠β:=by grind
 obtain⟨c,k,b,h1,h2,h3,h4,h5,h6⟩:=Xi5 hs hL hne av hf;refine⟨(c,k),⟨h1,h2,h3,h4⟩,g.put β b undef,?_⟩;refine Xp8 (bs:=bs) h6 (show Xs _ _ _=_ by grind [YC,St.obj]) hi (fun u hu=> ?_) rfl;have lZ:γ≠β:=by grind
 simp only[AVal.sat] at hu |-;obtain⟨_,a',m,c',q1,q2,q3⟩:=hu
 grind [Gh.put]
def Xkh (hs:Vr E S g a w) {γ β sz n c:Nat}{cs:List (Option D)}{ys:List (List D)} (hL:S.obj β= .raw cs none) (hcs:cs.take (n*sz)=ys.flatten.map some) (hys:J ys=n) (hsz:∀y∈ys,J y=sz) (hc:n<=c) (fk:c<=maxLen) (hcap:c*sz<=J cs)
  (av:S.obj γ= .dead) (hf:S.free γ=true):Vr E ⟨S.n,S.τ,(β,.dead)::(γ,.row sz ys)::S.L⟩ (g.put γ 0 (.slice (some ⟨g.az β,0,none⟩) n c)) a w:=by
 have lZ:β≠γ:=by grind
 have ho:=hs.1.obj β;rw[hL] at ho;obtain⟨vs,e,fr,h1,h2,h3⟩:=ho;have hvl:vs.size=J cs:=by have:=V6 h3;grind [Yj]
 have jy:Xs .dead ((β,AObj.dead)::(γ,.row sz ys)::S.L) β= .dead:=YK _ _ _ _;have gm:Xs .dead ((β,AObj.dead)::(γ,.row sz ys)::S.L) γ= .row sz ys:=by grind [YC,YK]
 have cN:(g.put γ 0 (.slice (some ⟨g.az β,0,none⟩) n c)).hd γ= .slice (some ⟨g.az β,0,none⟩) n c:=by simp[Gh.put]
 refine⟨Inv.part hs.1 (fun k=>k=β\/k=γ) rfl (fun k hk=> ?_) (fun k cs us _ e h=>XaE (S:=S) (g:=g) (g':=g.put γ 0 (.slice (some ⟨g.az β,0,none⟩) n c)) rfl (fun k=>k=γ) (fun k e=> .inl (e ▸ hf)) (fun k hk=>X2F hk) e h) (fun k hk=> ?_) (fun k b' hk hb=> ?_) (fun k k' b' hk hk' hb hb'=> ?_) (fun k hk gZ=> ?_),hs.2.1,hs.2.2.1,X9X (S:=S) (g:=g) (g':=g.put γ 0 (.slice (some ⟨g.az β,0,none⟩) n c)) rfl (fun k=>k=γ) (fun k e=> .inl (e ▸ hf)) (fun k hk=>X2F hk) hs.2.2.2⟩
 ·grind [YC,St.obj,Gh.put]
 ·show Ud _ _ _ (Xs _ _ _);rcases hk with rfl|rfl
  ·rw[jy];trivial
  ·rw[gm];refine⟨hsz,.inr ⟨g.az β,c,vs,e,fr,by rw[cN,hys],by omega,fk,h1,h2,by omega,?_⟩⟩;have ny:=X3G h3 (n*sz);rw[Yj,<-map_take,hcs,map_map] at ny;rw[hys];exact X22 (g:=g) (g':=g.put k 0 (.slice (some ⟨g.az β,0,none⟩) n c)) (YN.refl _) _ _ (fun j hj=>by grind [XdE]) ny
 ·replace hb:Xw _ (Xs _ _ _) k b':=hb;rcases hk with rfl|rfl
  ·grind [Xw]
  ·rw[gm] at hb;refine⟨β,.inl rfl,?_⟩;rw[hL];obtain⟨a1,n1,c1,e1,e2⟩:=hb
   grind [Xw]
 ·grind [Xw,St.obj]
 ·rcases hk with rfl|rfl
  ·grind [Gh.keeps_of,X2F]
  ·have:=Xdw hf;omega
def X1x (t β γ:Nat) {sz n c:Nat}{cs:List (Option D)} (ys:List (List D)) (hL:S.obj β= .raw cs none) (ht:S.get t= .rs β 0 n c) (hcs:cs.take (n*sz)=ys.flatten.map some) (hys:J ys=n) (hsz:∀y∈ys,J y=sz) (hc:n<=c) (fk:c<=maxLen) (hcap:c*sz<=J cs)
  (av:S.obj γ= .dead) (hf:S.free γ=true):S.le ⟨S.n,(t,.own γ n)::S.τ,(β,.dead)::(γ,.row sz ys)::S.L⟩:=by
 rintro E a w ⟨g,hs⟩;have h6:=Xkh hs hL hcs hys hsz hc fk hcap av hf;refine⟨_,h6.1,h6.2.1,h6.2.2.1,fun t'=> ?_⟩;by_cases oZ:t'=t
 ·subst oZ;show AVal.sat _ (Xs .any ((t',_)::S.τ) t') _;rw[YK];have hv:=hs.2.2.2 t';rw[ht] at hv;simp only[AVal.sat] at hv |-;rw[hv];exact⟨rfl,_,n,c,by grind [Gh.put],Nat.le_refl _,fun _=>rfl⟩
 grind [YC,St.get,Vr]
def X8O (κ i β γ:Nat) {sz n c:Nat}{cs:List (Option D)}{bs:List AVal} (ys:List (List D)) (hL:S.obj β= .raw cs none) (hK:S.obj κ= .box bs) (hi:bs[i]? =some (.rs β 0 n c)) (hcs:cs.take (n*sz)=ys.flatten.map some) (hys:J ys=n) (hsz:∀y∈ys,J y=sz) (hc:n<=c) (fk:c<=maxLen) (hcap:c*sz<=J cs)
  (av:S.obj γ= .dead) (hf:S.free γ=true):S.le ⟨S.n,S.τ,(κ,.box (bs.set i (.own γ n)))::(β,.dead)::(γ,.row sz ys)::S.L⟩:=by
 rintro E a w ⟨g,hs⟩;have pg:κ≠β:=by grind
 have p9:κ≠γ:=by grind
 have iS:β≠γ:=by grind
 have h6:=Xkh hs hL hcs hys hsz hc fk hcap av hf;refine⟨_,Xp8 (bs:=bs) h6 (show Xs _ _ _=_ by grind [YC,St.obj]) hi (fun u hu=> ?_) rfl⟩;simp only[AVal.sat] at hu |-;rw[hu,(X2F iS).1];exact⟨rfl,_,n,c,by grind [Gh.put],Nat.le_refl _,fun _=>rfl⟩
theorem XjB {h:Hd} (hb:X1X g w (A++h::B)):X1X g w (A++B)/\UZ g w h.1 h.2.1 h.2.2/\∀q∈A++B,∀b,U0 q.1 b->¬U0 h.1 b:=by
 obtain⟨h1,h2⟩:=hb;obtain⟨p1,p2,p3⟩:=pairwise_append.1 h2;obtain⟨p4,p5⟩:=pairwise_cons.1 p2;refine⟨⟨fun k hk=>h1 k ?_,pairwise_append.2 ⟨p1,p5,fun a ha b hb=>p3 a ha b (mem_cons_of_mem _ hb)⟩⟩,h1 h (by simp),fun q hq b gY vq=> ?_⟩<;>grind
def XoW {h:Hd} (hb:X1X g w (A++B)) (hr:UZ g w h.1 h.2.1 h.2.2) (ha:∀q∈A++B,∀b,U0 q.1 b->¬U0 h.1 b):X1X g w (A++h::B):=by
 obtain⟨h1,h2⟩:=hb;obtain⟨p1,p2,p3⟩:=pairwise_append.1 h2;refine⟨fun k hk=> ?_,pairwise_append.2 ⟨p1,pairwise_cons.2 ⟨fun q hq b hb gY=>ha q (mem_append_right _ hq) b gY hb,p2⟩,fun a gJ b hb=> ?_⟩⟩<;>grind
def XiI (hr:UZ g w h sz xs):∃a c,h= .slice a (J xs) c:=by
 grind [UZ]
def X5S (β δ j γ:Nat) {cs:List (Option D)}{A B:List Hd}{u:Value}{z:Nat}{rows:List (List D)} (hL:S.obj β= .raw cs none) (hj:cs[j]? =some (some (.v u))) (hB:S.obj δ= .bag (A++(u,z,rows)::B)) (av:S.obj γ= .dead) (hf:S.free γ=true):
  S.le ⟨S.n,S.τ,(β,.raw cs (some (j,.own γ (J rows))))::(δ,.bag (A++B))::(γ,.row z rows)::S.L⟩:=by
 rintro E a w ⟨g,hs⟩;have iT:β≠δ:=by grind
 have iS:β≠γ:=by grind
 have m5:δ≠γ:=by grind
 have ho:=hs.1.obj β;rw[hL] at ho;have hb:=hs.1.obj δ;rw[hB] at hb;obtain⟨b1,b2,b3⟩:=XjB (show X1X g w (A++(u,z,rows)::B) from hb);have b2:UZ g w u z rows:=b2;obtain⟨ua,uc,hu⟩:=XiI b2;have cN:(g.put γ 0 u).hd γ=u:=by simp[Gh.put]
 have jy:Xs .dead ((β,AObj.raw cs (some (j,.own γ (J rows))))::(δ,.bag (A++B))::(γ,.row z rows)::S.L) β= .raw cs (some (j,.own γ (J rows))):=YK _ _ _ _;have m6:Xs .dead ((β,AObj.raw cs (some (j,.own γ (J rows))))::(δ,.bag (A++B))::(γ,.row z rows)::S.L) δ= .bag (A++B):=by grind [YC,YK]
 have gm:Xs .dead ((β,AObj.raw cs (some (j,.own γ (J rows))))::(δ,.bag (A++B))::(γ,.row z rows)::S.L) γ= .row z rows:=by grind [YC,YK]
 refine⟨g.put γ 0 u,Inv.part hs.1 (fun k=>k=β\/k=δ\/k=γ) rfl (fun k hk=> ?_) (fun k cs us _ e h=>XaE (S:=S) (g:=g) (g':=g.put γ 0 u) rfl (fun k=>k=γ) (fun k e=> .inl (e ▸ hf)) (fun k hk=>X2F hk) e h) (fun k hk=> ?_) (fun k b hk hb=> ?_) (fun k k' b hk hk' hb hb'=> ?_) (fun k hk gZ=> ?_),hs.2.1,hs.2.2.1,X9X (S:=S) (g:=g) (g':=g.put γ 0 u) rfl (fun k=>k=γ) (fun k e=> .inl (e ▸ hf)) (fun k hk=>X2F hk) hs.2.2.2⟩
 ·grind [YC,St.obj,Gh.put]
 ·show Ud _ _ _ (Xs _ _ _);rcases hk with rfl|rfl|rfl
  ·rw[jy];obtain⟨vs,e,fr,h1,h2,h3⟩:=ho;refine⟨vs,e,fr,by grind [X2F],h2,?_⟩;have ny:=Xg9 (g:=g) (g':=g.put γ 0 u) (YN.refl _) (fun vs h=>by cases vs<;>exact h) h3;refine Xcq ny fun v hv=> ?_;obtain⟨v',q1,q2⟩:=X07 h3 j (.d (.v u)) (by simp only[Yj,getElem?_map,hj];rfl)
   grind [AVal.sat,D.rep]
  ·grind [XgE,YN.refl,Ud,Gh.put]
  grind [X4M,YN.refl,Ud,Gh.put]
 ·replace hb:Xw _ (Xs _ _ _) k b:=hb;rcases hk with rfl|rfl|rfl
  ·grind [Xw,Gh.put]
  ·rw[m6] at hb;obtain⟨q,hq,gY⟩:=hb
   grind [Xw]
  ·rw[gm] at hb;replace hb:U0 ((g.put k 0 u).hd k) b:=hb;rw[cN] at hb;exact⟨δ,.inr (.inl rfl),by rw[hB];exact⟨(u,z,rows),by simp,hb⟩⟩
 ·have hold:∀k b,k=δ\/k=γ->Xw (g.put γ 0 u) (Xs .dead ((β,AObj.raw cs (some (j,.own γ (J rows))))::(δ,.bag (A++B))::(γ,.row z rows)::S.L) k) k b->Xw g (S.obj δ) δ b:=by
   intro k b hk hb;rw[hB];rcases hk with rfl|rfl
   ·rw[m6] at hb;obtain⟨q,hq,gY⟩:=hb
    grind [Xw]
   ·rw[gm] at hb;replace hb:U0 ((g.put k 0 u).hd k) b:=hb;rw[cN] at hb;exact⟨(u,z,rows),by simp,hb⟩
  have kZ:∀b,Xw (g.put γ 0 u) (Xs .dead ((β,AObj.raw cs (some (j,.own γ (J rows))))::(δ,.bag (A++B))::(γ,.row z rows)::S.L) β) β b->Xw g (S.obj β) β b:=by
   grind [Xw,Gh.put]
  have td:∀b,Xw (g.put γ 0 u) (Xs .dead ((β,AObj.raw cs (some (j,.own γ (J rows))))::(δ,.bag (A++B))::(γ,.row z rows)::S.L) δ) δ b->Xw (g.put γ 0 u) (Xs .dead ((β,AObj.raw cs (some (j,.own γ (J rows))))::(δ,.bag (A++B))::(γ,.row z rows)::S.L) γ) γ b->False:=by
   intro b hb hb';rw[m6] at hb;rw[gm] at hb';replace hb':U0 ((g.put γ 0 u).hd γ) b:=hb';rw[cN] at hb';obtain⟨q,hq,gY⟩:=hb
   grind
  replace hb:Xw _ (Xs _ _ _) k b:=hb;replace hb':Xw _ (Xs _ _ _) k' b:=hb';rcases hk with rfl|hk
  ·rcases hk' with rfl|hk'
   ·rfl
   ·exact absurd (hs.1.inj _ _ b (kZ b hb) (hold k' b hk' hb')) iT
  ·rcases hk' with rfl|hk'
   ·exact absurd (hs.1.inj _ _ b (kZ b hb') (hold k b hk hb)) iT
   grind
 ·rcases hk with rfl|rfl|rfl
  ·grind [Gh.keeps_of,X2F]
  ·grind [Gh.keeps_of,X2F]
  ·have:=Xdw hf;omega
def Xn4 (β δ j γ:Nat) {cs:List (Option D)} (A B:List Hd) {z n:Nat}{rows:List (List D)} (hL:S.obj β= .raw cs (some (j,.own γ n))) (hj:j<J cs) (hB:S.obj δ= .bag (A++B)) (hr:S.obj γ= .row z rows) (hn:n=J rows) (hs:holds E S a w):
  ∃u:Value,holds E ⟨S.n,S.τ,(β,.raw (cs.set j (some (.v u))) none)::(δ,.bag (A++(u,z,rows)::B))::(γ,.dead)::S.L⟩ a w:=by
 obtain⟨g,hs⟩:=hs;have iT:β≠δ:=by grind
 have iS:β≠γ:=by grind
 have m5:δ≠γ:=by grind
 have ho:=hs.1.obj β;rw[hL] at ho;have hb:=hs.1.obj δ;rw[hB] at hb;have dM:=hs.1.obj γ;rw[hr] at dM;have hrow:UZ g w (g.hd γ) z rows:=dM;refine⟨g.hd γ,g,?_,hs.2.1,hs.2.2.1,hs.2.2.2⟩;have jy:Xs .dead ((β,AObj.raw (cs.set j (some (.v (g.hd γ)))) none)::(δ,.bag (A++(g.hd γ,z,rows)::B))::(γ,.dead)::S.L) β= .raw (cs.set j (some (.v (g.hd γ)))) none:=YK _ _ _ _;have m6:Xs .dead ((β,AObj.raw (cs.set j (some (.v (g.hd γ)))) none)::(δ,.bag (A++(g.hd γ,z,rows)::B))::(γ,.dead)::S.L) δ= .bag (A++(g.hd γ,z,rows)::B):=by grind [YC,YK]
 have gm:Xs .dead ((β,AObj.raw (cs.set j (some (.v (g.hd γ)))) none)::(δ,.bag (A++(g.hd γ,z,rows)::B))::(γ,.dead)::S.L) γ= .dead:=by grind [YC,YK]
 have nA:∀q∈A++B,∀b,U0 q.1 b->¬U0 (g.hd γ) b:=fun q hq b gY hb'=>m5 (hs.1.inj _ _ b (by grind [Xw]) (by rw[hr];exact hb'));have qT:∀b,Xw g (.bag (A++(g.hd γ,z,rows)::B)) δ b->Xw g (S.obj δ) δ b\/Xw g (S.obj γ) γ b:=by
  rintro b ⟨q,hq,gY⟩
  grind [Xw]
 refine Inv.part hs.1 (fun k=>k=β\/k=δ\/k=γ) rfl (fun k hk=> ?_) (fun k cs us _ e h=>h) (fun k hk=> ?_) (fun k b hk hb=> ?_) (fun k k' b hk hk' hb hb'=> ?_) (fun k hk gZ=>Gh.keeps_refl _ _)
 ·grind [YC,St.obj]
 ·show Ud _ _ _ (Xs _ _ _);rcases hk with rfl|rfl|rfl
  ·rw[jy];obtain⟨vs,e,fr,h1,h2,h3⟩:=ho;refine⟨vs,e,fr,h1,h2,?_⟩;have e1:Yj (cs.set j (some (.v (g.hd γ)))) none=(Yj cs (some (j,.own γ n))).set j (.d (.v (g.hd γ))):=by
    simp only[Yj,map_set,set_set];rfl
   grind [Xcq,X07,Yj,getElem?_set_self,X41,AVal.sat,X0k]
  ·rw[m6];exact XoW hb hrow nA
  ·rw[gm];trivial
 ·grind [Xw,St.obj]
 ·have key:∀b,Xw g (.raw (cs.set j (some (.v (g.hd γ)))) none) β b->Xw g (.bag (A++(g.hd γ,z,rows)::B)) δ b->False:=by
   intro b q1 q2;have q1:Xw g (S.obj β) β b:=by rw[hL];exact q1
   rcases qT b q2 with q|q
   ·exact iT (hs.1.inj _ _ b q1 q)
   ·exact iS (hs.1.inj _ _ b q1 q)
  grind [Xw,St.obj]
def Xfe (β δ j γ:Nat) {cs:List (Option D)} (A B:List Hd) {z n:Nat}{rows:List (List D)} (hL:S.obj β= .raw cs (some (j,.own γ n))) (hj:j<J cs) (hB:S.obj δ= .bag (A++B)) (hr:S.obj γ= .row z rows) (hn:n=J rows)
  (h:∀u:Value,AWP P E cd ⟨S.n,S.τ,(β,.raw (cs.set j (some (.v u))) none)::(δ,.bag (A++(u,z,rows)::B))::(γ,.dead)::S.L⟩ Q):AWP P E cd S Q:=
 XcH (ι:=Value) (fun u=>⟨S.n,S.τ,(β,.raw (cs.set j (some (.v u))) none)::(δ,.bag (A++(u,z,rows)::B))::(γ,.dead)::S.L⟩) (fun _=>True) (fun E a w hs=>let ⟨u,hu⟩:=Xn4 β δ j γ A B hL hj hB hr hn hs;⟨u,TV,hu⟩) (fun u _=>h u)
theorem Xn8 (δ:Nat) {hs:List Hd} (hs':List Hd) (hB:S.obj δ= .bag hs) (h:∀g w,X1X g w hs->X1X g w hs') (hl:∀q∈hs',q∈hs\/∀b,¬U0 q.1 b):S.le ⟨S.n,S.τ,(δ,.bag hs')::S.L⟩:=by
 rintro E a w ⟨g,hg⟩;have hb:=hg.1.obj δ;rw[hB] at hb;refine⟨g,Inv.upd hg.1 δ _ (YK _ _ _ _) (fun k hk=>YC _ _ _ (Ne.symm hk)) (fun _ _ _=>rfl) (Nat.le_refl _) rfl rfl rfl (fun _ _=>⟨rfl,rfl,rfl⟩) (fun _ _ _ _ _ h=>h) (h g w hb) (fun b hb'=> .inl ?_) (fun _=>Gh.keeps_refl _ _),hg.2.1,hg.2.2.1,hg.2.2.2⟩;obtain⟨q,hq,gY⟩:=hb'
 grind [Xw]
theorem XkM (b:Nat):¬U0 (.slice none 0 0) b:=by
 grind [U0]
def Xfv (δ z:Nat) (A B:List Hd) (hB:S.obj δ= .bag (A++B)):S.le ⟨S.n,S.τ,(δ,.bag (A++(.slice none 0 0,z,[])::B))::S.L⟩:=
 Xn8 δ _ hB (fun g w h=>XoW h ⟨by simp,.inl ⟨rfl,rfl⟩⟩ (fun q _ b _=>XkM b)) (fun q hq=>by
  grind [XkM])
def Xhq (δ:Nat) (A B:List Hd) (h:Hd) (hB:S.obj δ= .bag (A++h::B)):S.le ⟨S.n,S.τ,(δ,.bag (A++B))::S.L⟩:=by grind [Xn8,XjB]
def Xdi (δ:Nat) (av:S.obj δ= .dead):S.le ⟨S.n,S.τ,(δ,.bag [])::S.L⟩:=by
 rintro E a w ⟨g,hg⟩;refine⟨g,Inv.upd hg.1 δ _ (YK _ _ _ _) (fun k hk=>YC _ _ _ (Ne.symm hk)) (fun _ _ _=>rfl) (Nat.le_refl _) rfl rfl rfl (fun _ _=>⟨rfl,rfl,rfl⟩) (fun _ _ _ _ _ h=>h) ⟨by simp,Pairwise.nil⟩ (fun b hb'=> ?_) (fun _=>Gh.keeps_refl _ _),hg.2.1,hg.2.2.1,hg.2.2.2⟩
 grind [Xw]
def clo (E:Env) (Q:Exit->St->Prop) (e:Exit) (T:St):Prop:=∀a w,holds E T a w->∃U,Q e U/\holds E U a w
def Xdv (h:AWP P E cd S (clo E Q)):AWP P E cd S Q:=
 ⟨fun a w hs=>wp_mono (h.run a w hs) fun e a' w' ⟨T,h1,h2⟩=>h1 a' w' h2⟩
def X3D (h:S.le T) (k:clo E Q e T):clo E Q e S:=fun a w hs=>k a w (h E a w hs)
def XcL (h:Q e S):clo E Q e S:=fun a w hs=>⟨S,h,hs⟩
def Xcn (β δ j γ:Nat) {cs:List (Option D)} (A B:List Hd) {z n:Nat}{rows:List (List D)} (hL:S.obj β= .raw cs (some (j,.own γ n))) (hj:j<J cs) (hB:S.obj δ= .bag (A++B)) (hr:S.obj γ= .row z rows) (hn:n=J rows)
  (h:∀u:Value,clo E Q e ⟨S.n,S.τ,(β,.raw (cs.set j (some (.v u))) none)::(δ,.bag (A++(u,z,rows)::B))::(γ,.dead)::S.L⟩):clo E Q e S:=fun a w hs=>
 let ⟨u,hu⟩:=Xn4 β δ j γ A B hL hj hB hr hn hs
 h u a w hu
section
variable {P:Program}
def XnP (hi:Inv E S.obj g w) {β o:Nat}{cs cs':List (Option D)}{ho ho':Option (Nat×AVal)}{ys:List AVal} (hL:S.obj β= .raw cs ho) {news:Array Value} (hs:Xy g ys news.toList) (h1:∀u∈news.toList,u.oneCell'=true) (hb:o+J ys<=J cs)
  (hc:Yj cs' ho'=(Yj cs ho).take o++ys++(Yj cs ho).drop (o+J ys)):
  ∃w',(storeCells ⟨g.az β,o,none⟩ news.toList).run P w= .ok () w'/\Inv E (Xs .dead ((β,.raw cs' ho')::S.L)) g w':=by
 have gX:=hi.obj β;rw[hL] at gX;obtain⟨vs,e,fr,h2,h3,h4⟩:=gX;have hlen:J news.toList=J ys:=V6 hs;have hrl:J (Yj cs ho)=J cs:=by cases ho<;>simp[Yj]
 have hvl:vs.size=J cs:=by have:=V6 h4;grind
 obtain⟨vs',k1,k2⟩:=X6W (P:=P) (g.az β) e fr vs.size h3 news.toList o 0 vs w h2 rfl (by rw[hlen];omega) h1;simp only[Nat.add_zero,hlen] at k1 k2;have lS:vs'.size=vs.size:=by
  grind [LA]
 refine⟨w.setRow (g.az β) vs',k1,Inv.upd hi β _ (YK _ _ _ _) (fun k hk=>YC _ _ _ (Ne.symm hk)) (fun b hb ax=> ?_) (by simp) rfl rfl rfl (fun k hk=>⟨rfl,rfl,rfl⟩) (fun k cs us _ _ h=>h) ?_ (fun b hb=> .inl (by rw[hL];exact hb)) (fun _=>Gh.keeps_refl _ _)⟩
 ·grind [setRow_other,Xw]
 ·refine⟨vs',e,fr,setRow_heap w _ vs _ e fr h2,by rw[lS];exact h3,?_⟩
  grind [X4D,X3G,X5d]
def XcG (hi:Inv E S.obj g w) {β o:Nat}{cs ys:List (Option D)} (hL:S.obj β= .raw cs none) {news:Array Value} (hs:Xy g (ys.map oA) news.toList) (h1:∀u∈news.toList,u.oneCell'=true) (hb:o+J ys<=J cs):
  ∃w',(storeCells ⟨g.az β,o,none⟩ news.toList).run P w= .ok () w'/\Inv E (Xs .dead ((β,.raw (cs.take o++ys++cs.drop (o+J ys)) none)::S.L)) g w':=
 XnP hi hL hs h1 (by grind) (by grind [Yj,map_take,map_drop])
def Xhm {q:Nat} (ho:Ud g w β (.raw cs none)) (hb:o+q<=J cs):
  ∃vs:List Value,J vs=q/\Xy g (((cs.drop o).take q).map oA) vs/\∀w',w'.heap=w.heap->(loadCells ⟨g.az β,o,none⟩ q).run P w'= .ok vs.toArray w':=by
 obtain⟨vs,e,fr,h2,h3,h4⟩:=ho;have hsub:=X3G (X5d h4 o) q
 grind [V6,Yj,LM,map_take,map_drop,run_loadCells_list,Vq,cell_of_row]
def X3b:List (Option D)->Bool
 |[]=>true
 |c::r=>c.isSome&&X3b r
def XfC:∀{cs:List (Option D)}{us:List Value},X3b cs=true->Xy g (cs.map oA) us->∀u∈us,u.oneCell'=true
 |[],[],_,_,u,hu=>by simp at hu
 |[],_::_,_,h,_,_=>h.elim
 |c::cs,[],_,h,_,_=>h.elim
 |c::cs,v::us,hc,h,u,hu=>by
  simp only[X3b,Bool.and_eq_true] at hc;simp only[map_cons,Xy] at h;rcases mem_cons.1 hu with rfl|hu
  ·cases c with
   |none=>simp at hc
   |some d=>exact D.rep_one (by simpa only[oA,AVal.sat] using h.1)
  ·exact XfC hc.2 h.2 u hu
def Xma {ys:List AVal} (h:Xy g ys us) (hc:X31 ys=true):∀u∈us,u.oneCell'=true:=by
 intro u hu;obtain⟨i,hi⟩:=getElem?_of_mem hu;have hl:=V6 h;have hlt:i<J us:=(GS.1 hi).1;obtain⟨u',h1,h2⟩:=X07 h i _ (getElem?_eq_getElem (by omega))
 grind [AVal.sat_one,X6a,getElem_mem]
variable {ops:Array Oper}{draw:Bool}{K:XU->St->Prop}{rest:List Oper}{l:XU}{S:St}
variable {d:Nat}{ty:TypeId}{pos:String}{ah:Array Edge}{gd:Option (Nat×Bool)}
def X3l (h:(AVal.rs β o n c).sat g u):u= .slice (some ⟨g.az β,o,none⟩) n c:=by grind [AVal.sat]
def X0o {T:TypeId} (hx:S.ev x= .rs β o n c) (hT:cy P T=true)
  (hd:Nat.blt d S.n=true) (hg:XL ops S gd)
  (h:Walk P ops draw K rest ((J l,⟨some d,.call ⟨.builtin .len,#[x],#[T]⟩,ty,pos,ah,gd⟩,⟨XH ops gd++[(x,.rs β o n c)],some (d,ai n),[],[],[]⟩)::l) (S.set d (ai n))):
  Walk P ops draw K (⟨some d,.call ⟨.builtin .len,#[x],#[T]⟩,ty,pos,ah,gd⟩::rest) l S:=
 Yq h hg (Uk rfl fun E S g a w hs hq hl=>by
  obtain⟨e,h1⟩:=X5R hT;have hv:=X3l hq.1;refine⟨.int .i64 n,?_,X0k rfl⟩;simp[execOp,resolve,invoke,builtin,hv,Builtin.len_,run_underlying h1,goInt]) ⟨⟨hx,TV⟩,TV,TV,hd⟩
def X4O {T:TypeId} (hx:S.ev x= .rs β o n c) (hT:cy P T=true)
  (hd:Nat.blt d S.n=true) (hg:XL ops S gd)
  (h:Walk P ops draw K rest ((J l,⟨some d,.call ⟨.builtin .cap,#[x],#[T]⟩,ty,pos,ah,gd⟩,⟨XH ops gd++[(x,.rs β o n c)],some (d,ai c),[],[],[]⟩)::l) (S.set d (ai c))):
  Walk P ops draw K (⟨some d,.call ⟨.builtin .cap,#[x],#[T]⟩,ty,pos,ah,gd⟩::rest) l S:=
 Yq h hg (Uk rfl fun E S g a w hs hq hl=>by
  obtain⟨e,h1⟩:=X5R hT;have hv:=X3l hq.1;refine⟨.int .i64 c,?_,X0k rfl⟩;simp[execOp,resolve,invoke,builtin,hv,Builtin.cap_,run_underlying h1,goInt]) ⟨⟨hx,TV⟩,TV,TV,hd⟩
def XtK {i:Operand}{T:TypeId}{p:Nat}{m:Int} (hx:S.ev x= .rs β o n c) (hi:S.ev i= .d (.v (.int kd m))) (hk:m=(k:Nat)) (hlt:k<n) (hp:o+k*sz=p)
  (hT:UT P T sz=true) (hd:Nat.blt d S.n=true) (hg:XL ops S gd)
  (h:Walk P ops draw K rest ((J l,⟨some d,.indexAddr T x i,ty,pos,ah,gd⟩,⟨XH ops gd++[(x,.rs β o n c),(i,.d (.v (.int kd m)))],some (d,.ptr β p),[],[],[]⟩)::l) (S.set d (.ptr β p))):
  Walk P ops draw K (⟨some d,.indexAddr T x i,ty,pos,ah,gd⟩::rest) l S:=
 Yq h hg (Uk rfl fun E S g a w hs hq hl=>by
  obtain⟨e,h1,h2,h3⟩:=X29 hT;have hv:=X3l hq.1;refine⟨.pointer (some ⟨g.az β,p,none⟩),?_,by simp only[AVal.sat]⟩;have hb:(0:Int)<=m/\m<(n:Int):=by omega
  have hm:m.toNat=k:=by omega
  have:=run_indexAt_slice (P:=P) w T ⟨g.az β,o,none⟩ n c kd m (by rw[h3];exact h1);rw[PI hb,h3,h2 w,Result.andThen_ok,Vq,hm,hp] at this;simp only[execOp,hv,Uy hq.2.1,Sem.run_bind,this];rfl) ⟨⟨hx,hi,TV⟩,TV,TV,hd⟩
def X12 {t:TypeId}{y:AVal} (hx:S.ev x= .ptr γ o) (hL:S.obj γ= .raw cs ho) (hy:(Yj cs ho)[o]? =some y)
  (ht:X1u P t false 1=true) (hd:Nat.blt d S.n=true) (hg:XL ops S gd)
  (h:Walk P ops draw K rest ((J l,⟨some d,.load t x,ty,pos,ah,gd⟩,⟨XH ops gd++[(x,.ptr γ o)],some (d,y),[(γ,.raw cs ho)],[],[]⟩)::l) (S.set d (y))):
  Walk P ops draw K (⟨some d,.load t x,ty,pos,ah,gd⟩::rest) l S:=
 Yq h hg (Uk rfl fun E S g a w hs hq hl=>by
  have ho:=hs.1.obj γ;rw[hl.1] at ho;obtain⟨vs,e,fr,h1,h2,h3⟩:=ho;obtain⟨u,hu,gG⟩:=X07 h3 o y hy;refine⟨u,?_,gG⟩;have hp:a.eval x= .pointer (some ⟨g.az γ,o,none⟩):=by grind [AVal.sat,VK]
  have hc:w.cell? ⟨g.az γ,o,none⟩=some u:=by grind [cell_of_row]
  simp_all [execOp,Instr.loadAt,Instr.sureAddr,X8P]) ⟨⟨hx,TV⟩,⟨hL,TV⟩,TV,hd⟩
def XpM {t:TypeId}{ys:List AVal} (hx:S.ev x= .ptr γ o) (hL:S.obj γ= .raw cs ho)
  (ht:X1u P t true sz=true) (hy:((Yj cs ho).drop o).take sz=ys) (hlen:J ys=sz) (hd:Nat.blt d S.n=true) (hg:XL ops S gd)
  (h:Walk P ops draw K rest ((J l,⟨some d,.load t x,ty,pos,ah,gd⟩,⟨XH ops gd++[(x,.ptr γ o)],some (d,.agg ys),[(γ,.raw cs ho)],[],[]⟩)::l) (S.set d (.agg ys))):
  Walk P ops draw K (⟨some d,.load t x,ty,pos,ah,gd⟩::rest) l S:=
 Yq h hg (Uk rfl fun E S g a w hs hq hl=>by
  have ho:=hs.1.obj γ;rw[hl.1] at ho;obtain⟨vs,e,fr,h1,h2,h3⟩:=ho;have hsub:=X3G (X5d h3 o) sz;rw[hy] at hsub;have bh:=V6 hsub;refine⟨.agg ((vs.toList.drop o).take sz).toArray,?_,by grind [AVal.sat]⟩;have hp:a.eval x= .pointer (some ⟨g.az γ,o,none⟩):=by grind [AVal.sat,VK]
  have:=Xa1 (P:=P) (p:=⟨g.az γ,o,none⟩) (w:=w) (vs:=(vs.toList.drop o).take sz) (t:=t) (by grind) (fun j v hv=>by
   grind [Vq,cell_of_row])
  simp_all [execOp,Instr.loadAt,Instr.sureAddr]) ⟨⟨hx,TV⟩,⟨hL,TV⟩,TV,hd⟩
def XyO {t:TypeId}{v:Operand}{ho':Option (Nat×AVal)}{y:AVal} (hx:S.ev x= .ptr γ o) (hL:S.obj γ= .raw cs ho) (hv:S.ev v=y) (hc:X31 y.parts=true)
  (ht:X7A P t (J y.parts)=true) (hb:o+J y.parts<=J cs) (hcs:Yj cs' ho'=(Yj cs ho).take o++y.parts++(Yj cs ho).drop (o+J y.parts)) (hg:XL ops S gd)
  (h:Walk P ops draw K rest ((J l,⟨none,.store t x v,ty,pos,ah,gd⟩,⟨XH ops gd++[(x,.ptr γ o),(v,y)],none,[(γ,.raw cs ho)],[(γ,.raw cs' ho')],[]⟩)::l)
   (S.own γ (.raw cs' ho'))):
  Walk P ops draw K (⟨none,.store t x v,ty,pos,ah,gd⟩::rest) l S:=by
 refine Yq h hg (Xd9 rfl fun E S g a w hs hq hl hn=> ?_) ⟨⟨hx,hv,TV⟩,⟨hL,TV⟩,TV,TV⟩;have hp:a.eval x= .pointer (some ⟨g.az γ,o,none⟩):=by grind [AVal.sat,VK]
 have hps:=Xaw hq.2.1 hc;obtain⟨w',k1,k2⟩:=XnP (P:=P) hs.1 hl.1 hps (Xma hps hc) hb hcs;have hlen:J (a.eval v).cells.toList=J y.parts:=V6 hps;refine⟨g,w',?_,k2,hs.2.2.2⟩;have hsz:=Xbt ht w;simp_all [execOp,Instr.storeAt,Instr.sureAddr,storeVar]
def XxC {T:TypeId}{lo hi:Option Operand}{o' c':Nat} (hx:S.ev x= .rs β o n c) (hlo:X9y S lo lb) (hhi:Xac S n hi hb) (cg:lb<=hb) (hh:hb<=c)
  (hm:hb-lb=m) (kq:c-lb=c') (ho':(if c=lb then o else o+lb*sz)=o')
  (hT:UT P T sz=true) (hd:Nat.blt d S.n=true) (hg:XL ops S gd)
  (h:Walk P ops draw K rest ((J l,⟨some d,.slice T x lo hi none,ty,pos,ah,gd⟩,⟨XH ops gd++((x,.rs β o n c)::(X2T lo lb++X2T hi hb)),some (d,.rs β o' m c'),[],[],[]⟩)::l) (S.set d (.rs β o' m c'))):
  Walk P ops draw K (⟨some d,.slice T x lo hi none,ty,pos,ah,gd⟩::rest) l S:=by
 refine Yq h hg (Uk rfl fun E S g a w hs hq hl=> ?_) ⟨⟨hx,XnA.2 ⟨Xd7 fun y e=>by subst e;exact hlo,Xd7 fun y e=>by subst e;exact hhi⟩⟩,TV,TV,hd⟩;obtain⟨e,h1,h2,h3⟩:=X29 hT;obtain⟨aN,bJ⟩:=hq;rw[Xju] at bJ;have hv:=X3l aN;have hbd:=Xf0 (P:=P) (cy:=true) (len:=n) (cap:=c) (fun e=>by subst e;exact hlo) (fun e=>by subst e;exact hhi) bJ.1 bJ.2 cg hh w;have hrun:=run_slice_any (P:=P) w T (some ⟨g.az β,o,none⟩) n c (by rw[h3];exact h1) (lo.map a.eval) (hi.map a.eval) none;rw[hbd,Result.andThen_ok,h3,h2 w,Result.andThen_ok] at hrun;refine⟨sliced (some ⟨g.az β,o,none⟩) lb hb c sz,?_,?_⟩
 ·simp_all [execOp,Instr.sliceAt,run_underlying]
 grind [AVal.sat,sliced,Vq]
end
section
variable {P:Program}
variable {ops:Array Oper}{draw:Bool}{K:XU->St->Prop}{rest:List Oper}{l:XU}{S:St}
variable {d:Nat}{ty:TypeId}{pos:String}{ah:Array Edge}{gd:Option (Nat×Bool)}
theorem Xfi (h:(loadCells p (m*sz)).run P w= .ok vs w):(Builtin.firstCells sz m (.slice (some p) n c)).run P w= .ok vs w:=by
 grind [Builtin.firstCells]
def Xzq {T T2:TypeId} (hx:S.ev x= .rs β o1 n1 c1) (hy:S.ev y= .rs β o2 n2 c2) (hL:S.obj β= .raw cs none) (hm:m=min n2 n1)
  (hc:X3b ((cs.drop o2).take (m*sz))=true) (h2:o2+m*sz<=J cs) (h1:o1+m*sz<=J cs) (hcs:cs.take o1++(cs.drop o2).take (m*sz)++cs.drop (o1+m*sz)=cs')
  (hT:UT P T sz=true) {d':Option (Nat×AVal)} (hd:X4K S d') (hd':d'=none\/∃t,d'=some (t,ai m)) (hg:XL ops S gd)
  (h:Walk P ops draw K rest ((J l,⟨d'.map (·.1),.call ⟨.builtin .copy,#[x,y],#[T,T2]⟩,ty,pos,ah,gd⟩,⟨XH ops gd++[(x,.rs β o1 n1 c1),(y,.rs β o2 n2 c2)],d',[(β,.raw cs none)],[(β,.raw cs' none)],[]⟩)::l)
   ⟨S.n,d'.toList++S.τ,(β,.raw cs' none)::S.L⟩):
  Walk P ops draw K (⟨d'.map (·.1),.call ⟨.builtin .copy,#[x,y],#[T,T2]⟩,ty,pos,ah,gd⟩::rest) l S:=by
 refine Yq h hg ?_ ⟨⟨hx,hy,TV⟩,⟨hL,TV⟩,TV,hd⟩;intro E S a w g hs hok Q K hK;obtain⟨dL,⟨l1,_⟩,_,dz⟩:=hok;have hq:=X1K hs _ dL;have ho:=hs.1.obj β;rw[l1] at ho;have hx':=X3l hq.1;have hy':=X3l hq.2.1;obtain⟨vs,r1,r2,r3⟩:=Xhm (P:=P) (q:=m*sz) ho h2;have cF:J ((cs.drop o2).take (m*sz))=m*sz:=by grind
 obtain⟨w',k1,k2⟩:=XcG (P:=P) (o:=o1) (ys:=(cs.drop o2).take (m*sz)) (news:=vs.toArray) hs.1 l1 r2 (XfC hc r2) (by rw[cF];exact h1);rw[cF,hcs] at k2;have hrun:=XaG (P:=P) (T2:=T2) (ty:=ty) (sz:=sz) (m:=m) (x:= .slice (some ⟨g.az β,o1,none⟩) n1 c1) (y:= .slice (some ⟨g.az β,o2,none⟩) n2 c2) (news:=vs.toArray) (w:=w) (w':=w') hT rfl (by simp[Builtin.lenOf]) hm (Xfi (r3 w rfl)) (by
  grind [Addr.add_zero'])
 have cT:(execOp a.eval ⟨d'.map (·.1),.call ⟨.builtin .copy,#[x,y],#[T,T2]⟩,ty,pos,ah,gd⟩).run P w= .ok (.value (.int .i64 m)) w':=by
  simp_all [execOp,resolve,invoke,builtin]
 unfold Oper.wp;rw[cT,Oper.upon_value];rcases hd' with rfl|⟨t,rfl⟩
 ·exact hK _ _ ⟨g,k2,hs.2.1,hs.2.2.1,hs.2.2.2⟩
 ·exact hK _ _ (X2f k2 hs.2.1 hs.2.2.1 hs.2.2.2 (X0k rfl) dz)
def XzE {T T2:TypeId} (hx:S.ev x= .rs β o1 n1 c1) (hy:S.ev y= .rs β o2 n2 c2) (hL:S.obj β= .raw cs none) (hm:m=min n2 n1)
  (hc:X3b ((cs.drop o2).take (m*sz))=true) (h2:o2+m*sz<=J cs) (h1:o1+m*sz<=J cs) (hcs:cs.take o1++(cs.drop o2).take (m*sz)++cs.drop (o1+m*sz)=cs')
  (hT:UT P T sz=true) (hd:Nat.blt d S.n=true) (hg:XL ops S gd)
  (h:Walk P ops draw K rest ((J l,⟨some d,.call ⟨.builtin .copy,#[x,y],#[T,T2]⟩,ty,pos,ah,gd⟩,⟨XH ops gd++[(x,.rs β o1 n1 c1),(y,.rs β o2 n2 c2)],some (d,ai m),[(β,.raw cs none)],[(β,.raw cs' none)],[]⟩)::l)
   ⟨S.n,(d,ai m)::S.τ,(β,.raw cs' none)::S.L⟩):
  Walk P ops draw K (⟨some d,.call ⟨.builtin .copy,#[x,y],#[T,T2]⟩,ty,pos,ah,gd⟩::rest) l S:=
 Xzq (d':=some (d,ai m)) hx hy hL hm hc h2 h1 hcs hT hd (.inr ⟨d,rfl⟩) hg h
def XxS {T T2:TypeId} (hx:S.ev x= .rs β o1 n1 c1) (hL:S.obj β= .raw cs none) (hy:S.ev y=yv) (hsrc:SrcV P yv sz ys) (hm:m=min (J ys) n1)
  (h1:o1+m*sz<=J cs) (hcs:cs.take o1++(ys.take m).flatten.map some++cs.drop (o1+m*sz)=cs')
  (hT:UT P T sz=true) {d':Option (Nat×AVal)} (hd:X4K S d') (hd':d'=none\/∃t,d'=some (t,ai m)) (hg:XL ops S gd)
  (h:Walk P ops draw K rest ((J l,⟨d'.map (·.1),.call ⟨.builtin .copy,#[x,y],#[T,T2]⟩,ty,pos,ah,gd⟩,⟨XH ops gd++[(x,.rs β o1 n1 c1),(y,yv)],d',[(β,.raw cs none)],[(β,.raw cs' none)],[]⟩)::l)
   ⟨S.n,d'.toList++S.τ,(β,.raw cs' none)::S.L⟩):
  Walk P ops draw K (⟨d'.map (·.1),.call ⟨.builtin .copy,#[x,y],#[T,T2]⟩,ty,pos,ah,gd⟩::rest) l S:=by
 refine Yq h hg ?_ ⟨⟨hx,hy,TV⟩,⟨hL,TV⟩,TV,hd⟩;intro E S a w g hs hok Q K hK;obtain⟨dL,⟨l1,_⟩,_,dz⟩:=hok;have hq:=X1K hs _ dL;have hx':=X3l hq.1;obtain⟨news,pq,qU,n3',n4',n5'⟩:=hsrc.src E _ g w _ hs.1 hq.2.1 m (by omega);have cF:J ((ys.take m).flatten.map some)=m*sz:=by
  grind [V6,LM,Array.length_toList]
 have n3:Xy g (((ys.take m).flatten.map some).map oA) news.toList:=by rw[map_map];exact n3'
 have hone:∀u∈news.toList,u.oneCell'=true:=by
  refine Xma n3' ((X6a _).2 fun c hc=> ?_)
  grind [AVal.cellish]
 obtain⟨w',k1,k2⟩:=XcG (P:=P) (o:=o1) (ys:=(ys.take m).flatten.map some) (news:=news) hs.1 l1 n3 hone (by rw[cF];exact h1);rw[cF,hcs] at k2;have hrun:=XaG (P:=P) (T2:=T2) (ty:=ty) (sz:=sz) (m:=m) (x:= .slice (some ⟨g.az β,o1,none⟩) n1 c1) (y:=a.eval y) (news:=news) (w:=w) (w':=w') hT rfl n4' hm pq (by
  grind [Addr.add_zero'])
 have cT:(execOp a.eval ⟨d'.map (·.1),.call ⟨.builtin .copy,#[x,y],#[T,T2]⟩,ty,pos,ah,gd⟩).run P w= .ok (.value (.int .i64 m)) w':=by
  simp_all [execOp,resolve,invoke,builtin]
 unfold Oper.wp;rw[cT,Oper.upon_value];rcases hd' with rfl|⟨t,rfl⟩
 ·exact hK _ _ ⟨g,k2,hs.2.1,hs.2.2.1,hs.2.2.2⟩
 ·exact hK _ _ (X2f k2 hs.2.1 hs.2.2.1 hs.2.2.2 (X0k rfl) dz)
def Xtd {T T2:TypeId} (hx:S.ev x= .rs β o1 n1 c1) (hL:S.obj β= .raw cs none) (hy:S.ev y=yv) (hsrc:SrcV P yv sz ys) (hm:m=min (J ys) n1)
  (h1:o1+m*sz<=J cs) (hcs:cs.take o1++(ys.take m).flatten.map some++cs.drop (o1+m*sz)=cs')
  (hT:UT P T sz=true) (hd:Nat.blt d S.n=true) (hg:XL ops S gd)
  (h:Walk P ops draw K rest ((J l,⟨some d,.call ⟨.builtin .copy,#[x,y],#[T,T2]⟩,ty,pos,ah,gd⟩,⟨XH ops gd++[(x,.rs β o1 n1 c1),(y,yv)],some (d,ai m),[(β,.raw cs none)],[(β,.raw cs' none)],[]⟩)::l)
   ⟨S.n,(d,ai m)::S.τ,(β,.raw cs' none)::S.L⟩):
  Walk P ops draw K (⟨some d,.call ⟨.builtin .copy,#[x,y],#[T,T2]⟩,ty,pos,ah,gd⟩::rest) l S:=
 XxS (d':=some (d,ai m)) hx hL hy hsrc hm h1 hcs hT hd (.inr ⟨d,rfl⟩) hg h
theorem XpS {vs:List Value} (hl:J vs=n*sz) (h:∀w',w'.heap=w.heap->(loadCells p (n*sz)).run P w'= .ok vs.toArray w'):Src P w sz (.slice (some p) n c) n vs.toArray:=
 ⟨fun w' hw'=>⟨by simp[Builtin.lenOf],Xfi (h w' hw')⟩,by simpa using hl⟩
def Xpn {T T2:TypeId} (hx:S.ev x= .rs β o1 n1 c1) (hy:S.ev y= .rs β o2 n2 c2) (hL:S.obj β= .raw cs none) (hroom:n1+n2<=c1) (hn':n1+n2=n')
  (hc:X3b ((cs.drop o2).take (n2*sz))=true) (h2:o2+n2*sz<=J cs) (h1:o1+n1*sz+n2*sz<=J cs) (hcs:cs.take (o1+n1*sz)++(cs.drop o2).take (n2*sz)++cs.drop (o1+n1*sz+n2*sz)=cs')
  (hB:elB P T=bytes) (hT:X1w P T sz bytes=true) (bN:X4r P T2=true) (hd:Nat.blt d S.n=true) (hg:XL ops S gd)
  (h:Walk P ops draw K rest ((J l,⟨some d,.call ⟨.builtin .append,#[x,y],#[T,T2]⟩,ty,pos,ah,gd⟩,⟨XH ops gd++[(x,.rs β o1 n1 c1),(y,.rs β o2 n2 c2)],some (d,.rs β o1 n' c1),[(β,.raw cs none)],[(β,.raw cs' none)],[]⟩)::l)
   ((S.set d (.rs β o1 n' c1)).own β (.raw cs' none))):
  Walk P ops draw K (⟨some d,.call ⟨.builtin .append,#[x,y],#[T,T2]⟩,ty,pos,ah,gd⟩::rest) l S:=by
 refine Yq h hg (X3H rfl fun E S g a w hs hq hl iR=> ?_) ⟨⟨hx,hy,TV⟩,⟨hL,TV⟩,TV,hd⟩;obtain⟨e,i,z,hu,hi,hsz,gI,hz,hzs,cE⟩:=X6x hT;have ho:=hs.1.obj β;rw[hl.1] at ho;have hx':=X3l hq.1;have hy':=X3l hq.2.1;obtain⟨vs,r1,r2,r3⟩:=Xhm (P:=P) (q:=n2*sz) ho h2;have cF:J ((cs.drop o2).take (n2*sz))=n2*sz:=by grind
 obtain⟨w',k1,k2⟩:=XcG (P:=P) (o:=o1+n1*sz) (ys:=(cs.drop o2).take (n2*sz)) (news:=vs.toArray) hs.1 hl.1 r2 (XfC hc r2) (by rw[cF];exact h1);rw[cF,hcs] at k2;have hr:=Xap (P:=P) (w:=w) (T:=T) (T2:=T2) (ty:=ty) (base:=some ⟨g.az β,o1,none⟩) (n:=n1) (cap:=c1) (x:= .slice (some ⟨g.az β,o2,none⟩) n2 c2) (news:=vs.toArray) (m:=n2) hu hi (Xfp bN) (by grind [XpS]) hroom;simp only at hr;rw[hsz,Vq,k1,Result.andThen_ok,hn'] at hr;exact⟨_,g,w',X7o rfl (by rw[hx',hy'];exact hr),by simp only[AVal.sat],k2,hs.2.2.2⟩
end
section
variable {P:Program}
variable {ops:Array Oper}{draw:Bool}{K:XU->St->Prop}{rest:List Oper}{l:XU}{S:St}
variable {d:Nat}{ty:TypeId}{pos:String}{ah:Array Edge}{gd:Option (Nat×Bool)}
def Xx1 {z:Array Value} (h:X1Q z.toList=true) (n:Nat):∀u∈(Builtin.zeroCells z n).toList,u.oneCell'=true:=by
 grind [Builtin.zeroCells,XbR,VC,mem_flatten,Xrp]
def XaO {T:TypeId} (hx:S.ev x= .rs β o n c) (hL:S.obj β= .raw cs none) (hn:0<n) (hb:o+n*sz<=J cs)
  (hcs:cs.take o++replicate (n*sz) none++cs.drop (o+n*sz)=cs') (hB:elB P T=bytes) (hT:X1w P T sz bytes=true) (hg:XL ops S gd)
  (h:Walk P ops draw K rest ((J l,⟨none,.call ⟨.builtin .clear,#[x],#[T]⟩,ty,pos,ah,gd⟩,⟨XH ops gd++[(x,.rs β o n c)],none,[(β,.raw cs none)],[(β,.raw cs' none)],[]⟩)::l) (S.own β (.raw cs' none))):
  Walk P ops draw K (⟨none,.call ⟨.builtin .clear,#[x],#[T]⟩,ty,pos,ah,gd⟩::rest) l S:=by
 refine Yq h hg ?_ ⟨⟨hx,TV⟩,⟨hL,TV⟩,TV,TV⟩;intro E S a w g hs hok Q K hK;obtain⟨dL,⟨l1,_⟩,_,dz⟩:=hok;have hq:=X1K hs _ dL;obtain⟨e,i,z,hu,hi,hsz,gI,hz,hzs,cE⟩:=X6x hT;have hx':=X3l hq.1;have hzl:J (Builtin.zeroCells z.cells n).toList=n*sz:=by grind [X79]
 obtain⟨w',k1,k2⟩:=XcG (P:=P) (o:=o) (ys:=replicate (n*sz) none) (news:=Builtin.zeroCells z.cells n) hs.1 l1 (by grind [Xjo,map_replicate,oA]) (Xx1 cE n) (by grind);rw[length_replicate,hcs] at k2;obtain⟨m,rfl⟩:∃m,n=m+1:=⟨n-1,by omega⟩
 have hrun:(Builtin.clear_ #[T] ty #[.slice (some ⟨g.az β,o,none⟩) (m+1) c]).run P w= .ok (.tuple #[]) w':=by
  simp_all [Builtin.clear_,run_underlying,zeroValue,typeInfo]
 have cT:(execOp a.eval ⟨none,.call ⟨.builtin .clear,#[x],#[T]⟩,ty,pos,ah,gd⟩).run P w= .ok (.value (.tuple #[])) w':=by
  simp_all [execOp,resolve,invoke,builtin]
 unfold Oper.wp;rw[cT,Oper.upon_value];exact hK _ _ ⟨g,k2,hs.2.1,hs.2.2.1,hs.2.2.2⟩
def Xyg (w:World) (ps rs:Array TypeId) (tS e:TypeId) (hp:ps[0]? =some tS) (ht:P.underlying tS=some (.slice e)) (size:Nat) (hz:∀w,(Go.sizeOf e).run P w= .ok size w)
  (a b:Addr) (la ca lb cb:Nat) (hne:a.block≠b.block) (tA tB:TypeId) (kA kB:Nat)
  (gq:w.shape? a.block=some (tA,kA)) (tf:w.shape? b.block=some (tB,kB)) (tg:kB≠0) (pz:kA≠0)
  (th:w.frozen? b=false) (cG:w.frozen? {block:=b.block,off:=kB}=false):
  (Extern.SlicesOverlaps.overlaps ps rs #[.slice (some a) la ca,.slice (some b) lb cb]).run P w= .ok (.bool false) w:=by
 have hnb:(a.block !=b.block)=true:=by simpa using hne
 have qV:(a.block==b.block)=false:=by simpa using hne
 change Sem.run P (α:=Value) (do
  let some t:=ps[0]? |stuck "slices.overlaps: no parameter types"
  let .slice elem <-underlying t|stuck "slices.overlaps: slice type expected"
  let size <-sizeOf elem
  match (some a:Option Addr),(some b:Option Addr) with
  |some a,some b=>
   if la=0\/lb=0\/size=0 then pure (Value.bool false)
   else if a.block !=b.block&&(<-frozen a)&&(<-frozen b) then unsupported .addressObserved
   else do
    if a.block !=b.block then do
     noView a;noView b
     if <-mayBeOne a b then return Value.bool ((<-choose (.extern "sameAddr.stringBytes" 2))==1)
    pure (Value.bool (a.block==b.block&&a.off<b.off+lb*size&&b.off<a.off+la*size))
  |_,_=>pure (Value.bool false)) w=_
 rw[hp];by_cases h0:la=0\/lb=0\/size=0
 ·simp[run_underlying ht,hz,h0]
 ·cases kB with
  |zero=>exact absurd rfl tg
  |succ kB=>
   cases kA with
   |zero=>exact absurd rfl pz
   |succ kA=>
   cases hA:w.frozen? a<;>cases tj:w.frozen? {block:=a.block,off:=kA+1}<;>
    simp[run_underlying ht,hz,h0,hnb,qV,frozen,noView,viewAt,mayBeOne,stringish,shape,Sem.run,gq,tf,th,cG,hA,tj]
def Xip {e:TypeId}{fr:Nat×Nat} (h:w.heap[b]? =some (.cells vs e fr)):w.shape? b=some (e,vs.size):=by
 simp[World.shape?,h]
def Xal {tys ps rs:Array TypeId}{T:TypeId} (hx:S.ev x= .d (.sl sz ys)) (hy:S.ev y= .rs β o n c) (hL:S.obj β= .raw cs none) (hys:ys≠[]) (hsz:0<sz) (ho:o<=J cs) (hcs:cs≠[])
  (hf:P.funcs[f]? =some fn) (h1:(fn.name== "runtime.NumGoroutine")=false) (h2:fn.body.isNone=true) (h3:Extern.findNext fn=none) (h4:Extern.find fn=some (Extern.SlicesOverlaps.overlaps ps rs)) (hp:ps[0]? =some T) (hT:UT P T sz=true)
  (hd:Nat.blt d S.n=true) (hg:XL ops S gd)
  (h:Walk P ops draw K rest ((J l,⟨some d,.call ⟨.value (.func f),#[x,y],tys⟩,ty,pos,ah,gd⟩,⟨XH ops gd++[(x,.d (.sl sz ys)),(y,.rs β o n c)],some (d,ab false),[(β,.raw cs none)],[],[]⟩)::l) (S.set d (ab false))):
  Walk P ops draw K (⟨some d,.call ⟨.value (.func f),#[x,y],tys⟩,ty,pos,ah,gd⟩::rest) l S:=
 Yq h hg (Uk rfl fun E S g a w hs hq hl=>by
  obtain⟨e,q1,q2,q3⟩:=X29 hT;have hy':=X3l hq.2.1;have gX:=hs.1.obj β;rw[hl.1] at gX;obtain⟨vs,eb,fr,b1,b2,b3⟩:=gX;have hvl:vs.size=J cs:=by have:=V6 b3;grind [Yj]
  have eg:0<J cs:=length_pos_iff.2 hcs;have hxs:=hq.1;simp only[AVal.sat,D.rep] at hxs;obtain⟨ad,cap,e1,e2,e3,e4⟩:=hxs;rcases e4 with e4|⟨b0,o0,rfl,hr⟩
  ·exact absurd e4 hys
  obtain⟨y0,hy0⟩:∃y0,ys[0]? =some y0:=⟨_,getElem?_eq_getElem (length_pos_iff.2 hys)⟩
  obtain⟨r1,r2⟩:=X6o ys b0 o0 0 y0 hr hy0;obtain⟨d0,iG⟩:∃d0,y0[0]? =some d0:=⟨_,getElem?_eq_getElem (by omega)⟩
  obtain⟨u,hu,_⟩:=Xbu y0 b0 _ 0 d0 r2 iG;have hne:b0≠g.az β:=hs.1.sep β (g.az β) (by rw[hl.1];rfl) _ _ hu;have hcell:=hs.1.mem _ _ hu;have gq:∃tA kA,w.shape? b0=some (tA,kA)/\kA≠0:=by
   simp only[World.cell?] at hcell;cases hh:w.heap[b0]? with
   |none=>grind
   |some ob=>
    rw[hh] at hcell;cases ob with
    |cells cc ee ff=>
     refine⟨ee,cc.size,Xip hh,fun e0=> ?_⟩
     grind
    |_=>simp at hcell
  obtain⟨tA,kA,gq,pz⟩:=gq;have hfr:∀i,i<vs.size+1->w.frozen? ⟨g.az β,i,none⟩=false:=by
   grind [World.frozen?,X4A]
  have hrun:=Xyg (P:=P) w ps rs T e hp q1 sz q2 ⟨b0,o0,none⟩ ⟨g.az β,o,none⟩ (J ys) cap n c hne tA eb kA vs.size gq (Xip b1) (by omega) pz (hfr o (by omega)) (hfr vs.size (by omega));refine⟨.bool false,?_,X0k rfl⟩;have e5:=run_callFunc_extern hf h1 h2 h3 h4 #[a.eval x,a.eval y] w;rw[e1,hy',hrun,Result.andThen_ok,<-e1,<-hy'] at e5;have ef:a.eval (.func f)= .func (.func f) #[] #[]:=rfl
  grind [execOp,resolve,invoke,Deferred.ofValue]) ⟨⟨hx,hy,TV⟩,⟨hL,TV⟩,TV,hd⟩
end
def NC.toD:NC->D
 | .d x=>x
 | .r z rows=> .sl z rows
theorem Xfu:∀(cs:List NC) (ds:List D) (hs:List Hd),X15 cs ds hs->∀(i:Nat) (c:NC),cs[i]? =some c->∃y,ds[i]? =some y/\((∃x,c= .d x/\y=x)\/∃z rows,c= .r z rows/\∃h∈hs,y= .v h.1/\h.2=(z,rows))
 |[],_,_,_,_,_,h=>by simp at h
 | .d x::cs,[],hs,h,_,_,_=>by simp[X15] at h
 | .r z rows::cs,[],hs,h,_,_,_=>by simp[X15] at h
 | .r z rows::cs,_::_,[],h,_,_,_=>by simp[X15] at h
 | .d x::cs,y::ds,hs,h,0,c,hc=>by
  simp only[getElem?_cons_zero,Option.some.injEq] at hc |-;subst hc;exact⟨y,rfl,.inl ⟨x,rfl,h.1⟩⟩
 | .r z rows::cs,y::ds,k::hs,h,0,c,hc=>by
  simp only[getElem?_cons_zero,Option.some.injEq] at hc |-;subst hc;exact⟨y,rfl,.inr ⟨z,rows,rfl,k,by simp,h.1,h.2.1⟩⟩
 | .d x::cs,y::ds,hs,h,i+1,c,hc=>by
  simp only[getElem?_cons_succ] at hc |-;exact Xfu cs ds hs h.2 i c hc
 | .r z rows::cs,y::ds,k::hs,h,i+1,c,hc=>by
  simp only[getElem?_cons_succ] at hc |-;obtain⟨y',h1,h2⟩:=Xfu cs ds hs h.2.2 i c hc;refine⟨y',h1,h2.imp id ?_⟩;rintro⟨z',rows',e,q,hq,h3⟩;exact⟨z',rows',e,q,mem_cons_of_mem _ hq,h3⟩
def Xwy {α β:Type} (f:α->β):∀xs:List (List α),(xs.map fun x=>x.map f).flatten=xs.flatten.map f
 |[]=>rfl
 |r::rs=>by simp
def XoB (γ:Nat) {sz:Nat}{xs:List (List NC)} (hL:S.obj γ= .nest sz xs) (hsz:∀x∈xs,J x=sz):S.le (S.own γ (.froz sz (xs.map fun x=>x.map NC.toD))):=by
 rintro E a w ⟨g,hs⟩;have ho:=hs.1.obj γ;rw[hL] at ho;have hle:YN g.M (X0h g w (S.obj γ) γ):=by
  intro a v h;unfold X0h;rw[NI (fun hc=>hs.1.sep γ _ hc.2 a v h rfl)];exact h
 have hcell:∀b o,Xw g (S.obj γ) γ b->X0h g w (S.obj γ) γ ⟨b,o,none⟩=w.cell? ⟨b,o,none⟩:=by
  grind [X0h]
 have cQ:(D.sl sz (xs.map fun x=>x.map NC.toD)).rep (X0h g w (S.obj γ) γ) (g.hd γ):=by
  obtain⟨⟨rows,h1,h2,h3⟩,h4,h5⟩:=ho;simp only[D.rep,LM];rcases h3.2 with ⟨e,rfl⟩|⟨b,cap,vs,e,fr,k1,k2,k3,k4,k5,k6,k7⟩
  ·grind
  ·refine⟨_,cap,by rw[k1,h1],by omega,k3,.inr ⟨b,0,rfl,X7O _ 0 (fun r hr=> ?_) fun i d hd=> ?_⟩⟩
   ·grind
   have hfl:(xs.map fun x=>x.map NC.toD).flatten=xs.flatten.map NC.toD:=Xwy _ xs;rw[hfl,getElem?_map,Option.map_eq_some_iff] at hd;obtain⟨c,hc,rfl⟩:=hd;obtain⟨y,hy,cz⟩:=Xfu _ _ _ h2 i c hc;obtain⟨_,dM⟩:=X7r k7
   grind [cell_of_row,D.rep_mono,D.rep,Xgy,NC.toD,Xw,X1X,U0]
 obtain⟨_,hi⟩:=XmQ hs.1 cQ;exact X4B hs hi rfl fun t=>X3R (g:=g) (g':={g with M:=X0h g w (S.obj γ) γ}) hle rfl rfl rfl (hs.2.2.2 t)
def X85 (ρ:Nat->Nat):List (Nat×AVal)->List (Nat×AVal)
 |[]=>[]
 |(t,x)::r=>(t,x.ren ρ)::X85 ρ r
theorem Xg5 (ρ:Nat->Nat):∀(τ:List (Nat×AVal)) (t:Nat),Xs .any (X85 ρ τ) t=(Xs .any τ t).ren ρ
 |[],_=>rfl
 |(k,x)::r,t=>by
  simp only[X85];by_cases h:k=t
  ·subst h;rw[YK,YK]
  ·rw[YC _ _ _ h,YC _ _ _ h,Xg5 ρ r t]
theorem XdR {a:Nat} (ha:100<=a) (hb:100<=b) (hk:k<100):swp a b k=k:=by
 grind [swp,Nat.eq_of_beq_eq_true]
def XiW (a b:Nat) (ha:100<=a) (hb:100<=b):S.le ⟨S.n,X85 (swp a b) S.τ,X1T (swp a b) S.L⟩:=by
 rintro E act w ⟨g,hs⟩;have cW:(g.pull (swp a b)).pull (swp a b)=g:=by simp[Gh.pull,X5p]
 have hi:Inv {E with g0:=(g.pull (swp a b)).pull (swp a b)} (Xs .dead S.L) ((g.pull (swp a b)).pull (swp a b)) w:=by
  rw[cW];exact hs.1.free fun _ _=>Gh.keeps_refl _ _
 have hi2:=(XbW (E:=E) (g0:=g) (X5p a b) (X5p a b)).2 hi;refine⟨g.pull (swp a b),?_,hs.2.1,hs.2.2.1,fun t=> ?_⟩
 ·refine(show Inv E (Xs .dead (X1T (swp a b) S.L)) (g.pull (swp a b)) w from ?_);have:=hi2.free (g0:=E.g0) fun γ b6=>(hs.1.kp γ b6).trans' (Gh.keeps_of (by grind [Gh.pull,XdR]) (by grind [Gh.pull,XdR]) (by grind [Gh.pull,XdR]));exact this
 grind [Xg5,XdH,St.get,Vr]
def Xuw {pre:List AVal} (γ:Nat) (ag:Con P f [] (pre++ .d (.sl sz xs)::post) [] res) (hres:∀g g' v,res.sat g v->res.sat g' v):
  Con P f [(γ,.row sz xs)] (pre++ .own γ (J xs)::post) [(γ,.row sz xs)] res:=by
 intro g w vs hi hs;have gm:Xs .dead [(γ,AObj.row sz xs)] γ= .row sz xs:=YK _ _ _ _;have ho:=hi.obj γ;rw[gm] at ho;have hrow:UZ g w (g.hd γ) sz xs:=ho;have hlv:∀b,Xw g (.row sz xs) γ b->Xw g (Xs .dead [(γ,AObj.row sz xs)] γ) γ b:=fun b h=>by rw[gm];exact h
 let M1:=X0h g w (.row sz xs) γ
 let g1:Gh:={g with M:=M1}
 have hle:YN g.M M1:=by
  intro a v h;show X0h _ _ _ _ a=_;unfold X0h;rw[NI (fun hc=>hi.sep γ _ (hlv _ hc.2) a v h rfl)];exact h
 have hcell:∀b o,U0 (g.hd γ) b->M1 ⟨b,o,none⟩=w.cell? ⟨b,o,none⟩:=by
  grind [X0h,Xw]
 have tn:∀a v,M1 a=some v->w.cell? a=some v:=by
  intro a v h;replace h:X0h _ _ _ _ a=some v:=h;unfold X0h at h;split at h
  ·exact h
  ·exact hi.mem a v h
 have cQ:=Xgy hrow hle hcell;have hi1:Inv (VA g1 w []) (Xs .dead []) g1 w:=⟨fun _=>trivial,fun _ _ _ h=>h.elim,tn,fun _ _ h=>h.elim,fun _ _ h=>h.elim,YN.refl _,fun a v h=> .inl ⟨v,h⟩,fun _ _ _=>rfl,Nat.le_refl _,rfl,rfl,fun _ _=>Gh.keeps_refl _ _⟩
 have hs1:Xy g1 (pre++ .d (.sl sz xs)::post) vs:=by
  have h1:Xy g1 (pre++ .own γ (J xs)::post) vs:=X22 (g:=g) (g':=g1) hle _ _ (fun k _=>Gh.keeps_of rfl rfl rfl) hs;have h2:=Xcq (j:=J pre) (x:= .d (.sl sz xs)) h1 (fun u hu=>by
   obtain⟨u',q1,q2⟩:=X07 hs (J pre) (.own γ (J xs)) (by simp)
   grind [X41,AVal.sat])
  grind
 refine(ag g1 w vs hi1 hs1).mono ?_;rintro e w' ⟨v,g',rfl,hv,hi',_⟩;have hfr:∀b,b<w.heap.size->w'.heap[b]? =w.heap[b]? :=fun b hb=>hi'.frame b hb (by
  rintro⟨k,hk⟩;exact hk)
 refine⟨v,g,rfl,hres _ _ _ hv,⟨fun k=> ?_,hi.inj,fun a v h=> ?_,hi.sep,hi.new,YN.refl _,fun a v h=> .inl ⟨v,h⟩,fun b hb _=>hfr b hb,hi'.size,hi'.os,hi'.out,fun _ _=>Gh.keeps_refl _ _⟩,fun _ _=>Gh.keeps_refl _ _⟩
 ·exact X8s (YN.refl _) rfl rfl rfl (fun b hb=>hfr b (X4H hi hb)) (fun _ _ _ h=>h) (hi.obj k)
 grind [World.cell?,YN]
def X8G (t γ aH:Nat) {sz n:Nat}{xs:List (List D)} (hL:S.obj γ= .row sz xs) (ht:S.get t= .own γ n) (hn:n=J xs) (av:S.obj aH= .dead) (hf:S.free aH=true):
  S.le ⟨S.n,(t,.own aH n)::S.τ,(γ,.dead)::(aH,.row sz xs)::S.L⟩:=by
 rintro E a w ⟨g,hs⟩;have hne:γ≠aH:=by grind
 have ho:=hs.1.obj γ;rw[hL] at ho;have hrow:UZ g w (g.hd γ) sz xs:=ho;obtain⟨ua,uc,hu⟩:=XiI hrow;have cN:(g.put aH 0 (g.hd γ)).hd aH=g.hd γ:=by simp[Gh.put]
 have e1:Xs .dead ((γ,AObj.dead)::(aH,.row sz xs)::S.L) γ= .dead:=YK _ _ _ _;have e2:Xs .dead ((γ,AObj.dead)::(aH,.row sz xs)::S.L) aH= .row sz xs:=by grind [YC,YK]
 have aL:=X9X (S:=S) (g:=g) (g':=g.put aH 0 (g.hd γ)) (a:=a) rfl (fun k=>k=aH) (fun k e=> .inl (e ▸ hf)) (fun k hk=>X2F hk) hs.2.2.2;refine⟨g.put aH 0 (g.hd γ),Inv.part hs.1 (fun k=>k=γ\/k=aH) rfl (fun k hk=> ?_) (fun k cs us _ e h=>XaE (S:=S) (g:=g) (g':=g.put aH 0 (g.hd γ)) rfl (fun k=>k=aH) (fun k e=> .inl (e ▸ hf)) (fun k hk=>X2F hk) e h) (fun k hk=> ?_) (fun k b hk hb=> ?_) (fun k k' b hk hk' hb hb'=> ?_) (fun k hk gZ=> ?_),hs.2.1,hs.2.2.1,fun t'=> ?_⟩
 ·grind [YC,St.obj,Gh.put]
 ·grind [Ud,X4M,YN.refl,Gh.put,St.obj]
 ·grind [Xw,St.obj]
 ·grind [Xw,St.obj]
 ·rcases hk with rfl|rfl
  ·grind [Gh.keeps_of,X2F]
  ·have:=Xdw hf;omega
 grind [AVal.sat,YK,YC,St.get,Vr]
def X0d (P:Program) (f:FuncId) (Li:List (Nat×AObj)) (args:List AVal) (ch:List PanicEntry):Prop:=
 ∀(g:Gh) (w:World) (vs:List Value),Inv (VA g w Li) (Xs .dead Li) g w->Xy g args vs->
  Calls P f vs.toArray w fun e w'=>e= .panicked ch/\∃M',YN g.M M'/\Inv {VA g w Li with g0:={g with M:=M'}} (fun _=> .dead) {g with M:=M'} w'
def XqL (ch:List PanicEntry):Exit->St->Prop
 | .panic c,_=>c=ch
 |_,_=>False
def X21 {c:Code}{args:List AVal} (hf:P.funcs[f]? =some fn) (hb:fn.body=some c) (hn:fn.ntmps=n)
  (hle:Nat.ble (J args) n=true) (h:∀E,AWP P E c (X2U n args Li) (XqL ch)):X0d P f Li args ch:=by
 intro g w vs hi hs;have hl:=V6 hs;refine calls_of_wp hf hb ?_;have hstart:holds (VA g w Li) (X2U n args Li) {tmps:=vs.toArray++Array.replicate (fn.ntmps-vs.toArray.size) undef,defers:=[]} w:=by
  refine⟨g,hi,rfl,?_,fun t=> ?_⟩
  ·simp_all [X2U]
  ·show AVal.sat g (Xs _ _ _) _;simp only[X2U];rw[Xcd];simp only[Nat.zero_le,if_true,Nat.sub_zero];cases hx:args[t]? with
   |none=>simp[AVal.sat]
   |some x=>
    obtain⟨u,hu,gG⟩:=X07 hs t x hx;have hlt:t<J vs:=(GS.1 hu).1;have:(vs.toArray++Array.replicate (fn.ntmps-vs.toArray.size) undef).getD t undef=u:=by
     simp_all [Array.getElem?_append_left]
    rw[this];exact gG
 refine wp_mono ((h (VA g w Li)).run _ w hstart) ?_;rintro e a' w' ⟨T,hq,g',ht⟩;cases e with
 |panic c=>
  obtain rfl:c=ch:=hq;refine⟨ht.2.1,rfl,g'.M,ht.1.ext,?_⟩;exact⟨fun _=>trivial,fun _ _ _ h=>h.elim,ht.1.mem,fun _ _ h=>h.elim,fun _ _ h=>h.elim,ht.1.ext,ht.1.lim,ht.1.frame,ht.1.size,ht.1.os,ht.1.out,fun _ _=>Gh.keeps_refl _ _⟩
 |_=>exact hq.elim
def X3o:List (Nat×AObj)->List (Nat×AObj)
 |[]=>[]
 |p::r=>(p.1,.dead)::X3o r
def Xn0 (γ:Nat):∀Li:List (Nat×AObj),Xs .dead (X3o Li) γ= .dead
 |[]=>rfl
 |p::r=>by
  rw[X3o];by_cases h:p.1=γ
  ·rw[h,YK]
  ·rw[YC _ _ _ h,Xn0 γ r]
theorem Xhk (γ:Nat):∀Li:List (Nat×AObj),Yg γ (X3o Li)=Yg γ Li
 |[]=>rfl
 |p::r=>by rw[X3o,Yg,Yg,Xhk γ r]
def Xnu (Lo:List (Nat×AObj)):∀Li:List (Nat×AObj),(∀γ,Yg γ Li=true->Yg γ Lo=true)->X4j Li Lo=true
 |[],_=>rfl
 |p::r,h=>by
  rw[X4j,Bool.and_eq_true];exact⟨h _ (by simp[Yg]),Xnu Lo r fun γ b6=>h γ (by simp[Yg,b6])⟩
def XoP (Lo:List (Nat×AObj)):∀Li:List (Nat×AObj),X4n Lo (X3o Li)=true
 |[]=>rfl
 |p::r=>by rw[X3o,X4n,XoP Lo r];rfl
def Xo4 (Li:List (Nat×AObj)):∀Lo:List (Nat×AObj),(∀γ,Yg γ Lo=true->Yg γ Li=true)->VU Li Lo=[]
 |[],_=>rfl
 |p::r,h=>by
  rw[VU,h _ (by simp[Yg])];exact Xo4 Li r fun γ b6=>h γ (by simp[Yg,b6])
theorem XiV (S:St):∀xs,J (evA S xs)=J xs
 |[]=>rfl
 |x::r=>by rw[evA,LC,LC,XiV S r]
structure Booms (P:Program) (f:FuncId) (args:Array Operand) (ch:List PanicEntry) (S:St):Prop where
 ex:∃Li zs,leL (evA S args.toList) zs/\X0d P f Li zs ch/\X2H P f=true/\Vn S Li
def X2K {xs:List Operand}{ys:List AVal} (ag:X0d P f Li zs ch) (hxs:args.toList=xs) (hys:evA S xs=ys) (hle:leL ys zs) (hf:X2H P f=true) (bB:Vn S Li):Booms P f args ch S:=
 ⟨Li,zs,by grind,ag,hf,bB⟩
theorem Xnr {tys:Array TypeId} (hs:holds E S a w) {Li:List (Nat×AObj)}{zs:List AVal} (hle:leL (evA S args.toList) zs) (ag:X0d P f Li zs ch) (hf:X2H P f=true) (bB:Vn S Li) {o:Oper} (ho:o.op= .call ⟨.value (.func f),args,tys⟩) {K:Act->World->Prop}{Q:Exit->Act->World->Prop}
  (hQ:∀w',holds E (S.cat (X3o Li)) a w'->Q (.panic ch) a w'):o.wp P a w K Q:=by
 obtain⟨g,hs⟩:=hs;have bf:Xy g zs (args.toList.map a.eval):=by
  grind [X86,Xae,XiV,X1K,Xas]
 have hinv:Inv (VA g w Li) (Xs .dead Li) g w:=by
  have hsub:=Xm bB;have hl:∀γ b,Xw g (Xs .dead Li γ) γ b->Xw g (S.obj γ) γ b:=by
   grind [Xw,X90]
  refine⟨fun γ=> ?_,fun γ γ' b k k'=>hs.1.inj γ γ' b (hl _ _ k) (hl _ _ k'),hs.1.mem,fun γ b k=>hs.1.sep γ b (hl _ _ k),fun γ b k=> .inr ⟨γ,k⟩,YN.refl _,fun a v ha=> .inl ⟨v,ha⟩,fun _ _ _=>rfl,Nat.le_refl _,rfl,rfl,fun _ _=>Gh.keeps_refl _ _⟩;rcases hsub γ with e|e
  ·rw[e];exact hs.1.obj γ
  ·rw[e];trivial
 have aA:=ag g w (args.toList.map a.eval) hinv bf;have hrun:(execOp a.eval o).run P w= .ok (.enter f (args.toList.map a.eval).toArray) w:=by
  have e1:(#[]++args.map a.eval++ #[]:Array Value)=(args.toList.map a.eval).toArray:=by
   grind
  grind [execOp,resolve,Act.eval,Deferred.ofValue,invoke,Xd3]
 unfold Oper.wp;rw[hrun,Oper.upon_enter];refine aA.mono ?_;rintro e w' ⟨rfl,M',hM,hi'⟩;have hc:Inv {VA g w Li with g0:={g with M:=M'}} (Xs .dead (X3o Li)) {g with M:=M'} w':=by
  have:Xs .dead (X3o Li)=fun _=>AObj.dead:=funext fun γ=>Xn0 γ Li;rw[this];exact hi'
 have hnew:=Xo4 Li (X3o Li) (fun γ h=>by grind [Xhk]);obtain⟨j1,j2,j3⟩:=XfW hs.1 bB (Xnu (X3o Li) Li (fun γ h=>by grind [Xhk])) (XoP _ Li) (by rw[hnew];trivial) (by rw[hnew];trivial) hc (fun γ _=>Gh.keeps_of rfl rfl rfl);exact hQ w' ⟨_,j1,hs.2.1,hs.2.2.1,fun t=>j3 t _ (hs.2.2.2 t)⟩
theorem Xi3 {tys:Array TypeId} (hs:holds E S a w) (hb:Booms P f args ch S) {o:Oper} (ho:o.op= .call ⟨.value (.func f),args,tys⟩) {K:Act->World->Prop}{Q:Exit->Act->World->Prop}
  (hQ:∀T w',holds E T a w'->Q (.panic ch) a w'):o.wp P a w K Q:=by
 obtain⟨Li,zs,hle,ag,hf,bB⟩:=hb.ex
 grind [Xnr]
def XdK {Q:Exit->Act->World->Prop} (js:List Nat) (hQ:∀a w,holds E T a w->wpOps P ops Q js a w):
  ∀(l:XU) (S:St) (a:Act) (w:World),(∀x∈l,ops[x.1]? =some x.2.1)->Xef P ops l S T->holds E S a w->wpOps P ops Q (l.map (·.1)++js) a w
 |[],S,a,w,_,hc,hs=>hQ _ _ (St.Eqv.holds hc hs)
 |x::r,S,a,w,ha,hc,hs=>by
  obtain⟨hv,hok,hr⟩:=hc;rw[map_cons,cons_append,wpOps_cons];unfold wpOp;simp only[ha x (by simp)];have iD:=hv E S a w hs hok Q (wpOps P ops Q (r.map (·.1)++js)) (fun a' w' h'=>XdK js hQ r _ _ _ (fun y hy=>ha y (by simp[hy])) hr h');split
  ·rename_i hw;rw[PI hw] at iD;exact .inl iD
  ·rename_i hw;rw[NI hw] at iD;exact iD
theorem Xew (k:Nat) {K:XU->St->Prop} (hk:k<=ops.size) (h:Walk P ops false K (ops.toList.take k) [] S)
  (hK:∀l T,K l T->∀a w,holds E T a w->wpOps P ops (fun e a' w'=> ∃T,Q e T/\holds E T a' w') (range' k (ops.size-k)) a w):AWP P E (.region id ops false) S Q:=by
 refine⟨fun a w hs=>wp_region ?_⟩;obtain⟨m,T,h1,h2,h3,h4,h5⟩:=h.chain;have hlen:J m=k:=by grind [LT]
 have aY:∀x∈m,ops[x.1]? =some x.2.1:=by
  intro x hx;obtain⟨i,hi,rfl⟩:=getElem_of_mem hx;have e1:(m[i]).1=i:=by
   have:=CG (fun l=>l[i]?) h5;simpa [hi] using this
  have e2:=CG (fun l=>l[i]?) h4
  grind
 have:=XdK (P:=P) (Q:=fun e a' w'=> ∃T,Q e T/\holds E T a' w') (range' k (ops.size-k)) (hK _ T h2) m S a w aY h3 hs;rw[h5,hlen,length_nil] at this;have e:range' 0 k++range' k (ops.size-k)=range ops.size:=by
  rw[range_eq_range'];have:=range'_append_1 (s:=0) (m:=k) (n:=ops.size-k)
  grind
 rwa [e] at this
theorem X2D (k:Nat) {d:Option Nat}{f:FuncId}{args:Array Operand}{tys:Array TypeId}{ty:TypeId}{pos:String}{ah:Array Edge}{ch:List PanicEntry}
  (ho:ops[k]? =some ⟨d,.call ⟨.value (.func f),args,tys⟩,ty,pos,ah,none⟩) (hQ:∀T,Q (.panic ch) T) (h:Walk P ops false (fun _=>Booms P f args ch) (ops.toList.take k) [] S):AWP P E (.region id ops false) S Q:=by
 have hk:k<ops.size:=(Array.getElem?_eq_some_iff.1 ho).1;refine Xew k (Nat.le_of_lt hk) h fun _ T hT a w hs=> ?_;obtain⟨n,hn⟩:∃n,ops.size-k=n+1:=⟨ops.size-k-1,by omega⟩
 grind [range'_succ,wpOps_cons,wpOp,Region.wanted,Xi3]
theorem Xxe (k:Nat) {d:Option Nat}{x:Operand}{ty:TypeId}{pos:String}{ah:Array Edge}{t:TypeId}{v:Value}
  (ho:ops[k]? =some ⟨d,.panic x,ty,pos,ah,none⟩) (hQ:∀T,Q (.panic [{v:= .iface t v,recovered:=false}]) T) (h:Walk P ops false (fun _ T=>T.ev x= .d (.v (.iface t v))) (ops.toList.take k) [] S):AWP P E (.region id ops false) S Q:=by
 have hk:k<ops.size:=(Array.getElem?_eq_some_iff.1 ho).1;refine Xew k (Nat.le_of_lt hk) h fun _ T hT a w hs=> ?_;obtain⟨n,hn⟩:∃n,ops.size-k=n+1:=⟨ops.size-k-1,by omega⟩
 rw[hn,range'_succ,wpOps_cons];unfold wpOp;simp only[ho];rw[PI (show Region.wanted _ _=true from rfl)];obtain⟨g,hs⟩:=hs;have hv:=X9O hs x;rw[hT] at hv;have hv:=Uy hv;left;unfold Oper.wp;have hrun:(execOp a.eval ⟨d,.panic x,ty,pos,ah,none⟩).run P w= .halt (.panic (.iface t v)) w:=by
  simp[execOp,hv,run_panic_iface]
 rw[hrun,Oper.upon_panic];exact⟨T,hQ T,g,hs⟩
theorem XmG (k:Nat) {d:Option Nat}{f:FuncId}{args:Array Operand}{tys:Array TypeId}{ty:TypeId}{pos:String}{ah:Array Edge}{ch:List PanicEntry}
  (hm:P.follows .mixedOrders=true) (ho:ops[k]? =some ⟨d,.call ⟨.value (.func f),args,tys⟩,ty,pos,ah,none⟩) (hQ:∀T,Q (.panic ch) T)
  (h:Walk P ops false (fun l T=> ∃c,(∀U,c.ok U->Booms P f args ch U)/\c.ok T/\Walk P ops true (fun _ U=>U.obj 999= .box [.bq False False]) (ops.toList.drop (k+1)) ((J l,⟨d,.call ⟨.value (.func f),args,tys⟩,ty,pos,ah,none⟩,c)::l) (c.app T)) (ops.toList.take k) [] S):AWP P E (.region id ops true) S Q:=by
 have hk:k<ops.size:=(Array.getElem?_eq_some_iff.1 ho).1;refine⟨fun a w hs=> ?_⟩;have hv:∀o c,XaB P ops o c->X7L P ops E (fun e a' w'=> ∃T,Q e T/\holds E T a' w') o c:=fun o c h=>h.q E _;obtain⟨m,T,-,⟨c,hb,hok,h2⟩,h3,h4,h5⟩:=h.chain;obtain⟨m',T',g1,g2,g3,g4,g5⟩:=h2.chain;have hlen:J m=k:=by grind [LT]
 have pE:X7L P ops E (fun e a' w'=> ∃T,Q e T/\holds E T a' w') ⟨d,.call ⟨.value (.func f),args,tys⟩,ty,pos,ah,none⟩ c:=by
  grind [Region.wanted,Xi3,X7L]
 simp only[append_nil,length_reverse,length_nil] at g1 g3 g4 g5 h5;refine Xoj (m:=m++(J m,⟨d,.call ⟨.value (.func f),args,tys⟩,ty,pos,ah,none⟩,c)::m') hm ?_ (T:=T') ?_ ((h3.mono hv).app ⟨pE,hok,g3.mono hv⟩) ?_ ?_ hs
 ·grind
 ·rintro a w ⟨g,hg⟩;have ho:=hg.1.obj 999;rw[g2] at ho;obtain⟨vs,e,fr,-,-,q,-⟩:=ho;obtain⟨v,-,hv⟩:=X07 q 0 (.bq False False) rfl
  grind [AVal.sat]
 ·grind [drop_eq_getElem_cons,take_append_drop]
 ·rw[map_append,map_cons,h5,g5,LC,length_reverse,LA,LC,<-range'_succ,hlen]
  grind
abbrev XgO (rs:List (Operand×AVal)) (d:Option (Nat×AVal)) (Li:List (Nat×AObj)):Cert:=⟨rs,d,Li,[(999,.box [.bq False False])],[]⟩
def Xjz {xs:List Operand}{ys:List AVal}{d:Option (Nat×AVal)} (ag:X0d P f Li zs ch) (hxs:args.toList=xs) (hl:J ys=J xs) (hle:leL ys zs) (hf:X2H P f=true):
  ∀U,(XgO (xs.zip ys) d Li).ok U->Booms P f args ch U:=by
 intro U hU;have h1:=hU.1;have h2:=hU.2.1;refine⟨Li,zs,?_,ag,hf,h2⟩;rw[hxs];have:evA U xs=ys:=by
  clear hle ag hxs hU h2;induction xs generalizing ys with
  |nil=>grind [evA]
  |cons x xs ih=>
   cases ys<;>grind [zip_cons_cons,evA,X1U]
 rw[this];exact hle
theorem Xme (k:Nat) {d:Option Nat}{f:FuncId}{args:Array Operand}{tys:Array TypeId}{ty:TypeId}{pos:String}{ah:Array Edge}{ch:List PanicEntry}
  (ho:ops[k]? =some ⟨d,.call ⟨.value (.func f),args,tys⟩,ty,pos,ah,none⟩) (h:Walk P ops false (fun _ T=> ∃Li zs,leL (evA T args.toList) zs/\X0d P f Li zs ch/\X2H P f=true/\Vn T Li/\Q (.panic ch) (T.cat (X3o Li))) (ops.toList.take k) [] S):AWP P E (.region id ops false) S Q:=by
 have hk:k<ops.size:=(Array.getElem?_eq_some_iff.1 ho).1;refine Xew k (Nat.le_of_lt hk) h fun _ T hT a w hs=> ?_;obtain⟨n,hn⟩:∃n,ops.size-k=n+1:=⟨ops.size-k-1,by omega⟩
 grind [range'_succ,wpOps_cons,wpOp,Region.wanted,Xnr]
def X9u {T:TypeId}{mb:Nat} (hx:S.ev x= .rs β o n c) (hlo:S.ev lo=ai lb) (hhi:S.ev hi=ai hb) (cU:S.ev mx=ai mb) (cg:lb<=hb) (hh:hb<=mb) (hm:mb<=c)
  (hT:UT P T sz=true) (hd:Nat.blt d S.n=true) (hg:XL ops S gd)
  (h:Walk P ops draw K rest ((J l,⟨some d,.slice T x (some lo) (some hi) (some mx),ty,pos,ah,gd⟩,⟨XH ops gd++[(x,.rs β o n c),(lo,ai lb),(hi,ai hb),(mx,ai mb)],some (d,.any),[],[],[]⟩)::l) (S.set d .any)):
  Walk P ops draw K (⟨some d,.slice T x (some lo) (some hi) (some mx),ty,pos,ah,gd⟩::rest) l S:=by
 refine Yq h hg (Uk rfl fun E S g a w hs hq hl=> ?_) ⟨⟨hx,hlo,hhi,cU,TV⟩,TV,TV,hd⟩;obtain⟨e,h1,h2,h3⟩:=X29 hT;obtain⟨aN,bJ,hq3,hq4,_⟩:=hq;have hv:=X3l aN;have e2:=Uy bJ;have e3:=Uy hq3;have e4:=Uy hq4;simp_all [Instr.sliceBounds,run_sliceBound,run_slice_any,AVal.sat,execOp,Instr.sliceAt,run_underlying]
section
variable {P:Program}
def Xsy {T T2 ty e:TypeId}{i:TypeInfo}{z:Value}{base:Option Addr}{cap:Nat}{kd:IntKind}{k2:IntKind}{olds:Array Value}
  (hT:P.underlying T=some (.slice e)) (hi:P.info? e=some i) (hz:i.zero=some z) (h2:P.underlying T2=some (.int k2)) (hbytes:i.bytes≠0) (hs0:i.size≠0) (hm:0<m)
  (hold:∀w':World,w'.heap=w.heap->(Builtin.firstCells i.size n (.slice base n cap)).run P w'= .ok olds w') (hroom:¬n+m<=cap)
  (hmb:m*i.bytes<=2^48) (dy:n+m<2^63) (hcap:Builtin.nextslicecap (n+m) cap*i.bytes<=2^48):
  let newCap:=(Question.appendCap (n+m) cap e).cut (w.tape w.drawn (.appendCap (n+m) cap e))
  (Builtin.append_ #[T,T2] ty #[.slice base n cap,.int kd m]).run P w=
   .ok (.slice (some ⟨w.heap.size,0,none⟩) (n+m) newCap) (w.drew.alloc (.cells (olds++Builtin.zeroCells z.cells m++Builtin.zeroCells z.cells (newCap-(n+m))) e)):=by
 have ho:=hold w.drew rfl;have hw:IntKind.i64.wrap (m:Int)=m:=by grind [IntKind.wrap_i64]
 have hneg:¬((m:Int)<0):=by omega
 have qW:¬(281474976710656<(m:Int)*(i.bytes:Int)):=by omega
 have h63':¬(9223372036854775807<((n:Int)+(m:Int))):=by omega
 have aB:¬(m*i.size=0):=Nat.mul_ne_zero (by omega) hs0;have hm0:m≠0:=by omega
 simp[Builtin.append_,run_underlying hT,run_underlying h2,sizeOf,typeInfo,zeroValue,hi,hz,asInt,asIntOf,hw,hneg,hm0,hs0,hroom,hbytes,qW,h63',Nat.not_lt.2 hcap,Question.forced,ho,newRow];omega
def Xbf (P:Program) (t:TypeId):Bool:=match P.underlying t with|some (.int _)=>true|_=>false
def Xt8 {t:TypeId} (h:Xbf P t=true):∃k,P.underlying t=some (.int k):=by
 grind [Xbf]
variable {ops:Array Oper}{draw:Bool}{K:XU->St->Prop}{rest:List Oper}{l:XU}{S:St}
variable {d:Nat}{ty:TypeId}{pos:String}{ah:Array Edge}{gd:Option (Nat×Bool)}
def XuN {T T2:TypeId}{zs:List Value} (hx:S.ev x= .rs β 0 n1 c1) (hy:S.ev y= .d (.v (.int kd (m:Nat)))) (hL:S.obj β= .raw cs none) (hfull:¬n1+m<=c1) (hn':n1+m=n')
  (hm:0<m) (hxs:cs.take (n1*sz)=xs.flatten.map some) (hxl:J xs=n1) (hxz:∀r∈xs,J r=sz) (hle:n1*sz<=J cs)
  (hz:X34 P T=some zs) (hB:elB P T=bytes) (hT:X1w P T sz bytes=true) (bN:Xbf P T2=true) (hb0:Nat.beq bytes 0=false) (hs0:Nat.beq sz 0=false) (hcap:n'*bytes<=70368744177664) (hold:c1<n')
  (av:S.obj γ= .dead) (hf:S.free γ=true) (hd:Nat.blt d S.n=true) (hg:XL ops S gd)
  (h:Walk P ops draw K rest ((J l,⟨some d,.call ⟨.builtin .append,#[x,y],#[T,T2]⟩,ty,pos,ah,gd⟩,⟨XH ops gd++[(x,.rs β 0 n1 c1),(y,.d (.v (.int kd (m:Nat))))],some (d,.own γ n'),[(β,.raw cs none),(γ,.dead)],[(γ,.row sz (xs++replicate m (zD zs)))],[γ]⟩)::l)
   ((S.set d (.own γ n')).own γ (.row sz (xs++replicate m (zD zs))))):
  Walk P ops draw K (⟨some d,.call ⟨.builtin .append,#[x,y],#[T,T2]⟩,ty,pos,ah,gd⟩::rest) l S:=by
 refine Yq h hg (X3H rfl fun E S g a w hs hq hl iR=> ?_) ⟨⟨hx,hy,TV⟩,⟨hL,av,TV⟩,⟨hf,TV⟩,hd⟩;obtain⟨e,i,z,hu,hi,hsz,gI,bH,hzs,cE⟩:=X6x hT;obtain⟨k2,h2⟩:=Xt8 bN;have sU:z.cells.toList=zs:=by
  grind [Xho,X5i]
 have ho:=hs.1.obj β;rw[hl.1] at ho;have hx':=X3l hq.1;have hy':=Uy hq.2.1;obtain⟨vs,r1,r2,r3⟩:=Xhm (P:=P) (o:=0) (q:=n1*sz) ho (by omega);rw[drop_zero,hxs,map_map] at r2;have qX:=X5L hb0;have qY:=X5L hs0;have hnext:=nextslicecap_le (need:=n1+m) (old:=c1) (by omega);have hmb:m*i.bytes<=2^48:=by
  have:m*i.bytes<=n'*i.bytes:=Nat.mul_le_mul_right _ (by omega)
  grind
 have hgrow:Builtin.nextslicecap (n1+m) c1*i.bytes<=2^48:=by
  have h2:Builtin.nextslicecap (n1+m) c1*i.bytes<=2*(n1+m)*i.bytes:=Nat.mul_le_mul_right _ hnext
  grind [Nat.mul_assoc]
 have dy:n1+m<2^63:=by
  have:n'<=n'*bytes:=Nat.le_mul_of_pos_right _ (by omega);omega
 have hr:=Xsy (P:=P) (w:=w) (T:=T) (T2:=T2) (ty:=ty) (base:=some ⟨g.az β,0,none⟩) (n:=n1) (cap:=c1) (m:=m) (kd:=kd) (olds:=vs.toArray) hu hi bH h2 (by rw[gI];exact qX) (by rw[hsz];exact qY) hm
  (fun w' hw'=>by grind [Xfi]) hfull hmb dy hgrow
 obtain⟨m7,pF⟩:=XaW (n1+m) c1 e (w.tape w.drawn (.appendCap (n1+m) c1 e)) dy;simp only at hr;revert hr m7 pF;generalize (Question.appendCap (n1+m) c1 e).cut (w.tape w.drawn (.appendCap (n1+m) c1 e))=nc;intro hr m7 pF;rw[hn'] at hr m7;have hlen:J (xs++replicate m (zD zs))=n':=by grind
 have hzl:J zs=sz:=by grind
 have ng:(Builtin.zeroCells z.cells m).toList=VC zs m:=by grind [Builtin.zeroCells,XbR]
 have bJ:=Xfx (g:=g) (zs:=zs) (by grind) m;refine⟨_,g.put γ 0 (.slice (some ⟨w.heap.size,0,none⟩) n' nc),_,X7o rfl (by rw[hx',hy'];exact hr),X9Q (w:=w),X80 hs.1 γ iR.1 hl.2.1 _ _ _ (fun k hk=>X4V w.drew _ k hk) (X7q w.drew _) rfl rfl ?_ (fun k hk=> ?_),X44 iR.1 hs.2.2.2⟩
 ·refine⟨fun r hr=>(mem_append.1 hr).elim (hxz r) (fun hr=>by grind [XbS]),.inr ⟨w.heap.size,nc,_,e,(0,0),by grind [Gh.put],by omega,pF,heap_alloc_new w.drew _,X6J _,?_,?_⟩⟩
  ·simp only[Array.size_append,X79,hzs,size_toArray,r1];rw[<-Nat.add_mul,<-Nat.add_mul]
   grind
  ·have e1:((vs.toArray++Builtin.zeroCells z.cells m++Builtin.zeroCells z.cells (nc-n')).toList.take (J (xs++replicate m (zD zs))*sz))=vs++VC zs m:=by
    grind [X79,Nat.add_mul]
   rw[e1,flatten_append];exact X7Z (Xc9 _ _) (Xdq r2 bJ)
 ·obtain⟨a1,n2,c2,e1,e2⟩:=hk
  grind [Gh.put]
end
abbrev fl (xs:List (List D)):List (Option D):=xs.flatten.map some
theorem X0Y (h:∀x∈xs,J x=sz):J (fl xs)=J xs*sz:=by
 grind [X2m]
theorem Xks (xs ys:List (List D)):fl (xs++ys)=fl xs++fl ys:=by simp[fl]
def XjQ:∀ds:List D,X3b (ds.map some)=true
 |[]=>rfl
 |d::ds=>by rw[map_cons,X3b,XjQ ds];rfl
def Xp9 (xs:List (List D)):X3b (fl xs)=true:=XjQ _
def X3Q (h:∀x∈xs,J x=sz) (j:Nat):∀x∈xs.take j,J x=sz:=by grind
def Xf6 (h:∀x∈xs,J x=sz) (j:Nat):∀x∈xs.drop j,J x=sz:=by grind
theorem X6u (h:∀x∈xs,J x=sz) (T:List (Option D)) {j:Nat} (hj:j<=J xs):(fl xs++T).take (j*sz)=fl (xs.take j):=by
 have e:fl xs=fl (xs.take j)++fl (xs.drop j):=by grind [take_append_drop]
 have hl:J (fl (xs.take j))=j*sz:=by grind [X0Y,LT]
 grind
theorem Xoi (h:∀x∈xs,J x=sz) (T:List (Option D)) {j:Nat} (hj:j<=J xs):(fl xs++T).drop (j*sz)=fl (xs.drop j)++T:=by
 have e:fl xs=fl (xs.take j)++fl (xs.drop j):=by grind [take_append_drop]
 grind [X0Y,LT]
theorem Xoc (h:∀x∈xs,J x=sz) (T:List (Option D)) (q:Nat):(fl xs++T).drop (J xs*sz+q)=T.drop q:=by
 rw[<-drop_drop,drop_left' (X0Y h)]
section
variable {sz i:Nat}{xs:List (List D)}{v:List D}{T:List (Option D)}
def X7i (sz i:Nat) (xs:List (List D)) (T:List (Option D)):List (Option D):=fl (xs.take (i+1))++(fl (xs.drop i)++T.drop sz)
def X7n (sz i:Nat) (xs:List (List D)) (v:List D) (T:List (Option D)):List (Option D):=fl (xs.take i)++(fl [v]++(fl (xs.drop i)++T.drop sz))
theorem X6V (h:∀x∈xs,J x=sz) (hi:i<J xs):((fl xs++T).drop (i*sz)).take ((J xs-i)*sz)=fl (xs.drop i):=by
 grind [Xoi,X0Y,LD]
def Xb6 (h:∀x∈xs,J x=sz) (hi:i<J xs):(fl xs++T).take ((i+1)*sz)++((fl xs++T).drop (i*sz)).take ((J xs-i)*sz)++(fl xs++T).drop ((i+1)*sz+(J xs-i)*sz)=X7i sz i xs T:=by
 have e:(i+1)*sz+(J xs-i)*sz=J xs*sz+sz:=by
  rw[<-Nat.add_mul,show i+1+(J xs-i)=J xs+1 by omega,Nat.succ_mul]
 grind [Xoc,X6V,X6u,X7i]
def X9v (h:∀x∈xs,J x=sz) (hi:i<J xs):(X7i sz i xs T).take (i*sz)++([v].take 1).flatten.map some++(X7i sz i xs T).drop (i*sz+1*sz)=X7n sz i xs v T:=by
 have hl:J (xs.take (i+1))=i+1:=by grind
 have e:i*sz+1*sz=J (xs.take (i+1))*sz+0:=by grind
 unfold X7i X7n;rw[e,Xoc (X3Q h (i+1)),drop_zero,X6u (X3Q h (i+1)) _ (by omega),take_take,Nat.min_eq_left (by omega),AS];rfl
def XaZ (h:∀x∈xs,J x=sz) (hv:J v=sz) (hi:i<=J xs):(X7n sz i xs v T).take ((J xs+1)*sz)=(xs.take i++v::xs.drop i).flatten.map some:=by
 have e:X7n sz i xs v T=fl (xs.take i++v::xs.drop i)++T.drop sz:=by
  grind [X7n]
 have hl:∀x∈xs.take i++v::xs.drop i,J x=sz:=by
  grind
 have hn:J (xs.take i++v::xs.drop i)=J xs+1:=by grind
 grind [X0Y]
def Xan (h:∀x∈xs,J x=sz) (hv:J v=sz):∀x∈xs.take i++v::xs.drop i,J x=sz:=by
 grind
def X9K (hi:i<=J xs):J (xs.take i++v::xs.drop i)=J xs+1:=by grind
def Xad (h:∀x∈xs,J x=sz) (hi:i<J xs) (hT:sz<=J T):J (X7i sz i xs T)=J xs*sz+J T:=by
 unfold X7i;rw[LA,LA,X0Y (X3Q h _),X0Y (Xf6 h _),LT,LD,LD,Nat.min_eq_left (by omega)];have:(i+1)*sz+(J xs-i)*sz=J xs*sz+sz:=by rw[<-Nat.add_mul,show i+1+(J xs-i)=J xs+1 by omega,Nat.succ_mul]
 omega
def Xb5 (h:∀x∈xs,J x=sz) (hv:J v=sz) (hi:i<=J xs) (hT:sz<=J T):J (X7n sz i xs v T)=J xs*sz+J T:=by
 unfold X7n;rw[LA,LA,LA,X0Y (X3Q h _),X0Y (Xf6 h _),LT,LD,LD,Nat.min_eq_left hi];have h1:J (fl [v])=sz:=by simp[fl,hv]
 have:i*sz+(J xs-i)*sz=J xs*sz:=by rw[<-Nat.add_mul];congr 1;omega
 omega
def X9Y {zs:List (List D)} (hi:i<=J xs) (hz:J zs=J xs+1-i) (hlt:i<J xs):
  ((xs.take i++zs).take i++[v].take 1++(xs.take i++zs).drop (i+1)).take (i+1)++((xs.take (J xs)).drop i).take (J xs-i)++((xs.take i++zs).take i++[v].take 1++(xs.take i++zs).drop (i+1)).drop (i+1+(J xs-i))=xs.take i++v::xs.drop i:=by
 have l1:J (xs.take i)=i:=by grind
 have l2:J (xs.take i++[v])=i+1:=by grind
 have e1:(xs.take i++zs).take i=xs.take i:=take_left' l1;have l3:J ((xs.take i++zs).drop (i+1))=J xs-i:=by grind
 have e2:((xs.take (J xs)).drop i).take (J xs-i)=xs.drop i:=by grind [LD]
 have e3:(xs.take i++[v]++(xs.take i++zs).drop (i+1)).drop (i+1+(J xs-i))=[]:=drop_eq_nil_of_le (by grind)
 grind
def X8t (sz i:Nat) (xs:List (List D)) (W:List (Option D)):List (Option D):=fl (xs.take i)++(fl (xs.drop (i+1))++W)
theorem Xjs (h:∀x∈xs,J x=sz) (hi:i<J xs) {c off:Nat} (hc:J xs<=c) (ho:(if c=i+1 then 0 else 0+(i+1)*sz)=off):((fl xs++T).drop off).take ((J xs-(i+1))*sz)=fl (xs.drop (i+1)):=by
 grind [Xoi,X0Y,LD]
def X9D (hi:i<J xs) {c off:Nat} (hc:J xs<=c) (ho:(if c=i+1 then 0 else 0+(i+1)*sz)=off) (h:∀x∈xs,J x=sz):off+(J xs-(i+1))*sz<=J (fl xs++T):=by
 rw[LA,X0Y h];by_cases e:J xs=i+1
 ·grind
 ·have:off=(i+1)*sz:=by grind
  rw[this,<-Nat.add_mul,show i+1+(J xs-(i+1))=J xs by omega];omega
def XtP (h:∀x∈xs,J x=sz) (hi:i<J xs) {c off:Nat} (hc:J xs<=c) (ho:(if c=i+1 then 0 else 0+(i+1)*sz)=off):(fl xs++T).take (0+i*sz)++((fl xs++T).drop off).take ((J xs-(i+1))*sz)++(fl xs++T).drop (0+i*sz+(J xs-(i+1))*sz)=X8t sz i xs ((fl xs++T).drop (i*sz+(J xs-(i+1))*sz)):=by
 grind [Xjs,X6u,X8t]
def Xw9 (h:∀x∈xs,J x=sz) (hi:i<J xs) (W V:List (Option D)):((X8t sz i xs W).take ((J xs-1)*sz)++V).take ((J xs-1)*sz)=(xs.take i++xs.drop (i+1)).flatten.map some:=by
 have hl:∀x∈xs.take i++xs.drop (i+1),J x=sz:=by
  grind
 have hn:J (xs.take i++xs.drop (i+1))=J xs-1:=by grind
 grind [X8t,X0Y]
def XaT (hi:i<J xs):J (xs.take i++xs.drop (i+1))=J xs-1:=by grind
def XsM (h:∀x∈xs,J x=sz) (hi:i<J xs):J (X8t sz i xs ((fl xs++T).drop (i*sz+(J xs-(i+1))*sz)))=J xs*sz+J T:=by
 unfold X8t;have e1:i*sz+(J xs-(i+1))*sz<=J xs*sz:=by rw[<-Nat.add_mul];exact Nat.mul_le_mul_right _ (by omega)
 grind [X0Y,LT,LD]
end
def Xgp (P:Program) (t:TypeId):Bool:=match P.underlying t with|some (.interface _)=>false|some _=>true|none=>false
def Xz6 {t:TypeId} (h:Xgp P t=true) (v:Value) (w:World):(Instr.makeInterface t v).run P w= .ok (.iface t v) w:=by
 unfold Xgp at h;cases hu:P.underlying t with
 |none=>simp[hu] at h
 |some d=>
  unfold Instr.makeInterface;rw[Sem.run_bind,run_underlying hu w];cases d<;>simp_all
def Xuz {t:TypeId} (hx:S.ev x= .d (.v u)) (ht:Xgp P t=true) (hd:Nat.blt d S.n=true) (hg:XL ops S gd)
  (h:Walk P ops draw K rest ((J l,⟨some d,.makeInterface t x,ty,pos,ah,gd⟩,⟨XH ops gd++[(x,.d (.v u))],some (d,.d (.v (.iface t u))),[],[],[]⟩)::l) (S.set d (.d (.v (.iface t u))))):
  Walk P ops draw K (⟨some d,.makeInterface t x,ty,pos,ah,gd⟩::rest) l S:=
 Yq h hg (Uk rfl fun E S g a w hs hq _=>by
  refine⟨.iface t u,?_,X0k rfl⟩;simp only[execOp,Uy hq.1,Sem.run_bind,Xz6 ht];rfl) ⟨⟨hx,TV⟩,TV,TV,hd⟩
theorem XkH:∀{xs us:List Value},Xy g (xs.map fun x=> .d (.v x)) us->Xy g' (xs.map fun x=> .d (.v x)) us
 |[],[],_=>by grind [Xy]
 |[],_::_,h=>by grind [Xy]
 |_::_,[],h=>by grind [Xy]
 |x::xs,u::us,h=>by
  simp only[map_cons,Xy,AVal.sat,D.rep] at h |-;exact⟨h.1,XkH h.2⟩
def Xro (xs:List Value) (g g':Gh) (v:Value) (h:(AVal.tup (xs.map fun x=> .d (.v x))).sat g v):(AVal.tup (xs.map fun x=> .d (.v x))).sat g' v:=by
 grind [AVal.sat,XkH]
def X5F {a b:Value} (γ:Nat) (ag:Con P f [] (.d (.sl sz xs)::post) [] (.tup [.d (.v a),.d (.v b)])):
  Con P f [(γ,.row sz xs)] (.own γ (J xs)::post) [(γ,.row sz xs)] (.tup [.d (.v a),.d (.v b)]):=
 Xuw (pre:=[]) γ ag (Xro [a,b])
structure AW (P:Program) (E:Env) (c:Code) (S:St) (R:Exit->Act->World->Prop):Prop where
 run:∀a w,holds E S a w->c.wp P R a w
section
variable {P:Program}{E:Env}{S:St}{R:Exit->Act->World->Prop}
def Xdc {c:Code} (h:AWP P E c S (fun e T=> ∀a w,holds E T a w->R e a w)):AW P E c S R:=
 ⟨fun a w hs=>wp_mono (h.run a w hs) fun e a' w' ⟨T,h1,h2⟩=>h1 a' w' h2⟩
def X50 {x y:Code} (h:AWP P E x S (X3p (fun T=>AW P E y T R) (fun e T=> ∀a w,holds E T a w->R e a w))):AW P E (.seq x y) S R:=by
 refine⟨fun a w hs=>wp_seq (wp_mono (h.run a w hs) ?_)⟩;rintro e a' w' ⟨T,hq,ht⟩;cases e<;>first|exact hq.run a' w' ht|exact hq a' w' ht
def Xd8 {c:Code} (h:S.le T) (k:AW P E c T R):AW P E c S R:=⟨fun a w hs=>k.run a w (h E a w hs)⟩
end
def X8n (E:Env) (Li Lo:List (Nat×AObj)) (xs:List AVal):Ending->World->Prop:=fun e w'=>
 ∃v g',e= .returned v/\(X6M xs).sat g' v/\Inv {E with g0:=g'} (Xs .dead Lo) g' w'/\∀γ,Yg γ Li=true->E.g0.keeps g' γ
def Xb3 {c:Code}{args xs:List AVal} (hf:P.funcs[f]? =some fn) (hb:fn.body=some c) (hn:fn.ntmps=n)
  (hle:Nat.ble (J args) n=true) (h:∀E,E.ds=[]->AW P E c (X2U n args Li) (bodyPostD P fn (X8n E Li Lo xs))):Con P f Li args Lo (X6M xs):=by
 intro g w vs hi hs;have hl:=V6 hs;refine calls_of_wp_defers hf hb ?_;have hstart:holds (VA g w Li) (X2U n args Li) {tmps:=vs.toArray++Array.replicate (fn.ntmps-vs.toArray.size) undef,defers:=[]} w:=by
  refine⟨g,hi,rfl,?_,fun t=> ?_⟩
  ·simp_all [X2U]
  ·show AVal.sat g (Xs _ _ _) _;simp only[X2U];rw[Xcd];simp only[Nat.zero_le,if_true,Nat.sub_zero];cases hx:args[t]? with
   |none=>simp[AVal.sat]
   |some x=>
    obtain⟨u,hu,gG⟩:=X07 hs t x hx;have hlt:t<J vs:=(GS.1 hu).1;have:(vs.toArray++Array.replicate (fn.ntmps-vs.toArray.size) undef).getD t undef=u:=by
     simp_all [Array.getElem?_append_left]
    rw[this];exact gG
 exact(h (VA g w Li) rfl).run _ w hstart
section
variable {P:Program}{E:Env}{fn:Func}{rs:List ResultVar}{Li Lo:List (Nat×AObj)}{xs:List AVal}
def XqS (hds:E.ds=[]) (hr:fn.results.toList=rs) (aS:X5y Li=true) (h:Vw P rs Lo xs T) {a:Act}{w:World} (hs:holds E T a w):Leaves P fn a.tmps (X8n E Li Lo xs) a.defers .returning w:=by
 obtain⟨U,hU,hres,hsub⟩:=h;obtain⟨g',hg'⟩:=hU _ _ _ hs;obtain⟨v,r1,r2⟩:=Xce hg' hr hres;rw[hg'.2.1,hds];exact⟨v,r1,v,g',rfl,r2,(hg'.1.sub hsub).free (fun γ _=>Gh.keeps_refl _ _),fun γ b6=>hg'.1.kp γ (XaA Li γ aS b6)⟩
abbrev dfr (f:FuncId) (b:Nat):Deferred:={target:= .fn (.func f) #[.pointer (some ⟨b,0,none⟩)],args:= #[]}
def XhF (hf:X2H P f=true) (b:Nat) (w:World):(invoke (dfr f b).target (dfr f b).args).run P w= .ok (.enter f #[.pointer (some ⟨b,0,none⟩)]) w:=by
 grind [invoke,Xd3]
def Xkq (hf:X2H P f=true) (hds:E.ds=[dfr f b]) (hr:fn.results.toList=rs) (aS:X5y Li=true)
  (hR:∀x w',X8n E Li Lo xs x w'->R x w')
  (pG:∀p w,CallsD P f #[.pointer (some p)] .returning w fun e u' w'=>e= .returned (.tuple #[])/\u'= .returning/\w'=w) (h:Vw P rs Lo xs T) {a:Act}{w:World} (hs:holds E T a w):Leaves P fn a.tmps R a.defers .returning w:=by
 obtain⟨U,hU,hres,hsub⟩:=h;obtain⟨g',hg'⟩:=hU _ _ _ hs;obtain⟨v,r1,r2⟩:=Xce hg' hr hres;rw[hg'.2.1,hds];refine leaves_cons (f:=f) (args:= #[.pointer (some ⟨b,0,none⟩)]) (by simp) (XhF hf b w) ((pG _ _).mono ?_);rintro e u' w' ⟨rfl,rfl,rfl⟩;exact⟨v,r1,hR _ _ ⟨v,g',rfl,r2,(hg'.1.sub hsub).free (fun γ _=>Gh.keeps_refl _ _),fun γ b6=>hg'.1.kp γ (XaA Li γ aS b6)⟩⟩
end
def Xvk {x0 y:AVal} (hs:Vr E S g a w) (hL:S.obj γ= .box [x0]) (hy:y.sat g u) (hc:y.cellish=true):
  ∃c0,w.cell? ⟨g.az γ,0,none⟩=some c0/\x0.sat g c0/\w.frozen? ⟨g.az γ,0,none⟩=false/\Vr E (S.own γ (.box [y])) g a (w.setCell ⟨g.az γ,0,none⟩ u):=by
 have ho:=hs.1.obj γ;rw[hL] at ho;obtain⟨vs,e,fr,h1,h2,h3,h4⟩:=ho;obtain⟨c0,hc0,bf⟩:=X07 h3 0 x0 rfl;have hsz:vs.size=1:=by have:=V6 h3;simpa using this
 have hvs:vs= #[c0]:=by
  grind
 subst hvs;have hb:(w.setCell ⟨g.az γ,0,none⟩ u).heap[g.az γ]? =some (.cells #[u] e fr):=by
  grind [World.setCell]
 refine⟨c0,by rw[cell_of_row w _ 0 _ e fr h1];rfl,bf,?_,?_,hs.2.1,hs.2.2.1,hs.2.2.2⟩
 ·have:=h2 0 (by omega)
  grind [World.frozen?]
 ·refine Inv.upd hs.1 γ _ (YK _ _ _ _) (fun k hk=>YC _ _ _ (Ne.symm hk)) (fun b hb ax=> ?_) (by simp[World.setCell]) rfl rfl rfl (fun k hk=>⟨rfl,rfl,rfl⟩) (fun k cs us _ _ h=>h) ?_ (fun b hb=> .inl (by rw[hL];exact hb)) (fun _=>Gh.keeps_refl _ _)
  ·grind [World.setCell,Xw]
  grind [Xy,Ud]
def XjZ {t:Nat}{ty:TypeId}{x:PanicEntry}{e e0:Int} (hf:X2H P f=true) (hds:E.ds=[dfr f b]) (hb:E.g0.az β=b) (kn:β<100) (hr:fn.results.toList=[.cell t ty]) (tq:X1u P ty false 1=true) (aS:X5y Li=true)
  (hR:∀x w',X8n E Li Lo [ai e] x w'->R x w') (uS:x.recovered=true)
  (nB:∀(p:Addr) (e0:Int) (w:World),w.cell? p=some (.int .i64 e0)->w.frozen? p=false->CallsD P f #[.pointer (some p)] (.panicking [{x with recovered:=false}]) w fun y u' w'=>y= .returned (.tuple #[])/\u'= .panicking [{x with recovered:=true}]/\w'=w.setCell p (.int .i64 e))
  (hg:T.get t= .ptr β 0) (hL:T.obj β= .box [ai e0]) (tu:∀γ,Xs .dead Lo γ= .dead) {a:Act}{w:World} (hs:holds E T a w):Leaves P fn a.tmps R a.defers (.panicking [{x with recovered:=false}]) w:=by
 obtain⟨g,hs⟩:=hs;obtain⟨c0,k1,k2,k3,k4⟩:=Xvk (y:=ai e) (u:= .int .i64 e) hs hL (X0k rfl) rfl;have hbk:g.az β=b:=((hs.1.kp β kn).1).trans hb;have hc0:c0= .int .i64 e0:=Uy k2;subst hc0;rw[hbk] at k1 k3 k4;rw[hs.2.1,hds];refine leaves_cons (f:=f) (args:= #[.pointer (some ⟨b,0,none⟩)]) (by simp) (XhF hf b w) ((nB _ _ _ k1 k3).mono ?_);rintro y u' w' ⟨rfl,rfl,rfl⟩;have hres:XaX P (T.own β (.box [ai e])) [.cell t ty] [ai e]:=⟨⟨β,0,_,hg,YK _ _ _ _,.inl ⟨tq,rfl⟩⟩,TV⟩
 obtain⟨v,r1,r2⟩:=Xce k4 hr hres;exact⟨v,r1,hR _ _ ⟨v,g,rfl,r2,(k4.1.sub fun γ=> .inr (tu γ)).free (fun γ _=>Gh.keeps_refl _ _),fun γ b6=>k4.1.kp γ (XaA Li γ aS b6)⟩⟩
def Xuu {a:Nat} (h1:k≠a) (h2:k≠b):swp a b k=k:=by
 grind [swp,Nat.eq_of_beq_eq_true]
theorem Xbw {R:Exit->Act->World->Prop}{y:Code} (k:Nat) {t:Tmp}{f:FuncId}{Li Lo:List (Nat×AObj)}{xs:List AVal} (β β':Nat) {ty:TypeId}{pos:String}{ah:Array Edge}
  (ho:ops[k]? =some ⟨none,.defer ⟨.value (.tmp t),#[],#[]⟩,ty,pos,ah,none⟩) (hsz:ops.size=k+1) (hds:E.ds=[]) (kn:β≥100) (bB:∀γ,Yg γ Li=true->γ<100/\γ≠β')
  (h:Walk P ops false (fun _ T=>T.ev (.tmp t)= .fn f [.ptr β 0]/\∀E' b,E'.ds=[dfr f b]->E'.g0.az β'=b->(∀x w',X8n E' Li Lo xs x w'->X8n E Li Lo xs x w')->AW P E' y ⟨T.n,X85 (swp β β') T.τ,X1T (swp β β') T.L⟩ R) (ops.toList.take k) [] S):AW P E (.seq (.region id ops false) y) S R:=by
 refine⟨fun a w hs=>wp_seq ?_⟩;refine wp_region ?_;obtain⟨m,T,-,⟨hT,gT⟩,h3,h4,h5⟩:=h.chain;have hlen:J m=k:=by grind [LT]
 have aY:∀x∈m,ops[x.1]? =some x.2.1:=by
  intro x hx;obtain⟨i,hi,rfl⟩:=getElem_of_mem hx;have e1:(m[i]).1=i:=by
   have:=CG (fun l=>l[i]?) h5;simpa [hi] using this
  have e2:=CG (fun l=>l[i]?) h4
  grind
 have bI:∀a w,holds E T a w->wpOps P ops (fun| .normal,a,w=>y.wp P R a w|e,a,w=>R e a w) [k] a w:=by
  rintro a w ⟨g,hg⟩;rw[wpOps_cons];unfold wpOp;simp only[ho];rw[PI (show Region.wanted _ _=true from rfl)];have hv:=X9O hg (.tmp t);rw[hT] at hv;simp only[AVal.sat] at hv;obtain⟨vs,hv,hvs⟩:=hv;have cP:vs= #[.pointer (some ⟨g.az β,0,none⟩)]:=by
   apply Array.ext'
   match hq:vs.toList,hvs with
   |[v],hvs=>grind [Xy,AVal.sat]
   |[],hvs=>simp[Xy] at hvs
   |_::_::_,hvs=>simp[Xy] at hvs
  subst cP;left;unfold Oper.wp;have hrun:(execOp a.eval ⟨none,.defer ⟨.value (.tmp t),#[],#[]⟩,ty,pos,ah,none⟩).run P w= .ok (.defer (dfr f (g.az β))) w:=by
   simp[execOp,resolve,hv,Deferred.ofValue]
  rw[hrun,Oper.upon_defer];show Code.wp P y R _ _;refine(gT {E with ds:=[dfr f (g.az β)],g0:=g.pull (swp β β')} (g.az β) rfl ?_ ?_).run _ _ ?_
  ·show g.az (swp β β' β')=g.az β;have:swp β β' β'=β:=by
    have:=X5p β β' β;simp_all [swp]
   rw[this]
  ·rintro x w' ⟨v,g',e1,e2,e3,e4⟩;refine⟨v,g',e1,e2,⟨e3.obj,e3.inj,e3.mem,e3.sep,e3.new,e3.ext,e3.lim,e3.frame,e3.size,e3.os,e3.out,e3.kp⟩,fun γ b6=> ?_⟩;obtain⟨q1,q2⟩:=bB γ b6;have e:=e4 γ b6;have hid:swp β β' γ=γ:=Xuu (by omega) q2;exact(hg.1.kp γ q1).trans' ((Gh.keeps_of (g':=g.pull (swp β β')) (by grind [Gh.pull]) (by grind [Gh.pull]) (by grind [Gh.pull])).trans' e)
  ·have cW:(g.pull (swp β β')).pull (swp β β')=g:=by simp[Gh.pull,X5p]
   have hi:Inv {E with g0:=(g.pull (swp β β')).pull (swp β β')} (Xs .dead T.L) ((g.pull (swp β β')).pull (swp β β')) w:=by
    rw[cW];exact hg.1.free fun _ _=>Gh.keeps_refl _ _
   have hi2:=(XbW (E:=E) (g0:=g.pull (swp β β')) (X5p β β') (X5p β β')).2 hi;refine⟨g.pull (swp β β'),⟨hi2.obj,hi2.inj,hi2.mem,hi2.sep,hi2.new,hi2.ext,hi2.lim,hi2.frame,hi2.size,hi2.os,hi2.out,hi2.kp⟩,?_,hg.2.2.1,fun t'=> ?_⟩
   ·show _::a.defers=_;rw[hg.2.1,hds]
   ·show AVal.sat _ (Xs .any (X85 (swp β β') T.τ) t') _;rw[Xg5,XdH,cW];exact hg.2.2.2 t'
 obtain⟨g,hs⟩:=hs;have:=XdK (P:=P) (Q:=fun| .normal,a,w=>y.wp P R a w|e,a,w=>R e a w) [k] bI m S a w aY h3 ⟨g,hs⟩;rw[h5,hlen,length_nil] at this;have e:range' 0 k++[k]=range ops.size:=by
  rw[hsz,range_succ,range_eq_range']
 rw[e] at this;exact this
def X3S (W W':World):Prop:=W'.os=W.os/\W'.output=W.output/\W.heap.size<=W'.heap.size/\∀b,b<W.heap.size->W'.heap[b]? =W.heap[b]?
def g0 (M:Mem):Gh:=⟨fun _=>0,fun _=> .slice none 0 0,fun _ _=> .slice none 0 0,M⟩
def Xd2 {aZ:List AVal}{args:Array Value} (hc:Con P f [] aZ [] res) (M:Mem) (hM:∀a v,M a=some v->W.cell? a=some v)
  (hs:Xy (g0 M) aZ args.toList):Calls P f args W fun e W'=> ∃v g',e= .returned v/\res.sat g' v/\X3S W W':=by
 have hi:Inv (VA (g0 M) W []) (Xs .dead []) (g0 M) W:=by
  refine⟨fun _=>trivial,fun _ _ _ h=>h.elim,hM,fun _ _ h=>h.elim,fun _ _ h=>h.elim,YN.refl _,fun a v h=> .inl ⟨v,h⟩,fun _ _ _=>rfl,Nat.le_refl _,rfl,rfl,fun γ _=>Gh.keeps_refl _ _⟩
 refine(hc (g0 M) W args.toList hi hs).mono ?_;rintro e W' ⟨v,g',rfl,hv,hi',_⟩;exact⟨v,g',rfl,hv,hi'.os,hi'.out,hi'.size,fun b hb=>hi'.frame b hb fun⟨γ,h⟩=>h.elim⟩
def X3S.but (h:X3S W W') (may:MemPlace->Prop):W.keptBut W' may:=by
 refine⟨h.1,h.2.1,fun i hi=> ?_⟩
 grind [X3S]
theorem X3S.frozen (h:X3S W W') {a:Addr} (ha:a.block<W.heap.size):W'.frozen? a=W.frozen? a:=by
 grind [World.frozen?,X3S]
section
open Go.ChangeShapes Go.WideShapes Go.ChangeAt Go.RowKit
open List renaming length->J
variable {H:Type}{enc:TypeId×Value->H}{P:Program}
def X3S.same (h:X3S W W') {p:MemPlace} (hp:p.block<W.heap.size):W.sameAt W' p:=by
 cases p with
 |cell b off=>
  show W'.cell? _=W.cell? _;have:=h.2.2.2 b hp
  grind [World.cell?]
 |map b=>exact h.2.2.2 b hp
theorem XkE (h:X3S W W') {base:Nat}{spare:Nat->Bool}{held:Bool}:∀{ts:List TypeId}{vs:List Value}{ds:List (DataW H)}{ps:List MemPlace},DataW.TrodAll enc P W base spare held ts vs ds ps->DataW.TrodAll enc P W' base spare held ts vs ds ps
 |[],[],[],_,k=>k
 |_::_,_::_,_::_,_,⟨p,q,⟨n,h1⟩,h2,e⟩=>
  ⟨p,q,⟨n,DataW.trod_carry n _ _ _ h1 fun x hx=>h.same (DataW.trod_lt n _ _ _ h1 x hx)⟩,XkE h h2,e⟩
def Xcr {f:Func}{s:ChangeSpec}{apart fresh handsOn again:Bool}{args:Array Value}{ds gs:List (DataW H)}{before:List MemPlace}{tb:TypeId}{T:TypeId->Prop}
  (hW:DataW.Whole enc P f.params.toList s.vars apart W args.toList ds gs before) (hv:s.vars=[])
  (h1:(s.fn H (ds++gs)).results=[.lit (.bool true)]) (h2:(s.fn H (ds++gs)).args=ds) (h3:(s.fn H (ds++gs)).vars=gs)
  (qZ:f.resultTypes= #[tb]) (htb:P.underlying tb=some .bool) (hk:X3S W W') (K:Kids P T) (hz:∀t e,T t->P.underlying t=some (.slice e)->0<P.cellsOf e) (hT:∀t∈f.params.toList,T t):
  s.post enc P f apart fresh handsOn again W args (.bool true) W':=by
 have hlt:=hW.lt;have lz:=hW;obtain⟨p,q,hA,hV,hpq,hfr,gu⟩:=hW;have r7:∀sp:Nat->Bool,DataW.TrodVars enc P W' sp s.vars (s.fn H (ds++gs)).vars q:=by
  intro sp;rw[h3];rw[hv] at hV |-;obtain⟨e1,e2⟩:=trodVars_none hV;subst e1 e2;rfl
 have hres:∀(b:Nat) (sp:Nat->Bool) (hd:Bool),DataW.TrodAll enc P W' b sp hd f.resultTypes.toList ((Value.bool true).resultList f.resultTypes.size) (s.fn H (ds++gs)).results []:=by
  intro b sp hd;rw[h1,qZ];exact trodAll_mk1 (shut_bool htb true)
 have hargs:∀sp:Nat->Bool,(∀x∈before,sp x.block=true)->DataW.TrodAll enc P W' 0 sp true f.params.toList args.toList (s.fn H (ds++gs)).args p:=by
  grind [DataW.TrodAll.respare,XkE]
 have hold:∀x∈before,(fun b=>decide (b<W.heap.size)) x.block=true:=fun x hx=>by simpa using hlt x hx
 refine⟨ds,gs,before,[],p,q,lz,hres _ _ _,hargs _ hold,r7 _,hk.but _,fun _=> ?_⟩;refine⟨ok_one qZ rfl (okWide_bool_mk htb true),_,_,([]++p)++q,⟨[]++p,q,trodAll_append (hargs _ (fun _ _=>rfl)) (hres _ _ _),r7 _,rfl,?_,?_⟩,?_⟩
 ·intro b off hp;have hm:MemPlace.cell b off∈before:=by grind
  rw[hk.frozen (a:=⟨b,off,none⟩) (hlt _ hm)];exact hfr b off hm
 ·grind
 grind
end
open Go Go.ChangeShapes Go.WideShapes Go.Deep
open List renaming length->J
def Vu (M:Mem):List D->List Value->Prop
 |[],[]=>True
 |d::ds,v::vs=>d.rep M v/\Vu M ds vs
 |_,_=>False
theorem Xg2:∀{ds es:List D}{us vs:List Value},Vu M ds us->Vu M es vs->Vu M (ds++es) (us++vs)
 |[],_,[],_,_,h=>h
 |[],_,_::_,_,h,_=>by simp only[Vu] at h
 |_::_,_,[],_,h,_=>by simp only[Vu] at h
 |d::ds,es,u::us,vs,h,k=>by
  simp only[Vu,cons_append] at h |-;exact⟨h.1,Xg2 h.2 k⟩
theorem Xe8:∀{ds:List D}{us:List Value},Vu M ds us->J us=J ds
 |[],[],_=>rfl
 |[],_::_,h=>by simp only[Vu] at h
 |_::_,[],h=>by simp only[Vu] at h
 |d::ds,u::us,h=>by simp only[Vu] at h;simp[Xe8 h.2]
theorem Xeu:∀{ds:List D}{us:List Value},Vu M ds us->∀(i:Nat) (d:D),ds[i]? =some d->∃u,us[i]? =some u/\d.rep M u
 |[],[],_,_,_,h=>by simp at h
 |[],_::_,h,_,_,_=>by simp only[Vu] at h
 |_::_,[],h,_,_,_=>by simp only[Vu] at h
 |d::ds,u::us,h,0,e,he=>by grind [Vu]
 |d::ds,u::us,h,i+1,e,he=>by
  simp only[Vu] at h;simpa using Xeu h.2 i e (by simpa using he)
def Xgw {α:Type}{p:Nat->α->Prop}:∀n,(∀i,i<n->∃r,p i r)->∃l:List α,J l=n/\∀(i:Nat) (r:α),l[i]? =some r->p i r
 |0,_=>⟨[],rfl,fun i r h=>by simp at h⟩
 |n+1,h=>by
  obtain⟨l,h1,h2⟩:=Xgw n (fun i hi=>h i (by omega));obtain⟨r,hr⟩:=h n (by omega);refine⟨l++[r],by simp[h1],fun i x hx=> ?_⟩;rw[getElem?_append] at hx;split at hx
  ·exact h2 i x hx
  ·rename_i hi;have:i=n:=by
    rcases Nat.lt_or_ge (i-J l) 1 with hj|hj
    ·omega
    ·simp[show i-J l≠0 by omega] at hx
   subst this;simp[h1] at hx;subst hx;exact hr
section
variable {H:Type}{enc:TypeId×Value->H}{P:Program}{W:World}
structure Opens {α:Type} (enc:TypeId×Value->H) (P:Program) (W:World) (t:TypeId) (p:α->Prop) (f:α->List D):Prop where
 op:∀n cs x,DataW.trod enc P W 0 (fun _=>true) true n t cs=some x->∃r,p r/\Vu W.cell? (f r) cs
def Opens.to {α β:Type}{t:TypeId}{p:α->Prop}{f:α->List D} (h:Opens enc P W t p f) {q:β->Prop}{g:β->List D} (φ:α->β) (hφ:∀a,p a->q (φ a)/\f a=g (φ a)):Opens enc P W t q g:=by
 refine⟨fun n cs x hx=> ?_⟩;obtain⟨r,h1,h2⟩:=h.op n cs x hx
 grind
def XgT {t:TypeId} (ht:P.underlying t=some .bool):Opens enc P W t (fun _:Bool=>True) (fun b=>[.v (.bool b)]):=by
 refine⟨fun n cs x hx=> ?_⟩;cases n with
 |zero=>simp[DataW.trod] at hx
 |succ n=>
  unfold DataW.trod at hx;rw[ht] at hx;split at hx
  case h_1 _ _ b _=>exact⟨b,TV,⟨rfl,rfl⟩,TV⟩
  all_goals simp_all
def Xox {t:TypeId}{k:IntKind} (ht:P.underlying t=some (.int k)):Opens enc P W t (fun n:Int=>(Lit.int k n).wf=true) (fun n=>[.v (.int k n)]):=by
 refine⟨fun n cs x hx=> ?_⟩
 grind [DataW.trod_int,Vu,D.rep,Value.oneCell']
theorem X0X {t:TypeId} (ht:P.underlying t=some (.int .i64)):Opens enc P W t (fun n:Int=> -9223372036854775808<=n/\n<=9223372036854775807) (fun n=>[.v (.int .i64 n)]):=
 (Xox ht).to id fun a ha=>⟨bounds_i64 ha,rfl⟩
structure OpensF {α:Type} (enc:TypeId×Value->H) (P:Program) (W:World) (N:Nat) (fs:List Field) (off:Nat) (p:α->Prop) (f:α->List D):Prop where
 op:∀cs:List Value,J cs=N->(∀q∈fs,∃n x,DataW.trod enc P W 0 (fun _=>true) true n q.type ((cs.drop q.offset).take (P.cellsOf q.type))=some x)->∃r,p r/\Vu W.cell? (f r) (cs.drop off)
def X47:OpensF enc P W N [] N (fun _:Unit=>True) (fun _=>[]):=by
 refine⟨fun cs hN _=>⟨(),TV,?_⟩⟩
 grind [Vu]
def UQ {α β:Type}{q:Field}{fs:List Field}{off s:Nat}{p:α->Prop}{f:α->List D}{p':β->Prop}{f':β->List D} (hoff:q.offset=off) (hs:P.cellsOf q.type=s)
  (h:Opens enc P W q.type p f) (k:OpensF enc P W N fs (off+s) p' f'):OpensF enc P W N (q::fs) off (fun r:α×β=>p r.1/\p' r.2) (fun r=>f r.1++f' r.2):=by
 refine⟨fun cs hN hall=> ?_⟩;obtain⟨n,x,hx⟩:=hall q (by simp);rw[hoff,hs] at hx;obtain⟨r,h1,h2⟩:=h.op _ _ _ hx;obtain⟨r',h3,h4⟩:=k.op cs hN fun q' lC=>hall q' (by simp[lC]);refine⟨(r,r'),⟨h1,h3⟩,?_⟩
 grind [Xg2,drop_drop,take_append_drop]
def X4b {α:Type}{t:TypeId}{fs:Array Field}{p:α->Prop}{f:α->List D} (ht:P.underlying t=some (.struct fs)) (hN:P.cellsOf t=N) (h:OpensF enc P W N fs.toList 0 p f):Opens enc P W t p f:=by
 refine⟨fun n cs x hx=> ?_⟩;obtain⟨xs,n',_,_,hl,hlen,hf⟩:=DataW.trod_struct ht hx;have:=h.op cs (hl.trans hN) fun q hq=>by
  grind [getElem?_of_mem]
 simpa using this
end
section
variable {H:Type}{enc:TypeId×Value->H}{P:Program}{W:World}
structure OpensN {α:Type} (enc:TypeId×Value->H) (P:Program) (W:World) (n:Nat) (t:TypeId) (p:α->Prop) (f:α->List D):Prop where
 op:∀cs x,DataW.trod enc P W 0 (fun _=>true) true n t cs=some x->∃r,p r/\Vu W.cell? (f r) cs
theorem Opens.at {α:Type}{t:TypeId}{p:α->Prop}{f:α->List D} (h:Opens enc P W t p f) (n:Nat):OpensN enc P W n t p f:=⟨h.op n⟩
def OpensN.to {α β:Type}{t:TypeId}{p:α->Prop}{f:α->List D} (h:OpensN enc P W n t p f) {q:β->Prop}{g:β->List D} (φ:α->β) (hφ:∀a,p a->q (φ a)/\f a=g (φ a)):OpensN enc P W n t q g:=by
 refine⟨fun cs x hx=> ?_⟩;obtain⟨r,h1,h2⟩:=h.op cs x hx
 grind
end
abbrev Xc1 (b:UInt8):List D:=[.v (.int .u8 b.toNat)]
abbrev Xhg (l:List UInt8):D:= .sl 1 (l.map Xc1)
theorem XuR (bs:List UInt8):Lib.bytesOf (bs.map fun b=>(b.toNat:Int))=bs:=by
 simp[Lib.bytesOf,map_congr_left]
theorem Xva (bs:List UInt8):(bs.map Xc1).flatten=bs.map fun b=>D.v (.int .u8 (b.toNat:Int)):=by
 induction bs<;>simp_all
def XtE (hi:Inv E L g w) {bs:List UInt8}{c:UInt8}{x:Value} (h:(Xhg bs).rep g.M x):
  (Extern.BytealgIndexByte.indexByte #[x,.int .u8 c.toNat]).run P w= .ok (.int .i64 (Lib.indexByte bs c)) w:=by
 simp only[D.rep] at h;obtain⟨a,cap,rfl,h2,h3,h4⟩:=h;have e0:bs=[]->(Extern.BytealgIndexByte.indexByte #[.slice a (J (bs.map Xc1)) cap,.int .u8 c.toNat]).run P w= .ok (.int .i64 (Lib.indexByte bs c)) w:=by
  rintro rfl;cases a with
  |none=>grind [Lib.indexByte,Lib.run_indexByteNil]
  |some a=>
   have hs:=Lib.run_indexByteString (P:=P) ByteArray.empty (c.toNat:Int) w
   change Sem.run P (do
    let b <-Extern.Bytes.bytesOf (.slice (some a) 0 cap)
    let c <-Extern.Bytes.asByte (.int .u8 c.toNat)
    match (range b.size).find? fun i=>b[i]! ==c with
    |some i=>pure (goInt i)
    |none=>pure (goInt (-1))) w=_
   change Sem.run P (do
    let b <-Extern.Bytes.bytesOf (.string ByteArray.empty)
    let c <-Extern.Bytes.asByte (.int .u8 c.toNat)
    match (range b.size).find? fun i=>b[i]! ==c with
    |some i=>pure (goInt i)
    |none=>pure (goInt (-1))) w=_ at hs
   simp_all [Extern.Bytes.bytesOf,Extern.Bytes.loadBytes]
 rcases h4 with he|⟨b,o,rfl,hr⟩
 ·grind
 ·obtain⟨vs,k1,k2,k3⟩:=Xcu hi.mem _ b o hr;have hl:=Lib.run_indexByteSlice (P:=P) w b o (J bs) cap (bs.map fun b=>(b.toNat:Int)) (by simp) (fun i hi'=>by
   have hv:i<J vs:=by grind
   have ko:vs[i]? =some vs[i]:=getElem?_eq_getElem hv;have hd:((bs.map Xc1).flatten)[i]? =some (D.v (.int .u8 ((bs[i]'hi').toNat:Int))):=by grind [Xva]
   grind [D.rep]) (c.toNat:Int)
  simp_all [XuR]
def Xxp {tys:Array TypeId}{bs:List UInt8}{c:UInt8} (hx:S.ev x= .d (Xhg bs)) (hy:S.ev y= .d (.v (.int .u8 c.toNat)))
  (hf:P.funcs[f]? =some fn) (h1:(fn.name== "runtime.NumGoroutine")=false) (h2:fn.body.isNone=true) (h3:Extern.findNext fn=none) (h4:Extern.find fn=some Extern.BytealgIndexByte.indexByte)
  (hd:Nat.blt d S.n=true) (hg:XL ops S gd)
  (h:Walk P ops draw K rest ((J l,⟨some d,.call ⟨.value (.func f),#[x,y],tys⟩,ty,pos,ah,gd⟩,⟨XH ops gd++[(x,.d (Xhg bs)),(y,.d (.v (.int .u8 c.toNat)))],some (d,ai (Lib.indexByte bs c)),[],[],[]⟩)::l) (S.set d (ai (Lib.indexByte bs c)))):
  Walk P ops draw K (⟨some d,.call ⟨.value (.func f),#[x,y],tys⟩,ty,pos,ah,gd⟩::rest) l S:=
 Yq h hg (Uk rfl fun E S g a w hs hq hl=>by
  have e1:=XtE (P:=P) hs.1 (c:=c) (x:=a.eval x) (by have:=hq.1;simpa only[AVal.sat] using this);have e2:=Uy hq.2.1;refine⟨.int .i64 (Lib.indexByte bs c),?_,X0k rfl⟩;have e3:=run_callFunc_extern hf h1 h2 h3 h4 #[a.eval x,a.eval y] w;rw[e2,e1,Result.andThen_ok] at e3;rw[<-e2] at e3;have ef:a.eval (.func f)= .func (.func f) #[] #[]:=rfl;simp_all [execOp,resolve,invoke,Deferred.ofValue]) ⟨⟨hx,hy,TV⟩,TV,TV,hd⟩
end
end Go.Fw
