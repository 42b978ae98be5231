/- Ninth part: the walk's rule for a call; weakening of states; more operations. -/
import Derived.Laws.BytesString
import Derived.WalkSpells
import Derived.Laws.Strings
import Derived.Laws.StructEq
import Derived.Laws.Entries
import Derived.Laws.BitsLemmas
import Derived.Test.YtpbgjcbkhgfmkaaGreatDoorM01
namespace Go.Fw
open Go List
set_option linter.unusedVariables false
set_option linter.unusedSimpArgs false
def evA (S:St):List Operand->List AVal
 |[]=>[]
 |x::r=>S.ev x::evA S r
def X5N:List Operand->List AVal->List (Operand×AVal)
 |x::r,y::s=>(x,y)::X5N r s
 |_,_=>[]
variable{a:Act}{g g':Gh}{E:Env}{Q:Exit->St->Prop}{Li Lo:List (Nat×AObj)}{res yv:AVal}{P:Program}{f:FuncId}{S:St}{args out:List AVal}{b:List UInt8}{bytes cap hb b6 j k lb len m mb n sz γ:Nat}{hi lo:Option Operand}{k' k1 k2 kd:IntKind}{m':Int}{parts:Array (Nat×Operand)}{pl:List (Nat×Operand)}{ps:List (Nat×AVal)}{c i mx x y:Operand}{p:Prop}{w:World}{h u v:Value}{r xs ys:List (List D)}{rows:List (List (List D))}{o:Oper}{us vs zs:List Value}{op:BinOp}{s:ByteArray}{ρ σ:Nat->Nat}
theorem X9d:∀{xs:List Operand}{ys:List AVal},ys.length=xs.length->VD g a (X5N xs ys)->Xx g ys (xs.map a.eval)
 |[],[],_,_=>by grind [Xx]
 |x::xs,y::ys,h,hs=>by
  simp only[map_cons,Xx];exact⟨hs.1,X9d (by simpa using h) hs.2⟩
 |[],_::_,h,_=>by simp at h
 |_::_,[],h,_=>by simp at h
theorem X9K (S:St):∀(xs:List Operand),X1N S (X5N xs (evA S xs))
 |[]=>trivial
 |x::r=>⟨rfl,X9K S r⟩
def AVal.le (x y:AVal):Prop:=∀g u,x.sat g u->y.sat g u
theorem AVal.le_refl (x:AVal):x.le x:=fun _ _ h=>h
theorem AVal.le_nil (sz:Nat):AVal.le aq (.d (.sl sz [])):=fun g u h=>by
 grind [AVal.sat,D.rep]
theorem AVal.le_of_eq {x y:AVal} (h:x=y):x.le y:=h ▸ AVal.le_refl x
def leL:List AVal->List AVal->Prop
 |[],[]=>True
 |x::r,y::s=>x.le y/\leL r s
 |_,_=>False
theorem X85:∀{xs ys:List AVal}{us:List Value},leL xs ys->Xx g xs us->Xx g ys us
 |[],[],_,_,h=>h
 |x::xs,y::ys,u::us,hl,h=>by
  simp only[Xx] at h |-;exact⟨hl.1 g u h.1,X85 hl.2 h.2⟩
 |_::_,_::_,[],_,h=>by simp only[Xx] at h
 |[],_::_,_,hl,_=>hl.elim
 |_::_,[],_,hl,_=>hl.elim
theorem AVal.le_agg {xs ys:List AVal} (h:leL xs ys):AVal.le (.agg xs) (.agg ys):=fun g u hs=>by
 grind [AVal.sat,X85]
def X2J (P:Program) (f:FuncId):Bool:=match P.funcs[f]? with|some fn=> !(fn.name== "runtime.NumGoroutine")&&fn.body.isSome|none=>false
theorem Xb4 (h:X2J P f=true) (args:Array Value) (w:World):(callFunc f args).run P w= .ok (.enter f args) w:=by
 unfold X2J at h;cases hf:P.funcs[f]? with
 |none=>simp[hf] at h
 |some fn=>
  rw[hf] at h;simp only[Bool.and_eq_true,Bool.not_eq_true'] at h;have hb:fn.body.isNone=false:=by
   simp_all
  grind [callFunc,Sem.run_bind,run_program,Result.andThen_ok,Sem.run_pure]
section
variable {P:Program}{ops:Array Oper}{draw:Bool}{K:XW->St->Prop}{rest:List Oper}{l:XW}{S:St}
variable {d:Nat}{ty:TypeId}{pos:String}{ah:Array Edge}{gd:Option (Nat×Bool)}
theorem XuT {args:Array Operand}{tys:Array TypeId}{xs:List Operand}{ys zs:List AVal}
  (hxs:args.toList=xs) (hys:evA S xs=ys) (hle:leL ys zs) (af:Con P f Li zs Lo res) (hf:X2J P f=true)
  (bH:Vq S Li) (hin:X4A Li Lo=true) (dM:X4k Lo Lo=true) (hres:res.within Lo=true) (hnew:X2R S (X0f Li Lo)) (av:Vq S (X48 (X0f Li Lo)))
  (hd:Nat.blt d S.n=true) (hg:XH ops S gd)
  (h:Walk P ops draw K rest ((l.length,⟨some d,.call ⟨.value (.func f),args,tys⟩,ty,pos,ah,gd⟩,⟨XF ops gd++X5N xs ys,some (d,res),Li++X48 (X0f Li Lo),Lo,X0f Li Lo⟩)::l)
   ((S.set d res).cat Lo)):
  Walk P ops draw K (⟨some d,.call ⟨.value (.func f),args,tys⟩,ty,pos,ah,gd⟩::rest) l S:=by
 have hap:∀(A B:List (Nat×AObj)) (T:St),Vq T (A++B)↔Vq T A/\Vq T B:=by
  intro A B T;simp only[X6d,mem_append]
  grind
 have hlen:ys.length=xs.length:=by
  rw[<-hys];clear hys hxs h hle;induction xs<;>simp_all [evA]
 refine Yj h hg ?_ ⟨by grind [X9K],(hap _ _ _).2 ⟨bH,av⟩,hnew,hd⟩;intro E S a w g hs hok Q K hK;obtain⟨cV,dO,gV,cR⟩:=hok;rw[hap] at dO;have b8:=X85 hle (X9d hlen (X1q hs _ cV));have hinv:Inv (Vw g w Li) (Xp .dead Li) g w:=by
  have hsub:=Xj dO.1;have hl:∀γ b,Xw g (Xp .dead Li γ) γ b->Xw g (S.obj γ) γ b:=by
   intro γ b hb;rcases hsub γ with e|e<;>simp_all [Xw]
  refine⟨fun γ=> ?_,fun γ γ' b k k'=>hs.1.inj γ γ' b (hl _ _ k) (hl _ _ k'),hs.1.mem,fun γ b k=>hs.1.sep γ b (hl _ _ k),fun γ b k=> .inr ⟨γ,k⟩,YH.refl _,fun a v ha=> .inl ⟨v,ha⟩,fun _ _ _=>rfl,Nat.le_refl _,rfl,rfl,fun γ _=>Gh.keeps_refl _ _⟩;rcases hsub γ with e|e
  ·rw[e];exact hs.1.obj γ
  ·rw[e];trivial
 have aP:=af g w (xs.map a.eval) hinv b8;have hrun:(execOp a.eval ⟨some d,.call ⟨.value (.func f),args,tys⟩,ty,pos,ah,gd⟩).run P w= .ok (.enter f (xs.map a.eval).toArray) w:=by
  have e1:(#[]++args.map a.eval++ #[]:Array Value)=(xs.map a.eval).toArray:=by
   grind
  simp_all [execOp,resolve,Act.eval,Deferred.ofValue,invoke,Xb4]
 unfold Oper.wp;rw[hrun,Oper.upon_enter];refine aP.mono ?_;rintro e w' ⟨v,g',rfl,hv,hi',hk⟩;obtain⟨j1,j2,j3⟩:=Xfg hs.1 dO.1 hin dM gV dO.2 hi' hk;exact hK _ _ (X2a j1 hs.2.1 hs.2.2.1 (fun t=>j3 t _ (hs.2.2.2 t)) (j2 _ _ hres hv) cR)
end
def leT (S:St):List (Nat×AVal)->Prop
 |[]=>True
 |p::r=>(S.get p.1).le p.2/\leT S r
theorem XmU {t:Nat}:∀(l:List (Nat×AVal)),leT S l->(Xp .any l t= .any\/(S.get t).le (Xp .any l t))
 |[],_=> .inl rfl
 |(k,x)::r,h=>by
  by_cases hk:k=t
  ·subst hk;rw[YE];exact .inr h.1
  ·rw[Yz _ _ _ hk];exact XmU r h.2
theorem Xb {τ:List (Nat×AVal)}{L:List (Nat×AObj)} (hn:S.n=n) (ht:leT S τ) (hL:Vq S L):S.le ⟨n,τ,L⟩:=by
 rintro E a w ⟨g,h1,h2,h3,h4⟩;refine⟨g,h1.sub (Xj hL),h2,h3.trans hn,fun t=> ?_⟩;show AVal.sat g (Xp .any τ t) _;rcases XmU τ ht with e|e
 ·rw[e];simp only[AVal.sat]
 ·exact e g _ (h4 t)
theorem Xdu {M:Mem} (h:(D.sl sz xs).rep M u):xs.length<=9223372036854775807:=by
 grind [D.rep,maxLen]
theorem XhD {c:Code} (t:Nat) {sz:Nat}{xs:List (List D)} (ht:S.get t= .d (.sl sz xs)) (h:xs.length<=9223372036854775807->AWP P E c S Q):AWP P E c S Q:=by
 refine⟨fun a w hs=> ?_⟩;obtain⟨g,hg⟩:=hs;have:=hg.2.2.2 t;rw[ht] at this;simp only[AVal.sat] at this;exact(h (Xdu this)).run a w ⟨g,hg⟩
theorem XgE {c:Code} (t j:Nat) {sz:Nat}{cs:List AVal}{xs:List (List D)} (ht:S.get t= .agg cs) (hj:cs[j]? =some (.d (.sl sz xs))) (h:xs.length<=9223372036854775807->AWP P E c S Q):AWP P E c S Q:=by
 refine⟨fun a w hs=> ?_⟩;obtain⟨g,hg⟩:=hs;have:=hg.2.2.2 t;rw[ht] at this;simp only[AVal.sat] at this;obtain⟨vs,_,h3⟩:=this;obtain⟨u,_,hu⟩:=VQ h3 j _ hj;simp only[AVal.sat] at hu;exact(h (Xdu hu)).run a w ⟨g,hg⟩
theorem X49 {T:St} (hs:Vi E S g a w) (hi:Inv E T.obj g' w) (hn:T.n=S.n) (ht:∀t,(T.get t).sat g' (a.tmps.getD t undef)):holds E T a w:=
 ⟨g',hi,hs.2.1,by rw[hs.2.2.1,hn],ht⟩
theorem Uu (t γ sz:Nat) (ht:S.get t=aq) (av:S.obj γ= .dead) (hf:S.free γ=true):
  S.le ((S.set t (.own γ 0)).own γ (.row sz [])):=by
 rintro E a w ⟨g,hs⟩
 have hi:=X86 hs.1 γ hf av (.row sz []) 0 (.slice none 0 0) (w':=w) (fun _ _=>rfl) (Nat.le_refl _) rfl rfl
  ⟨by simp,.inl ⟨by simp[Gh.put],rfl⟩⟩ (fun k hk=>by obtain⟨a,n,c,e,_⟩:=hk;simp[Gh.put] at e)
 refine X49 hs hi rfl fun k=> ?_;by_cases hk:k=t
 ·subst hk;show AVal.sat _ (Xp .any ((k,_)::S.τ) k) _;rw[YE];have:=hs.2.2.2 k;rw[ht] at this;rw[Up this];simp only[AVal.sat];exact⟨rfl,none,0,0,by simp[Gh.put],Nat.le_refl _,fun _=>rfl⟩
 ·show AVal.sat _ (Xp .any ((t,_)::S.τ) k) _;rw[Yz _ _ _ (Ne.symm hk)];exact X3V hf hs.2.2.2 k
theorem X2y (β j γ sz:Nat) {cs:List AVal} (hb:S.obj β= .box cs) (hj:cs[j]? =some aq) (av:S.obj γ= .dead) (hf:S.free γ=true) (hne:Nat.beq γ β=false):
  S.le ((S.own γ (.row sz [])).own β (.box (cs.set j (.own γ 0)))):=by
 rintro E a w ⟨g,hs⟩
 have hi:=X86 hs.1 γ hf av (.row sz []) 0 (.slice none 0 0) (w':=w) (fun _ _=>rfl) (Nat.le_refl _) rfl rfl
  ⟨by simp,.inl ⟨by simp[Gh.put],rfl⟩⟩ (fun k hk=>by obtain⟨a,n,c,e,_⟩:=hk;simp[Gh.put] at e)
 have u9:γ≠β:=X5d hne;have gy:Xp .dead ((γ,.row sz [])::S.L) β= .box cs:=by grind [Xp,St.obj]
 have ho:=hi.obj β;rw[gy] at ho;obtain⟨vs,e,fr,h1,h2,h3,h4⟩:=ho;have hi2:Inv E (Xp .dead ((β,.box (cs.set j (.own γ 0)))::(γ,.row sz [])::S.L)) (g.put γ 0 (.slice none 0 0)) w:=by
  refine Inv.upd hi β _ (YE _ _ _ _) (fun k hk=>Yz _ _ _ (Ne.symm hk)) (fun _ _ _=>rfl) (Nat.le_refl _) rfl rfl rfl (fun _ _=>⟨rfl,rfl,rfl⟩) (fun _ _ _ _ _ h=>h) ?_ (fun b hb'=> .inl (by rw[gy];exact hb')) (fun _=>Gh.keeps_refl _ _);have hlen:=US h3;refine⟨vs,e,fr,h1,h2,X3B (by simp[hlen]) fun i x u hx hu=> ?_,fun c hc=> ?_⟩
  ·rw[getElem?_set] at hx;split at hx
   ·rename_i hij;subst hij;obtain⟨u',k1,k2⟩:=VQ h3 j aq hj;rw[k1] at hu;cases hu;split at hx
    ·cases hx;rw[Up k2];simp only[AVal.sat];exact⟨rfl,none,0,0,by simp[Gh.put],Nat.le_refl _,fun _=>rfl⟩
    ·simp at hx
   grind [VQ]
  grind [AVal.cellish]
 exact X49 hs hi2 rfl (X3V hf hs.2.2.2)
theorem X83 (hi:Inv E S.obj g w) {γ sz:Nat}{xs:List (List D)} (hL:S.obj γ= .row sz xs):
  ∃M',YH g.M M'/\Inv E (Xp .dead ((γ,.froz sz xs)::S.L)) {g with M:=M'} w:=by
 have ho:=hi.obj γ;rw[hL] at ho;obtain⟨hlen,ho⟩:=ho
 have key:∀(M':Mem),YH g.M M'->(D.sl sz xs).rep M' (g.hd γ)->(∀a v,M' a=some v->g.M a=some v\/(w.cell? a=some v/\Xw g (S.obj γ) γ a.block))->
   Inv E (Xp .dead ((γ,.froz sz xs)::S.L)) {g with M:=M'} w:=by
  intro M' hle cM jL;have dN:∀k,Xp .dead ((γ,.froz sz xs)::S.L) k=if k=γ then .froz sz xs else S.obj k:=by
   grind [YE,Yz,St.obj]
  have hlv:∀k b,Xw {g with M:=M'} (Xp .dead ((γ,.froz sz xs)::S.L) k) k b->k≠γ/\Xw g (S.obj k) k b:=by
   grind [X55,Xw]
  refine⟨fun k=> ?_,fun k k' b h h'=>hi.inj k k' b (hlv _ _ h).2 (hlv _ _ h').2,fun a v h=> ?_,fun k b h a v ha=> ?_,fun k b h=>hi.new k b (hlv _ _ h).2,hi.ext.trans hle,fun a v h=> ?_,hi.frame,hi.size,hi.os,hi.out,fun k hk=>(hi.kp k hk).trans' (Gh.keeps_of rfl rfl rfl)⟩
  ·rw[dN];by_cases hk:k=γ
   ·grind [Ub]
   ·rw[NI hk];exact Xdk (g:=g) (g':={g with M:=M'}) hle rfl rfl rfl (fun _ _=>rfl) (hi.obj k)
  ·rcases jL a v h with h1|h1
   ·exact hi.mem a v h1
   ·exact h1.1
  ·obtain⟨hk,hb⟩:=hlv k b h;rcases jL a v ha with h1|h1
   ·exact hi.sep k b hb a v h1
   ·intro e;rw[e] at h1;exact hk (hi.inj _ _ _ hb h1.2)
  ·rcases jL a v h with h1|h1
   ·exact hi.lim a v h1
   ·exact .inr (hi.new γ _ h1.2)
 rcases ho with ⟨h1,rfl⟩|⟨b,cap,vs,e,fr,h1,h2,h3,h4,h5,h6,h7⟩
 ·refine⟨g.M,YH.refl _,key g.M (YH.refl _) ?_ (fun a v h=> .inl h)⟩
  grind [D.rep]
 ·have hlv:Xw g (S.obj γ) γ b:=by rw[hL];exact⟨_,_,_,h1,rfl⟩
  have hle:YH g.M (fun p=>if p.block=b/\p.spot=none then vs[p.off]? else g.M p):=by
   intro a v h;have:=hi.sep γ b hlv a v h
   grind
  refine⟨_,hle,key _ hle ?_ (fun a v h=> ?_)⟩
  ·simp only[D.rep];refine⟨_,cap,h1,h2,h3,.inr ⟨b,0,rfl,X7K xs 0 hlen fun i d hd=> ?_⟩⟩;obtain⟨hl,hr⟩:=X6p h7
   grind [D.rep_mono]
  ·have h':(if a.block=b/\a.spot=none then vs[a.off]? else g.M a)=some v:=h;split at h'
   ·rename_i hc;obtain⟨b',o,s⟩:=a
    grind [cell_of_row]
   ·exact .inl h'
theorem XP (γ:Nat) {sz:Nat}{xs:List (List D)} (hL:S.obj γ= .row sz xs):S.le (S.own γ (.froz sz xs)):=by
 rintro E a w ⟨g,hs⟩;obtain⟨M',hle,hi⟩:=X83 hs.1 hL;exact X49 hs hi rfl fun t=>X3H (g:=g) (g':={g with M:=M'}) hle rfl rfl rfl (hs.2.2.2 t)
theorem X6v (ho:Ub g w γ (.froz sz xs)) (hn:n=xs.length) (h:(AVal.own γ n).sat g u):(AVal.d (.sl sz xs)).sat g u:=by
 grind [AVal.sat,Ub,D.rep]
theorem Y7 (t γ:Nat) {n sz:Nat}{xs:List (List D)} (ht:S.get t= .own γ n) (hL:S.obj γ= .froz sz xs) (hn:n=xs.length):S.le (S.set t (.d (.sl sz xs))):=by
 rintro E a w ⟨g,hs⟩;refine X49 hs hs.1 rfl fun k=> ?_;by_cases hk:k=t
 ·subst hk;show AVal.sat _ (Xp .any ((k,_)::S.τ) k) _;rw[YE];have:=hs.2.2.2 k;rw[ht] at this;have ho:=hs.1.obj γ
  grind [X6v]
 grind [Yz,St.get,St.set,Vi]
theorem X03 (β j γ:Nat) {cs:List AVal}{n sz:Nat}{xs:List (List D)} (hb:S.obj β= .box cs) (hj:cs[j]? =some (.own γ n)) (hL:S.obj γ= .froz sz xs) (hn:n=xs.length):
  S.le (S.own β (.box (cs.set j (.d (.sl sz xs))))):=by
 rintro E a w ⟨g,hs⟩;have ho:=hs.1.obj β;rw[hb] at ho;obtain⟨vs,e,fr,h1,h2,h3,h4⟩:=ho;have hf:=hs.1.obj γ;rw[hL] at hf;have hi2:Inv E (Xp .dead ((β,.box (cs.set j (.d (.sl sz xs))))::S.L)) g w:=by
  refine Inv.upd hs.1 β _ (YE _ _ _ _) (fun k hk=>Yz _ _ _ (Ne.symm hk)) (fun _ _ _=>rfl) (Nat.le_refl _) rfl rfl rfl (fun _ _=>⟨rfl,rfl,rfl⟩) (fun _ _ _ _ _ h=>h) ?_ (fun b hb'=> .inl (by rw[hb];exact hb')) (fun _=>Gh.keeps_refl _ _)
  grind [US,X3B,VQ,X6v,Ub,AVal.cellish]
 exact X49 hs hi2 rfl hs.2.2.2
theorem Xeo {vs:Array Value} (hlen:∀x∈xs,x.length=sz) (b8:Xx g (xs.flatten.map .d) (vs.toList.take (xs.length*sz))) (hM:YH g.M (g.lay w.heap.size vs).M)
  (hcap:xs.length<=cap) (dL:cap<=maxLen):(AVal.d (.sl sz xs)).sat (g.lay w.heap.size vs) (.slice (some ⟨w.heap.size,0,none⟩) xs.length cap):=by
 simp only[AVal.sat,D.rep];refine⟨_,cap,rfl,hcap,dL,.inr ⟨w.heap.size,0,rfl,X7K xs 0 hlen fun i d hd=> ?_⟩⟩;obtain⟨hl,hr⟩:=X6p b8
 grind [D.rep_mono,Gh.lay]
theorem XdD (hi:Inv E S.obj g w) (γ:Nat) (hf:S.free γ=true) (av:S.obj γ= .dead) {sz:Nat}{xs:List (List D)}{vs:Array Value}{e:TypeId}{fr:Nat×Nat}{cap:Nat}
  (hlen:∀x∈xs,x.length=sz) (b8:Xx g (xs.flatten.map .d) (vs.toList.take (xs.length*sz))) (hcap:xs.length<=cap) (dL:cap<=maxLen) (hsz:cap*sz<=vs.size) (hfr:X4J fr vs.size):
  Inv E (Xp .dead ((γ,.row sz xs)::S.L)) (g.put γ 0 (.slice (some ⟨w.heap.size,0,none⟩) xs.length cap)) (w.alloc (.cells vs e fr)):=
 X86 hi γ hf av _ _ _ (X4K w _) (X6M w _) rfl rfl
  ⟨hlen,.inr ⟨w.heap.size,cap,vs,e,fr,by simp[Gh.put],hcap,dL,heap_alloc_new w _,hfr,hsz,X7p (Xba _ _) b8⟩⟩
  (fun k hk=>by obtain⟨a,n,c,e,rfl⟩:=hk;grind [Gh.put])
theorem X9m {w:World}{a:Option Addr}:(AVal.own γ n).sat (g.put γ 0 (.slice a n cap)) (.slice a n cap):=by
 simp only[AVal.sat];exact⟨rfl,a,n,cap,by simp[Gh.put],Nat.le_refl _,fun _=>rfl⟩
def Vn (z:List Value) (n:Nat):List Value:=(replicate n z).flatten
def X2K (P:Program) (t:TypeId):Option (List Value):=
 match P.underlying t with
 |some (.slice e)=>X4O P e
 |_=>none
theorem XaS {t:TypeId} (h:X2K P t=some zs):∃e,P.underlying t=some (.slice e)/\X4O P e=some zs:=by
 grind [X2K]
theorem X8z (z:Array Value) (n:Nat):((Array.range (n*z.size)).map (fun i=>z[i%z.size]!)).toList=Vn z.toList n:=by
 induction n with
 |zero=>simp[Vn]
 |succ n ih=>
  have e1:Vn z.toList (n+1)=Vn z.toList n++z.toList:=by
   simp[Vn,replicate_succ']
  rw[e1,<-ih];apply ext_getElem?;intro j;simp only[Array.toList_map,Array.toList_range,getElem?_map,getElem?_append,LM,length_range];have hm:(n+1)*z.size=n*z.size+z.size:=Nat.succ_mul _ _;by_cases h1:j<n*z.size
  ·grind
  ·rw[NI h1];by_cases h2:j<(n+1)*z.size
   ·rw[getElem?_range h2];have h3:j-n*z.size<z.size:=by omega
    have h4:j%z.size=j-n*z.size:=by
     have:j=(j-n*z.size)+n*z.size:=by omega
     rw[this,Nat.add_mul_mod_self_right,Nat.mod_eq_of_lt h3];omega
    simp[h4,h3]
   grind
theorem XuS {e:TypeId} (h:X4O P e=some zs):∃z:Value,z.cells.toList=zs/\(∀w,(zeroValue e).run P w= .ok z w):=Xdy h
section
variable {P:Program}{ops:Array Oper}{draw:Bool}{K:XW->St->Prop}{rest:List Oper}{l:XW}{S:St}
variable {d:Nat}{ty:TypeId}{pos:String}{ah:Array Edge}{gd:Option (Nat×Bool)}
theorem Xh0 {T:TypeId}{parts:Array (Nat×Value)}{us:Array Value} (hT:UF P T sz=true) (hz:X2K P T=some zs) (hzl:zs.length=sz) (hsmall:len*sz<=16777216)
  (jM:Instr.fill (fun i=>some (i*sz,sz)) (Vn zs len).toArray parts.toList=some us) (w:World):
  ∃e,(Instr.buildSlice T len parts).run P w= .ok (.slice (some ⟨w.heap.size,0,none⟩) len len) (w.alloc (.cells us e)):=by
 obtain⟨e,h1,h2,_⟩:=X1K hT;obtain⟨e',dD,hze⟩:=XaS hz;rw[h1] at dD;cases dD;obtain⟨z,bR,iD⟩:=XuS hze;refine⟨e,?_⟩;have hzs:z.cells.size=sz:=by grind
 have lF:¬(16777216<len*sz):=by omega
 have mK:Instr.fill (fun i=>some (i*sz,sz)) ((Array.range (len*sz)).map (fun i=>z.cells[i%z.cells.size]!)) parts.toList=some us:=by
  rw[<-jM];congr 1
  grind [X8z]
 by_cases h0:len*sz=0
 ·have hem:(Vn zs len).toArray= #[]:=by
   apply Array.ext';simp only[Vn];rcases Nat.mul_eq_zero.1 h0 with h|h<;>simp_all
  rw[hem] at jM;simp[Instr.buildSlice,run_underlying h1,h2 w,h0,jM,newRow,Array.range_zero']
 ·simp[Instr.buildSlice,run_underlying h1,h2 w,lF,h0,iD w,mK,newRow]
theorem Xj1 {T:TypeId} (bf:parts.toList=pl)
  (hkeys:ps.map (·.1)=pl.map (·.1)) (hT:UF P T sz=true) (hz:X2K P T=some zs) (hzl:Nat.beq zs.length sz=true) (bR:X1x (Vn zs len)=true) (hsmall:Nat.ble (len*sz) 16777216=true) (aK:Nat.ble len 16777216=true)
  (hout:X4d (fun i=>some (i*sz,sz)) (dvL (Vn zs len)) ps=some out) (hxs:X4R sz len out=some xs) {g:Gh}{a:Act} (w:World) (hq:VD g a (X39 pl ps)):
  ∃e,∃us:Array Value,(Instr.buildSlice T len (parts.map fun p=>(p.1,a.eval p.2))).run P w= .ok (.slice (some ⟨w.heap.size,0,none⟩) len len) (w.alloc (.cells us e))/\
   us.toList.length=xs.length*sz/\Xx g (xs.flatten.map .d) us.toList/\xs.length=len/\(∀x∈xs,x.length=sz)/\len<=maxLen:=by
 obtain⟨us,k1,k2⟩:=XbP (vs:=(Vn zs len).toArray) hkeys hq (by grind [X9x]) hout;obtain⟨r1,r2,r3⟩:=XkC hxs;have aM:len*sz<=16777216:=by simpa using hsmall
 obtain⟨e,he⟩:=Xh0 (P:=P) (T:=T) (len:=len) (parts:=parts.map fun p=>(p.1,a.eval p.2)) hT hz (by simpa using hzl) aM (by
  have:(parts.map fun p=>(p.1,a.eval p.2)).toList=pl.map fun p=>(p.1,a.eval p.2):=by simp[bf]
  rw[this];exact k1) w
 rw[<-r1] at k2;have hl:=US k2;simp only[LM,X25 xs r3] at hl;refine⟨e,us,he,hl,k2,r2,r3,?_⟩;unfold maxLen;have:len<=16777216:=by simpa using aK
 omega
theorem Xcq (S:St):∀pl:List (Nat×Operand),(evL S pl).map (·.1)=pl.map (·.1)
 |[]=>rfl
 |p::r=>by simp[evL,Xcq S r]
theorem XbZ (S:St):∀pl:List (Nat×Operand),X1N S (X39 pl (evL S pl))
 |[]=>trivial
 |p::r=>⟨rfl,XbZ S r⟩
theorem Xt2 {T:TypeId} (bf:parts.toList=pl)
  (hps:evL S pl=ps) (hz:X2K P T=some zs) (hS:zs.length=sz) (hT:UF P T sz=true) (hzl:Nat.beq zs.length sz=true) (bR:X1x (Vn zs len)=true) (hsmall:Nat.ble (len*sz) 16777216=true) (aK:Nat.ble len 16777216=true)
  (hout:X4d (fun i=>some (i*sz,sz)) (dvL (Vn zs len)) ps=some out) (hxs:X4R sz len out=some xs) (hd:Nat.blt d S.n=true) (hg:XH ops S gd)
  (h:Walk P ops draw K rest ((l.length,⟨some d,.buildSlice T len parts,ty,pos,ah,gd⟩,⟨XF ops gd++X39 pl ps,some (d,.d (.sl sz xs)),[],[],[]⟩)::l) (S.set d (.d (.sl sz xs)))):
  Walk P ops draw K (⟨some d,.buildSlice T len parts,ty,pos,ah,gd⟩::rest) l S:=by
 have hkeys:ps.map (·.1)=pl.map (·.1):=by grind [Xcq]
 have hrd:X1N S (X39 pl ps):=by grind [XbZ]
 refine Yj h hg ?_ ⟨hrd,TV,TV,hd⟩;intro E S a w g hs hok Q K hK;obtain⟨e,us,k1,k2,k3,k4,k5,k6⟩:=Xj1 (P:=P) bf hkeys hT hz hzl bR hsmall aK hout hxs w (X1q hs _ hok.1);have hle:=XbM hs.1 us;have hrun:(execOp a.eval ⟨some d,.buildSlice T len parts,ty,pos,ah,gd⟩).run P w= .ok (.value (.slice (some ⟨w.heap.size,0,none⟩) len len)) (w.alloc (.cells us e)):=by
  simp_all [execOp]
 unfold Oper.wp;rw[hrun,Oper.upon_value];refine hK _ _ (X2a (XeD hs.1 us e (0,0)) hs.2.1 hs.2.2.1 (fun t=>X3H (g:=g) (g':=g.lay w.heap.size us) hle rfl rfl rfl (hs.2.2.2 t)) ?_ hok.2.2.2)
 grind [Xeo]
theorem Xuk {T:TypeId} (bf:parts.toList=pl)
  (hps:evL S pl=ps) (hz:X2K P T=some zs) (hS:zs.length=sz) (hT:UF P T sz=true) (hzl:Nat.beq zs.length sz=true) (bR:X1x (Vn zs len)=true) (hsmall:Nat.ble (len*sz) 16777216=true) (aK:Nat.ble len 16777216=true)
  (hout:X4d (fun i=>some (i*sz,sz)) (dvL (Vn zs len)) ps=some out) (hxs:X4R sz len out=some xs) (av:S.obj γ= .dead) (hf:S.free γ=true) (hd:Nat.blt d S.n=true) (hg:XH ops S gd)
  (h:Walk P ops draw K rest ((l.length,⟨some d,.buildSlice T len parts,ty,pos,ah,gd⟩,⟨XF ops gd++X39 pl ps,some (d,.own γ len),[(γ,.dead)],[(γ,.row sz xs)],[γ]⟩)::l) ((S.set d (.own γ len)).own γ (.row sz xs))):
  Walk P ops draw K (⟨some d,.buildSlice T len parts,ty,pos,ah,gd⟩::rest) l S:=by
 have hkeys:ps.map (·.1)=pl.map (·.1):=by grind [Xcq]
 have hrd:X1N S (X39 pl ps):=by grind [XbZ]
 refine Yj h hg (X3e rfl fun E S g a w hs hq hl hn=> ?_) ⟨hrd,⟨av,TV⟩,⟨hf,TV⟩,hd⟩;obtain⟨e,us,k1,k2,k3,k4,k5,k6⟩:=Xj1 (P:=P) bf hkeys hT hz hzl bR hsmall aK hout hxs w hq;have hsz:us.size=len*sz:=by grind
 refine⟨.slice (some ⟨w.heap.size,0,none⟩) xs.length len,_,w.alloc (.cells us e),by simp_all [execOp],by rw[<-k4];exact X9m (w:=w),XdD hs.1 γ hn.1 hl.1 (cap:=len) k5 (by grind) (by omega) k6 (by omega) (X6i _),X3V hn.1 hs.2.2.2⟩
theorem XmD {T:TypeId} (hT:X1b P T sz bytes=true) (hz:X2K P T=some zs) (hroom:n*bytes<=2^48) (hn:n<2^63) (k1 k2:IntKind) (w:World):
  ∃e,(Instr.makeSlice T (.int k1 n) (.int k2 n)).run P w= .ok (.slice (some ⟨w.heap.size,0,none⟩) n n) (w.alloc (.cells (Vn zs n).toArray e)):=by
 obtain⟨e,i,z,hu,hi,hsz,fM,bZ,hzs,bR⟩:=X5j hT;obtain⟨e',dD,hze⟩:=XaS hz;rw[hu] at dD;cases dD;have so:z.cells.toList=zs:=by
  grind [X4O]
 have hw:IntKind.i64.wrap (n:Int)=n:=IntWalk.i64_in _ (by omega);have dF:¬((n:Int)<0):=by omega
 have ha:∀k,(asInt (.int k (n:Int))).run P w= .ok (n:Int) w:=fun k=>by simp[asInt,asIntOf]
 have eG:¬(281474976710656<(i.bytes:Int)*(n:Int)):=by
  grind
 have eF:(Array.range (n*sz)).map (fun x=>z.cells[x%z.cells.size]!)=(Vn zs n).toArray:=by
  grind [X8z]
 refine⟨e,?_⟩;by_cases h0:n*sz=0
 ·have hem:(Vn zs n).toArray= #[]:=by grind
  rw[hem];simp[Instr.makeSlice,run_underlying hu,ha,typeInfo,hi,hw,dF,eG,sizeOf,hsz,h0,newRow,Array.range_zero']
 ·simp[Instr.makeSlice,run_underlying hu,ha,typeInfo,hi,hw,dF,eG,sizeOf,hsz,h0,newRow,zeroValue,bZ,eF]
def zD:List Value->List D
 |[]=>[]
 |v::r=> .v v::zD r
theorem Xh2:∀zs:List Value,(zD zs).map .d=dvL zs
 |[]=>rfl
 |v::r=>by simp[zD,dvL,Xh2 r]
theorem Xac:∀zs:List Value,(zD zs).length=zs.length
 |[]=>rfl
 |v::r=>by simp[zD,Xac r]
theorem XeK (h1:X1x zs=true) (n:Nat):Xx g ((replicate n (zD zs)).flatten.map .d) (Vn zs n):=by
 induction n<;>simp_all [Vn,Xx,replicate_succ,Xh2,X4f,X9x]
theorem Xti {T:TypeId}{m:Int} (hx:S.ev x= .d (.v (.int k1 m))) (hy:S.ev y= .d (.v (.int k2 m'))) (hm:m=(n:Nat)) (hm':m'=(n:Nat))
  (hz:X2K P T=some zs) (hB:elB P T=bytes) (hS:zs.length=sz) (hT:X1b P T sz bytes=true) (h1:X1x zs=true) (hl:Nat.beq zs.length sz=true) (hroom:n*bytes<=281474976710656) (hn:n<9223372036854775808) (hd:Nat.blt d S.n=true) (hg:XH ops S gd)
  (h:Walk P ops draw K rest ((l.length,⟨some d,.makeSlice T x y,ty,pos,ah,gd⟩,⟨XF ops gd++[(x,.d (.v (.int k1 m))),(y,.d (.v (.int k2 m')))],some (d,.d (.sl sz (replicate n (zD zs)))),[],[],[]⟩)::l) (S.set d (.d (.sl sz (replicate n (zD zs)))))):
  Walk P ops draw K (⟨some d,.makeSlice T x y,ty,pos,ah,gd⟩::rest) l S:=by
 refine Yj h hg ?_ ⟨⟨hx,hy,TV⟩,TV,TV,hd⟩;intro E S a w g hs hok Q K hK;have hq:=X1q hs _ hok.1;obtain⟨e,he⟩:=XmD (P:=P) hT hz (by simpa using hroom) (by simpa using hn) k1 k2 w;have hle:=XbM hs.1 (Vn zs n).toArray;have hzl:zs.length=sz:=by simpa using hl
 have hrun:(execOp a.eval ⟨some d,.makeSlice T x y,ty,pos,ah,gd⟩).run P w= .ok (.value (.slice (some ⟨w.heap.size,0,none⟩) n n)) (w.alloc (.cells (Vn zs n).toArray e)):=by
  simp only[execOp,Sem.run_bind,Up hq.1,Up hq.2.1,hm,hm',he];rfl
 unfold Oper.wp;rw[hrun,Oper.upon_value];refine hK _ _ (X2a (XeD hs.1 _ e (0,0)) hs.2.1 hs.2.2.1 (fun t=>X3H (g:=g) (g':=g.lay w.heap.size (Vn zs n).toArray) hle rfl rfl rfl (hs.2.2.2 t)) ?_ hok.2.2.2);have hlen:∀x∈replicate n (zD zs),x.length=sz:=fun x hx=>by grind [Xac]
 have hs1:=XeK (g:=g) h1 n
 grind [Xeo,US,LM,X25,take_of_length_le,maxLen]
theorem X73 {T:TypeId}{m:Int} (hx:S.ev x= .d (.v (.int k1 m))) (hy:S.ev y= .d (.v (.int k2 m'))) (hm:m=(n:Nat)) (hm':m'=(n:Nat))
  (hz:X2K P T=some zs) (hB:elB P T=bytes) (hS:zs.length=sz) (hT:X1b P T sz bytes=true) (h1:X1x zs=true) (hl:Nat.beq zs.length sz=true) (hroom:n*bytes<=281474976710656) (hn:n<9223372036854775808) (av:S.obj γ= .dead) (hf:S.free γ=true) (hd:Nat.blt d S.n=true) (hg:XH ops S gd)
  (h:Walk P ops draw K rest ((l.length,⟨some d,.makeSlice T x y,ty,pos,ah,gd⟩,⟨XF ops gd++[(x,.d (.v (.int k1 m))),(y,.d (.v (.int k2 m')))],some (d,.own γ n),[(γ,.dead)],[(γ,.row sz (replicate n (zD zs)))],[γ]⟩)::l) ((S.set d (.own γ n)).own γ (.row sz (replicate n (zD zs))))):
  Walk P ops draw K (⟨some d,.makeSlice T x y,ty,pos,ah,gd⟩::rest) l S:=by
 refine Yj h hg (X3e rfl fun E S g a w hs hq hl' hn'=> ?_) ⟨⟨hx,hy,TV⟩,⟨av,TV⟩,⟨hf,TV⟩,hd⟩;obtain⟨e,he⟩:=XmD (P:=P) hT hz (by simpa using hroom) (by simpa using hn) k1 k2 w;have hzl:zs.length=sz:=by simpa using hl
 have hlen:∀x∈replicate n (zD zs),x.length=sz:=fun x hx=>by grind [Xac]
 have hs1:=XeK (g:=g) h1 n;have b7:=US hs1;rw[LM,X25 _ hlen,length_replicate] at b7;have hinv:=XdD hs.1 γ hn'.1 hl'.1 (vs:=(Vn zs n).toArray) (e:=e) (fr:=(0,0)) (cap:=n) hlen (by
  grind) (by simp) (by unfold maxLen;omega) (by grind) (X6i _)
 rw[length_replicate] at hinv;exact⟨_,_,_,by simp only[execOp,Sem.run_bind,Up hq.1,Up hq.2.1,hm,hm',he];rfl,X9m (w:=w),hinv,X3V hn'.1 hs.2.2.2⟩
def X90 (S:St):Option Operand->Nat->Prop
 |none,l=>l=0
 |some x,l=>S.ev x=ai l
def X99 (S:St) (len:Nat):Option Operand->Nat->Prop
 |none,h=>h=len
 |some x,h=>S.ev x=ai h
def X2N:Option Operand->Nat->List (Operand×AVal)
 |none,_=>[]
 |some x,n=>[(x,ai n)]
theorem XjJ:∀{l m:List (Operand×AVal)},VD g a (l++m)↔VD g a l/\VD g a m
 :=by intro x;induction x<;>simp_all [VD,and_assoc]
theorem Xje {S:St}{l m:List (Operand×AVal)}:X1N S (l++m)↔X1N S l/\X1N S m:=by
 simp only[X5a,mem_append]
 grind
theorem Xd1 {l h:Nat}{cm:Bool} (h1:lo=none->l=0) (h2:hi=none->h=len) (hlo:VD g a (X2N lo l)) (hhi:VD g a (X2N hi h)) (c8:l<=h) (hc:h<=cap) (w:World):
  (Instr.sliceBounds cm len cap (lo.map a.eval) (hi.map a.eval) none).run P w= .ok (l,h,cap) w:=by
 cases lo with
 |none=>
  have:=h1 rfl;subst this;cases hi with
  |none=>simp_all [Instr.sliceBounds]
  |some y=>
   have e2:=Up hhi.1;simp_all [Instr.sliceBounds,run_sliceBound]
 |some x=>
  have e1:=Up hlo.1;cases hi with
  |none=>simp_all [Instr.sliceBounds,run_sliceBound]
  |some y=>
   have e2:=Up hhi.1;simp_all [Instr.sliceBounds,run_sliceBound]
theorem XaE {S:St}{l:Nat} (h:∀x,lo=some x->S.ev x=ai l):X1N S (X2N lo l):=by
 cases lo<;>simp_all [X1N,X2N]
theorem XjE {T:TypeId} (hx:S.ev x= .d (.sl sz xs)) (hlo:X90 S lo lb) (hhi:X99 S xs.length hi hb) (c8:lb<=hb) (hh:hb<=xs.length)
  (hT:UF P T sz=true) (hd:Nat.blt d S.n=true) (hg:XH ops S gd)
  (h:Walk P ops draw K rest ((l.length,⟨some d,.slice T x lo hi none,ty,pos,ah,gd⟩,⟨XF ops gd++((x,.d (.sl sz xs))::(X2N lo lb++X2N hi hb)),some (d,.d (.sl sz ((xs.take hb).drop lb))),[],[],[]⟩)::l) (S.set d (.d (.sl sz ((xs.take hb).drop lb))))):
  Walk P ops draw K (⟨some d,.slice T x lo hi none,ty,pos,ah,gd⟩::rest) l S:=by
 refine Yj h hg (Ug rfl fun E S g a w hs hq hl=> ?_) ⟨⟨hx,Xje.2 ⟨XaE fun y e=>by subst e;exact hlo,XaE fun y e=>by subst e;exact hhi⟩⟩,TV,TV,hd⟩;obtain⟨e,h1,h2,h3⟩:=X1K hT;obtain⟨b5,bS⟩:=hq;rw[XjJ] at bS;simp only[AVal.sat,D.rep] at b5;obtain⟨b,cap,hv,c1,c2,c3⟩:=b5;have hbd:=Xd1 (P:=P) (cm:=true) (len:=xs.length) (cap:=cap) (fun e=>by subst e;exact hlo) (fun e=>by subst e;exact hhi) bS.1 bS.2 c8 (Nat.le_trans hh c1) w;have hrun:=run_slice_any (P:=P) w T b xs.length cap (by rw[h3];exact h1) (lo.map a.eval) (hi.map a.eval) none;rw[hbd,Result.andThen_ok,h3,h2 w,Result.andThen_ok] at hrun;have aY:(Instr.sliceAt T (.slice b xs.length cap) (lo.map a.eval) (hi.map a.eval) none)=Instr.slice T (.slice b xs.length cap) (lo.map a.eval) (hi.map a.eval) none\/True:= .inr trivial;refine⟨sliced b lb hb cap sz,?_,?_⟩
 ·simp_all [execOp,Instr.sliceAt,run_underlying]
 grind [AVal.sat,D.rep,sliced,Xcv,X9T,Vf]
theorem XrG {xt yt:TypeId} (hx:S.ev x= .d (.sl sz xs)) (ht:cm P xt=true) (hd:Nat.blt d S.n=true) (hg:XH ops S gd)
  (h:Walk P ops draw K rest ((l.length,⟨some d,.binOp .eql xt x (.const (.slice none 0 0)) yt,ty,pos,ah,gd⟩,⟨XF ops gd++[(x,.d (.sl sz xs))],some (d,.bq (xs=[]) True),[],[],[]⟩)::l) (S.set d (.bq (xs=[]) True))):
  Walk P ops draw K (⟨some d,.binOp .eql xt x (.const (.slice none 0 0)) yt,ty,pos,ah,gd⟩::rest) l S:=
 Yj h hg (Ug rfl fun E S g a w hs hq hl=>by
  have b5:=hq.1;simp only[AVal.sat,D.rep] at b5;obtain⟨b,cap,hv,c1,c2,c3⟩:=b5;refine⟨.bool b.isNone,?_,?_⟩
  ·obtain⟨e,he⟩:=X5k ht;have e1:eqGuard .eql xt x (.const (.slice none 0 0)) (.slice b xs.length cap) (.slice none 0 0)=pure ():=eqGuard_at_slice _ _ _ _ _ _ _ _;simp only[execOp,hv,show a.eval (.const (.slice none 0 0))= .slice none 0 0 from rfl,e1,Sem.run_bind,Sem.run_pure,Result.andThen_ok,Lib.run_eql_slice_nil w xt e b xs.length cap 0 0 he]
  grind [AVal.sat]) ⟨⟨hx,TV⟩,TV,TV,hd⟩
end
theorem Xe (t:Nat) {y:AVal} (h:(S.get t).le y):S.le (S.set t (y)):=by
 rintro E a w ⟨g,hs⟩;refine X49 hs hs.1 rfl fun k=> ?_
 grind [YE,Yz,St.get,St.set,AVal.le,Vi]
theorem XvX (γ b6:Nat) (hL:S.obj γ= .row 1 []):S.le (S.own γ (.mat b6 [])):=by
 rintro E a w ⟨g,hs⟩;have ho:=hs.1.obj γ;rw[hL] at ho;have hi:Inv E (Xp .dead ((γ,.mat b6 [])::S.L)) g w:=by
  refine Inv.upd hs.1 γ _ (YE _ _ _ _) (fun k hk=>Yz _ _ _ (Ne.symm hk)) (fun _ _ _=>rfl) (Nat.le_refl _) rfl rfl rfl (fun _ _=>⟨rfl,rfl,rfl⟩) (fun _ _ _ _ _ h=>h) ?_ (fun b hb=> .inl ?_) (fun _=>Gh.keeps_refl _ _)
  ·refine⟨?_,by simp,by simp⟩;rcases ho.2 with ⟨h1,_⟩|⟨b,cap,vs,e,fr,h1,h2,h3,h4,h5,h6,h7⟩
   ·grind
   ·exact .inr ⟨b,cap,vs,e,fr,h1,h2,h3,h4,h5,by simpa using h6,by simp,by simp⟩
  grind [Xw]
 exact X49 hs hi rfl hs.2.2.2
theorem XdL (hr:UK g w h sz xs) {M':Mem} (hM:YH g.M M') (hc:∀b o,YV h b->M' ⟨b,o,none⟩=w.cell? ⟨b,o,none⟩):(D.sl sz xs).rep M' h:=by
 simp only[D.rep];rcases hr.2 with ⟨h1,rfl⟩|⟨b,cap,vs,e,fr,h1,h2,h3,h4,h5,h6,h7⟩
 ·grind
 ·refine⟨_,cap,h1,h2,h3,.inr ⟨b,0,rfl,X7K xs 0 hr.1 fun i d hd=> ?_⟩⟩;obtain⟨hl,cX⟩:=X6p h7
  grind [D.rep_mono,cell_of_row,YV]
open Classical in
noncomputable def X0d (g:Gh) (w:World) (x:AObj) (γ:Nat):Mem:=fun p=>if p.spot=none/\Xw g x γ p.block then w.cell? p else g.M p
theorem Xif (hi:Inv E S.obj g w) {γ sz:Nat}{xs:List (List D)} (cM:(D.sl sz xs).rep (X0d g w (S.obj γ) γ) (g.hd γ)):
  YH g.M (X0d g w (S.obj γ) γ)/\Inv E (Xp .dead ((γ,.froz sz xs)::S.L)) {g with M:=X0d g w (S.obj γ) γ} w:=by
 have hle:YH g.M (X0d g w (S.obj γ) γ):=by
  intro a v h;unfold X0d;rw[NI (fun hc=>hi.sep γ _ hc.2 a v h rfl)];exact h
 refine⟨hle,?_⟩;have jL:∀a v,X0d g w (S.obj γ) γ a=some v->g.M a=some v\/(w.cell? a=some v/\Xw g (S.obj γ) γ a.block):=by
  grind [X0d]
 have dN:∀k,Xp .dead ((γ,.froz sz xs)::S.L) k=if k=γ then .froz sz xs else S.obj k:=by
  grind [YE,Yz,St.obj]
 have hlv:∀k b,Xw {g with M:=X0d g w (S.obj γ) γ} (Xp .dead ((γ,.froz sz xs)::S.L) k) k b->k≠γ/\Xw g (S.obj k) k b:=by
  grind [X55,Xw]
 refine⟨fun k=> ?_,fun k k' b h h'=>hi.inj k k' b (hlv _ _ h).2 (hlv _ _ h').2,fun a v h=> ?_,fun k b h a v ha=> ?_,fun k b h=>hi.new k b (hlv _ _ h).2,hi.ext.trans hle,fun a v h=> ?_,hi.frame,hi.size,hi.os,hi.out,fun k hk=>(hi.kp k hk).trans' (Gh.keeps_of rfl rfl rfl)⟩
 ·rw[dN];by_cases hk:k=γ
  ·grind [Ub]
  ·rw[NI hk];exact Xdk (g:=g) (g':={g with M:=X0d g w (S.obj γ) γ}) hle rfl rfl rfl (fun _ _=>rfl) (hi.obj k)
 ·rcases jL a v h with h1|h1
  ·exact hi.mem a v h1
  ·exact h1.1
 ·obtain⟨hk,hb⟩:=hlv k b h;rcases jL a v ha with h1|h1
  ·exact hi.sep k b hb a v h1
  ·intro e;rw[e] at h1;exact hk (hi.inj _ _ _ hb h1.2)
 ·rcases jL a v h with h1|h1
  ·exact hi.lim a v h1
  ·exact .inr (hi.new γ _ h1.2)
theorem XuM (γ:Nat) {b6:Nat}{rows:List (List (List D))} (hL:S.obj γ= .mat b6 rows):S.le (S.own γ (.froz 1 (rows.map fun r=>[.sl b6 r]))):=by
 rintro E a w ⟨g,hs⟩;have ho:=hs.1.obj γ;rw[hL] at ho;have hle:YH g.M (X0d g w (S.obj γ) γ):=by
  intro a v h;unfold X0d;rw[NI (fun hc=>hs.1.sep γ _ hc.2 a v h rfl)];exact h
 have hcell:∀b o,Xw g (S.obj γ) γ b->X0d g w (S.obj γ) γ ⟨b,o,none⟩=w.cell? ⟨b,o,none⟩:=by
  grind [X0d]
 have cM:(D.sl 1 (rows.map fun r=>[D.sl b6 r])).rep (X0d g w (S.obj γ) γ) (g.hd γ):=by
  obtain⟨h1,h2,h3⟩:=ho;simp only[D.rep,LM];rcases h1 with ⟨e,rfl⟩|⟨b,cap,vs,e,fr,k1,k2,k3,k4,k5,k6,k7,k8⟩
  ·grind
  ·refine⟨_,cap,k1,k2,k3,.inr ⟨b,0,rfl,X7K _ 0 (by simp) fun i d hd=> ?_⟩⟩;have hfl:(rows.map fun r=>[D.sl b6 r]).flatten=rows.map fun r=>D.sl b6 r:=by
    clear hd h2 h3 k1 k2 k7 k8 hL;induction rows<;>simp_all
   grind [XdL,cell_of_row,Xw,YV]
 obtain⟨_,hi⟩:=Xif hs.1 cM;exact X49 hs hi rfl fun t=>X3H (g:=g) (g':={g with M:=X0d g w (S.obj γ) γ}) hle rfl rfl rfl (hs.2.2.2 t)
section
variable {P:Program}{ops:Array Oper}{draw:Bool}{K:XW->St->Prop}{rest:List Oper}{l:XW}{S:St}
variable {d:Nat}{ty:TypeId}{pos:String}{ah:Array Edge}{gd:Option (Nat×Bool)}
theorem Xni {T:TypeId} (bf:parts.toList=pl)
  (hps:evL S pl=ps) (hz:X2K P T=some zs) (hS:zs.length=sz) (hT:UF P T sz=true) (bR:X1x (Vn zs len)=true) (hsmall:Nat.ble (len*sz) 16777216=true)
  (hout:X4d (fun i=>some (i*sz,sz)) (dvL (Vn zs len)) ps=some out) (hc:X2H out=true) (hm:X0l γ out=false) (av:S.obj γ= .dead) (hf:S.free γ=true) (hd:Nat.blt d S.n=true) (hg:XH ops S gd)
  (h:Walk P ops draw K rest ((l.length,⟨some d,.buildSlice T len parts,ty,pos,ah,gd⟩,⟨XF ops gd++X39 pl ps,some (d,.bsl γ len),[(γ,.dead)],[(γ,.box out)],[γ]⟩)::l) ((S.set d (.bsl γ len)).own γ (.box out))):
  Walk P ops draw K (⟨some d,.buildSlice T len parts,ty,pos,ah,gd⟩::rest) l S:=by
 have hkeys:ps.map (·.1)=pl.map (·.1):=by grind [Xcq]
 have hrd:X1N S (X39 pl ps):=by grind [XbZ]
 refine Yj h hg (X3e rfl fun E S g a w hs hq hl hn=> ?_) ⟨hrd,⟨av,TV⟩,⟨hf,TV⟩,hd⟩;obtain⟨us,k1,k2⟩:=XbP (vs:=(Vn zs len).toArray) hkeys hq (by grind [X9x]) hout;have aM:len*sz<=16777216:=by simpa using hsmall
 obtain⟨e,he⟩:=Xh0 (P:=P) (T:=T) (len:=len) (parts:=parts.map fun p=>(p.1,a.eval p.2)) hT hz hS aM (by
  have:(parts.map fun p=>(p.1,a.eval p.2)).toList=pl.map fun p=>(p.1,a.eval p.2):=by simp[bf]
  rw[this];exact k1) w
 refine⟨.slice (some ⟨w.heap.size,0,none⟩) len len,X3I g w γ,w.alloc (.cells us e),by simp_all [execOp],by simp[AVal.sat,X3I,Gh.put],XfZ hs.1 γ hn.1 hl.1 e k2 hm ((X5L _).1 hc),X3V hn.1 hs.2.2.2⟩
end
def Gh.reinn (g:Gh) (γ i:Nat) (h v:Value):Gh:={az:=g.az,hd:=fun k=>if k=γ then h else g.hd k,aG:=fun k j=>if k=γ/\j=i then v else g.aG k j,M:=g.M}
theorem XqH (hs:Vi E S g a w) {γ β aF b6 bytes n:Nat}{rows:List (List (List D))}{r:List (List D)} (hL:S.obj γ= .mat b6 rows) (jN:S.obj β= .box [.own aF n])
  (h2:S.obj aF= .row b6 r) (hn:n=r.length) {T T2 ty:TypeId} (hT:X1b P T 1 bytes=true) (bN:X4b P T2=true) (hb0:bytes≠0) (hroom:(rows.length+1)*bytes<=2^47):
  ∃v g' w',(Builtin.append_ #[T,T2] ty #[g.hd γ,.slice (some ⟨g.az β,0,none⟩) 1 1]).run P w= .ok v w'/\(AVal.own γ (rows.length+1)).sat g' v/\
   Inv E (Xp .dead ((γ,.mat b6 (rows++[r]))::(aF,.dead)::S.L)) g' w'/\∀t,(S.get t).sat g' (a.tmps.getD t undef):=by
 obtain⟨e,i,z,hu,hi,hsz,fM,hz,hzs,bR⟩:=X5j hT;have eK:=Xf5 bN;have hne:aF≠γ:=by grind
 have gy:=hs.1.obj β;rw[jN] at gy;obtain⟨bv,be,uD,ga,dG,jg,uE⟩:=gy;obtain⟨v0,hv0,jh⟩:=VQ jg 0 _ rfl;have bu:=US jg;have hro:=hs.1.obj aF;rw[h2] at hro;have qm:v0=g.hd aF:=X3Y jh hro hn;subst qm;have uF:bv= #[g.hd aF]:=by
  grind
 have ji:(g.hd aF).oneCell'=true:=AVal.sat_one rfl jh;have hsrc:Src P w 1 (.slice (some ⟨g.az β,0,none⟩) 1 1) 1 #[g.hd aF]:=by
  refine⟨fun w' hw'=>⟨by simp[Builtin.lenOf],?_⟩,by simp⟩;have:=run_loadCells_list (P:=P) w' ⟨g.az β,0,none⟩ [g.hd aF] (fun j v hv=>by
   grind [Vf,cell_of_row])
  grind [Builtin.firstCells]
 have hi1:Inv E (Xp .dead ((aF,.dead)::S.L)) g w:=hs.1.sub fun k=>by
  grind [Xp,St.obj]
 have iE:Xp .dead ((aF,.dead)::S.L) γ= .mat b6 rows:=by grind [Yz,St.obj]
 have ho:=hs.1.obj γ;rw[hL] at ho;obtain⟨ho,hin,hdist⟩:=ho;have hfree:∀c,YV (g.hd aF) c->(∀k,¬Xw g (Xp .dead ((aF,.dead)::S.L) k) k c)/\(∀a v,g.M a=some v->a.block≠c)/\(E.W.heap.size<=c\/E.A c):=by
  intro c hc;have bM:Xw g (S.obj aF) aF c:=by rw[h2];exact hc
  refine⟨fun k hk=> ?_,fun a v ha=>hs.1.sep aF c bM a v ha,hs.1.new aF c bM⟩;by_cases aX:k=aF
  ·grind [YE,Xw]
  ·rw[Yz _ _ _ (Ne.symm aX)] at hk;exact aX (hs.1.inj _ _ _ hk bM)
 have fin:∀(a0:Option Addr) (c0 b cap':Nat) (vs':Array Value) (e':TypeId) (fr:Nat×Nat) (w':World),
   g.hd γ= .slice a0 rows.length c0->
   (∀k,k<w.heap.size->¬YV (g.hd γ) k->w'.heap[k]? =w.heap[k]?)->w.heap.size<=w'.heap.size->w'.os=w.os->w'.output=w.output->
   w'.heap[b]? =some (.cells vs' e' fr)->X4J fr vs'.size->rows.length+1<=cap'->cap'<=maxLen->cap'<=vs'.size->
   (∀j,j<rows.length->vs'[j]? =some (g.aG γ j))->vs'[rows.length]? =some (g.hd aF)->(YV (g.hd γ) b\/w.heap.size<=b)->
   let g':=g.reinn γ rows.length (.slice (some ⟨b,0,none⟩) (rows.length+1) cap') (g.hd aF)
   (AVal.own γ (rows.length+1)).sat g' (.slice (some ⟨b,0,none⟩) (rows.length+1) cap')/\
   Inv E (Xp .dead ((γ,.mat b6 (rows++[r]))::(aF,.dead)::S.L)) g' w'/\∀t,(S.get t).sat g' (a.tmps.getD t undef):=by
  intro a0 c0 b cap' vs' e' fr w' cG b9 hsize hos hout hb oe hcap dL hcs hcells iF hlv g';have hk:∀k,g.keeps g' k:=by
   intro k;by_cases aX:k=γ
   ·subst aX;refine⟨rfl,.inr ⟨a0,_,c0,some ⟨b,0,none⟩,rows.length+1,cap',cG,by simp[g',Gh.reinn],by omega⟩,fun j a m c he hj=> ?_⟩
    grind [Gh.reinn]
   grind [Gh.keeps_of,Gh.reinn]
  have hM:YH g.M g'.M:=YH.refl _;have od:∀j,j<rows.length->g'.aG γ j=g.aG γ j:=fun j hj=>by grind [Gh.reinn]
  have qn:g'.aG γ rows.length=g.hd aF:=by simp[g',Gh.reinn]
  have hold:∀c,(∃j,j<rows.length/\YV (g.aG γ j) c)->w'.heap[c]? =w.heap[c]?/\¬YV (g.hd γ) c:=by
   rintro c ⟨j,hj,hc⟩;have hnb:¬YV (g.hd γ) c:=by
    grind [YV]
   exact⟨b9 c (X9B (hin j _ (getElem?_eq_getElem hj)) hc) hnb,hnb⟩
  have hnew2:∀c,YV (g.hd aF) c->w'.heap[c]? =w.heap[c]?/\¬YV (g.hd γ) c:=by
   grind [X9B,Ub,Xw]
  refine⟨?_,?_,fun t=>AVal.sat_mono hM _ _ (fun k _=>hk k) (hs.2.2.2 t)⟩
  ·simp only[AVal.sat];exact⟨rfl,some ⟨b,0,none⟩,rows.length+1,cap',by simp[g',Gh.reinn],Nat.le_refl _,fun _=>rfl⟩
  ·refine Inv.updX hi1 γ _ (YE _ _ _ _) (fun k aX=>Yz _ _ _ (Ne.symm aX)) (fun k aE ax=>b9 k aE (fun h=>ax (by grind [Xw]))) hsize hos hout rfl
    (fun k aX=>⟨rfl,by grind [Gh.reinn],by grind [Gh.reinn]⟩)
    (fun k cs us _ _ h=>X1R hM _ _ (fun k _=>hk k) h) ?_ (fun c hc=> ?_) (fun _=>hk γ)
   ·refine⟨.inr ⟨b,cap',vs',e',fr,by simp[g',Gh.reinn],by simpa using hcap,dL,hb,oe,hcs,fun j hj=> ?_,fun j hj uG=> ?_⟩,fun j q hq=> ?_,fun j k c hj hk' uH hkc=> ?_⟩
    ·grind
    ·simp at hj
     grind
    ·by_cases hjl:j<rows.length
     ·grind [X4z]
     ·have sq:j=rows.length:=by
       grind
      subst sq;simp at hq;subst hq;rw[qn];exact X4z hM (fun c hc=>(hnew2 c hc).1) hro
    ·simp at hj hk';by_cases hjl:j<rows.length<;>by_cases aE:k<rows.length<;>grind [Xw]
   ·rw[iE];rcases hc with hc|⟨j,hj,hc⟩
    ·simp only[g',Gh.reinn,if_true] at hc;obtain⟨a1,n1,c1,e1,rfl⟩:=hc
     grind [Xw]
    ·simp at hj;by_cases hjl:j<rows.length<;>grind [Xw]
 have cU:rows.length+1<2^63:=by
  have:rows.length+1<=(rows.length+1)*bytes:=Nat.le_mul_of_pos_right _ (by omega);omega
 have fN:∀cap,rows.length+1>cap->Builtin.nextslicecap (rows.length+1) cap*i.bytes<=2^48:=by
  intro cap hc;have h1:=nextslicecap_le (need:=rows.length+1) (old:=cap) hc;have h2:Builtin.nextslicecap (rows.length+1) cap*i.bytes<=2*(rows.length+1)*i.bytes:=Nat.mul_le_mul_right _ h1
  grind
 have grow:∀(base:Option Addr) (c0:Nat) (olds:Array Value),g.hd γ= .slice base rows.length c0->¬rows.length+1<=c0->(∀w':World,w'.heap=w.heap->(Builtin.firstCells i.size rows.length (.slice base rows.length c0)).run P w'= .ok olds w')->
   olds.size=rows.length->(∀j,j<rows.length->olds[j]? =some (g.aG γ j))->
   ∃v g' w',(Builtin.append_ #[T,T2] ty #[g.hd γ,.slice (some ⟨g.az β,0,none⟩) 1 1]).run P w= .ok v w'/\(AVal.own γ (rows.length+1)).sat g' v/\
    Inv E (Xp .dead ((γ,.mat b6 (rows++[r]))::(aF,.dead)::S.L)) g' w'/\∀t,(S.get t).sat g' (a.tmps.getD t undef):=by
  intro base c0 olds cG hc og qo qp
  have hr:=XcF (P:=P) (w:=w) (T:=T) (T2:=T2) (ty:=ty) (base:=base) (n:=rows.length) (cap:=c0) (m:=1) (olds:=olds) (news:= #[g.hd aF]) hu hi hz eK (by rw[fM];exact hb0)
   (by rw[hsz];exact hsrc) og hc (fN c0 (by omega))
  obtain⟨c1,c2⟩:=X9G (rows.length+1) c0 e (w.tape w.drawn (.appendCap (rows.length+1) c0 e)) cU;revert hr c1 c2;generalize (Question.appendCap (rows.length+1) c0 e).cut (w.tape w.drawn (.appendCap (rows.length+1) c0 e))=nc;intro hr c1 c2
  have:=fin base c0 w.heap.size nc (olds++ #[g.hd aF]++Builtin.zeroCells z.cells (nc-(rows.length+1))) e (0,0) _ cG
   (fun k hk _=>X4K w.drew _ k hk) (X6M w.drew _) rfl rfl (heap_alloc_new w.drew _) (X6i _) c1 c2
   (by grind [X6T])
   (fun j hj=>by grind)
   (by rw[Array.append_assoc,Array.getElem?_append_right (by omega),qo,Nat.sub_self];grind [Array.getElem?_append_left]) (.inr (Nat.le_refl _))
  grind
 rcases ho with ⟨dK,rfl⟩|⟨b,cap,vs,e',fr,h1,ek,h3,h4,h5,h6,h7,h8⟩
 ·exact grow none 0 #[] dK (by simp) (fun w' _=>by simp[Builtin.firstCells]) rfl (by simp)
 ·by_cases hc:rows.length+1<=cap
  ·have hr:=X8U (P:=P) (w:=w) (T:=T) (T2:=T2) (ty:=ty) (base:=some ⟨b,0,none⟩) (n:=rows.length) (cap:=cap) (m:=1) (news:= #[g.hd aF]) hu hi eK (by rw[hsz];exact hsrc) hc;obtain⟨vs',k1,k2⟩:=X6D (P:=P) b e' fr vs.size h5 [g.hd aF] rows.length 0 vs w h4 rfl (by simp;omega) (by simpa using ji);simp only[Nat.add_zero,length_singleton] at k2;simp only at hr;rw[show (⟨b,0,none⟩:Addr).add (rows.length*i.size)=⟨b,rows.length,none⟩ by rw[Vf,hsz];simp] at hr;simp only[k1,Result.andThen_ok] at hr;have cL:vs'.size=vs.size:=by
    have:=CG length k2;simp at this;omega
   have aY:∀j,vs'[j]? =(vs.toList.take rows.length++[g.hd aF]++vs.toList.drop (rows.length+1))[j]? :=fun j=>by rw[<-k2];exact Array.getElem?_toList.symm
   have:=fin (some ⟨b,0,none⟩) cap b cap vs' e' fr (w.setRow b vs') h1
    (fun k hk hne=>setRow_other w b k vs' (fun e=>hne (by grind [YV]))) (by simp) rfl rfl (setRow_heap w b vs _ e' fr h4) (by rw[cL];exact h5) hc h3 (by rw[cL];exact h6)
    (fun j hj=>by
     rw[aY,AS,getElem?_append_left (by simp;omega),getElem?_take,PI hj]
     grind)
    (by
     have hl:(vs.toList.take rows.length).length=rows.length:=by simp;omega
     rw[aY,AS,getElem?_append_right (by omega),hl];simp) (.inl ⟨_,_,_,h1,rfl⟩)
   grind
  ·refine grow (some ⟨b,0,none⟩) cap (vs.toList.take rows.length).toArray h1 hc (fun w' hw'=> ?_) (by simp;omega) (fun j hj=> ?_)
   ·have hl:(vs.toList.take rows.length).length=rows.length:=by simp;omega
    have:=run_loadCells_list (P:=P) w' ⟨b,0,none⟩ (vs.toList.take rows.length) (fun j v hv=>by
     grind [Vf,cell_of_row])
    rw[hl] at this;simp only[Builtin.firstCells,hsz,Nat.mul_one];exact this
   grind
theorem Xr4 (h:Ub g w γ (.mat b6 rows)):∃b c,g.hd γ= .slice b rows.length c:=by
 rcases h.1 with ⟨e,rfl⟩|⟨b,cap,vs,e',fr,e,_⟩<;>simp_all
theorem XkS (h:(AVal.own γ n).sat g v) (ho:Ub g w γ (.mat b6 rows)) (hn:n=rows.length):v=g.hd γ:=by
 grind [AVal.sat,Xr4]
section
variable {P:Program}{ops:Array Oper}{draw:Bool}{K:XW->St->Prop}{rest:List Oper}{l:XW}{S:St}
variable {d:Nat}{ty:TypeId}{pos:String}{ah:Array Edge}{gd:Option (Nat×Bool)}
theorem XqI {T T2:TypeId}{β aF n2:Nat} (hx:S.ev x= .own γ n) (hL:S.obj γ= .mat b6 rows) (hy:S.ev y= .bsl β 1) (jN:S.obj β= .box [.own aF n2]) (h2:S.obj aF= .row b6 r)
  (hn:n=rows.length) (hn2:n2=r.length) (hB:elB P T=bytes) (hT:X1b P T 1 bytes=true) (bN:X4b P T2=true) (hb0:Nat.beq bytes 0=false) (hroom:(rows.length+1)*bytes<=140737488355328)
  (hd:Nat.blt d S.n=true) (hg:XH ops S gd)
  (h:Walk P ops draw K rest ((l.length,⟨some d,.call ⟨.builtin .append,#[x,y],#[T,T2]⟩,ty,pos,ah,gd⟩,⟨XF ops gd++[(x,.own γ n),(y,.bsl β 1)],some (d,.own γ (rows.length+1)),[(γ,.mat b6 rows),(β,.box [.own aF n2]),(aF,.row b6 r)],[(γ,.mat b6 (rows++[r])),(aF,.dead)],[]⟩)::l)
   (((S.set d (.own γ (rows.length+1))).own aF .dead).own γ (.mat b6 (rows++[r])))):
  Walk P ops draw K (⟨some d,.call ⟨.builtin .append,#[x,y],#[T,T2]⟩,ty,pos,ah,gd⟩::rest) l S:=by
 refine Yj h hg ?_ ⟨⟨hx,hy,TV⟩,⟨hL,jN,h2,TV⟩,TV,hd⟩;intro E S a w g hs hok Q K hK;obtain⟨cV,⟨l1,l2,l3,_⟩,_,cR⟩:=hok;have hq:=X1q hs _ cV;have ho:=hs.1.obj γ;rw[l1] at ho;have hv:=XkS hq.1 ho hn;have hy':a.eval y= .slice (some ⟨g.az β,0,none⟩) 1 1:=by grind [AVal.sat,VD]
 obtain⟨v,g',w',r1,r2,r3,r4⟩:=XqH hs l1 l2 l3 hn2 (ty:=ty) hT bN (X5d hb0) (by simpa using hroom);have hrun:=X6Y (P:=P) (ρ:=a.eval) (o:=⟨some d,.call ⟨.builtin .append,#[x,y],#[T,T2]⟩,ty,pos,ah,gd⟩) rfl (by rw[hv,hy'];exact r1)
 grind [Oper.wp,Oper.upon_value,X2a,Vi,Cert.app,X4S]
theorem Xpa {T:TypeId}{m:Int} (hx:S.ev x= .own γ n) (hL:S.obj γ= .mat b6 rows) (hi:S.ev i= .d (.v (.int kd m))) (hn:n=rows.length) (hk:m=(k:Nat)) (hlt:k<rows.length)
  (hT:UF P T 1=true) (hd:Nat.blt d S.n=true) (hg:XH ops S gd)
  (h:Walk P ops draw K rest ((l.length,⟨some d,.indexAddr T x i,ty,pos,ah,gd⟩,⟨XF ops gd++[(x,.own γ n),(i,.d (.v (.int kd m)))],some (d,.mptr γ n k),[(γ,.mat b6 rows)],[],[]⟩)::l) (S.set d (.mptr γ n k))):
  Walk P ops draw K (⟨some d,.indexAddr T x i,ty,pos,ah,gd⟩::rest) l S:=
 Yj h hg (Ug rfl fun E S g a w hs hq hl=>by
  obtain⟨e,h1,h2,h3⟩:=X1K hT;have ho:=hs.1.obj γ;rw[hl.1] at ho;have hv:=XkS hq.1 ho hn;rcases ho.1 with ⟨e,rfl⟩|⟨b,cap,vs,e',fr,hh,_⟩
  ·simp at hlt
  ·rw[hh] at hv;refine⟨.pointer (some ⟨b,k,none⟩),?_,?_⟩
   ·have hb:(0:Int)<=m/\m<(rows.length:Int):=by omega
    have hm:m.toNat=k:=by omega
    have:=run_indexAt_slice (P:=P) w T ⟨b,0,none⟩ rows.length cap kd m (by rw[h3];exact h1);rw[PI hb,h3,h2 w,Result.andThen_ok,Vf,hm,Nat.mul_one,Nat.zero_add] at this;simp only[execOp,hv,Up hq.2.1,Sem.run_bind,this];rfl
   ·simp only[AVal.sat];exact⟨rfl,_,_,_,hh,by omega,fun _=>⟨_,rfl,rfl⟩⟩) ⟨⟨hx,hi,TV⟩,⟨hL,TV⟩,TV,hd⟩
theorem XpM {t:TypeId} (hx:S.ev x= .mptr γ n k) (hL:S.obj γ= .mat b6 rows) (hn:n=rows.length) (hlt:k<rows.length)
  (ht:X1g P t false 1=true) (hd:Nat.blt d S.n=true) (hg:XH ops S gd)
  (h:Walk P ops draw K rest ((l.length,⟨some d,.load t x,ty,pos,ah,gd⟩,⟨XF ops gd++[(x,.mptr γ n k)],some (d,.inn γ k),[(γ,.mat b6 rows)],[],[]⟩)::l) (S.set d (.inn γ k))):
  Walk P ops draw K (⟨some d,.load t x,ty,pos,ah,gd⟩::rest) l S:=
 Yj h hg (Ug rfl fun E S g a w hs hq hl=>by
  have ho:=hs.1.obj γ;rw[hl.1] at ho;have b5:=hq.1;simp only[AVal.sat] at b5;obtain⟨_,a',m,c,q1,q2,q3⟩:=b5;rcases ho.1 with ⟨e,rfl⟩|⟨b,cap,vs,e',fr,hh,k2,k3,k4,k5,k6,k7,k8⟩
  ·simp at hlt
  ·rw[hh] at q1;cases q1;obtain⟨b',e1,e2⟩:=q3 hn;cases e1;have hc:w.cell? ⟨b,k,none⟩=some (g.aG γ k):=by grind [cell_of_row]
   have hone:(g.aG γ k).oneCell'=true:=by
    have:=(ho.2.1 k _ (getElem?_eq_getElem hlt)).2;rcases this with ⟨e,_⟩|⟨_,_,_,_,_,e,_⟩<;>rw[e]<;>rfl
   refine⟨g.aG γ k,?_,by grind [AVal.sat]⟩;simp_all [execOp,Instr.loadAt,Instr.sureAddr,X7S]) ⟨⟨hx,TV⟩,⟨hL,TV⟩,TV,hd⟩
theorem Xdg {P:Program}{L:Nat->AObj} (hi:Inv E L g w) {sz m:Nat}{ys:List (List D)}{x:Value} (h:(D.sl sz ys).rep g.M x) (hm:m<=ys.length):
  ∃news,(Builtin.firstCells sz m x).run P w= .ok news w/\news.size=m*sz/\Xx g ((ys.take m).flatten.map .d) news.toList/\(Builtin.lenOf x).run P w= .ok ys.length w/\∀y∈ys.take m,y.length=sz:=by
 simp only[D.rep] at h;obtain⟨a,cap,rfl,h2,h3,h4⟩:=h;rcases h4 with rfl|⟨b,o,rfl,hr⟩
 ·have:m=0:=by simpa using hm
  subst this;refine⟨#[],?_,by simp,by simp[Xx],by simp[Builtin.lenOf],by simp⟩;cases a<;>simp_all [Builtin.firstCells,loadCells,loadCellsFrom]
 ·have hr':=X9T hr m;obtain⟨vs,k1,k2,k3⟩:=Xaf hi.mem _ b o hr';have hl:∀y∈ys.take m,y.length=sz:=fun y hy=>by
   obtain⟨i,hi⟩:=getElem?_of_mem hy;exact(X63 _ b o i y hr' hi).1
  have hlen:(ys.take m).length=m:=by simp;omega
  rw[hlen] at k1;refine⟨vs.toArray,?_,by simp[k1],?_,by simp[Builtin.lenOf],hl⟩<;>grind [run_loadCells_list,Vf,Builtin.firstCells,X3B,X25,AVal.sat]
theorem Xe1:∀(zs:List (List D)) (n:Nat),(∀z∈zs,z.length=sz)->n<=zs.length->(zs.take n).flatten=zs.flatten.take (n*sz)/\(zs.drop n).flatten=zs.flatten.drop (n*sz)
 |[],n,_,hn=>by simp
 |z::zs,0,_,_=>by simp
 |z::zs,n+1,hz,hn=>by
  have hzl:=hz z (by simp);obtain⟨i1,i2⟩:=Xe1 zs n (fun q hq=>hz q (by simp[hq])) (by simpa using hn);have e:(n+1)*sz=z.length+n*sz:=by rw[hzl,Nat.add_mul];omega
  constructor
  ·rw[take_succ_cons,flatten_cons,flatten_cons,i1,e,take_length_add_append]
  ·rw[drop_succ_cons,flatten_cons,i2,e,drop_length_add_append]
theorem Xmp {α:Type}{A N:List α}{a L:Nat} (hN:N.length=m) (h1:a+m<=L) (h2:L<=A.length):
  (A.take a++N++A.drop (a+m)).take L=(A.take L).take a++N++(A.take L).drop (a+m):=by
 apply ext_getElem?;intro j;simp only[getElem?_take,getElem?_append,getElem?_drop,LA,LT,hN]
 grind
theorem XbJ {P:Program} (hr:UK g w h sz xs) (hm:k+m<=xs.length) (cy:∀y∈ys,y.length=sz) (mL:ys.length=m) {news:Array Value} (aB:news.size=m*sz) (b8:Xx g (ys.flatten.map .d) news.toList):
  ∃w',(match h with| .slice (some a) _ _=>(storeCells (a.add (k*sz)) news.toList).run P w|_=> .ok () w)= .ok () w'/\UK g w' h sz (xs.take k++ys++xs.drop (k+m))/\
   (∀b,¬YV h b->w'.heap[b]? =w.heap[b]?)/\w'.heap.size=w.heap.size/\w'.os=w.os/\w'.output=w.output:=by
 have hlen':∀r∈xs.take k++ys++xs.drop (k+m),r.length=sz:=by
  grind [UK]
 have bF:(xs.take k++ys++xs.drop (k+m)).length=xs.length:=by simp[mL];omega
 rcases hr.2 with ⟨rfl,rfl⟩|⟨b,cap,vs,e,fr,rfl,h2,h3,h4,h5,h6,h7⟩
 ·grind
 ·have mM:=X25 xs hr.1;have uI:=X25 ys cy;have qq:k*sz+m*sz<=vs.size:=by
   rw[<-Nat.add_mul];exact Nat.le_trans (Nat.mul_le_mul_right _ (Nat.le_trans hm h2)) h6
  obtain⟨vs',k1,k2⟩:=X6D (P:=P) b e fr vs.size h5 news.toList (k*sz) 0 vs w h4 rfl (by simp[aB];omega) (fun u hu=>by
   obtain⟨j,hj,rfl⟩:=getElem_of_mem hu;have hjl:j<ys.flatten.length:=by grind
   obtain⟨_,cM⟩:=X6p b8;obtain⟨u,gT,g9⟩:=cM j _ (getElem?_eq_getElem hjl)
   grind [D.rep_one])
  simp only[Nat.add_zero,Array.length_toList,aB] at k2;have cL:vs'.size=vs.size:=by
   have:=CG length k2
   grind
  refine⟨w.setRow b vs',?_,⟨hlen',.inr ⟨b,cap,vs',e,fr,by rw[bF],by rw[bF];exact h2,h3,setRow_heap w b vs _ e fr h4,by rw[cL];exact h5,by rw[cL];exact h6,?_⟩⟩,fun c hc=>setRow_other w b c vs' (fun e=>hc (by grind [YV])),by simp,rfl,rfl⟩
  ·grind [Vf]
  ·rw[bF];have su:(vs.toList.take (xs.length*sz)).length=xs.length*sz:=by grind [US,LM]
   have hle:k*sz+m*sz<=xs.length*sz:=by rw[<-Nat.add_mul];exact Nat.mul_le_mul_right _ hm
   have e1:vs'.toList.take (xs.length*sz)=(vs.toList.take (xs.length*sz)).take (k*sz)++news.toList++(vs.toList.take (xs.length*sz)).drop (k*sz+m*sz):=by
    rw[k2];exact Xmp (by simp[aB]) hle (by grind)
   rw[e1];have e2:(xs.take k++ys++xs.drop (k+m)).flatten=xs.flatten.take (k*sz)++ys.flatten++xs.flatten.drop (k*sz+m*sz):=by
    obtain⟨t1,_⟩:=Xe1 xs k hr.1 (by omega);obtain⟨_,t2⟩:=Xe1 xs (k+m) hr.1 hm
    grind [Nat.add_mul]
   grind [map_take,map_drop,X4f,X3g,X4g]
theorem X8v {T T2 ty:TypeId}{x y:Value}{news:Array Value}{w':World}{a:Option Addr}{c kK:Nat} (hT:UF P T sz=true) (hx:x= .slice a n c) (hl:(Builtin.lenOf y).run P w= .ok kK w) (hm:m=min kK n)
  (hf:(Builtin.firstCells sz m y).run P w= .ok news w) (hst:(match x with| .slice (some a) _ _=>(storeCells (a.add (0*sz)) news.toList).run P w|_=> .ok () w)= .ok () w'):
  (Builtin.copy_ #[T,T2] ty #[x,y]).run P w= .ok (.int .i64 m) w':=by
 obtain⟨e,h1,h2,_⟩:=X1K hT;subst hx hm;have hmin:Nat.min kK n=min kK n:=rfl;cases a<;>simp_all [Builtin.copy_,run_underlying,goInt,Addr.add_zero']
theorem Xvk {T T2:TypeId} (hx:S.ev x= .inn γ k) (hL:S.obj γ= .mat b6 rows) (hr:rows[k]? =some r) (hy:S.ev y= .d (.sl b6 ys)) (hm:m=min ys.length r.length)
  (hT:UF P T b6=true) {d':Option (Nat×AVal)} (hd:X4S S d') (hd':d'=none\/∃t,d'=some (t,ai m)) (hg:XH ops S gd)
  (h:Walk P ops draw K rest ((l.length,⟨d'.map (·.1),.call ⟨.builtin .copy,#[x,y],#[T,T2]⟩,ty,pos,ah,gd⟩,⟨XF ops gd++[(x,.inn γ k),(y,.d (.sl b6 ys))],d',[(γ,.mat b6 rows)],[(γ,.mat b6 (rows.set k (ys.take m++r.drop m)))],[]⟩)::l)
   ⟨S.n,d'.toList++S.τ,(γ,.mat b6 (rows.set k (ys.take m++r.drop m)))::S.L⟩):
  Walk P ops draw K (⟨d'.map (·.1),.call ⟨.builtin .copy,#[x,y],#[T,T2]⟩,ty,pos,ah,gd⟩::rest) l S:=by
 refine Yj h hg ?_ ⟨⟨hx,hy,TV⟩,⟨hL,TV⟩,TV,hd⟩;intro E S a w g hs hok Q K hK;obtain⟨cV,⟨l1,_⟩,_,cR⟩:=hok;have hq:=X1q hs _ cV;have ho:=hs.1.obj γ;rw[l1] at ho;have hx':a.eval x=g.aG γ k:=by grind [AVal.sat,VD]
 have jJ:(D.sl b6 ys).rep g.M (a.eval y):=by grind [AVal.sat,VD]
 have hlt:k<rows.length:=(GS.1 hr).1;have hrow:=ho.2.1 k r hr;obtain⟨news,n1,n2,n3,n4,n5⟩:=Xdg (P:=P) hs.1 jJ (m:=m) (by omega);obtain⟨w',s1,s2,s3,s4,s5,s6⟩:=XbJ (P:=P) (k:=0) (m:=m) hrow (by omega) n5 (by simp;omega) n2 n3;simp only[take_zero,nil_append,Nat.zero_add] at s2;have cG:∃b c,g.aG γ k= .slice b r.length c:=by
  grind [UK]
 obtain⟨b0,c0,cG⟩:=cG;have hrun:=X8v (P:=P) (T2:=T2) (ty:=ty) hT cG n4 hm n1 s1;have hi:Inv E (Xp .dead ((γ,.mat b6 (rows.set k (ys.take m++r.drop m)))::S.L)) g w':=by
  refine Inv.upd hs.1 γ _ (YE _ _ _ _) (fun j hj=>Yz _ _ _ (Ne.symm hj)) (fun b hb ax=>s3 b fun hc=>ax (by grind [Xw])) (by omega) s5 s6 rfl (fun _ _=>⟨rfl,rfl,rfl⟩) (fun _ _ _ _ _ h=>h) ?_ (fun b hb=> .inl ?_) (fun _=>Gh.keeps_refl _ _)
  ·obtain⟨h1,h2,h3⟩:=ho;refine⟨?_,fun i q hq=> ?_,fun i j b hi hj=>h3 i j b (by simpa using hi) (by simpa using hj)⟩
   ·rcases h1 with ⟨e,rfl⟩|⟨b,cap,vs,e',fr,k1,k2,k3,k4,k5,k6,k7,k8⟩
    ·simp at hlt
    ·refine .inr ⟨b,cap,vs,e',fr,by simpa using k1,by simpa using k2,k3,?_,k5,k6,fun i hi=>k7 i (by simpa using hi),fun i hi=>k8 i (by simpa using hi)⟩
     grind
   grind [X4z,YH.refl]
  grind [Xw]
 have c9:(execOp a.eval ⟨d'.map (·.1),.call ⟨.builtin .copy,#[x,y],#[T,T2]⟩,ty,pos,ah,gd⟩).run P w= .ok (.value (.int .i64 m)) w':=by
  simp_all [execOp,resolve,invoke,builtin]
 unfold Oper.wp;rw[c9,Oper.upon_value];rcases hd' with rfl|⟨t,rfl⟩
 ·exact hK _ _ ⟨g,hi,hs.2.1,hs.2.2.1,hs.2.2.2⟩
 ·exact hK _ _ (X2a hi hs.2.1 hs.2.2.1 hs.2.2.2 (X02 rfl) cR)
theorem Xub {T T2:TypeId} (hx:S.ev x= .inn γ k) (hL:S.obj γ= .mat b6 rows) (hr:rows[k]? =some r) (hy:S.ev y= .d (.sl b6 ys)) (hm:m=min ys.length r.length)
  (hT:UF P T b6=true) (hd:Nat.blt d S.n=true) (hg:XH ops S gd)
  (h:Walk P ops draw K rest ((l.length,⟨some d,.call ⟨.builtin .copy,#[x,y],#[T,T2]⟩,ty,pos,ah,gd⟩,⟨XF ops gd++[(x,.inn γ k),(y,.d (.sl b6 ys))],some (d,ai m),[(γ,.mat b6 rows)],[(γ,.mat b6 (rows.set k (ys.take m++r.drop m)))],[]⟩)::l)
   ((S.set d (ai m)).own γ (.mat b6 (rows.set k (ys.take m++r.drop m))))):
  Walk P ops draw K (⟨some d,.call ⟨.builtin .copy,#[x,y],#[T,T2]⟩,ty,pos,ah,gd⟩::rest) l S:=
 Xvk (d':=some (d,ai m)) hx hL hr hy hm hT hd (.inr ⟨d,rfl⟩) hg h
theorem Xt6 {tys:Array TypeId}{k:IntKind}{a b:Int} (hx:S.ev x= .d (.v (.int k a))) (hy:S.ev y= .d (.v (.int k b))) (hd:Nat.blt d S.n=true) (hg:XH ops S gd)
  (h:Walk P ops draw K rest ((l.length,⟨some d,.call ⟨.builtin .max,#[x,y],tys⟩,ty,pos,ah,gd⟩,⟨XF ops gd++[(x,.d (.v (.int k a))),(y,.d (.v (.int k b)))],some (d,.d (.v (.int k (max a b)))),[],[],[]⟩)::l) (S.set d (.d (.v (.int k (max a b)))))):
  Walk P ops draw K (⟨some d,.call ⟨.builtin .max,#[x,y],tys⟩,ty,pos,ah,gd⟩::rest) l S:=
 Yj h hg (Ug rfl fun E S g act w hs hq hl=>by
  refine⟨_,?_,X02 rfl⟩;have e:(if b>a then b else a)=max a b:=by
   omega
  simp[execOp,resolve,invoke,builtin,Builtin.max_,Builtin.max2,Up hq.1,Up hq.2.1];omega) ⟨⟨hx,hy,TV⟩,TV,TV,hd⟩
theorem XqN {tys:Array TypeId}{k:IntKind}{a b:Int} (hx:S.ev x= .d (.v (.int k a))) (hy:S.ev y= .d (.v (.int k b))) (hd:Nat.blt d S.n=true) (hg:XH ops S gd)
  (h:Walk P ops draw K rest ((l.length,⟨some d,.call ⟨.builtin .min,#[x,y],tys⟩,ty,pos,ah,gd⟩,⟨XF ops gd++[(x,.d (.v (.int k a))),(y,.d (.v (.int k b)))],some (d,.d (.v (.int k (min a b)))),[],[],[]⟩)::l) (S.set d (.d (.v (.int k (min a b)))))):
  Walk P ops draw K (⟨some d,.call ⟨.builtin .min,#[x,y],tys⟩,ty,pos,ah,gd⟩::rest) l S:=
 Yj h hg (Ug rfl fun E S g act w hs hq hl=>by
  refine⟨_,?_,X02 rfl⟩;simp[execOp,resolve,invoke,builtin,Builtin.min_,Builtin.min2,Up hq.1,Up hq.2.1];omega) ⟨⟨hx,hy,TV⟩,TV,TV,hd⟩
end
mutual
def AVal.ren (ρ:Nat->Nat):AVal->AVal
 | .any=> .any
 | .d x=> .d x
 | .ptr γ o=> .ptr (ρ γ) o
 | .own γ n=> .own (ρ γ) n
 | .rptr γ n o=> .rptr (ρ γ) n o
 | .inn γ i=> .inn (ρ γ) i
 | .bsl γ n=> .bsl (ρ γ) n
 | .rs γ o n c=> .rs (ρ γ) o n c
 | .mptr γ n i=> .mptr (ρ γ) n i
 | .cut γ n k sz=> .cut (ρ γ) n k sz
 | .dptr row=> .dptr row
 | .dx sz xs=> .dx sz xs
 | .bq p q=> .bq p q
 | .agg cs=> .agg (X0h ρ cs)
 | .tup cs=> .tup (X0h ρ cs)
 | .fn f cs=> .fn f (X0h ρ cs)
def X0h (ρ:Nat->Nat):List AVal->List AVal
 |[]=>[]
 |x::r=>x.ren ρ::X0h ρ r
end
def AObj.ren (ρ:Nat->Nat):AObj->AObj
 | .dead=> .dead
 | .box cs=> .box (X0h ρ cs)
 | .row sz xs=> .row sz xs
 | .froz sz xs=> .froz sz xs
 | .mat sz rows=> .mat sz rows
 | .iter s p=> .iter s p
 | .imap es=> .imap es
 | .nest sz xs=> .nest sz xs
 | .bag hs=> .bag hs
 | .raw cs ho=> .raw cs (ho.map fun h=>(h.1,h.2.ren ρ))
 | .wrow sz xs=> .wrow sz xs
def X1D (ρ:Nat->Nat):List (Nat×AObj)->List (Nat×AObj)
 |[]=>[]
 |(k,o)::r=>(ρ k,o.ren ρ)::X1D ρ r
def Gh.pull (g:Gh) (ρ:Nat->Nat):Gh:={az:=fun k=>g.az (ρ k),hd:=fun k=>g.hd (ρ k),aG:=fun k=>g.aG (ρ k),M:=g.M}
mutual
theorem XaF:∀(x:AVal) (u:Value),(x.ren ρ).sat g u↔x.sat (g.pull ρ) u
 | .any,_=>by simp only[AVal.ren,AVal.sat]
 | .d x,_=>by simp only[AVal.ren,AVal.sat,Gh.pull]
 | .ptr γ o,_=>by simp only[AVal.ren,AVal.sat,Gh.pull]
 | .own γ n,_=>by simp only[AVal.ren,AVal.sat,Gh.pull]
 | .rptr γ n o,_=>by simp only[AVal.ren,AVal.sat,Gh.pull]
 | .inn γ i,_=>by simp only[AVal.ren,AVal.sat,Gh.pull]
 | .bsl γ n,_=>by simp only[AVal.ren,AVal.sat,Gh.pull]
 | .rs γ o n c,_=>by simp only[AVal.ren,AVal.sat,Gh.pull]
 | .mptr γ n i,_=>by simp only[AVal.ren,AVal.sat,Gh.pull]
 | .cut γ n k sz,_=>by simp only[AVal.ren,AVal.sat,Gh.pull]
 | .dptr row,_=>by simp only[AVal.ren,AVal.sat,Gh.pull]
 | .dx sz xs,_=>by simp only[AVal.ren,AVal.sat,Gh.pull]
 | .bq p q,_=>by simp only[AVal.ren,AVal.sat]
 | .agg cs,u=>by simp only[AVal.ren,AVal.sat,X6n cs]
 | .tup cs,u=>by simp only[AVal.ren,AVal.sat,X6n cs]
 | .fn f cs,u=>by simp only[AVal.ren,AVal.sat,X6n cs]
theorem X6n:∀(xs:List AVal) (us:List Value),Xx g (X0h ρ xs) us↔Xx (g.pull ρ) xs us
 |[],[]=>by grind [X0h,Xx]
 |[],_::_=>by grind [X0h,Xx]
 |_::_,[]=>by grind [X0h,Xx]
 |x::xs,u::us=>by simp only[X0h,Xx,XaF x u,X6n xs us]
end
theorem Xm9:∀(cs:List AVal),(∀c∈cs,c.cellish=true)↔∀c∈X0h ρ cs,c.cellish=true
 |[]=>by simp[X0h]
 |c::r=>by
  simp only[X0h,mem_cons,forall_eq_or_imp,<-Xm9 r];refine and_congr_left fun _=> ?_;cases c<;>simp[AVal.ren,AVal.cellish]
theorem XiH {l:List D}:Xx (g.pull ρ) (l.map .d) us↔Xx g (l.map .d) us:=by
 have h:X0h ρ (l.map .d)=l.map .d:=by
  induction l<;>simp_all [X0h,AVal.ren]
 rw[<-X6n,h]
theorem Xab:UK (g.pull ρ) w h sz xs↔UK g w h sz xs:=by
 simp only[UK,XiH]
theorem Xxj:X62 (g.pull ρ) w h sz xs↔X62 g w h sz xs:=by
 simp only[X62,XiH]
theorem XjT (ρ:Nat->Nat):∀cs:List (Option D),X0h ρ (cs.map oA)=cs.map oA
 |[]=>rfl
 |c::cs=>by rw[map_cons,X0h,XjT ρ cs];cases c<;>rfl
theorem XjK (ρ:Nat->Nat):∀(l:List AVal) (j:Nat) (c:AVal),X0h ρ (l.set j c)=(X0h ρ l).set j (c.ren ρ)
 |[],_,_=>rfl
 |x::l,0,c=>rfl
 |x::l,j+1,c=>by rw[set_cons_succ,X0h,X0h,set_cons_succ,XjK ρ l j c]
theorem Xq7 (ρ:Nat->Nat) (cs:List (Option D)) (ho:Option (Nat×AVal)):Yi cs (ho.map fun h=>(h.1,h.2.ren ρ))=X0h ρ (Yi cs ho):=by
 cases ho<;>simp_all [XjT,Yi,XjK]
theorem Xjl (o:AObj):Ub g w (ρ γ) (o.ren ρ)↔Ub (g.pull ρ) w γ o:=by
 cases o with
 |dead=>exact Iff.rfl
 |box cs=>simp only[AObj.ren,Ub,X6n,<-Xm9 cs];rfl
 |row sz xs=>simp only[AObj.ren,Ub];exact Xab.symm
 |froz sz xs=>exact Iff.rfl
 |iter s p=>exact Iff.rfl
 |imap es=>exact Iff.rfl
 |mat sz rows=>simp only[AObj.ren,Ub,Xfz,Xab];rfl
 |nest sz xs=>simp only[AObj.ren,Ub,XcV,X1G,Xab];rfl
 |bag hs=>grind [AObj.ren,Ub,X1G,Xab]
 |raw cs ho=>simp only[AObj.ren,Ub,Xq7,X6n];rfl
 |wrow sz xs=>simp only[AObj.ren,Ub];exact Xxj.symm
theorem XcZ {b:Nat} (o:AObj):Xw g (o.ren ρ) (ρ γ) b↔Xw (g.pull ρ) o γ b:=by
 cases o<;>exact Iff.rfl
theorem X7M (h1:∀k,σ (ρ k)=k):∀(L:List (Nat×AObj)) (γ:Nat),Xp .dead (X1D ρ L) (ρ γ)=(Xp .dead L γ).ren ρ
 |[],γ=>rfl
 |(k,o)::r,γ=>by
  simp only[X1D];by_cases h:k=γ
  ·grind [YE]
  ·rw[Yz _ _ _ h,Yz _ _ _ (fun e=>h (by grind)),X7M h1 r γ]
theorem Xlm (h1:∀k,σ (ρ k)=k):∀(L:List (Nat×AObj)) (γ:Nat),Ya (ρ γ) (X1D ρ L)=Ya γ L
 |[],γ=>rfl
 |(k,o)::r,γ=>by
  simp only[X1D,Ya,Xlm h1 r γ]
  grind [Nat.beq_eq]
theorem XaJ (h1:∀k,σ (ρ k)=k) (h2:∀k,ρ (σ k)=k) {L:List (Nat×AObj)}{g:Gh}{w:World}{g0:Gh}:
  Inv {E with g0:=g} (Xp .dead (X1D ρ L)) g w↔Inv {E with g0:=g.pull ρ} (Xp .dead L) (g.pull ρ) w:=by
 have hlv:∀γ b,Xw g (Xp .dead (X1D ρ L) (ρ γ)) (ρ γ) b↔Xw (g.pull ρ) (Xp .dead L γ) γ b:=fun γ b=>by rw[X7M h1];exact XcZ _
 constructor
 ·intro hi;refine⟨fun γ=> ?_,fun γ γ' b h h'=> ?_,hi.mem,fun γ b h=>hi.sep (ρ γ) b ((hlv _ _).2 h),fun γ b h=>hi.new (ρ γ) b ((hlv _ _).2 h),hi.ext,hi.lim,hi.frame,hi.size,hi.os,hi.out,fun _ _=>Gh.keeps_refl _ _⟩
  ·have:=hi.obj (ρ γ);rw[X7M h1] at this;grind [Xjl]
  ·have:=hi.inj (ρ γ) (ρ γ') b ((hlv _ _).2 h) ((hlv _ _).2 h')
   grind
 ·intro hi;have hs:∀γ b,Xw g (Xp .dead (X1D ρ L) γ) γ b->Xw (g.pull ρ) (Xp .dead L (σ γ)) (σ γ) b:=fun γ b h=>by
   grind
  refine⟨fun γ=> ?_,fun γ γ' b h h'=> ?_,hi.mem,fun γ b h=>hi.sep (σ γ) b (hs _ _ h),fun γ b h=>hi.new (σ γ) b (hs _ _ h),hi.ext,hi.lim,hi.frame,hi.size,hi.os,hi.out,fun _ _=>Gh.keeps_refl _ _⟩
  ·have:=hi.obj (σ γ);rw[<-Xjl (ρ:=ρ),<-X7M h1,h2] at this;exact this
  ·have:=hi.inj (σ γ) (σ γ') b (hs _ _ h) (hs _ _ h')
   grind
theorem Xq4:(g.pull ρ).keeps (g'.pull ρ) γ↔g.keeps g' (ρ γ):=Iff.rfl
theorem Xte (ρ σ:Nat->Nat) (h1:∀k,σ (ρ k)=k) (h2:∀k,ρ (σ k)=k) (h:Con P f Li args Lo res):
  Con P f (X1D ρ Li) (X0h ρ args) (X1D ρ Lo) (res.ren ρ):=by
 intro g w vs hi hs;have hA:∀b,(∃γ,Xw g (Xp .dead (X1D ρ Li) γ) γ b)↔∃γ,Xw (g.pull ρ) (Xp .dead Li γ) γ b:=by
  intro b;constructor
  ·rintro⟨γ,aQ⟩;refine⟨σ γ,?_⟩;rw[<-h2 γ,X7M h1,XcZ] at aQ;exact aQ
  ·rintro⟨γ,aQ⟩;refine⟨ρ γ,?_⟩;rw[X7M h1,XcZ];exact aQ
 have hE:Vw (g.pull ρ) w Li={Vw g w (X1D ρ Li) with g0:=g.pull ρ}:=by
  simp only[Vw,Env.mk.injEq,true_and,and_true];exact⟨rfl,funext fun b=>propext (hA b).symm⟩
 have hi':Inv (Vw (g.pull ρ) w Li) (Xp .dead Li) (g.pull ρ) w:=by
  rw[hE];exact(XaJ (g0:=g) h1 h2).1 hi
 refine(h (g.pull ρ) w vs hi' ((X6n _ _).1 hs)).mono ?_;rintro e w' ⟨v,g',rfl,hv,hi2,hk⟩;have eN:(g'.pull σ).pull ρ=g':=by simp_all [Gh.pull]
 refine⟨v,g'.pull σ,rfl,(XaF _ _).2 (by rw[eN];exact hv),?_,fun γ aQ=> ?_⟩
 ·refine(XaJ (E:=Vw g w (X1D ρ Li)) (g0:=g) h1 h2).2 ?_
  grind
 ·have nO:Ya (σ γ) Li=true:=by rw[<-Xlm h1,h2];exact aQ
  grind [Xq4]
def swp (a b k:Nat):Nat:=bif Nat.beq k a then b else bif Nat.beq k b then a else k
theorem X5q (a b k:Nat):swp a b (swp a b k)=k:=by
 simp only[swp];by_cases h1:k=a
 ·subst h1;by_cases h2:b=k
  ·subst h2;simp
  ·have:Nat.beq b k=false:=by grind [Nat.eq_of_beq_eq_true]
   simp[this]
 ·have e1:Nat.beq k a=false:=by grind [Nat.eq_of_beq_eq_true]
  by_cases h2:k=b
  ·subst h2;simp[e1]
  grind [Nat.eq_of_beq_eq_true]
theorem YK (a b:Nat) (h:Con P f Li args Lo res):
  Con P f (X1D (swp a b) Li) (X0h (swp a b) args) (X1D (swp a b) Lo) (res.ren (swp a b)):=
 Xte _ _ (X5q a b) (X5q a b) h
section
variable {P:Program}{ops:Array Oper}{draw:Bool}{K:XW->St->Prop}{rest:List Oper}{l:XW}{S:St}
variable {d:Nat}{ty:TypeId}{pos:String}{ah:Array Edge}{gd:Option (Nat×Bool)}
theorem XpD {t:Tmp}{caps:List AVal}{args:Array Operand}{tys:Array TypeId}{xs:List Operand}{ys zs:List AVal}
  (ht:S.ev (.tmp t)= .fn f caps) (hxs:args.toList=xs) (hys:evA S xs=ys) (hle:leL (ys++caps) zs) (af:Con P f Li zs Lo res) (hf:X2J P f=true)
  (bH:Vq S Li) (hin:X4A Li Lo=true) (dM:X4k Lo Lo=true) (hres:res.within Lo=true) (hnew:X2R S (X0f Li Lo)) (av:Vq S (X48 (X0f Li Lo)))
  (hd:Nat.blt d S.n=true) (hg:XH ops S gd)
  (h:Walk P ops draw K rest ((l.length,⟨some d,.call ⟨.value (.tmp t),args,tys⟩,ty,pos,ah,gd⟩,⟨XF ops gd++((.tmp t,.fn f caps)::X5N xs ys),some (d,res),Li++X48 (X0f Li Lo),Lo,X0f Li Lo⟩)::l)
   ((S.set d res).cat Lo)):
  Walk P ops draw K (⟨some d,.call ⟨.value (.tmp t),args,tys⟩,ty,pos,ah,gd⟩::rest) l S:=by
 have hap:∀(A B:List (Nat×AObj)) (T:St),Vq T (A++B)↔Vq T A/\Vq T B:=by
  intro A B T;simp only[X6d,mem_append]
  grind
 have hlen:ys.length=xs.length:=by
  rw[<-hys];clear hys hxs h hle;induction xs<;>simp_all [evA]
 refine Yj h hg ?_ ⟨⟨ht,by grind [X9K]⟩,(hap _ _ _).2 ⟨bH,av⟩,hnew,hd⟩;intro E S a w g hs hok Q K hK;obtain⟨cV,dO,gV,cR⟩:=hok;rw[hap] at dO;obtain⟨b5,bS⟩:=X1q hs _ cV;simp only[AVal.sat] at b5;obtain⟨cv,iG,hcs⟩:=b5;have b8:=X85 hle (X4f (X9d hlen bS) hcs);have hinv:Inv (Vw g w Li) (Xp .dead Li) g w:=by
  have hsub:=Xj dO.1;have hl:∀γ b,Xw g (Xp .dead Li γ) γ b->Xw g (S.obj γ) γ b:=by
   intro γ b hb;rcases hsub γ with e|e<;>simp_all [Xw]
  refine⟨fun γ=> ?_,fun γ γ' b k k'=>hs.1.inj γ γ' b (hl _ _ k) (hl _ _ k'),hs.1.mem,fun γ b k=>hs.1.sep γ b (hl _ _ k),fun γ b k=> .inr ⟨γ,k⟩,YH.refl _,fun a v ha=> .inl ⟨v,ha⟩,fun _ _ _=>rfl,Nat.le_refl _,rfl,rfl,fun γ _=>Gh.keeps_refl _ _⟩;rcases hsub γ with e|e
  ·rw[e];exact hs.1.obj γ
  ·rw[e];trivial
 have aP:=af g w (xs.map a.eval++cv.toList) hinv b8;have hrun:(execOp a.eval ⟨some d,.call ⟨.value (.tmp t),args,tys⟩,ty,pos,ah,gd⟩).run P w= .ok (.enter f (xs.map a.eval++cv.toList).toArray) w:=by
  have e1:(#[]++args.map a.eval++cv:Array Value)=(xs.map a.eval++cv.toList).toArray:=by
   grind
  simp_all [execOp,resolve,Deferred.ofValue,invoke,Xb4]
 unfold Oper.wp;rw[hrun,Oper.upon_enter];refine aP.mono ?_;rintro e w' ⟨v,g',rfl,hv,hi',hk⟩;obtain⟨j1,j2,j3⟩:=Xfg hs.1 dO.1 hin dM gV dO.2 hi' hk;exact hK _ _ (X2a j1 hs.2.1 hs.2.2.1 (fun t=>j3 t _ (hs.2.2.2 t)) (j2 _ _ hres hv) cR)
theorem XpS {caps:Array Operand}{xs:List Operand}{ys:List AVal} (hxs:caps.toList=xs) (hys:evA S xs=ys) (hd:Nat.blt d S.n=true) (hg:XH ops S gd)
  (h:Walk P ops draw K rest ((l.length,⟨some d,.makeFunc (.func f) #[] caps,ty,pos,ah,gd⟩,⟨XF ops gd++X5N xs ys,some (d,.fn f ys),[],[],[]⟩)::l) (S.set d (.fn f ys))):
  Walk P ops draw K (⟨some d,.makeFunc (.func f) #[] caps,ty,pos,ah,gd⟩::rest) l S:=by
 have hlen:ys.length=xs.length:=by
  rw[<-hys];clear hys hxs h;induction xs<;>simp_all [evA]
 refine Yj h hg (Ug rfl fun E S g a w hs hq hl=> ?_) ⟨by grind [X9K],TV,TV,hd⟩;simp_all [execOp,Instr.makeFunc,AVal.sat,X9d]
end
section
variable {P:Program}{ops:Array Oper}{draw:Bool}{K:XW->St->Prop}{rest:List Oper}{l:XW}{S:St}
variable {d:Nat}{ty:TypeId}{pos:String}{ah:Array Edge}{gd:Option (Nat×Bool)}
theorem Xwl {T T2:TypeId} (hx:S.ev x= .own γ n) (hL:S.obj γ= .row sz r) (hn:n=r.length) (hy:S.ev y= .d (.sl sz ys)) (hm:m=min ys.length r.length)
  (hT:UF P T sz=true) {d':Option (Nat×AVal)} (hd:X4S S d') (hd':d'=none\/∃t,d'=some (t,ai m)) (hg:XH ops S gd)
  (h:Walk P ops draw K rest ((l.length,⟨d'.map (·.1),.call ⟨.builtin .copy,#[x,y],#[T,T2]⟩,ty,pos,ah,gd⟩,⟨XF ops gd++[(x,.own γ n),(y,.d (.sl sz ys))],d',[(γ,.row sz r)],[(γ,.row sz (ys.take m++r.drop m))],[]⟩)::l)
   ⟨S.n,d'.toList++S.τ,(γ,.row sz (ys.take m++r.drop m))::S.L⟩):
  Walk P ops draw K (⟨d'.map (·.1),.call ⟨.builtin .copy,#[x,y],#[T,T2]⟩,ty,pos,ah,gd⟩::rest) l S:=by
 refine Yj h hg ?_ ⟨⟨hx,hy,TV⟩,⟨hL,TV⟩,TV,hd⟩;intro E S a w g hs hok Q K hK;obtain⟨cV,⟨l1,_⟩,_,cR⟩:=hok;have hq:=X1q hs _ cV;have ho:=hs.1.obj γ;rw[l1] at ho;have hx':a.eval x=g.hd γ:=X3Y hq.1 ho hn;have jJ:(D.sl sz ys).rep g.M (a.eval y):=by grind [AVal.sat,VD]
 have hrow:UK g w (g.hd γ) sz r:=ho;obtain⟨news,n1,n2,n3,n4,n5⟩:=Xdg (P:=P) hs.1 jJ (m:=m) (by omega);obtain⟨w',s1,s2,s3,s4,s5,s6⟩:=XbJ (P:=P) (k:=0) (m:=m) hrow (by omega) n5 (by simp;omega) n2 n3;simp only[take_zero,nil_append,Nat.zero_add] at s2;have cG:∃b c,g.hd γ= .slice b r.length c:=by
  grind [UK]
 obtain⟨b0,c0,cG⟩:=cG;have hrun:=X8v (P:=P) (T2:=T2) (ty:=ty) hT cG n4 hm n1 s1;have hi:Inv E (Xp .dead ((γ,.row sz (ys.take m++r.drop m))::S.L)) g w':=by
  refine Inv.upd hs.1 γ _ (YE _ _ _ _) (fun j hj=>Yz _ _ _ (Ne.symm hj)) (fun b hb ax=>s3 b fun hc=>ax (by rw[l1];exact hc)) (by omega) s5 s6 rfl (fun _ _=>⟨rfl,rfl,rfl⟩) (fun _ _ _ _ _ h=>h) s2 (fun b hb=> .inl ?_) (fun _=>Gh.keeps_refl _ _);rw[l1];exact hb
 have c9:(execOp a.eval ⟨d'.map (·.1),.call ⟨.builtin .copy,#[x,y],#[T,T2]⟩,ty,pos,ah,gd⟩).run P w= .ok (.value (.int .i64 m)) w':=by
  simp_all [execOp,resolve,invoke,builtin]
 unfold Oper.wp;rw[c9,Oper.upon_value];rcases hd' with rfl|⟨t,rfl⟩
 ·exact hK _ _ ⟨g,hi,hs.2.1,hs.2.2.1,hs.2.2.2⟩
 ·exact hK _ _ (X2a hi hs.2.1 hs.2.2.1 hs.2.2.2 (X02 rfl) cR)
theorem X9O {T T2:TypeId} (hx:S.ev x= .own γ n) (hL:S.obj γ= .row sz r) (hn:n=r.length) (hy:S.ev y= .d (.sl sz ys)) (hm:m=min ys.length r.length)
  (hT:UF P T sz=true) (hd:Nat.blt d S.n=true) (hg:XH ops S gd)
  (h:Walk P ops draw K rest ((l.length,⟨some d,.call ⟨.builtin .copy,#[x,y],#[T,T2]⟩,ty,pos,ah,gd⟩,⟨XF ops gd++[(x,.own γ n),(y,.d (.sl sz ys))],some (d,ai m),[(γ,.row sz r)],[(γ,.row sz (ys.take m++r.drop m))],[]⟩)::l)
   ((S.set d (ai m)).own γ (.row sz (ys.take m++r.drop m)))):
  Walk P ops draw K (⟨some d,.call ⟨.builtin .copy,#[x,y],#[T,T2]⟩,ty,pos,ah,gd⟩::rest) l S:=
 Xwl (d':=some (d,ai m)) hx hL hn hy hm hT hd (.inr ⟨d,rfl⟩) hg h
end
theorem Xq (β:Nat) {cs cs':List AVal} (hb:S.obj β= .box cs) (hle:leL cs cs') (hc:X2H cs'=true):S.le (S.own β (.box cs')):=by
 rintro E a w ⟨g,hs⟩;have ho:=hs.1.obj β;rw[hb] at ho;obtain⟨vs,e,fr,h1,h2,h3,h4⟩:=ho;have hi2:Inv E (Xp .dead ((β,.box cs')::S.L)) g w:=by
  refine Inv.upd hs.1 β _ (YE _ _ _ _) (fun k hk=>Yz _ _ _ (Ne.symm hk)) (fun _ _ _=>rfl) (Nat.le_refl _) rfl rfl rfl (fun _ _=>⟨rfl,rfl,rfl⟩) (fun _ _ _ _ _ h=>h) ?_ (fun b hb'=> .inl (by rw[hb];exact hb')) (fun _=>Gh.keeps_refl _ _)
  grind [X85,X5L,Ub]
 exact X49 hs hi2 rfl hs.2.2.2
def X6 (l:List UInt8):ByteArray:=⟨l.toArray⟩
theorem X4y (l:List UInt8):(X6 l).toList=l:=by
 grind [ByteArray.toList_eq,X6]
theorem Xqx (l:List UInt8):∀s:ByteArray,(l.map fun b=>(b.toNat:Int)).foldl (fun r n=>r.push (UInt8.ofNat n.toNat)) s=⟨s.data++l.toArray⟩:=by
 induction l<;>simp_all
section
variable {P:Program}{ops:Array Oper}{draw:Bool}{K:XW->St->Prop}{rest:List Oper}{l:XW}{S:St}
variable {d:Nat}{ty:TypeId}{pos:String}{ah:Array Edge}{gd:Option (Nat×Bool)}
theorem XrH {t:TypeId}{a:List UInt8} (w:World):(do eqGuard .eql t x y (.string (X6 a)) (.string (X6 b));binOp .eql t (.string (X6 a)) (.string (X6 b)):Sem Value).run P w= .ok (.bool (decide (a=b))) w:=by
 simp[go_sem,X4y];grind
theorem Xwy {t:TypeId}{a:List UInt8} (w:World):(do eqGuard .neq t x y (.string (X6 a)) (.string (X6 b));binOp .neq t (.string (X6 a)) (.string (X6 b)):Sem Value).run P w= .ok (.bool (decide (a≠b))) w:=by
 simp[go_sem,X4y];grind
def Xdm (P:Program) (src dst:TypeId):Bool:=
 match P.underlying src,P.underlying dst with
 |some (.slice e),some .string=>(match P.underlying e with|some (.int .u8)=>true|_=>false)
 |_,_=>false
theorem Xvi {src dst:TypeId} (h:Xdm P src dst=true):∃e,P.underlying src=some (.slice e)/\P.underlying e=some (.int .u8)/\P.underlying dst=some .string:=by
 grind [Xdm]
theorem Xp4 (b:List UInt8):(b.map fun c=>[D.v (.int .u8 c.toNat)]).flatten=b.map fun c=>D.v (.int .u8 c.toNat):=by
 induction b<;>simp_all
theorem Xx7 {src dst:TypeId} (hx:S.ev x= .d (.sl 1 (b.map fun c=>[D.v (.int .u8 c.toNat)]))) (ht:Xdm P src dst=true) (hd:Nat.blt d S.n=true) (hg:XH ops S gd)
  (h:Walk P ops draw K rest ((l.length,⟨some d,.convert src dst x,ty,pos,ah,gd⟩,⟨XF ops gd++[(x,.d (.sl 1 (b.map fun c=>[D.v (.int .u8 c.toNat)])))],some (d,.d (.v (.string (X6 b)))),[],[],[]⟩)::l) (S.set d (.d (.v (.string (X6 b)))))):
  Walk P ops draw K (⟨some d,.convert src dst x,ty,pos,ah,gd⟩::rest) l S:=by
 refine Yj h hg (Ug rfl fun E S g a w hs hq _=> ?_) ⟨⟨hx,TV⟩,TV,TV,hd⟩;refine⟨.string (X6 b),?_,X02 rfl⟩;obtain⟨e,t1,t2,t3⟩:=Xvi ht;have qt:=hq.1;simp only[AVal.sat,D.rep] at qt;obtain⟨ad,cap,hv,h2,h3,h4⟩:=qt;have hc:(convert src dst (a.eval x)).run P w= .ok (.string (X6 b)) w:=by
  rw[hv,run_convert_bytes_string w src dst e ad _ cap t1 t2 t3];rcases h4 with h4|⟨bl,o,rfl,hr⟩
  ·have hb:b=[]:=by simpa using h4
   subst hb;cases ad with
   |none=>simp[Conv.bytesToString,X6];rfl
   |some q=>
    have:=run_bytesToString (P:=P) w q 0 cap [] (by simp[loadCells,loadCellsFrom]);simp only[map_nil,foldl_nil] at this;exact this
  ·obtain⟨vs,k1,k2,k3⟩:=Xaf hs.1.mem _ bl o hr;have hvs:vs=(b.map fun c=>(c.toNat:Int)).map (Value.int .u8):=by
    apply ext_getElem?;intro i;cases sx:b[i]? with
    |none=>
     grind
    |some c=>
     have hi:i<b.length:=(GS.1 sx).1;have hiv:i<vs.length:=by grind
     have:=k3 i (D.v (.int .u8 c.toNat)) vs[i] (by
      grind [Xp4]) (getElem?_eq_getElem hiv)
     grind [D.rep]
   have lG:=run_loadCells_list (P:=P) w ⟨bl,o,none⟩ vs (fun j v hv=>by grind [Vf]);rw[k1,hvs] at lG;have:=run_bytesToString (P:=P) w ⟨bl,o,none⟩ _ cap (b.map fun c=>(c.toNat:Int)) (by simpa using lG);simp_all [Xqx,X6]
 simp_all [execOp]
end
section
variable {P:Program}{ops:Array Oper}{draw:Bool}{K:XW->St->Prop}{rest:List Oper}{l:XW}{S:St}
variable {d:Nat}{ty:TypeId}{pos:String}{ah:Array Edge}{gd:Option (Nat×Bool)}
theorem Xq6 {T T2:TypeId} (hx:S.ev x= .own γ n) (hL:S.obj γ= .row sz xs) (hy:S.ev y= .d (.sl sz ys)) (hn:n=xs.length)
  (hB:elB P T=bytes) (hT:X1b P T sz bytes=true) (bN:X4b P T2=true) (hb0:Nat.beq bytes 0=false) (hroom:(xs.length+ys.length)*bytes<=140737488355328)
  (hd:Nat.blt d S.n=true) (hg:XH ops S gd)
  (h:Walk P ops draw K rest ((l.length,⟨some d,.call ⟨.builtin .append,#[x,y],#[T,T2]⟩,ty,pos,ah,gd⟩,⟨XF ops gd++[(x,.own γ n),(y,.d (.sl sz ys))],some (d,.d (.sl sz (xs++ys))),[(γ,.row sz xs)],[(γ,.froz sz (xs++ys))],[]⟩)::l)
   ((S.set d (.d (.sl sz (xs++ys)))).own γ (.froz sz (xs++ys)))):
  Walk P ops draw K (⟨some d,.call ⟨.builtin .append,#[x,y],#[T,T2]⟩,ty,pos,ah,gd⟩::rest) l S:=
 Yj h hg (X3e rfl fun E S g a w hs hq hl gU=>by
  have ho:=hs.1.obj γ;rw[hl.1] at ho;have hv:=X3Y hq.1 ho hn;have jJ:(D.sl sz ys).rep g.M (a.eval y):=by grind [AVal.sat,VD]
  obtain⟨news,k1,k2,k3⟩:=X97 (P:=P) hs.1 jJ;have cy:∀r∈ys,r.length=sz:=by grind
  obtain⟨v,g',w',r1,r2,r3,r4⟩:=Xhu hs hl.1 (ty:=ty) hT bN (X5d hb0) k1 rfl cy k2 (by simpa using hroom);obtain⟨M',hle,hi⟩:=X83 (S:=S.own γ (.row sz (xs++ys))) r3 (YE _ _ _ _);have hi2:Inv E (Xp .dead ((γ,.froz sz (xs++ys))::S.L)) {g' with M:=M'} w':=by
   refine hi.sub fun k=> .inl ?_
   grind [Xp,St.own]
  have oq:=hi2.obj γ;rw[YE] at oq;exact⟨v,{g' with M:=M'},w',X6Y rfl (by rw[hv];exact r1),X6v oq (by simp) (X3H (g:=g') (g':={g' with M:=M'}) hle rfl rfl rfl r2),hi2,fun t=>X3H (g:=g') (g':={g' with M:=M'}) hle rfl rfl rfl (r4 t)⟩) ⟨⟨hx,hy,TV⟩,⟨hL,TV⟩,TV,hd⟩
end
section
variable {P:Program}{ops:Array Oper}{draw:Bool}{K:XW->St->Prop}{rest:List Oper}{l:XW}{S:St}
variable {d:Nat}{ty:TypeId}{pos:String}{ah:Array Edge}{gd:Option (Nat×Bool)}
theorem Xhz {T:TypeId}{m:Int} (hx:S.ev x= .own γ n) (hL:S.obj γ= .row 1 xs) (hi:S.ev i= .d (.v (.int kd m))) (hn:n=xs.length) (hk:m=(k:Nat)) (hlt:k<xs.length)
  (hT:UF P T 1=true) (hd:Nat.blt d S.n=true) (hg:XH ops S gd)
  (h:Walk P ops draw K rest ((l.length,⟨some d,.indexAddr T x i,ty,pos,ah,gd⟩,⟨XF ops gd++[(x,.own γ n),(i,.d (.v (.int kd m)))],some (d,.rptr γ n k),[(γ,.row 1 xs)],[],[]⟩)::l) (S.set d (.rptr γ n k))):
  Walk P ops draw K (⟨some d,.indexAddr T x i,ty,pos,ah,gd⟩::rest) l S:=
 Yj h hg (Ug rfl fun E S g a w hs hq hl=>by
  obtain⟨e,h1,h2,h3⟩:=X1K hT;have ho:=hs.1.obj γ;rw[hl.1] at ho;have hv:=X3Y hq.1 ho hn;rcases ho.2 with ⟨e,rfl⟩|⟨b,cap,vs,e',fr,hh,_⟩
  ·simp at hlt
  ·rw[hh] at hv;refine⟨.pointer (some ⟨b,k,none⟩),?_,?_⟩
   ·have hb:(0:Int)<=m/\m<(xs.length:Int):=by omega
    have hm:m.toNat=k:=by omega
    have:=run_indexAt_slice (P:=P) w T ⟨b,0,none⟩ xs.length cap kd m (by rw[h3];exact h1);rw[PI hb,h3,h2 w,Result.andThen_ok,Vf,hm,Nat.mul_one,Nat.zero_add] at this;simp only[execOp,hv,Up hq.2.1,Sem.run_bind,this];rfl
   ·simp only[AVal.sat];exact⟨rfl,_,_,_,hh,by omega,fun _=>⟨_,rfl,rfl⟩⟩) ⟨⟨hx,hi,TV⟩,⟨hL,TV⟩,TV,hd⟩
theorem Xry (h:∀x∈xs,x.length=1) {k:Nat}{y:D} (hk:xs[k]? =some [y]):xs.flatten[k]? =some y:=by
 induction xs generalizing k<;>grind
theorem Xoz {t:TypeId}{y:D} (hx:S.ev x= .rptr γ n k) (hL:S.obj γ= .row 1 xs) (hn:n=xs.length) (hy:xs[k]? =some [y])
  (ht:X1g P t false 1=true) (hd:Nat.blt d S.n=true) (hg:XH ops S gd)
  (h:Walk P ops draw K rest ((l.length,⟨some d,.load t x,ty,pos,ah,gd⟩,⟨XF ops gd++[(x,.rptr γ n k)],some (d,.d y),[(γ,.row 1 xs)],[],[]⟩)::l) (S.set d (.d y))):
  Walk P ops draw K (⟨some d,.load t x,ty,pos,ah,gd⟩::rest) l S:=
 Yj h hg (Ug rfl fun E S g a w hs hq hl=>by
  have ho:=hs.1.obj γ;rw[hl.1] at ho;have b5:=hq.1;simp only[AVal.sat] at b5;obtain⟨_,a',m,c,q1,q2,q3⟩:=b5;have hlt:k<xs.length:=(GS.1 hy).1;rcases ho.2 with ⟨e,rfl⟩|⟨b,cap,vs,e',fr,hh,k2,k3,k4,k5,k6,k7⟩
  ·simp at hlt
  ·rw[hh] at q1;cases q1;obtain⟨b',e1,e2⟩:=q3 hn;cases e1;obtain⟨u,hu,g8⟩:=VQ k7 k (.d y) (by rw[getElem?_map,Xry ho.1 hy];rfl);have hc:w.cell? ⟨b,k,none⟩=some u:=by
    grind [cell_of_row]
   simp_all [execOp,Instr.loadAt,Instr.sureAddr,X7S]) ⟨⟨hx,TV⟩,⟨hL,TV⟩,TV,hd⟩
theorem XoB {t:TypeId}{v:Operand}{y:D} (hx:S.ev x= .rptr γ n k) (hL:S.obj γ= .row 1 xs) (hv:S.ev v= .d y) (hn:n=xs.length) (hlt:k<xs.length)
  (ht:X6o P t 1=true) (hg:XH ops S gd)
  (h:Walk P ops draw K rest ((l.length,⟨none,.store t x v,ty,pos,ah,gd⟩,⟨XF ops gd++[(x,.rptr γ n k),(v,.d y)],none,[(γ,.row 1 xs)],[(γ,.row 1 (xs.take k++[[y]]++xs.drop (k+1)))],[]⟩)::l)
   (S.own γ (.row 1 (xs.take k++[[y]]++xs.drop (k+1))))):
  Walk P ops draw K (⟨none,.store t x v,ty,pos,ah,gd⟩::rest) l S:=
 Yj h hg (Xbx rfl fun E S g a w hs hq hl dF=>by
  have ho:=hs.1.obj γ;rw[hl.1] at ho;have b5:=hq.1;simp only[AVal.sat] at b5;obtain⟨_,a',m,c,q1,q2,q3⟩:=b5;have hrow:UK g w (g.hd γ) 1 xs:=ho;have hone:(a.eval v).cells= #[a.eval v]:=by
   have:=AVal.sat_one (x:= .d y) rfl hq.2.1;cases cg:a.eval v<;>rw[cg] at this<;>first|rfl|simp[Value.oneCell'] at this
  obtain⟨w',s1,s2,s3,s4,s5,s6⟩:=XbJ (P:=P) (k:=k) (m:=1) (ys:=[[y]]) hrow (by omega) (by simp) rfl (news:= #[a.eval v]) (by simp) (by
   grind [Xx,VD])
  rcases hrow.2 with ⟨e,rfl⟩|⟨b,cap,vs,e',fr,hh,_⟩
  ·simp at hlt
  rw[hh] at q1 s1;cases q1;obtain⟨b',e1,e2⟩:=q3 hn;cases e1;simp only[Nat.mul_one,Vf,Nat.zero_add] at s1;refine⟨g,w',?_,?_,hs.2.2.2⟩
  ·have hsz:=Xbl ht w;simp_all [execOp,Instr.storeAt,Instr.sureAddr,storeVar]
  ·refine Inv.upd hs.1 γ _ (YE _ _ _ _) (fun j hj=>Yz _ _ _ (Ne.symm hj)) (fun b hb ax=>s3 b fun hc=>ax (by rw[hl.1];exact hc)) (by omega) s5 s6 rfl (fun _ _=>⟨rfl,rfl,rfl⟩) (fun _ _ _ _ _ h=>h) s2 (fun b hb=> .inl (by rw[hl.1];exact hb)) (fun _=>Gh.keeps_refl _ _)) ⟨⟨hx,hv,TV⟩,⟨hL,TV⟩,TV,TV⟩
end
section
variable {P:Program}
def XaO (P:Program) (t:TypeId):Bool:=match P.underlying t with|some .bool=>true|_=>false
theorem Xjw {t:TypeId} (h:XaO P t=true):P.underlying t=some .bool:=by
 grind [XaO]
theorem Xx2 {t:TypeId}{a b:Bool} (ht:XaO P t=true) (w:World):(do eqGuard .eql t x y (.bool a) (.bool b);binOp .eql t (.bool a) (.bool b):Sem Value).run P w= .ok (.bool (decide (a=b))) w:=by
 have h:=run_equalIn_bool' (P:=P) w 9999 t a b (Xjw ht);have h2:(Op.equal t (.bool a) (.bool b)).run P w= .ok (a==b) w:=h;simp_all [eqGuard,binOp,Bool.beq_eq_decide_eq]
theorem Xsx {t:TypeId}{a b:Bool} (ht:XaO P t=true) (w:World):(do eqGuard .neq t x y (.bool a) (.bool b);binOp .neq t (.bool a) (.bool b):Sem Value).run P w= .ok (.bool (decide (a≠b))) w:=by
 have h:=run_equalIn_bool' (P:=P) w 9999 t a b (Xjw ht);have h2:(Op.equal t (.bool a) (.bool b)).run P w= .ok (a==b) w:=h;simp[eqGuard,binOp,h2,Bool.beq_eq_decide_eq]
theorem Xd4 {t:TypeId}{k:IntKind}{a b:Int} (ha:0<=a) (hb:b≠0) (w:World):(do eqGuard .rem t x y (.int k a) (.int k b);binOp .rem t (.int k a) (.int k b):Sem Value).run P w= .ok (.int k (a%b)) w:=by
 simp_all [eqGuard,binOp,Op.intDiv,Int.tmod_eq_emod_of_nonneg]
theorem Xx0 {src dst:TypeId}{b:UInt8} (hs:(P.underlying src).isSome=true) (hd:X7V P dst .i64=true) (w:World):
  (convert src dst (.int .u8 (b.toNat:Int))).run P w= .ok (.int .i64 (b.toNat:Int)) w:=by
 have h:=Xcf (P:=P) (n:=(b.toNat:Int)) (k:= .u8) hs hd w;have:=b.toNat_lt
 grind [IntWalk.i64_in]
end
section
variable {P:Program}{ops:Array Oper}{draw:Bool}{K:XW->St->Prop}{rest:List Oper}{l:XW}{S:St}
variable {d:Nat}{ty:TypeId}{pos:String}{ah:Array Edge}{gd:Option (Nat×Bool)}
theorem X3q {xt yt:TypeId}{r:Value} (r':Value) (hr':r=r') (hx:S.ev x= .d (.v u)) (hy:S.ev y= .d (.v v))
  (hr:∀w,(do eqGuard op xt x y u v;binOp op xt u v:Sem Value).run P w= .ok r w) (h1:r'.oneCell'=true) (hd:Nat.blt d S.n=true) (hg:XH ops S gd)
  (h:Walk P ops draw K rest ((l.length,⟨some d,.binOp op xt x y yt,ty,pos,ah,gd⟩,⟨XF ops gd++[(x,.d (.v u)),(y,.d (.v v))],some (d,.d (.v r')),[],[],[]⟩)::l) (S.set d (.d (.v r')))):
  Walk P ops draw K (⟨some d,.binOp op xt x y yt,ty,pos,ah,gd⟩::rest) l S:=by
 subst hr';exact V0 hx hy hr h1 hd hg h
end
def X0K (k:IntKind):Nat:=if k.signed then k.bits-1 else k.bits
theorem Vv:2^X0K .u8=256:=by decide
theorem X1z:2^X0K .u32=4294967296:=by decide
theorem YG:2^X0K .u64=18446744073709551616:=by decide
theorem YO:2^X0K .i64=9223372036854775808:=by decide
theorem Xd0 (k:IntKind):2^X0K k<=2^k.bits:=Nat.pow_le_pow_right (by omega) (by grind [X0K])
theorem X5H {k:IntKind} (h:n<2^X0K k):k.wrap (n:Int)=n:=by
 cases k<;>simp[X0K,IntKind.signed,IntKind.bits] at h<;>simp[IntKind.wrap,IntKind.bits,IntKind.signed]<;>omega
theorem Xed {k:IntKind} (hs:k.signed=false):k.wrap (n:Int)=((n%2^k.bits:Nat):Int):=by
 simp[IntKind.wrap,hs]
section
variable {P:Program}{t:TypeId}{x y:Operand}{k:IntKind}{a b:Nat}
theorem XcS {a b:Int}{r:Value} (h1:op= .and\/op= .or\/op= .xor) (h:Op.intBits op k a b=pure r) (w:World):(do eqGuard op t x y (.int k a) (.int k b);binOp op t (.int k a) (.int k b):Sem Value).run P w= .ok r w:=by
 rcases h1 with rfl|rfl|rfl<;>simp[eqGuard,binOp,h]
theorem Xdv {a b:Int}{r:Value} (h1:op= .shl\/op= .shr) (h:Op.shift op k a k' b=pure r) (w:World):(do eqGuard op t x y (.int k a) (.int k' b);binOp op t (.int k a) (.int k' b):Sem Value).run P w= .ok r w:=by
 rcases h1 with rfl|rfl<;>simp[eqGuard,binOp,h]
theorem X1B (ha:a<2^X0K k) (hb:b<2^X0K k) (w:World):(do eqGuard .and t x y (.int k a) (.int k b);binOp .and t (.int k a) (.int k b):Sem Value).run P w= .ok (.int k ((a&&&b:Nat):Int)) w:=by
 grind [Xd0,Nat.and_lt_two_pow,XcS,Op.intBits,X5H]
theorem X29 (ha:a<2^X0K k) (hb:b<2^X0K k) (w:World):(do eqGuard .or t x y (.int k a) (.int k b);binOp .or t (.int k a) (.int k b):Sem Value).run P w= .ok (.int k ((a|||b:Nat):Int)) w:=by
 grind [Xd0,Nat.or_lt_two_pow,XcS,Op.intBits,X5H]
theorem X9W (ha:a<2^X0K k) (hb:b<2^X0K k) (w:World):(do eqGuard .xor t x y (.int k a) (.int k b);binOp .xor t (.int k a) (.int k b):Sem Value).run P w= .ok (.int k ((a^^^b:Nat):Int)) w:=by
 grind [Xd0,Nat.xor_lt_two_pow,XcS,Op.intBits,X5H]
theorem X1C (hb:b<=k.bits) (w:World):(do eqGuard .shr t x y (.int k a) (.int k' b);binOp .shr t (.int k a) (.int k' b):Sem Value).run P w= .ok (.int k ((a/2^b:Nat):Int)) w:=by
 grind [Xdv,Op.shift]
theorem Xoo (hb:b<=k.bits) (h:a*2^b<2^X0K k) (w:World):(do eqGuard .shl t x y (.int k a) (.int k' b);binOp .shl t (.int k a) (.int k' b):Sem Value).run P w= .ok (.int k ((a*2^b:Nat):Int)) w:=by
 have e:=X5H h
 grind [Xdv,Op.shift]
theorem X26 (hs:k.signed=false) (hb:b<=k.bits) (w:World):(do eqGuard .shl t x y (.int k a) (.int k' b);binOp .shl t (.int k a) (.int k' b):Sem Value).run P w= .ok (.int k ((a*2^b%2^k.bits:Nat):Int)) w:=by
 have e:=Xed (k:=k) (n:=a*2^b) hs
 grind [Xdv,Op.shift]
theorem X2m (hb:b≠0) (h:a<2^X0K k) (w:World):(do eqGuard .quo t x y (.int k a) (.int k b);binOp .quo t (.int k a) (.int k b):Sem Value).run P w= .ok (.int k ((a/b:Nat):Int)) w:=by
 have e:=X5H (k:=k) (n:=a/b) (Nat.lt_of_le_of_lt (Nat.div_le_self _ _) h);simp_all [eqGuard,binOp,Op.intDiv]
theorem Vh (hb:b≠0) (w:World):(do eqGuard .rem t x y (.int k a) (.int k b);binOp .rem t (.int k a) (.int k b):Sem Value).run P w= .ok (.int k ((a%b:Nat):Int)) w:=by
 simp_all [Int.tmod_eq_emod_of_nonneg,eqGuard,binOp,Op.intDiv]
theorem X1s (h:a+b<2^X0K k) (w:World):(do eqGuard .add t x y (.int k a) (.int k b);binOp .add t (.int k a) (.int k b):Sem Value).run P w= .ok (.int k ((a+b:Nat):Int)) w:=by
 rw[Xlt,<-Int.natCast_add,X5H h]
theorem X4j (h:a*b<2^X0K k) (w:World):(do eqGuard .mul t x y (.int k a) (.int k b);binOp .mul t (.int k a) (.int k b):Sem Value).run P w= .ok (.int k ((a*b:Nat):Int)) w:=by
 rw[Xn3,<-Int.natCast_mul,X5H h]
theorem Xh4 (hs:k.signed=false) (ha:a<2^k.bits) (w:World):(Op.unary .xor (.int k a)).run P w= .ok (.int k ((2^k.bits-1-a:Nat):Int)) w:=by
 have hp:0<2^k.bits:=Nat.pow_pos (by omega);have e0:k.max=((2^k.bits-1:Nat):Int):=by
  grind [IntKind.max]
 have e1:(BitVec.ofInt k.bits ((2^k.bits-1:Nat):Int))=BitVec.allOnes k.bits:=by
  grind [BitVec.toNat_allOnes]
 have e2:(BitVec.allOnes k.bits^^^BitVec.ofInt k.bits (a:Int)).toNat=2^k.bits-1-a:=by
  grind [BitVec.allOnes_xor]
 have e3:=Xed (k:=k) (n:=2^k.bits-1-a) hs;rw[Nat.mod_eq_of_lt (by omega)] at e3;simp_all [Op.unary,Op.intBits]
theorem Xxn {n:Int} (h: -9223372036854775808<=n/\n<=9223372036854775807) (w:World):(Op.unary .xor (.int .i64 n)).run P w= .ok (.int .i64 (-n-1)) w:=by
 have e1:BitVec.ofInt 64 (-1)=BitVec.allOnes 64:=by decide
 have e2:IntKind.i64.wrap ((BitVec.allOnes 64^^^BitVec.ofInt 64 n).toNat:Int)= -n-1:=by
  rw[BitVec.allOnes_xor,BitVec.toNat_not,BitVec.toNat_ofInt,IntKind.wrap_i64];omega
 have e:Op.unary .xor (.int .i64 n)=pure (.int .i64 (-n-1)):=by
  show Op.intBits .xor .i64 (-1) n=_;show(pure (Value.int .i64 (IntKind.i64.wrap ((BitVec.ofInt 64 (-1)^^^BitVec.ofInt 64 n).toNat:Int))):Sem Value)=_;rw[e1,e2]
 rw[e];rfl
theorem Xil {n:Int} (h: -9223372036854775807<=n/\n<=9223372036854775807) (w:World):(Op.unary .neg (.int .i64 n)).run P w= .ok (.int .i64 (-n)) w:=by
 have e:IntKind.i64.wrap (0-n)= -n:=by grind [IntWalk.i64_in]
 have e':Op.unary .neg (.int .i64 n)=pure (.int .i64 (-n)):=by
  show(pure (Value.int .i64 (IntKind.i64.wrap (0-n))):Sem Value)=_;rw[e]
 rw[e'];rfl
variable {src dst:TypeId}{q:IntKind}
theorem Uj (hs:(P.underlying src).isSome=true) (hd:X7V P dst q=true) (ha:a<2^X0K q) (w:World):(convert src dst (.int k (a:Int))).run P w= .ok (.int q (a:Int)) w:=by
 have h:=Xcf (P:=P) (n:=(a:Int)) (k:=k) hs hd w
 grind [X5H]
theorem Xsm (hs:(P.underlying src).isSome=true) (hd:X7V P dst q=true) (hq:q.signed=false) (w:World):(convert src dst (.int k (a:Int))).run P w= .ok (.int q ((a%2^q.bits:Nat):Int)) w:=by
 have h:=Xcf (P:=P) (n:=(a:Int)) (k:=k) hs hd w
 grind [Xed]
end
structure SrcV (P:Program) (y:AVal) (sz:Nat) (ys:List (List D)):Prop where
 src:∀(E:Env) (L:Nat->AObj) (g:Gh) (w:World) (u:Value),Inv E L g w->y.sat g u->∀m,m<=ys.length->
  ∃news,(Builtin.firstCells sz m u).run P w= .ok news w/\news.size=m*sz/\Xx g ((ys.take m).flatten.map .d) news.toList/\(Builtin.lenOf u).run P w= .ok ys.length w/\∀y∈ys.take m,y.length=sz
theorem Xj2:SrcV P (.d (.sl sz ys)) sz ys:=by
 refine⟨fun E L g w u hi hs m hm=>Xdg hi ?_ hm⟩
 grind [AVal.sat]
theorem Xfj:∀l:List UInt8,Xx g ((l.map fun b=>[D.v (.int .u8 b.toNat)]).flatten.map .d) (l.map fun b=>Value.int .u8 b.toNat)
 |[]=>by simp[Xx]
 |b::l=>by
  simp only[map_cons,flatten_cons,singleton_append,Xx];exact⟨X02 rfl,Xfj l⟩
theorem XgX {l:List UInt8}:SrcV P (aZ (X6 l)) 1 (l.map fun b=>[.v (.int .u8 b.toNat)]):=by
 refine⟨fun E L g w u hi hs m hm=> ?_⟩;have hu:=Up hs;subst hu;rw[LM] at hm;have hsz:(X6 l).size=l.length:=rfl;have hex:((X6 l).extract 0 m).data=(l.take m).toArray:=by
  grind [ByteArray.data_extract,X6]
 refine⟨((l.take m).map fun b=>Value.int .u8 b.toNat).toArray,?_,by simp;omega,?_,by simp[Builtin.lenOf,hsz],?_⟩
 ·grind [Builtin.firstCells,Sem.run_pure]
 ·rw[<-map_take];exact Xfj _
 grind
section
variable {P:Program}{ops:Array Oper}{draw:Bool}{K:XW->St->Prop}{rest:List Oper}{l:XW}{S:St}
variable {d:Nat}{ty:TypeId}{pos:String}{ah:Array Edge}{gd:Option (Nat×Bool)}
theorem Xkm (hr:UK g w h sz xs):∃b c,h= .slice b xs.length c/\xs.length<=c:=by
 grind [UK]
theorem X1H {T:TypeId}{lo:Operand} (hx:S.ev x= .own γ n) (hL:S.obj γ= .row sz xs) (hlo:S.ev lo=ai k) (hn:n=xs.length) (hk:k<=xs.length)
  (hT:UF P T sz=true) (hd:Nat.blt d S.n=true) (hg:XH ops S gd)
  (h:Walk P ops draw K rest ((l.length,⟨some d,.slice T x (some lo) none none,ty,pos,ah,gd⟩,⟨XF ops gd++[(x,.own γ n),(lo,ai k)],some (d,.cut γ n k sz),[(γ,.row sz xs)],[],[]⟩)::l) (S.set d (.cut γ n k sz))):
  Walk P ops draw K (⟨some d,.slice T x (some lo) none none,ty,pos,ah,gd⟩::rest) l S:=by
 refine Yj h hg (Ug rfl fun E S g a w hs hq hl=> ?_) ⟨⟨hx,hlo,TV⟩,⟨hL,TV⟩,TV,hd⟩;have ho:=hs.1.obj γ;rw[hl.1] at ho;obtain⟨e,h1,h2,h3⟩:=X1K hT;have hv:a.eval x=g.hd γ:=X3Y hq.1 ho hn;obtain⟨b,cap,hh,c1⟩:=Xkm (h:=g.hd γ) ho;have hbd:=Xd1 (P:=P) (g:=g) (a:=a) (lo:=some lo) (hi:=none) (l:=k) (h:=xs.length) (cm:=true) (len:=xs.length) (cap:=cap) (fun e=>by cases e) (fun _=>rfl) ⟨hq.2.1,TV⟩ trivial hk c1 w;have hrun:=run_slice_any (P:=P) w T b xs.length cap (by rw[h3];exact h1) (some (a.eval lo)) none none;simp only[Option.map_some,Option.map_none] at hbd;rw[hbd,Result.andThen_ok,h3,h2 w,Result.andThen_ok] at hrun;refine⟨sliced b k xs.length cap sz,?_,?_⟩
 ·simp_all [execOp,Instr.sliceAt,run_underlying]
 ·simp only[AVal.sat,sliced];exact⟨rfl,b,xs.length,cap,hh,by omega,fun _=>by rw[hn]⟩
theorem Xuv {T T2:TypeId} (hx:S.ev x= .cut γ n k sz) (hL:S.obj γ= .row sz r) (hn:n=r.length) (hk:k<=r.length) (hy:S.ev y=yv) (hsrc:SrcV P yv sz ys) (hm:m=min ys.length (r.length-k))
  (hT:UF P T sz=true) {d':Option (Nat×AVal)} (hd:X4S S d') (hd':d'=none\/∃t,d'=some (t,ai m)) (hg:XH ops S gd)
  (h:Walk P ops draw K rest ((l.length,⟨d'.map (·.1),.call ⟨.builtin .copy,#[x,y],#[T,T2]⟩,ty,pos,ah,gd⟩,⟨XF ops gd++[(x,.cut γ n k sz),(y,yv)],d',[(γ,.row sz r)],[(γ,.row sz (r.take k++ys.take m++r.drop (k+m)))],[]⟩)::l)
   ⟨S.n,d'.toList++S.τ,(γ,.row sz (r.take k++ys.take m++r.drop (k+m)))::S.L⟩):
  Walk P ops draw K (⟨d'.map (·.1),.call ⟨.builtin .copy,#[x,y],#[T,T2]⟩,ty,pos,ah,gd⟩::rest) l S:=by
 refine Yj h hg ?_ ⟨⟨hx,hy,TV⟩,⟨hL,TV⟩,TV,hd⟩;intro E S a w g hs hok Q K hK;obtain⟨cV,⟨l1,_⟩,_,cR⟩:=hok;have hq:=X1q hs _ cV;have ho:=hs.1.obj γ;rw[l1] at ho;have hrow:UK g w (g.hd γ) sz r:=ho;obtain⟨b,cap,hh,c1⟩:=Xkm hrow;have hx':a.eval x= .slice (if cap=k then b else b.map fun p=>p.add (k*sz)) (n-k) (cap-k):=by
  grind [AVal.sat,VD]
 obtain⟨news,n1,n2,n3,n4,n5⟩:=hsrc.src E _ g w _ hs.1 hq.2.1 m (by omega);obtain⟨w',s1,s2,s3,s4,s5,s6⟩:=XbJ (P:=P) (k:=k) (m:=m) hrow (by omega) n5 (by simp;omega) n2 n3;have hst:(match Value.slice (if cap=k then b else b.map fun p=>p.add (k*sz)) (n-k) (cap-k) with| .slice (some a) _ _=>(storeCells (a.add (0*sz)) news.toList).run P w|_=> .ok () w)= .ok () w':=by
  by_cases mN:cap=k
  ·have hm0:m=0:=by omega
   grind [storeCells,Xx]
  grind [Addr.add_zero',UK]
 have hrun:=X8v (P:=P) (T2:=T2) (ty:=ty) (m:=m) hT hx' n4 (by omega) n1 (by rw[hx'];exact hst);have hi:Inv E (Xp .dead ((γ,.row sz (r.take k++ys.take m++r.drop (k+m)))::S.L)) g w':=by
  refine Inv.upd hs.1 γ _ (YE _ _ _ _) (fun j hj=>Yz _ _ _ (Ne.symm hj)) (fun b hb ax=>s3 b fun hc=>ax (by rw[l1];exact hc)) (by omega) s5 s6 rfl (fun _ _=>⟨rfl,rfl,rfl⟩) (fun _ _ _ _ _ h=>h) s2 (fun b hb=> .inl ?_) (fun _=>Gh.keeps_refl _ _);rw[l1];exact hb
 have c9:(execOp a.eval ⟨d'.map (·.1),.call ⟨.builtin .copy,#[x,y],#[T,T2]⟩,ty,pos,ah,gd⟩).run P w= .ok (.value (.int .i64 m)) w':=by
  simp[execOp,resolve,invoke,builtin,hrun]
 unfold Oper.wp;rw[c9,Oper.upon_value];rcases hd' with rfl|⟨t,rfl⟩
 ·exact hK _ _ ⟨g,hi,hs.2.1,hs.2.2.1,hs.2.2.2⟩
 ·exact hK _ _ (X2a hi hs.2.1 hs.2.2.1 hs.2.2.2 (X02 rfl) cR)
theorem X3c {T T2:TypeId} (hx:S.ev x= .cut γ n k sz) (hL:S.obj γ= .row sz r) (hn:n=r.length) (hk:k<=r.length) (hy:S.ev y=yv) (hsrc:SrcV P yv sz ys) (hm:m=min ys.length (r.length-k))
  (hT:UF P T sz=true) (hd:Nat.blt d S.n=true) (hg:XH ops S gd)
  (h:Walk P ops draw K rest ((l.length,⟨some d,.call ⟨.builtin .copy,#[x,y],#[T,T2]⟩,ty,pos,ah,gd⟩,⟨XF ops gd++[(x,.cut γ n k sz),(y,yv)],some (d,ai m),[(γ,.row sz r)],[(γ,.row sz (r.take k++ys.take m++r.drop (k+m)))],[]⟩)::l)
   ((S.set d (ai m)).own γ (.row sz (r.take k++ys.take m++r.drop (k+m))))):
  Walk P ops draw K (⟨some d,.call ⟨.builtin .copy,#[x,y],#[T,T2]⟩,ty,pos,ah,gd⟩::rest) l S:=
 Xuv (d':=some (d,ai m)) hx hL hn hk hy hsrc hm hT hd (.inr ⟨d,rfl⟩) hg h
theorem Xka {T:TypeId}{lo hi:Operand} (hx:S.ev x= .d (.sl sz xs)) (hlo:S.ev lo=ai lb) (hhi:S.ev hi=ai hb) (cN:S.ev mx=ai mb) (c8:lb<=hb) (hh:hb<=mb) (hm:mb<=xs.length)
  (hT:UF P T sz=true) (hd:Nat.blt d S.n=true) (hg:XH ops S gd)
  (h:Walk P ops draw K rest ((l.length,⟨some d,.slice T x (some lo) (some hi) (some mx),ty,pos,ah,gd⟩,⟨XF ops gd++[(x,.d (.sl sz xs)),(lo,ai lb),(hi,ai hb),(mx,ai mb)],some (d,.d (.sl sz ((xs.take hb).drop lb))),[],[],[]⟩)::l) (S.set d (.d (.sl sz ((xs.take hb).drop lb))))):
  Walk P ops draw K (⟨some d,.slice T x (some lo) (some hi) (some mx),ty,pos,ah,gd⟩::rest) l S:=by
 refine Yj h hg (Ug rfl fun E S g a w hs hq hl=> ?_) ⟨⟨hx,hlo,hhi,cN,TV⟩,TV,TV,hd⟩;obtain⟨e,h1,h2,h3⟩:=X1K hT;obtain⟨b5,bS,hq3,hq4,_⟩:=hq;simp only[AVal.sat,D.rep] at b5;obtain⟨b,cap,hv,c1,c2,c3⟩:=b5;have e2:=Up bS;have e3:=Up hq3;have e4:=Up hq4;have mO:mb<=cap:=by omega
 have hbd:(Instr.sliceBounds true xs.length cap (some (a.eval lo)) (some (a.eval hi)) (some (a.eval mx))).run P w= .ok (lb,hb,mb) w:=by
  simp_all [Instr.sliceBounds,run_sliceBound]
 have hrun:=run_slice_any (P:=P) w T b xs.length cap (by rw[h3];exact h1) (some (a.eval lo)) (some (a.eval hi)) (some (a.eval mx));rw[hbd,Result.andThen_ok,h3,h2 w,Result.andThen_ok] at hrun;refine⟨sliced b lb hb mb sz,?_,?_⟩
 ·simp_all [execOp,Instr.sliceAt,run_underlying]
 grind [AVal.sat,D.rep,sliced,Xcv,X9T,Vf]
end
theorem Con.data (h:Con P f [] args [(γ,.row sz xs)] (.own γ n)) (hn:n=xs.length):Con P f [] args [] (.d (.sl sz xs)):=by
 intro g w vs hi hs;refine(h g w vs hi hs).mono ?_;rintro e w' ⟨v,g',h1,h2,h3,_⟩;obtain⟨M',hle,hi2⟩:=X83 (S:=⟨0,[],[(γ,.row sz xs)]⟩) h3 (YE _ _ _ _);have ho:=hi2.obj γ;rw[YE] at ho;have bV:(AVal.own γ n).sat {g' with M:=M'} v:=X3H (g:=g') (g':={g' with M:=M'}) hle rfl rfl rfl h2;refine⟨v,{g' with M:=M'},h1,X6v ho hn bV,?_,fun γ aQ=>by simp[Ya] at aQ⟩;refine(hi2.free (g0:={g' with M:=M'}) fun γ _=>Gh.keeps_refl _ _).sub fun k=> .inr rfl
theorem Con.dataT {y:D} (h:Con P f [] args [(γ,.row sz xs)] (.tup [.own γ n,.d y])) (hn:n=xs.length):Con P f [] args [] (.tup [.d (.sl sz xs),.d y]):=by
 intro g w vs hi hs;refine(h g w vs hi hs).mono ?_;rintro e w' ⟨v,g',h1,h2,h3,_⟩;obtain⟨M',hle,hi2⟩:=X83 (S:=⟨0,[],[(γ,.row sz xs)]⟩) h3 (YE _ _ _ _);have ho:=hi2.obj γ;rw[YE] at ho;have bV:(AVal.tup [.own γ n,.d y]).sat {g' with M:=M'} v:=X3H (g:=g') (g':={g' with M:=M'}) hle rfl rfl rfl h2;refine⟨v,{g' with M:=M'},h1,?_,?_,fun γ aQ=>by simp[Ya] at aQ⟩
 ·simp only[AVal.sat] at bV |-;obtain⟨us,e1,e2⟩:=bV;refine⟨us,e1,?_⟩;generalize us.toList=l at*
  match l,e2 with
  |[a,b],e2=>
   simp only[Xx,AVal.sat,and_true] at e2 |-;have:=X6v (γ:=γ) (u:=a) ho hn (by simp only[AVal.sat];exact e2.1);simp only[AVal.sat] at this;exact⟨this,e2.2⟩
 ·refine(hi2.free (g0:={g' with M:=M'}) fun γ _=>Gh.keeps_refl _ _).sub fun k=> .inr rfl
section
variable {P:Program}{ops:Array Oper}{draw:Bool}{K:XW->St->Prop}{rest:List Oper}{l:XW}{S:St}
variable {d:Nat}{ty:TypeId}{pos:String}{ah:Array Edge}{gd:Option (Nat×Bool)}
theorem Xs3 {T:TypeId}{hi:Operand} (hx:S.ev x= .d (.sl sz xs)) (hhi:S.ev hi=ai hb) (cN:S.ev mx=ai mb) (hh:hb<=mb) (hm:mb<=xs.length)
  (hT:UF P T sz=true) (hd:Nat.blt d S.n=true) (hg:XH ops S gd)
  (h:Walk P ops draw K rest ((l.length,⟨some d,.slice T x none (some hi) (some mx),ty,pos,ah,gd⟩,⟨XF ops gd++[(x,.d (.sl sz xs)),(hi,ai hb),(mx,ai mb)],some (d,.d (.sl sz ((xs.take hb).drop 0))),[],[],[]⟩)::l) (S.set d (.d (.sl sz ((xs.take hb).drop 0))))):
  Walk P ops draw K (⟨some d,.slice T x none (some hi) (some mx),ty,pos,ah,gd⟩::rest) l S:=by
 refine Yj h hg (Ug rfl fun E S g a w hs hq hl=> ?_) ⟨⟨hx,hhi,cN,TV⟩,TV,TV,hd⟩;obtain⟨e,h1,h2,h3⟩:=X1K hT;obtain⟨b5,hq3,hq4,_⟩:=hq;simp only[AVal.sat,D.rep] at b5;obtain⟨b,cap,hv,c1,c2,c3⟩:=b5;have e3:=Up hq3;have e4:=Up hq4;have mO:mb<=cap:=by omega
 have hbd:(Instr.sliceBounds true xs.length cap none (some (a.eval hi)) (some (a.eval mx))).run P w= .ok (0,hb,mb) w:=by
  simp[Instr.sliceBounds,e3,e4,run_sliceBound,hh,mO]
 have hrun:=run_slice_any (P:=P) w T b xs.length cap (by rw[h3];exact h1) none (some (a.eval hi)) (some (a.eval mx));rw[hbd,Result.andThen_ok,h3,h2 w,Result.andThen_ok] at hrun;refine⟨sliced b 0 hb mb sz,?_,?_⟩
 ·simp only[execOp,hv,Instr.sliceAt,Sem.run_bind,run_underlying h1,Result.andThen_ok,Option.map_some,Option.map_none,hrun];rfl
 ·simp only[AVal.sat,D.rep,sliced];have hlen:((xs.take hb).drop 0).length=hb-0:=by simp;omega
  refine⟨if mb=0 then b else b.map fun p=>p.add (0*sz),mb-0,by rw[hlen],by omega,by omega,?_⟩;rcases c3 with rfl|⟨b',o,rfl,hr⟩
  ·left;simp
  ·by_cases hem:(xs.take hb).drop 0=[]
   ·exact .inl hem
   ·right;have hne:mb≠0:=by
     intro e;apply hem;apply eq_nil_of_length_eq_zero;omega
    refine⟨b',o+0*sz,?_,Xcv (X9T hr hb) 0⟩;rw[NI hne,Option.map_some,Vf]
theorem XsY {T:TypeId} (hx:S.ev x= .d (.sl sz xs)) (hlo:X90 S lo lb) (hhi:X99 S xs.length hi hb) (c8:lb<=hb) (hh:hb<=xs.length) (hys:(xs.take hb).drop lb=ys)
  (hT:UF P T sz=true) (hd:Nat.blt d S.n=true) (hg:XH ops S gd)
  (h:Walk P ops draw K rest ((l.length,⟨some d,.slice T x lo hi none,ty,pos,ah,gd⟩,⟨XF ops gd++((x,.d (.sl sz xs))::(X2N lo lb++X2N hi hb)),some (d,.d (.sl sz ys)),[],[],[]⟩)::l) (S.set d (.d (.sl sz ys)))):
  Walk P ops draw K (⟨some d,.slice T x lo hi none,ty,pos,ah,gd⟩::rest) l S:=by
 subst hys;exact XjE hx hlo hhi c8 hh hT hd hg h
theorem Xru {T:TypeId}{lo hi:Operand} (hx:S.ev x= .d (.sl sz xs)) (hlo:S.ev lo=ai lb) (hhi:S.ev hi=ai hb) (cN:S.ev mx=ai mb) (c8:lb<=hb) (hh:hb<=mb) (hm:mb<=xs.length) (hys:(xs.take hb).drop lb=ys)
  (hT:UF P T sz=true) (hd:Nat.blt d S.n=true) (hg:XH ops S gd)
  (h:Walk P ops draw K rest ((l.length,⟨some d,.slice T x (some lo) (some hi) (some mx),ty,pos,ah,gd⟩,⟨XF ops gd++[(x,.d (.sl sz xs)),(lo,ai lb),(hi,ai hb),(mx,ai mb)],some (d,.d (.sl sz ys)),[],[],[]⟩)::l) (S.set d (.d (.sl sz ys)))):
  Walk P ops draw K (⟨some d,.slice T x (some lo) (some hi) (some mx),ty,pos,ah,gd⟩::rest) l S:=by
 subst hys;exact Xka hx hlo hhi cN c8 hh hm hT hd hg h
theorem XtD {t:TypeId} (hx:S.ev x=aZ s) (ht:X8V P t=true) (av:S.obj γ= .dead) (hf:S.free γ=true)
  (hd:Nat.blt d S.n=true) (hg:XH ops S gd)
  (h:Walk P ops draw K rest ((l.length,⟨some d,.range t x,ty,pos,ah,gd⟩,⟨XF ops gd++[(x,aZ s)],some (d,.ptr γ 0),[(γ,.dead)],[(γ,.iter s 0)],[γ]⟩)::l)
   ((S.set d (.ptr γ 0)).own γ (.iter s 0))):
  Walk P ops draw K (⟨some d,.range t x,ty,pos,ah,gd⟩::rest) l S:=
 Yj h hg (X3e rfl fun E S g a w hs hq hl hn=>by
  refine⟨.pointer (some ⟨w.heap.size,0,none⟩),X3I g w γ,w.alloc (.stringIter s 0),?_,?_,?_,X3V hn.1 hs.2.2.2⟩
  ·have:=run_underlying (P:=P) (w:=w) (Xdb ht);simp only[execOp,Instr.range,Up hq.1,Sem.run_bind,this,Result.andThen_ok];rfl
  ·simp[AVal.sat,X3I,Gh.put]
  ·refine X86 hs.1 γ hn.1 hl.1 _ _ _ (X4K w _) (X6M w _) rfl rfl ?_ (fun k hk=> ?_)
   ·show(w.alloc (.stringIter s 0)).heap[(X3I g w γ).az γ]? =some (.stringIter s 0);simp only[X3I,Gh.put,if_true];exact heap_alloc_new w _
   ·have hk:(g.put γ w.heap.size undef).az γ=k:=hk;simp only[Gh.put,if_true] at hk;omega) ⟨⟨hx,TV⟩,⟨av,TV⟩,⟨hf,TV⟩,hd⟩
theorem Xqd {p:Nat} (hx:S.ev x= .ptr γ 0) (hL:S.obj γ= .iter s p) (hlt:p<s.size)
  (hd:Nat.blt d S.n=true) (hg:XH ops S gd)
  (h:Walk P ops draw K rest ((l.length,⟨some d,.next x true,ty,pos,ah,gd⟩,⟨XF ops gd++[(x,.ptr γ 0)],some (d,.tup [ab true,ai p,.d (.v (.int .i32 (Utf8.decode s p).1))]),[(γ,.iter s p)],[(γ,.iter s (p+(Utf8.decode s p).2))],[]⟩)::l)
   ((S.set d (.tup [ab true,ai p,.d (.v (.int .i32 (Utf8.decode s p).1))])).own γ (.iter s (p+(Utf8.decode s p).2)))):
  Walk P ops draw K (⟨some d,.next x true,ty,pos,ah,gd⟩::rest) l S:=by
 refine Yj h hg (X3e rfl fun E S g a w hs hq hl hn=> ?_) ⟨⟨hx,TV⟩,⟨hL,TV⟩,TV,hd⟩;have ho:=hs.1.obj γ;rw[hl.1] at ho;have ho:w.heap[g.az γ]? =some (.stringIter s p):=ho;have hb:=(Array.getElem?_eq_some_iff.1 ho).1;have hv:=hq.1;simp only[AVal.sat] at hv;refine⟨.tuple #[.bool true,goInt p,.int .i32 (Utf8.decode s p).1],g,{w with heap:=w.heap.set! (g.az γ) (.stringIter s (p+(Utf8.decode s p).2))},?_,?_,?_,hs.2.2.2⟩
 ·simp only[execOp,hv,Instr.next,getObj,setObj,Sem.run_bind,Sem.run,ho,Result.andThen,hlt,if_true];simp[goInt,ho,hlt]
 ·simp only[AVal.sat];refine⟨_,rfl,?_⟩;simp[Xx,AVal.sat,D.rep,goInt,Value.oneCell']
 ·refine Inv.upd hs.1 γ _ (YE _ _ _ _) (fun k hk=>Yz _ _ _ (Ne.symm hk)) (fun b dG ax=> ?_) (by simp) rfl rfl rfl (fun _ _=>⟨rfl,rfl,rfl⟩) (fun _ _ _ _ _ h=>h) ?_ (fun b dG=> .inl ?_) (fun _=>Gh.keeps_refl _ _)
  ·have hne:g.az γ≠b:=fun e=>ax (by rw[hl.1];exact e);simp[Array.set!,Array.getElem?_setIfInBounds,hne]
  ·show(w.heap.set! (g.az γ) _)[g.az γ]? =_;simp[Array.set!,Array.getElem?_setIfInBounds,hb]
  ·rw[hl.1];exact dG
theorem XuE {p:Nat} (hx:S.ev x= .ptr γ 0) (hL:S.obj γ= .iter s p) (hge:s.size<=p)
  (hd:Nat.blt d S.n=true) (hg:XH ops S gd)
  (h:Walk P ops draw K rest ((l.length,⟨some d,.next x true,ty,pos,ah,gd⟩,⟨XF ops gd++[(x,.ptr γ 0)],some (d,.tup [ab false]),[(γ,.iter s p)],[],[]⟩)::l) (S.set d (.tup [ab false]))):
  Walk P ops draw K (⟨some d,.next x true,ty,pos,ah,gd⟩::rest) l S:=by
 refine Yj h hg (Ug rfl fun E S g a w hs hq hl=> ?_) ⟨⟨hx,TV⟩,⟨hL,TV⟩,TV,hd⟩;have ho:=hs.1.obj γ;rw[hl.1] at ho;have ho:w.heap[g.az γ]? =some (.stringIter s p):=ho;have hv:=hq.1;simp only[AVal.sat] at hv;refine⟨.tuple #[.bool false],?_,?_⟩
 ·simp only[execOp,hv,Instr.next,getObj,Sem.run_bind,Sem.run,ho,Result.andThen,show ¬p<s.size by omega,if_false];simp[ho,show ¬p<s.size by omega]
 ·simp only[AVal.sat];refine⟨_,rfl,?_⟩;simp[Xx,AVal.sat,D.rep,Value.oneCell']
end
section
variable {P:Program}{ops:Array Oper}{draw:Bool}{K:XW->St->Prop}{rest:List Oper}{l:XW}{S:St}
variable {d:Nat}{ty:TypeId}{pos:String}{ah:Array Edge}{gd:Option (Nat×Bool)}
theorem Xt7 {c:UInt8} (h:b[k]? =some c):(X6 b)[k]? =some c:=by
 have hlt:k<(X6 b).size:=(GS.1 h).1;rw[getElem?_pos (X6 b) k hlt];exact CG some (GS.1 h).2
theorem Xpq {t:TypeId}{m:Int}{c:UInt8} (hx:S.ev x=aZ (X6 b)) (hi:S.ev i= .d (.v (.int kd m))) (hk:m=(k:Nat)) (hc:b[k]? =some c)
  (ht:X8V P t=true) (hd:Nat.blt d S.n=true) (hg:XH ops S gd)
  (h:Walk P ops draw K rest ((l.length,⟨some d,.index t x i,ty,pos,ah,gd⟩,⟨XF ops gd++[(x,aZ (X6 b)),(i,.d (.v (.int kd m)))],some (d,.d (.v (.int .u8 c.toNat))),[],[],[]⟩)::l) (S.set d (.d (.v (.int .u8 c.toNat))))):
  Walk P ops draw K (⟨some d,.index t x i,ty,pos,ah,gd⟩::rest) l S:=
 Yj h hg (Ug rfl fun E S g a w hs hq hl=>by
  refine⟨.int .u8 c.toNat,?_,X02 rfl⟩;subst hk;have h0:(0:Int)<=(k:Int):=by omega
  have hu:=run_underlying (P:=P) (w:=w) (Xdb ht);simp only[execOp,Instr.index,Up hq.1,Up hq.2.1,asIntOf,Sem.run_bind,Sem.run_pure,Result.andThen_ok,hu,PI h0,Int.toNat_natCast,Xt7 hc]) ⟨⟨hx,hi,TV⟩,TV,TV,hd⟩
end
theorem Con.adopt (h:Con P f [(0,.row sz [])] (.own 0 0::args) Lo res) (hm:X0l 0 args=false):Con P f [] (aq::args) Lo res:=by
 intro g w vs hi hs;let g1:Gh:={az:=g.az,hd:=fun k=>if k=0 then .slice none 0 0 else g.hd k,aG:=g.aG,M:=g.M}
 have eo:g1.hd 0= .slice none 0 0:=rfl;have hno:∀γ b,¬Xw g1 (Xp .dead [(0,AObj.row sz [])] γ) γ b:=by
  intro γ b hl;by_cases aQ:γ=0
  ·subst aQ;rw[YE] at hl;obtain⟨a,n,c,e,_⟩:=hl
   grind
  grind [Yz,Xp,Xw]
 have ud:∀γ b,¬Xw g (Xp .dead ([]:List (Nat×AObj)) γ) γ b:=fun γ b hl=>hl;have hi1:Inv (Vw g1 w [(0,.row sz [])]) (Xp .dead [(0,.row sz [])]) g1 w:=by
  refine⟨fun γ=> ?_,fun γ γ' b hl=>absurd hl (hno γ b),hi.mem,fun γ b hl=>absurd hl (hno γ b),fun γ b hl=>absurd hl (hno γ b),YH.refl _,fun a v hv=> .inl ⟨v,hv⟩,fun _ _ _=>rfl,Nat.le_refl _,rfl,rfl,fun γ _=>Gh.keeps_refl _ _⟩;by_cases aQ:γ=0
  ·subst aQ;rw[YE];exact⟨by simp,.inl ⟨rfl,rfl⟩⟩
  grind [Yz,Ub,Xp]
 match vs,hs with
 |[],hs=>grind [Xx]
 |v::vs,hs=>
  simp only[Xx] at hs;have hv:=Up hs.1;have hs1:Xx g1 (.own 0 0::args) (v::vs):=by
   simp only[Xx];refine⟨?_,X1R (g:=g) (g':=g1) (YH.refl _) args vs (fun γ aQ=> ?_) hs.2⟩
   ·simp only[AVal.sat];rw[hv];exact⟨rfl,none,0,0,rfl,Nat.le_refl _,fun _=>rfl⟩
   grind [Gh.keeps_of]
  refine(h g1 w (v::vs) hi1 hs1).mono ?_
  grind [Ya,Vw]
variable {P:Program}{ops:Array Oper}{draw:Bool}{K:XW->St->Prop}{rest:List Oper}{l:XW}{S:St}{d:Nat}{ty:TypeId}{pos:String}{ah:Array Edge}{gd:Option (Nat×Bool)}
theorem Xsc {o:Nat} (hx:S.ev x= .ptr γ o) (hd:Nat.blt d S.n=true) (hg:XH ops S gd)
  (h:Walk P ops draw K rest ((l.length,⟨some d,.nilCheck x,ty,pos,ah,gd⟩,⟨XF ops gd++[(x,.ptr γ o)],some (d,.ptr γ o),[],[],[]⟩)::l) (S.set d (.ptr γ o))):
  Walk P ops draw K (⟨some d,.nilCheck x,ty,pos,ah,gd⟩::rest) l S:=
 Yj h hg (Ug rfl fun E S g a w hs hq hl=>by
  have hp:a.eval x= .pointer (some ⟨g.az γ,o,none⟩):=by grind [AVal.sat,VD]
  simp_all [execOp,AVal.sat]) ⟨⟨hx,TV⟩,TV,TV,hd⟩
inductive SK where
 |i (k:IntKind)
 |b
 |s
def SK.of (P:Program) (t:TypeId):Option SK:=match P.underlying t with|some (.int k)=>some (.i k)|some .bool=>some .b|some .string=>some .s|_=>none
def X1n:Value->Option SK
 | .int k _=>some (.i k)
 | .bool _=>some .b
 | .string _=>some .s
 |_=>none
def X5x:Value->Value->Bool
 | .int _ a,.int _ b=>decide (a=b)
 | .bool a,.bool b=>decide (a=b)
 | .string a,.string b=>decide (a.data.toList=b.data.toList)
 |_,_=>false
def X2W:List Value->List Value->Bool
 |a::aZ,b::bs=>X5x a b&&X2W aZ bs
 |_,_=>true
def X7i (P:Program):Nat->List Field->Option (List SK)
 |_,[]=>some []
 |i,f::fs=>if f.name≠ "_" /\f.offset=i/\X1g P f.type false 1=true then (SK.of P f.type).bind fun k=>(X7i P (i+1) fs).map (k:: ·) else none
def X7e (P:Program) (t:TypeId):Option (List SK):=
 match P.underlying t with
 |some (.struct fs)=>if P.stoodInHeld t=false/\P.eqGuardType P.depth t=false then X7i P 0 fs.toList else none
 |some (.array n e)=>if P.eqGuardType P.depth t=false/\X1g P e false 1=true then (SK.of P e).map fun k=>replicate n k else none
 |_=>none
variable{ks:List SK}
section
variable {P:Program}
theorem Xie {d:Nat}{t:TypeId}{k:SK} (hk:SK.of P t=some k) (hu:X1n u=some k) (hv:X1n v=some k) (w:World):(Op.equalIn (d+1) t u v).run P w= .ok (X5x u v) w:=by
 unfold SK.of at hk;cases ht:P.underlying t with
 |none=>simp[ht] at hk
 |some de=>
  rw[ht] at hk;cases de<;>simp at hk<;>subst hk<;>cases u<;>simp[X1n] at hu<;>cases v<;>simp[X1n] at hv
  ·grind [run_equalIn_bool,X5x]
  ·grind [run_equalIn_int,X5x]
  grind [run_equalIn_string,ByteArray.toList_eq,X5x]
theorem Xh9 {d:Nat}{xs ys:Array Value}:∀(fs:List Field) (i:Nat) (ks:List SK) (us vs:List Value),X7i P i fs=some ks->us.map X1n=ks.map some->vs.map X1n=ks.map some->
  (∀j u,us[j]? =some u->xs[i+j]? =some u)->(∀j u,vs[j]? =some u->ys[i+j]? =some u)->∀w,(Op.eqFields (d+1) xs ys fs).run P w= .ok (X2W us vs) w
 |[],i,ks,us,vs,hf,hu,hv,hx,hy,w=>by
  simp[X7i] at hf;subst hf;simp at hu hv;subst hu;subst hv;rfl
 |f::fs,i,ks,us,vs,hf,hu,hv,hx,hy,w=>by
  unfold X7i at hf;split at hf
  case isFalse=>cases hf
  rename_i hc;obtain⟨c1,c2,c3⟩:=hc;cases hk:SK.of P f.type with
  |none=>simp[hk] at hf
  |some k=>
   cases hr:X7i P (i+1) fs with
   |none=>simp[hk,hr] at hf
   |some kr=>
    simp[hk,hr] at hf;subst hf;cases us with
    |nil=>simp at hu
    |cons u us=>
     cases vs with
     |nil=>simp at hv
     |cons v vs=>
      simp only[map_cons,cons.injEq] at hu hv;have h1:xs[f.offset]? =some u:=by rw[c2];exact hx 0 u rfl
      have h2:ys[f.offset]? =some v:=by rw[c2];exact hy 0 v rfl
      have ih:=Xh9 (d:=d) (xs:=xs) (ys:=ys) fs (i+1) kr us vs hr hu.2 hv.2 (fun j u hj=>by have:=hx (j+1) u hj;rwa [show i+(j+1)=i+1+j by omega] at this) (fun j u hj=>by have:=hy (j+1) u hj;rwa [show i+(j+1)=i+1+j by omega] at this) w;have p1:=XaK c3 xs f.offset w;have p2:=XaK c3 ys f.offset w;rw[h1] at p1;rw[h2] at p2;simp only[Bool.false_eq_true,if_false] at p1 p2;unfold Op.eqFields;rw[PI c1];simp only[Sem.run_bind,p1,p2,Result.andThen_ok,Xie hk hu.1 hv.1];unfold X2W;cases hs:X5x u v with
      |false=>simp
      |true=>simpa using ih
theorem Xtu {k:SK} (hu:us.map X1n=(replicate n k).map some) (hv:vs.map X1n=(replicate n k).map some):us.length=n/\vs.length=n:=by
 grind [LM]
theorem XvK {t:TypeId} (hk:X7e P t=some ks) (hu:us.map X1n=ks.map some) (hv:vs.map X1n=ks.map some) (w:World):
  (Op.equalIn 10000 t (.agg us.toArray) (.agg vs.toArray)).run P w= .ok (X2W us vs) w/\P.eqGuardType P.depth t=false:=by
 unfold X7e at hk;split at hk
 ·grind [Program.fieldsOf,run_equalIn_agg,Xh9]
 ·rename_i n e he;split at hk
  case isFalse=>cases hk
  rename_i hc;refine⟨?_,hc.1⟩;cases hs:SK.of P e with
  |none=>simp[hs] at hk
  |some k=>
   simp[hs] at hk;subst hk;have hl:=Xtu hu hv;have hsz:=(X7r hc.2).2;rw[show (10000:Nat)=9998+1+1 from rfl,Op.equalIn];simp only[Sem.run_bind,run_underlying he,Result.andThen_ok,hsz];rw[Std.Legacy.Range.forIn_eq_forIn_range'];simp only[Std.Legacy.Range.size,Nat.sub_zero,Nat.add_sub_cancel,Nat.div_one,Nat.mul_one]
   have key:∀(m i:Nat),i+m=n->∀w,((forIn (range' i m) ((none,()):Option Bool×Unit) fun i r=>do
     let __do_lift <-part e us.toArray i
     let __do_lift_1 <-part e vs.toArray i
     let __do_lift <-Op.equalIn (9998+1) e __do_lift __do_lift_1
     if (!__do_lift)=true then pure (ForInStep.done (some false,())) else pure (ForInStep.yield (none,())):Sem (Option Bool×Unit))).run P w= .ok (if X2W (us.drop i) (vs.drop i)=true then (none,()) else (some false,())) w:=by
    intro m;induction m with
    |zero=>
     intro i hi w;rw[drop_of_length_le (by omega),drop_of_length_le (by omega)];rfl
    |succ m ih=>
     intro i hi w;have l1:i<us.length:=by omega
     have l2:i<vs.length:=by omega
     have g1:X1n us[i]=some k:=by
      have:=CG (·[i]?) hu
      grind
     have g2:X1n vs[i]=some k:=by
      have:=CG (·[i]?) hv
      grind
     have p1:=XaK hc.2 us.toArray i w;have p2:=XaK hc.2 vs.toArray i w;simp only[getElem?_toArray,getElem?_eq_getElem l1,getElem?_eq_getElem l2,Bool.false_eq_true,if_false] at p1 p2;rw[range'_succ,forIn_cons];simp only[Sem.run_bind,p1,p2,Result.andThen_ok,Xie hs g1 g2,Sem.run_ite]
     grind [drop_eq_getElem_cons,X2W,Sem.run_pure,Result.andThen_ok]
   have:=key n 0 (by omega) w;simp only[drop_zero] at this;rw[this];cases X2W us vs<;>simp
 ·cases hk
theorem Xrp {t:TypeId}{r:Bool} (hk:X7e P t=some ks) (hu:us.map X1n=ks.map some) (hv:vs.map X1n=ks.map some) (hr:X2W us vs=r) (w:World):
  (do eqGuard .neq t x y (.agg us.toArray) (.agg vs.toArray);binOp .neq t (.agg us.toArray) (.agg vs.toArray):Sem Value).run P w= .ok (.bool (!r)) w:=by
 grind [XvK,Sem.run_bind,run_eqGuard_agg,Result.andThen_ok,run_neq_struct,X7e]
theorem XiI:∀{us:List Value}{vs:List Value},Xx g (dvL us) vs->vs=us
 |[],[],_=>rfl
 |[],_::_,h=>by grind [dvL,Xx]
 |_::_,[],h=>by grind [dvL,Xx]
 |u::us,v::vs,h=>by
  simp only[dvL,Xx] at h;rw[Up h.1,XiI h.2]
end
section
variable {P:Program}{ops:Array Oper}{draw:Bool}{K:XW->St->Prop}{rest:List Oper}{l:XW}{S:St}{ty:TypeId}{pos:String}{ah:Array Edge}{gd:Option (Nat×Bool)}{d:Nat}
theorem XkW (h:(AVal.agg (dvL us)).sat g v):v= .agg us.toArray:=by
 simp only[AVal.sat] at h;obtain⟨vs,rfl,h⟩:=h;rw[<-XiI h]
theorem X51 {xt yt:TypeId}{r:Bool}{cs es:List AVal} (hk:X7e P xt=some ks) (hx:S.ev x= .agg cs) (hy:S.ev y= .agg es) (hcs:cs=dvL us) (aO:es=dvL vs) (hu:us.map X1n=ks.map some) (hv:vs.map X1n=ks.map some)
  (hr:X2W us vs=r) (hd:Nat.blt d S.n=true) (hg:XH ops S gd)
  (h:Walk P ops draw K rest ((l.length,⟨some d,.binOp .neq xt x y yt,ty,pos,ah,gd⟩,⟨XF ops gd++[(x,.agg cs),(y,.agg es)],some (d,ab (!r)),[],[],[]⟩)::l) (S.set d (ab (!r)))):
  Walk P ops draw K (⟨some d,.binOp .neq xt x y yt,ty,pos,ah,gd⟩::rest) l S:=by
 subst hcs;subst aO;exact Yj h hg (Ug rfl fun E S g a w hs hq _=>by
  refine⟨.bool (!r),?_,X02 rfl⟩;have:=Xrp (x:=x) (y:=y) hk hu hv hr w;simp only[execOp,XkW hq.1,XkW hq.2.1,Sem.run_bind,Sem.run_pure] at this |-;rw[this];rfl) ⟨⟨hx,hy,TV⟩,TV,TV,hd⟩
end
section
variable {P:Program}{ops:Array Oper}{draw:Bool}{K:XW->St->Prop}{rest:List Oper}{l:XW}{S:St}
variable {d:Nat}{ty:TypeId}{pos:String}{ah:Array Edge}{gd:Option (Nat×Bool)}
theorem Xwd {T:TypeId} (hx:S.ev x= .bsl γ n) (hT:cm P T=true)
  (hd:Nat.blt d S.n=true) (hg:XH ops S gd)
  (h:Walk P ops draw K rest ((l.length,⟨some d,.call ⟨.builtin .len,#[x],#[T]⟩,ty,pos,ah,gd⟩,⟨XF ops gd++[(x,.bsl γ n)],some (d,ai n),[],[],[]⟩)::l) (S.set d (ai n))):
  Walk P ops draw K (⟨some d,.call ⟨.builtin .len,#[x],#[T]⟩,ty,pos,ah,gd⟩::rest) l S:=
 Yj h hg (Ug rfl fun E S g a w hs hq hl=>by
  obtain⟨e,h1⟩:=X5k hT;have hv:=hq.1;simp only[AVal.sat] at hv;refine⟨.int .i64 n,?_,X02 rfl⟩;simp[execOp,resolve,invoke,builtin,hv,Builtin.len_,run_underlying h1,goInt]) ⟨⟨hx,TV⟩,TV,TV,hd⟩
theorem Xc1 {T:TypeId}{m:Int} (hx:S.ev x= .bsl γ n) (hi:S.ev i= .d (.v (.int kd m))) (hk:m=(k:Nat)) (hlt:k<n)
  (hT:UF P T 1=true) (hd:Nat.blt d S.n=true) (hg:XH ops S gd)
  (h:Walk P ops draw K rest ((l.length,⟨some d,.indexAddr T x i,ty,pos,ah,gd⟩,⟨XF ops gd++[(x,.bsl γ n),(i,.d (.v (.int kd m)))],some (d,.ptr γ k),[],[],[]⟩)::l) (S.set d (.ptr γ k))):
  Walk P ops draw K (⟨some d,.indexAddr T x i,ty,pos,ah,gd⟩::rest) l S:=
 Yj h hg (Ug rfl fun E S g a w hs hq hl=>by
  obtain⟨e,h1,h2,h3⟩:=X1K hT;have hv:=hq.1;simp only[AVal.sat] at hv;refine⟨.pointer (some ⟨g.az γ,k,none⟩),?_,by simp only[AVal.sat]⟩;have hb:(0:Int)<=m/\m<(n:Int):=by omega
  have hm:m.toNat=k:=by omega
  have:=run_indexAt_slice (P:=P) w T ⟨g.az γ,0,none⟩ n n kd m (by rw[h3];exact h1);rw[PI hb,h3,h2 w,Result.andThen_ok,Vf,hm,Nat.mul_one,Nat.zero_add] at this;simp only[execOp,hv,Up hq.2.1,Sem.run_bind,this];rfl) ⟨⟨hx,hi,TV⟩,TV,TV,hd⟩
end
section
variable {P:Program}{E:Env}{S:St}{Q:Exit->St->Prop}
theorem Vt {x y:Code}{inst:Decidable p} (hc:S.ev c=ab (@decide p inst)) (ht:p->AWP P E x S Q) (hf:¬p->AWP P E y S Q):AWP P E (.cond c x y) S Q:=by simp_all [X20]
theorem X6x {x y:Code}{Q':Exit->St->Prop} (U:St) (h:AWP P E x S (X3j (fun T=>T.le U) Q')) (k:AWP P E y U Q):AWP P E x S (X3j (fun T=>AWP P E y T Q) Q'):=
 XbF h fun e T hq=>by
  cases e<;>grind [X8,X3j]
end
section
variable {P:Program}{ops:Array Oper}{draw:Bool}{K:XW->St->Prop}{rest:List Oper}{l:XW}{S:St}
theorem Yb {b:Bool}{inst:Decidable p} (hg:o.guard=some (j,b)) (hx:S.get (X43 ops j)=ab (@decide p inst)) (ht:p->Walk P ops draw K (o::rest) l S) (hf:¬p->Walk P ops draw K (o::rest) l S):Walk P ops draw K (o::rest) l S:=by
 by_cases h:p
 ·exact ht h
 ·exact hf h
theorem X59 {b x:Bool} (hg:o.guard=some (j,b)) (hx:S.get (X43 ops j)=ab x) (ht:x=true->Walk P ops draw K (o::rest) l S) (hf:x=false->Walk P ops draw K (o::rest) l S):Walk P ops draw K (o::rest) l S:=by
 cases x
 ·exact hf rfl
 ·exact ht rfl
end
section
variable {P:Program}{E:Env}{S:St}{Q:Exit->St->Prop}
theorem YJ {x y:Code}{b:Bool} (hc:S.ev c=ab (!b)) (ht:b=false->AWP P E x S Q) (hf:b=true->AWP P E y S Q):AWP P E (.cond c x y) S Q:=
 X20 hc (fun h=>ht (by simpa using h)) (fun h=>hf (by simpa using h))
end
section
variable {P:Program}{ops:Array Oper}{draw:Bool}{K:XW->St->Prop}{rest:List Oper}{l:XW}{S:St}
theorem Ut {b x:Bool} (hg:o.guard=some (j,b)) (hx:S.get (X43 ops j)=ab (!x)) (ht:x=true->Walk P ops draw K (o::rest) l S) (hf:x=false->Walk P ops draw K (o::rest) l S):Walk P ops draw K (o::rest) l S:=by
 cases x
 ·exact hf rfl
 ·exact ht rfl
end
section
variable {P:Program}{t:TypeId}{x y:Operand}{a b:List UInt8}
theorem XuG (w:World):(do eqGuard .lss t x y (.string (X6 a)) (.string (X6 b));binOp .lss t (.string (X6 a)) (.string (X6 b)):Sem Value).run P w= .ok (.bool (Op.bytesLess a b)) w:=by
 simp[go_sem,binOp,Op.stringOp,X4y]
theorem Xu5 (w:World):(do eqGuard .gtr t x y (.string (X6 a)) (.string (X6 b));binOp .gtr t (.string (X6 a)) (.string (X6 b)):Sem Value).run P w= .ok (.bool (!(Op.bytesLess a b||decide (a=b)))) w:=by
 simp[go_sem,binOp,Op.stringOp,X4y];grind
theorem XvE (w:World):(do eqGuard .leq t x y (.string (X6 a)) (.string (X6 b));binOp .leq t (.string (X6 a)) (.string (X6 b)):Sem Value).run P w= .ok (.bool (Op.bytesLess a b||decide (a=b))) w:=by
 simp[go_sem,binOp,Op.stringOp,X4y];grind
end
theorem X9U:∀s:List UInt8,Op.bytesLess s s=false
 :=by intro x;induction x<;>simp_all [Op.bytesLess]
theorem Xdz:∀s t:List UInt8,Op.bytesLess s t=true->Op.bytesLess t s=false
 |[],[],h=>by simp[Op.bytesLess]
 |[],b::t,h=>by simp[Op.bytesLess]
 |a::s,[],h=>by grind [Op.bytesLess]
 |a::s,b::t,h=>by
  simp only[Op.bytesLess,Bool.or_eq_true,decide_eq_true_eq,Bool.and_eq_true,beq_iff_eq,Bool.or_eq_false_iff,decide_eq_false_iff_not,Bool.and_eq_false_iff] at h |-;rcases h with h|⟨rfl,h⟩
  ·refine⟨fun h'=> ?_,.inl ?_⟩
   ·exact absurd (UInt8.lt_trans h h') (UInt8.lt_irrefl _)
   ·simp only[beq_eq_false_iff_ne,ne_eq];rintro rfl;exact absurd h (UInt8.lt_irrefl _)
  ·exact⟨UInt8.lt_irrefl _,.inr (Xdz s t h)⟩
theorem Xco:∀s t:List UInt8,Op.bytesLess s t=false->Op.bytesLess t s=false->s=t
 |[],[],_,_=>rfl
 |[],b::t,h,_=>by grind [Op.bytesLess]
 |a::s,[],_,h=>by grind [Op.bytesLess]
 |a::s,b::t,h,h'=>by
  simp only[Op.bytesLess,Bool.or_eq_false_iff,decide_eq_false_iff_not,Bool.and_eq_false_iff,beq_eq_false_iff_ne] at h h';have e:a=b:=by
   rcases UInt8.lt_or_lt_of_ne (a:=a) (b:=b) with h1;by_cases e:a=b
   ·exact e
   ·rcases h1 e with h1|h1
    ·exact absurd h1 h.1
    ·exact absurd h1 h'.1
  subst e;have h2:=h.2.resolve_left (by simp);have h3:=h'.2.resolve_left (by simp);rw[Xco s t h2 h3]
def leD (d e:D):Prop:=∀(M:Mem) (u:Value),d.rep M u->e.rep M u
def leC (r s:List D):Prop:=∀(M:Mem) (b o:Nat),VU M r b o->VU M s b o
def leW (sz:Nat) (r s:List (List D)):Prop:=r.length=s.length/\∀(M:Mem) (b o:Nat),X0s M sz r b o->X0s M sz s b o
theorem X1v (d:D):leD d d:=fun _ _ h=>h
theorem Xmh (sz:Nat):leD (.v (.slice none 0 0)) (.sl sz []):=fun M u h=>by
 grind [D.rep]
theorem Xl4:leC [] []:=fun _ _ _ h=>h
theorem X1a {d e:D}{r s:List D} (h:leD d e) (hr:leC r s):leC (d::r) (e::s):=fun M b o q=>by
 grind [VU,leD,leC]
theorem XgF (sz:Nat):leW sz [] []:=⟨rfl,fun _ _ _ h=>h⟩
theorem XfR {d e:List D}{s:List (List D)} (h:leC d e) (hl:d.length=e.length) (hr:leW sz r s):leW sz (d::r) (e::s):=⟨by grind [leW],fun M b o q=>by
 grind [X0s,leC,leW]⟩
theorem Xcc {s:List (List D)} (h:leW sz r s):leD (.sl sz r) (.sl sz s):=fun M u q=>by
 grind [D.rep,leW]
theorem AVal.le_d {d e:D} (h:leD d e):AVal.le (.d d) (.d e):=fun g u q=>by
 grind [AVal.sat,leD]
theorem X8C:∀{xs:List (List D)} (h:∀x∈xs,x.length=sz) {k:Nat}{r:List D},xs[k]? =some r->∀{o q:Nat},o+q<=sz->(xs.flatten.drop (k*sz+o)).take q=(r.drop o).take q
 |[],_,k,r,hk,_,_,_=>by simp at hk
 |x::xs,h,0,r,hk,o,q,hq=>by
  simp only[getElem?_cons_zero,Option.some.injEq] at hk;subst hk;have hx:=h x (by simp);rw[Nat.zero_mul,Nat.zero_add,flatten_cons,drop_append_of_le_length (by omega),take_append_of_le_length (by rw[LD];omega)]
 |x::xs,h,k+1,r,hk,o,q,hq=>by
  have hx:=h x (by simp);have:=X8C (fun y hy=>h y (by simp[hy])) (xs:=xs) (k:=k) (r:=r) (by simpa using hk) hq;rw[flatten_cons,show(k+1)*sz+o=x.length+(k*sz+o) by rw[hx,Nat.succ_mul];omega,<-drop_drop,drop_left];exact this
section
variable {P:Program}{ops:Array Oper}{draw:Bool}{K:XW->St->Prop}{rest:List Oper}{l:XW}{S:St}
variable {d:Nat}{ty:TypeId}{pos:String}{ah:Array Edge}{gd:Option (Nat×Bool)}
theorem X3m {T:TypeId}{m:Int} (hx:S.ev x= .own γ n) (hL:S.obj γ= .row sz xs) (hi:S.ev i= .d (.v (.int kd m))) (hn:n=xs.length) (hk:m=(k:Nat)) (hlt:k<xs.length)
  (hT:UF P T sz=true) (hd:Nat.blt d S.n=true) (hg:XH ops S gd)
  (h:Walk P ops draw K rest ((l.length,⟨some d,.indexAddr T x i,ty,pos,ah,gd⟩,⟨XF ops gd++[(x,.own γ n),(i,.d (.v (.int kd m)))],some (d,.rptr γ n (k*sz)),[(γ,.row sz xs)],[],[]⟩)::l) (S.set d (.rptr γ n (k*sz)))):
  Walk P ops draw K (⟨some d,.indexAddr T x i,ty,pos,ah,gd⟩::rest) l S:=
 Yj h hg (Ug rfl fun E S g a w hs hq hl=>by
  obtain⟨e,h1,h2,h3⟩:=X1K hT;have ho:=hs.1.obj γ;rw[hl.1] at ho;have hv:=X3Y hq.1 ho hn;rcases ho.2 with ⟨e,rfl⟩|⟨b,cap,vs,e',fr,hh,_⟩
  ·simp at hlt
  ·rw[hh] at hv;refine⟨.pointer (some ⟨b,k*sz,none⟩),?_,?_⟩
   ·have hb:(0:Int)<=m/\m<(xs.length:Int):=by omega
    have hm:m.toNat=k:=by omega
    have:=run_indexAt_slice (P:=P) w T ⟨b,0,none⟩ xs.length cap kd m (by rw[h3];exact h1);rw[PI hb,h3,h2 w,Result.andThen_ok,Vf,hm,Nat.zero_add] at this;simp only[execOp,hv,Up hq.2.1,Sem.run_bind,this];rfl
   ·simp only[AVal.sat];exact⟨rfl,_,_,_,hh,by omega,fun _=>⟨_,rfl,rfl⟩⟩) ⟨⟨hx,hi,TV⟩,⟨hL,TV⟩,TV,hd⟩
theorem Xmi {o:Nat} (hs:(AVal.rptr γ n o).sat g u) (ho:UK g w (g.hd γ) sz xs) (hn:n=xs.length) (h0:0<xs.length):
  ∃b cap vs e fr,u= .pointer (some ⟨b,o,none⟩)/\g.hd γ= .slice (some ⟨b,0,none⟩) xs.length cap/\w.heap[b]? =some (.cells vs e fr)/\Xx g (xs.flatten.map .d) (vs.toList.take (xs.length*sz)):=by
 grind [AVal.sat,UK]
theorem X4V {t:TypeId}{o q:Nat}{ys:List D} (hx:S.ev x= .rptr γ n o) (hL:S.obj γ= .row sz xs) (hn:n=xs.length) (h0:0<xs.length) (hb:o+q<=xs.length*sz) (hys:(xs.flatten.drop o).take q=ys)
  (ht:X1g P t true q=true) (hd:Nat.blt d S.n=true) (hg:XH ops S gd)
  (h:Walk P ops draw K rest ((l.length,⟨some d,.load t x,ty,pos,ah,gd⟩,⟨XF ops gd++[(x,.rptr γ n o)],some (d,.agg (ys.map .d)),[(γ,.row sz xs)],[],[]⟩)::l) (S.set d (.agg (ys.map .d)))):
  Walk P ops draw K (⟨some d,.load t x,ty,pos,ah,gd⟩::rest) l S:=
 Yj h hg (Ug rfl fun E S g a w hs hq hl=>by
  have ho:=hs.1.obj γ;rw[hl.1] at ho;obtain⟨b,cap,vs,e,fr,e1,e2,e3,e4⟩:=Xmi hq.1 ho hn h0;have hsub:=X3g (X4g e4 o) q;rw[<-map_drop,<-map_take,hys] at hsub;have b7:=US hsub;have mM:=X25 xs ho.1;have cy:ys.length=q:=by grind
  rw[LM] at b7;refine⟨.agg (((vs.toList.take (xs.length*sz)).drop o).take q).toArray,?_,by grind [AVal.sat]⟩;have:=X8B (P:=P) (p:=⟨b,o,none⟩) (w:=w) (vs:=((vs.toList.take (xs.length*sz)).drop o).take q) (t:=t) (by grind) (fun j v hv=>by
   grind [Vf,cell_of_row])
  simp_all [execOp,Instr.loadAt,Instr.sureAddr]) ⟨⟨hx,TV⟩,⟨hL,TV⟩,TV,hd⟩
end
end Go.Fw
