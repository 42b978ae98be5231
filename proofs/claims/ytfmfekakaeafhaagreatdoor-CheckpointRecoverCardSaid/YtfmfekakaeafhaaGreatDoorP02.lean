/- Ninth part: the walk's rule for a call; weakening of states; more operations. -/
import Derived.Laws.BytesString
import Derived.WalkSpells
import Derived.Laws.Strings
import Derived.Laws.StructEq
import Derived.Laws.Entries
import Derived.Laws.BitsLemmas
import Derived.Test.YtfmfekakaeafhaaGreatDoorP01
set_option linter.all false
namespace Go.Fw
open Go List
open List renaming length->J
def evA (S:St):List Operand->List AVal
 |[]=>[]
 |x::r=>S.ev x::evA S r
def X5U:List Operand->List AVal->List (Operand×AVal)
 |x::r,y::s=>(x,y)::X5U r s
 |_,_=>[]
variable{a:Act}{g g':Gh}{E:Env}{Q:Exit->St->Prop}{Li Lo:List (Nat×AObj)}{res yv:AVal}{P:Program}{f:FuncId}{S:St}{args out:List AVal}{b:List UInt8}{bytes cap hb b9 j k lb len m mb n sz γ:Nat}{hi lo:Option Operand}{k' k1 k2 kd:IntKind}{m':Int}{parts:Array (Nat×Operand)}{pl:List (Nat×Operand)}{ps:List (Nat×AVal)}{c i mx x y:Operand}{p:Prop}{w:World}{h u v:Value}{r xs ys:List (List D)}{rows:List (List (List D))}{o:Oper}{us vs zs:List Value}{op:BinOp}{s:ByteArray}{ρ σ:Nat->Nat}
theorem Xae:∀{xs:List Operand}{ys:List AVal},J ys=J xs->VK g a (X5U xs ys)->Xy g ys (xs.map a.eval)
 |[],[],_,_=>by grind [Xy]
 |x::xs,y::ys,h,hs=>by
  simp only[map_cons,Xy];exact⟨hs.1,Xae (by simpa using h) hs.2⟩
 |[],_::_,h,_=>by simp at h
 |_::_,[],h,_=>by simp at h
theorem Xas (S:St):∀(xs:List Operand),X1U S (X5U xs (evA S xs))
 |[]=>trivial
 |x::r=>⟨rfl,Xas S r⟩
def AVal.le (x y:AVal):Prop:=∀g u,x.sat g u->y.sat g u
def AVal.le_refl (x:AVal):x.le x:=fun _ _ h=>h
def AVal.le_nil (sz:Nat):AVal.le aq (.d (.sl sz [])):=fun g u h=>by
 grind [AVal.sat,D.rep]
def AVal.le_of_eq {x y:AVal} (h:x=y):x.le y:=h ▸ AVal.le_refl x
def leL:List AVal->List AVal->Prop
 |[],[]=>True
 |x::r,y::s=>x.le y/\leL r s
 |_,_=>False
theorem X86:∀{xs ys:List AVal}{us:List Value},leL xs ys->Xy g xs us->Xy g ys us
 |[],[],_,_,h=>h
 |x::xs,y::ys,u::us,hl,h=>by
  simp only[Xy] at h |-;exact⟨hl.1 g u h.1,X86 hl.2 h.2⟩
 |_::_,_::_,[],_,h=>by simp only[Xy] at h
 |[],_::_,_,hl,_=>hl.elim
 |_::_,[],_,hl,_=>hl.elim
def AVal.le_agg {xs ys:List AVal} (h:leL xs ys):AVal.le (.agg xs) (.agg ys):=fun g u hs=>by
 grind [AVal.sat,X86]
def X2H (P:Program) (f:FuncId):Bool:=match P.funcs[f]? with|some fn=> !(fn.name== "runtime.NumGoroutine")&&fn.body.isSome|none=>false
theorem Xd3 (h:X2H P f=true) (args:Array Value) (w:World):(callFunc f args).run P w= .ok (.enter f args) w:=by
 unfold X2H at h;cases hf:P.funcs[f]? with
 |none=>simp[hf] at h
 |some fn=>
  rw[hf] at h;simp only[Bool.and_eq_true,Bool.not_eq_true'] at h;have hb:fn.body.isNone=false:=by
   simp_all
  grind [callFunc,Sem.run_bind,run_program,Result.andThen_ok,Sem.run_pure]
section
variable {P:Program}{ops:Array Oper}{draw:Bool}{K:XU->St->Prop}{rest:List Oper}{l:XU}{S:St}
variable {d:Nat}{ty:TypeId}{pos:String}{ah:Array Edge}{gd:Option (Nat×Bool)}
def Xin {args:Array Operand}{tys:Array TypeId}{xs:List Operand}{ys zs:List AVal}
  (hxs:args.toList=xs) (hys:evA S xs=ys) (hle:leL ys zs) (ag:Con P f Li zs Lo res) (hf:X2H P f=true)
  (bB:Vn S Li) (hin:X4j Li Lo=true) (dw:X4n Lo Lo=true) (hres:res.within Lo=true) (hnew:X33 S (VU Li Lo)) (av:Vn S (X3v (VU Li Lo)))
  (hd:Nat.blt d S.n=true) (hg:XL ops S gd)
  (h:Walk P ops draw K rest ((J l,⟨some d,.call ⟨.value (.func f),args,tys⟩,ty,pos,ah,gd⟩,⟨XH ops gd++X5U xs ys,some (d,res),Li++X3v (VU Li Lo),Lo,VU Li Lo⟩)::l)
   ((S.set d res).cat Lo)):
  Walk P ops draw K (⟨some d,.call ⟨.value (.func f),args,tys⟩,ty,pos,ah,gd⟩::rest) l S:=by
 have hap:∀(A B:List (Nat×AObj)) (T:St),Vn T (A++B)↔Vn T A/\Vn T B:=by
  intro A B T;simp only[X6v,mem_append]
  grind
 have hlen:J ys=J xs:=by
  rw[<-hys];clear hys hxs h hle;induction xs<;>simp_all [evA]
 refine Yq h hg ?_ ⟨by grind [Xas],(hap _ _ _).2 ⟨bB,av⟩,hnew,hd⟩;intro E S a w g hs hok Q K hK;obtain⟨dL,eH,iF,dz⟩:=hok;rw[hap] at eH;have bf:=X86 hle (Xae hlen (X1K hs _ dL));have hinv:Inv (VA g w Li) (Xs .dead Li) g w:=by
  have hsub:=Xm eH.1;have hl:∀γ b,Xw g (Xs .dead Li γ) γ b->Xw g (S.obj γ) γ b:=by
   intro γ b hb;rcases hsub γ with e|e<;>simp_all [Xw]
  refine⟨fun γ=> ?_,fun γ γ' b k k'=>hs.1.inj γ γ' b (hl _ _ k) (hl _ _ k'),hs.1.mem,fun γ b k=>hs.1.sep γ b (hl _ _ k),fun γ b k=> .inr ⟨γ,k⟩,YN.refl _,fun a v ha=> .inl ⟨v,ha⟩,fun _ _ _=>rfl,Nat.le_refl _,rfl,rfl,fun γ _=>Gh.keeps_refl _ _⟩;rcases hsub γ with e|e
  ·rw[e];exact hs.1.obj γ
  ·rw[e];trivial
 have aA:=ag g w (xs.map a.eval) hinv bf;have hrun:(execOp a.eval ⟨some d,.call ⟨.value (.func f),args,tys⟩,ty,pos,ah,gd⟩).run P w= .ok (.enter f (xs.map a.eval).toArray) w:=by
  have e1:(#[]++args.map a.eval++ #[]:Array Value)=(xs.map a.eval).toArray:=by
   grind
  simp_all [execOp,resolve,Act.eval,Deferred.ofValue,invoke,Xd3]
 unfold Oper.wp;rw[hrun,Oper.upon_enter];refine aA.mono ?_;rintro e w' ⟨v,g',rfl,hv,hi',hk⟩;obtain⟨j1,j2,j3⟩:=XfW hs.1 eH.1 hin dw iF eH.2 hi' hk;exact hK _ _ (X2f j1 hs.2.1 hs.2.2.1 (fun t=>j3 t _ (hs.2.2.2 t)) (j2 _ _ hres hv) dz)
def leT (S:St):List (Nat×AVal)->Prop
 |[]=>True
 |p::r=>(S.get p.1).le p.2/\leT S r
def Xob {t:Nat}:∀(l:List (Nat×AVal)),leT S l->(Xs .any l t= .any\/(S.get t).le (Xs .any l t))
 |[],_=> .inl rfl
 |(k,x)::r,h=>by
  by_cases hk:k=t
  ·subst hk;rw[YK];exact .inr h.1
  ·rw[YC _ _ _ hk];exact Xob r h.2
def X9 {τ:List (Nat×AVal)}{L:List (Nat×AObj)} (hn:S.n=n) (ht:leT S τ) (hL:Vn S L):S.le ⟨n,τ,L⟩:=by
 rintro E a w ⟨g,h1,h2,h3,h4⟩;refine⟨g,h1.sub (Xm hL),h2,h3.trans hn,fun t=> ?_⟩;show AVal.sat g (Xs .any τ t) _;rcases Xob τ ht with e|e
 ·rw[e];simp only[AVal.sat]
 ·exact e g _ (h4 t)
def XfS {M:Mem} (h:(D.sl sz xs).rep M u):J xs<=9223372036854775807:=by
 grind [D.rep,maxLen]
def Xp4 {c:Code} (t:Nat) {sz:Nat}{xs:List (List D)} (ht:S.get t= .d (.sl sz xs)) (h:J xs<=9223372036854775807->AWP P E c S Q):AWP P E c S Q:=by
 refine⟨fun a w hs=> ?_⟩;obtain⟨g,hg⟩:=hs;have:=hg.2.2.2 t;rw[ht] at this;simp only[AVal.sat] at this;exact(h (XfS this)).run a w ⟨g,hg⟩
def Xor {c:Code} (t j:Nat) {sz:Nat}{cs:List AVal}{xs:List (List D)} (ht:S.get t= .agg cs) (hj:cs[j]? =some (.d (.sl sz xs))) (h:J xs<=9223372036854775807->AWP P E c S Q):AWP P E c S Q:=by
 refine⟨fun a w hs=> ?_⟩;obtain⟨g,hg⟩:=hs;have:=hg.2.2.2 t;rw[ht] at this;simp only[AVal.sat] at this;obtain⟨vs,_,h3⟩:=this;obtain⟨u,_,hu⟩:=X07 h3 j _ hj;simp only[AVal.sat] at hu;exact(h (XfS hu)).run a w ⟨g,hg⟩
def X4B {T:St} (hs:Vr E S g a w) (hi:Inv E T.obj g' w) (hn:T.n=S.n) (ht:∀t,(T.get t).sat g' (a.tmps.getD t undef)):holds E T a w:=
 ⟨g',hi,hs.2.1,by rw[hs.2.2.1,hn],ht⟩
def Uo (t γ sz:Nat) (ht:S.get t=aq) (av:S.obj γ= .dead) (hf:S.free γ=true):
  S.le ((S.set t (.own γ 0)).own γ (.row sz [])):=by
 rintro E a w ⟨g,hs⟩
 have hi:=X80 hs.1 γ hf av (.row sz []) 0 (.slice none 0 0) (w':=w) (fun _ _=>rfl) (Nat.le_refl _) rfl rfl
  ⟨by simp,.inl ⟨by simp[Gh.put],rfl⟩⟩ (fun k hk=>by obtain⟨a,n,c,e,_⟩:=hk;simp[Gh.put] at e)
 refine X4B hs hi rfl fun k=> ?_;by_cases hk:k=t
 ·subst hk;show AVal.sat _ (Xs .any ((k,_)::S.τ) k) _;rw[YK];have:=hs.2.2.2 k;rw[ht] at this;rw[Uy this];simp only[AVal.sat];exact⟨rfl,none,0,0,by simp[Gh.put],Nat.le_refl _,fun _=>rfl⟩
 ·show AVal.sat _ (Xs .any ((t,_)::S.τ) k) _;rw[YC _ _ _ (Ne.symm hk)];exact X44 hf hs.2.2.2 k
def X1Y (β j γ sz:Nat) {cs:List AVal} (hb:S.obj β= .box cs) (hj:cs[j]? =some aq) (av:S.obj γ= .dead) (hf:S.free γ=true) (hne:Nat.beq γ β=false):
  S.le ((S.own γ (.row sz [])).own β (.box (cs.set j (.own γ 0)))):=by
 rintro E a w ⟨g,hs⟩
 have hi:=X80 hs.1 γ hf av (.row sz []) 0 (.slice none 0 0) (w':=w) (fun _ _=>rfl) (Nat.le_refl _) rfl rfl
  ⟨by simp,.inl ⟨by simp[Gh.put],rfl⟩⟩ (fun k hk=>by obtain⟨a,n,c,e,_⟩:=hk;simp[Gh.put] at e)
 have uQ:γ≠β:=X5L hne;have gX:Xs .dead ((γ,.row sz [])::S.L) β= .box cs:=by grind [Xs,St.obj]
 have ho:=hi.obj β;rw[gX] at ho;obtain⟨vs,e,fr,h1,h2,h3,h4⟩:=ho;have hi2:Inv E (Xs .dead ((β,.box (cs.set j (.own γ 0)))::(γ,.row sz [])::S.L)) (g.put γ 0 (.slice none 0 0)) w:=by
  refine Inv.upd hi β _ (YK _ _ _ _) (fun k hk=>YC _ _ _ (Ne.symm hk)) (fun _ _ _=>rfl) (Nat.le_refl _) rfl rfl rfl (fun _ _=>⟨rfl,rfl,rfl⟩) (fun _ _ _ _ _ h=>h) ?_ (fun b hb'=> .inl (by rw[gX];exact hb')) (fun _=>Gh.keeps_refl _ _);have hlen:=V6 h3;refine⟨vs,e,fr,h1,h2,X4k (by simp[hlen]) fun i x u hx hu=> ?_,fun c hc=> ?_⟩
  ·rw[getElem?_set] at hx;split at hx
   ·rename_i hij;subst hij;obtain⟨u',k1,k2⟩:=X07 h3 j aq hj;rw[k1] at hu;cases hu;split at hx
    ·cases hx;rw[Uy k2];simp only[AVal.sat];exact⟨rfl,none,0,0,by simp[Gh.put],Nat.le_refl _,fun _=>rfl⟩
    ·simp at hx
   grind [X07]
  grind [AVal.cellish]
 exact X4B hs hi2 rfl (X44 hf hs.2.2.2)
def X8F (hi:Inv E S.obj g w) {γ sz:Nat}{xs:List (List D)} (hL:S.obj γ= .row sz xs):
  ∃M',YN g.M M'/\Inv E (Xs .dead ((γ,.froz sz xs)::S.L)) {g with M:=M'} w:=by
 have ho:=hi.obj γ;rw[hL] at ho;obtain⟨hlen,ho⟩:=ho
 have key:∀(M':Mem),YN g.M M'->(D.sl sz xs).rep M' (g.hd γ)->(∀a v,M' a=some v->g.M a=some v\/(w.cell? a=some v/\Xw g (S.obj γ) γ a.block))->
   Inv E (Xs .dead ((γ,.froz sz xs)::S.L)) {g with M:=M'} w:=by
  intro M' hle cQ ki;have eG:∀k,Xs .dead ((γ,.froz sz xs)::S.L) k=if k=γ then .froz sz xs else S.obj k:=by
   grind [YK,YC,St.obj]
  have hlv:∀k b,Xw {g with M:=M'} (Xs .dead ((γ,.froz sz xs)::S.L) k) k b->k≠γ/\Xw g (S.obj k) k b:=by
   grind [X5l,Xw]
  refine⟨fun k=> ?_,fun k k' b h h'=>hi.inj k k' b (hlv _ _ h).2 (hlv _ _ h').2,fun a v h=> ?_,fun k b h a v ha=> ?_,fun k b h=>hi.new k b (hlv _ _ h).2,hi.ext.trans hle,fun a v h=> ?_,hi.frame,hi.size,hi.os,hi.out,fun k hk=>(hi.kp k hk).trans' (Gh.keeps_of rfl rfl rfl)⟩
  ·rw[eG];by_cases hk:k=γ
   ·grind [Ud]
   ·rw[NI hk];exact Xe5 (g:=g) (g':={g with M:=M'}) hle rfl rfl rfl (fun _ _=>rfl) (hi.obj k)
  ·rcases ki a v h with h1|h1
   ·exact hi.mem a v h1
   ·exact h1.1
  ·obtain⟨hk,hb⟩:=hlv k b h;rcases ki a v ha with h1|h1
   ·exact hi.sep k b hb a v h1
   ·intro e;rw[e] at h1;exact hk (hi.inj _ _ _ hb h1.2)
  ·rcases ki a v h with h1|h1
   ·exact hi.lim a v h1
   ·exact .inr (hi.new γ _ h1.2)
 rcases ho with ⟨h1,rfl⟩|⟨b,cap,vs,e,fr,h1,h2,h3,h4,h5,h6,h7⟩
 ·refine⟨g.M,YN.refl _,key g.M (YN.refl _) ?_ (fun a v h=> .inl h)⟩
  grind [D.rep]
 ·have hlv:Xw g (S.obj γ) γ b:=by rw[hL];exact⟨_,_,_,h1,rfl⟩
  have hle:YN g.M (fun p=>if p.block=b/\p.spot=none then vs[p.off]? else g.M p):=by
   intro a v h;have:=hi.sep γ b hlv a v h
   grind
  refine⟨_,hle,key _ hle ?_ (fun a v h=> ?_)⟩
  ·simp only[D.rep];refine⟨_,cap,h1,h2,h3,.inr ⟨b,0,rfl,X7O xs 0 hlen fun i d hd=> ?_⟩⟩;obtain⟨hl,hr⟩:=X7r h7
   grind [D.rep_mono]
  ·have h':(if a.block=b/\a.spot=none then vs[a.off]? else g.M a)=some v:=h;split at h'
   ·rename_i hc;obtain⟨b',o,s⟩:=a
    grind [cell_of_row]
   ·exact .inl h'
def XI (γ:Nat) {sz:Nat}{xs:List (List D)} (hL:S.obj γ= .row sz xs):S.le (S.own γ (.froz sz xs)):=by
 rintro E a w ⟨g,hs⟩;obtain⟨M',hle,hi⟩:=X8F hs.1 hL;exact X4B hs hi rfl fun t=>X3R (g:=g) (g':={g with M:=M'}) hle rfl rfl rfl (hs.2.2.2 t)
theorem X75 (ho:Ud g w γ (.froz sz xs)) (hn:n=J xs) (h:(AVal.own γ n).sat g u):(AVal.d (.sl sz xs)).sat g u:=by
 grind [AVal.sat,Ud,D.rep]
def XX (t γ:Nat) {n sz:Nat}{xs:List (List D)} (ht:S.get t= .own γ n) (hL:S.obj γ= .froz sz xs) (hn:n=J xs):S.le (S.set t (.d (.sl sz xs))):=by
 rintro E a w ⟨g,hs⟩;refine X4B hs hs.1 rfl fun k=> ?_;by_cases hk:k=t
 ·subst hk;show AVal.sat _ (Xs .any ((k,_)::S.τ) k) _;rw[YK];have:=hs.2.2.2 k;rw[ht] at this;have ho:=hs.1.obj γ
  grind [X75]
 grind [YC,St.get,St.set,Vr]
def VR (β j γ:Nat) {cs:List AVal}{n sz:Nat}{xs:List (List D)} (hb:S.obj β= .box cs) (hj:cs[j]? =some (.own γ n)) (hL:S.obj γ= .froz sz xs) (hn:n=J xs):
  S.le (S.own β (.box (cs.set j (.d (.sl sz xs))))):=by
 rintro E a w ⟨g,hs⟩;have ho:=hs.1.obj β;rw[hb] at ho;obtain⟨vs,e,fr,h1,h2,h3,h4⟩:=ho;have hf:=hs.1.obj γ;rw[hL] at hf;have hi2:Inv E (Xs .dead ((β,.box (cs.set j (.d (.sl sz xs))))::S.L)) g w:=by
  refine Inv.upd hs.1 β _ (YK _ _ _ _) (fun k hk=>YC _ _ _ (Ne.symm hk)) (fun _ _ _=>rfl) (Nat.le_refl _) rfl rfl rfl (fun _ _=>⟨rfl,rfl,rfl⟩) (fun _ _ _ _ _ h=>h) ?_ (fun b hb'=> .inl (by rw[hb];exact hb')) (fun _=>Gh.keeps_refl _ _)
  grind [V6,X4k,X07,X75,Ud,AVal.cellish]
 exact X4B hs hi2 rfl hs.2.2.2
theorem Xfh {vs:Array Value} (hlen:∀x∈xs,J x=sz) (bf:Xy g (xs.flatten.map .d) (vs.toList.take (J xs*sz))) (hM:YN g.M (g.lay w.heap.size vs).M)
  (hcap:J xs<=cap) (eF:cap<=maxLen):(AVal.d (.sl sz xs)).sat (g.lay w.heap.size vs) (.slice (some ⟨w.heap.size,0,none⟩) (J xs) cap):=by
 simp only[AVal.sat,D.rep];refine⟨_,cap,rfl,hcap,eF,.inr ⟨w.heap.size,0,rfl,X7O xs 0 hlen fun i d hd=> ?_⟩⟩;obtain⟨hl,hr⟩:=X7r bf
 grind [D.rep_mono,Gh.lay]
def Xe7 (hi:Inv E S.obj g w) (γ:Nat) (hf:S.free γ=true) (av:S.obj γ= .dead) {sz:Nat}{xs:List (List D)}{vs:Array Value}{e:TypeId}{fr:Nat×Nat}{cap:Nat}
  (hlen:∀x∈xs,J x=sz) (bf:Xy g (xs.flatten.map .d) (vs.toList.take (J xs*sz))) (hcap:J xs<=cap) (eF:cap<=maxLen) (hsz:cap*sz<=vs.size) (hfr:X4A fr vs.size):
  Inv E (Xs .dead ((γ,.row sz xs)::S.L)) (g.put γ 0 (.slice (some ⟨w.heap.size,0,none⟩) (J xs) cap)) (w.alloc (.cells vs e fr)):=
 X80 hi γ hf av _ _ _ (X4V w _) (X7q w _) rfl rfl
  ⟨hlen,.inr ⟨w.heap.size,cap,vs,e,fr,by simp[Gh.put],hcap,eF,heap_alloc_new w _,hfr,hsz,X7Z (Xc9 _ _) bf⟩⟩
  (fun k hk=>by obtain⟨a,n,c,e,rfl⟩:=hk;grind [Gh.put])
def X9Q {w:World}{a:Option Addr}:(AVal.own γ n).sat (g.put γ 0 (.slice a n cap)) (.slice a n cap):=by
 simp only[AVal.sat];exact⟨rfl,a,n,cap,by simp[Gh.put],Nat.le_refl _,fun _=>rfl⟩
def VC (z:List Value) (n:Nat):List Value:=(replicate n z).flatten
def X34 (P:Program) (t:TypeId):Option (List Value):=
 match P.underlying t with
 |some (.slice e)=>X5i P e
 |_=>none
theorem Xho {t:TypeId} (h:X34 P t=some zs):∃e,P.underlying t=some (.slice e)/\X5i P e=some zs:=by
 grind [X34]
theorem XbR (z:Array Value) (n:Nat):((Array.range (n*z.size)).map (fun i=>z[i%z.size]!)).toList=VC z.toList n:=by
 induction n with
 |zero=>simp[VC]
 |succ n ih=>
  have e1:VC z.toList (n+1)=VC z.toList n++z.toList:=by
   simp[VC,replicate_succ']
  rw[e1,<-ih];apply ext_getElem?;intro j;simp only[Array.toList_map,Array.toList_range,getElem?_map,getElem?_append,LM,length_range];have hm:(n+1)*z.size=n*z.size+z.size:=Nat.succ_mul _ _;by_cases h1:j<n*z.size
  ·grind
  ·rw[NI h1];by_cases h2:j<(n+1)*z.size
   ·rw[getElem?_range h2];have h3:j-n*z.size<z.size:=by omega
    have h4:j%z.size=j-n*z.size:=by
     have:j=(j-n*z.size)+n*z.size:=by omega
     rw[this,Nat.add_mul_mod_self_right,Nat.mod_eq_of_lt h3];omega
    simp[h4,h3]
   grind
def XuD {e:TypeId} (h:X5i P e=some zs):∃z:Value,z.cells.toList=zs/\(∀w,(zeroValue e).run P w= .ok z w):=Xgg h
def Xjd {T:TypeId}{parts:Array (Nat×Value)}{us:Array Value} (hT:UT P T sz=true) (hz:X34 P T=some zs) (hzl:J zs=sz) (hsmall:len*sz<=16777216)
  (kj:Instr.fill (fun i=>some (i*sz,sz)) (VC zs len).toArray parts.toList=some us) (w:World):
  ∃e,(Instr.buildSlice T len parts).run P w= .ok (.slice (some ⟨w.heap.size,0,none⟩) len len) (w.alloc (.cells us e)):=by
 obtain⟨e,h1,h2,_⟩:=X29 hT;obtain⟨e',bY,hze⟩:=Xho hz;rw[h1] at bY;cases bY;obtain⟨z,cE,lV⟩:=XuD hze;refine⟨e,?_⟩;have hzs:z.cells.size=sz:=by grind
 have lW:¬(16777216<len*sz):=by omega
 have nq:Instr.fill (fun i=>some (i*sz,sz)) ((Array.range (len*sz)).map (fun i=>z.cells[i%z.cells.size]!)) parts.toList=some us:=by
  rw[<-kj];congr 1
  grind [XbR]
 by_cases h0:len*sz=0
 ·have hem:(VC zs len).toArray= #[]:=by
   apply Array.ext';simp only[VC];rcases Nat.mul_eq_zero.1 h0 with h|h<;>simp_all
  rw[hem] at kj;simp[Instr.buildSlice,run_underlying h1,h2 w,h0,kj,newRow,Array.range_zero']
 ·simp[Instr.buildSlice,run_underlying h1,h2 w,lW,h0,lV w,nq,newRow]
def Xnb {T:TypeId} (aT:parts.toList=pl)
  (hkeys:ps.map (·.1)=pl.map (·.1)) (hT:UT P T sz=true) (hz:X34 P T=some zs) (hzl:Nat.beq (J zs) sz=true) (cE:X1Q (VC zs len)=true) (hsmall:Nat.ble (len*sz) 16777216=true) (aL:Nat.ble len 16777216=true)
  (hout:X4z (fun i=>some (i*sz,sz)) (dvL (VC zs len)) ps=some out) (hxs:X5b sz len out=some xs) {g:Gh}{a:Act} (w:World) (hq:VK g a (X3d pl ps)):
  ∃e,∃us:Array Value,(Instr.buildSlice T len (parts.map fun p=>(p.1,a.eval p.2))).run P w= .ok (.slice (some ⟨w.heap.size,0,none⟩) len len) (w.alloc (.cells us e))/\
   J us.toList=J xs*sz/\Xy g (xs.flatten.map .d) us.toList/\J xs=len/\(∀x∈xs,J x=sz)/\len<=maxLen:=by
 obtain⟨us,k1,k2⟩:=XbV (vs:=(VC zs len).toArray) hkeys hq (by grind [XaF]) hout;obtain⟨r1,r2,r3⟩:=Xok hxs;have aU:len*sz<=16777216:=by simpa using hsmall
 obtain⟨e,he⟩:=Xjd (P:=P) (T:=T) (len:=len) (parts:=parts.map fun p=>(p.1,a.eval p.2)) hT hz (by simpa using hzl) aU (by
  have:(parts.map fun p=>(p.1,a.eval p.2)).toList=pl.map fun p=>(p.1,a.eval p.2):=by simp[aT]
  rw[this];exact k1) w
 rw[<-r1] at k2;have hl:=V6 k2;simp only[LM,X2m xs r3] at hl;refine⟨e,us,he,hl,k2,r2,r3,?_⟩;unfold maxLen;have:len<=16777216:=by simpa using aL
 omega
theorem XbO (S:St):∀pl:List (Nat×Operand),(evL S pl).map (·.1)=pl.map (·.1)
 |[]=>rfl
 |p::r=>by simp[evL,XbO S r]
theorem Xby (S:St):∀pl:List (Nat×Operand),X1U S (X3d pl (evL S pl))
 |[]=>trivial
 |p::r=>⟨rfl,Xby S r⟩
def XuA {T:TypeId} (aT:parts.toList=pl)
  (hps:evL S pl=ps) (hz:X34 P T=some zs) (hS:J zs=sz) (hT:UT P T sz=true) (hzl:Nat.beq (J zs) sz=true) (cE:X1Q (VC zs len)=true) (hsmall:Nat.ble (len*sz) 16777216=true) (aL:Nat.ble len 16777216=true)
  (hout:X4z (fun i=>some (i*sz,sz)) (dvL (VC zs len)) ps=some out) (hxs:X5b sz len out=some xs) (hd:Nat.blt d S.n=true) (hg:XL ops S gd)
  (h:Walk P ops draw K rest ((J l,⟨some d,.buildSlice T len parts,ty,pos,ah,gd⟩,⟨XH ops gd++X3d pl ps,some (d,.d (.sl sz xs)),[],[],[]⟩)::l) (S.set d (.d (.sl sz xs)))):
  Walk P ops draw K (⟨some d,.buildSlice T len parts,ty,pos,ah,gd⟩::rest) l S:=by
 have hkeys:ps.map (·.1)=pl.map (·.1):=by grind [XbO]
 have hrd:X1U S (X3d pl ps):=by grind [Xby]
 refine Yq h hg ?_ ⟨hrd,TV,TV,hd⟩;intro E S a w g hs hok Q K hK;obtain⟨e,us,k1,k2,k3,k4,k5,k6⟩:=Xnb (P:=P) aT hkeys hT hz hzl cE hsmall aL hout hxs w (X1K hs _ hok.1);have hle:=Xcy hs.1 us;have hrun:(execOp a.eval ⟨some d,.buildSlice T len parts,ty,pos,ah,gd⟩).run P w= .ok (.value (.slice (some ⟨w.heap.size,0,none⟩) len len)) (w.alloc (.cells us e)):=by
  simp_all [execOp]
 unfold Oper.wp;rw[hrun,Oper.upon_value];refine hK _ _ (X2f (Xft hs.1 us e (0,0)) hs.2.1 hs.2.2.1 (fun t=>X3R (g:=g) (g':=g.lay w.heap.size us) hle rfl rfl rfl (hs.2.2.2 t)) ?_ hok.2.2.2)
 grind [Xfh]
def Xqd {T:TypeId} (aT:parts.toList=pl)
  (hps:evL S pl=ps) (hz:X34 P T=some zs) (hS:J zs=sz) (hT:UT P T sz=true) (hzl:Nat.beq (J zs) sz=true) (cE:X1Q (VC zs len)=true) (hsmall:Nat.ble (len*sz) 16777216=true) (aL:Nat.ble len 16777216=true)
  (hout:X4z (fun i=>some (i*sz,sz)) (dvL (VC zs len)) ps=some out) (hxs:X5b sz len out=some xs) (av:S.obj γ= .dead) (hf:S.free γ=true) (hd:Nat.blt d S.n=true) (hg:XL ops S gd)
  (h:Walk P ops draw K rest ((J l,⟨some d,.buildSlice T len parts,ty,pos,ah,gd⟩,⟨XH ops gd++X3d pl ps,some (d,.own γ len),[(γ,.dead)],[(γ,.row sz xs)],[γ]⟩)::l) ((S.set d (.own γ len)).own γ (.row sz xs))):
  Walk P ops draw K (⟨some d,.buildSlice T len parts,ty,pos,ah,gd⟩::rest) l S:=by
 have hkeys:ps.map (·.1)=pl.map (·.1):=by grind [XbO]
 have hrd:X1U S (X3d pl ps):=by grind [Xby]
 refine Yq h hg (X3H rfl fun E S g a w hs hq hl hn=> ?_) ⟨hrd,⟨av,TV⟩,⟨hf,TV⟩,hd⟩;obtain⟨e,us,k1,k2,k3,k4,k5,k6⟩:=Xnb (P:=P) aT hkeys hT hz hzl cE hsmall aL hout hxs w hq;have hsz:us.size=len*sz:=by grind
 refine⟨.slice (some ⟨w.heap.size,0,none⟩) (J xs) len,_,w.alloc (.cells us e),by simp_all [execOp],by rw[<-k4];exact X9Q (w:=w),Xe7 hs.1 γ hn.1 hl.1 (cap:=len) k5 (by grind) (by omega) k6 (by omega) (X6J _),X44 hn.1 hs.2.2.2⟩
def Xmv {T:TypeId} (hT:X1w P T sz bytes=true) (hz:X34 P T=some zs) (hroom:n*bytes<=2^48) (hn:n<2^63) (k1 k2:IntKind) (w:World):
  ∃e,(Instr.makeSlice T (.int k1 n) (.int k2 n)).run P w= .ok (.slice (some ⟨w.heap.size,0,none⟩) n n) (w.alloc (.cells (VC zs n).toArray e)):=by
 obtain⟨e,i,z,hu,hi,hsz,gI,bH,hzs,cE⟩:=X6x hT;obtain⟨e',bY,hze⟩:=Xho hz;rw[hu] at bY;cases bY;have sU:z.cells.toList=zs:=by
  grind [X5i]
 have hw:IntKind.i64.wrap (n:Int)=n:=IntWalk.i64_in _ (by omega);have dB:¬((n:Int)<0):=by omega
 have ha:∀k,(asInt (.int k (n:Int))).run P w= .ok (n:Int) w:=fun k=>by simp[asInt,asIntOf]
 have cR:¬(281474976710656<(i.bytes:Int)*(n:Int)):=by
  grind
 have fA:(Array.range (n*sz)).map (fun x=>z.cells[x%z.cells.size]!)=(VC zs n).toArray:=by
  grind [XbR]
 refine⟨e,?_⟩;by_cases h0:n*sz=0
 ·have hem:(VC zs n).toArray= #[]:=by grind
  rw[hem];simp[Instr.makeSlice,run_underlying hu,ha,typeInfo,hi,hw,dB,cR,sizeOf,hsz,h0,newRow,Array.range_zero']
 ·simp[Instr.makeSlice,run_underlying hu,ha,typeInfo,hi,hw,dB,cR,sizeOf,hsz,h0,newRow,zeroValue,bH,fA]
def zD:List Value->List D
 |[]=>[]
 |v::r=> .v v::zD r
theorem XnV:∀zs:List Value,(zD zs).map .d=dvL zs
 |[]=>rfl
 |v::r=>by simp[zD,dvL,XnV r]
theorem XbS:∀zs:List Value,J (zD zs)=J zs
 |[]=>rfl
 |v::r=>by simp[zD,XbS r]
def Xfx (h1:X1Q zs=true) (n:Nat):Xy g ((replicate n (zD zs)).flatten.map .d) (VC zs n):=by
 induction n<;>simp_all [VC,Xy,replicate_succ,XnV,X4D,XaF]
def Xt5 {T:TypeId}{m:Int} (hx:S.ev x= .d (.v (.int k1 m))) (hy:S.ev y= .d (.v (.int k2 m'))) (hm:m=(n:Nat)) (hm':m'=(n:Nat))
  (hz:X34 P T=some zs) (hB:elB P T=bytes) (hS:J zs=sz) (hT:X1w P T sz bytes=true) (h1:X1Q zs=true) (hl:Nat.beq (J zs) sz=true) (hroom:n*bytes<=281474976710656) (hn:n<9223372036854775808) (hd:Nat.blt d S.n=true) (hg:XL ops S gd)
  (h:Walk P ops draw K rest ((J l,⟨some d,.makeSlice T x y,ty,pos,ah,gd⟩,⟨XH ops gd++[(x,.d (.v (.int k1 m))),(y,.d (.v (.int k2 m')))],some (d,.d (.sl sz (replicate n (zD zs)))),[],[],[]⟩)::l) (S.set d (.d (.sl sz (replicate n (zD zs)))))):
  Walk P ops draw K (⟨some d,.makeSlice T x y,ty,pos,ah,gd⟩::rest) l S:=by
 refine Yq h hg ?_ ⟨⟨hx,hy,TV⟩,TV,TV,hd⟩;intro E S a w g hs hok Q K hK;have hq:=X1K hs _ hok.1;obtain⟨e,he⟩:=Xmv (P:=P) hT hz (by simpa using hroom) (by simpa using hn) k1 k2 w;have hle:=Xcy hs.1 (VC zs n).toArray;have hzl:J zs=sz:=by simpa using hl
 have hrun:(execOp a.eval ⟨some d,.makeSlice T x y,ty,pos,ah,gd⟩).run P w= .ok (.value (.slice (some ⟨w.heap.size,0,none⟩) n n)) (w.alloc (.cells (VC zs n).toArray e)):=by
  simp only[execOp,Sem.run_bind,Uy hq.1,Uy hq.2.1,hm,hm',he];rfl
 unfold Oper.wp;rw[hrun,Oper.upon_value];refine hK _ _ (X2f (Xft hs.1 _ e (0,0)) hs.2.1 hs.2.2.1 (fun t=>X3R (g:=g) (g':=g.lay w.heap.size (VC zs n).toArray) hle rfl rfl rfl (hs.2.2.2 t)) ?_ hok.2.2.2);have hlen:∀x∈replicate n (zD zs),J x=sz:=fun x hx=>by grind [XbS]
 have hs1:=Xfx (g:=g) h1 n
 grind [Xfh,V6,LM,X2m,take_of_length_le,maxLen]
def X6z {T:TypeId}{m:Int} (hx:S.ev x= .d (.v (.int k1 m))) (hy:S.ev y= .d (.v (.int k2 m'))) (hm:m=(n:Nat)) (hm':m'=(n:Nat))
  (hz:X34 P T=some zs) (hB:elB P T=bytes) (hS:J zs=sz) (hT:X1w P T sz bytes=true) (h1:X1Q zs=true) (hl:Nat.beq (J zs) sz=true) (hroom:n*bytes<=281474976710656) (hn:n<9223372036854775808) (av:S.obj γ= .dead) (hf:S.free γ=true) (hd:Nat.blt d S.n=true) (hg:XL ops S gd)
  (h:Walk P ops draw K rest ((J l,⟨some d,.makeSlice T x y,ty,pos,ah,gd⟩,⟨XH ops gd++[(x,.d (.v (.int k1 m))),(y,.d (.v (.int k2 m')))],some (d,.own γ n),[(γ,.dead)],[(γ,.row sz (replicate n (zD zs)))],[γ]⟩)::l) ((S.set d (.own γ n)).own γ (.row sz (replicate n (zD zs))))):
  Walk P ops draw K (⟨some d,.makeSlice T x y,ty,pos,ah,gd⟩::rest) l S:=by
 refine Yq h hg (X3H rfl fun E S g a w hs hq hl' hn'=> ?_) ⟨⟨hx,hy,TV⟩,⟨av,TV⟩,⟨hf,TV⟩,hd⟩;obtain⟨e,he⟩:=Xmv (P:=P) hT hz (by simpa using hroom) (by simpa using hn) k1 k2 w;have hzl:J zs=sz:=by simpa using hl
 have hlen:∀x∈replicate n (zD zs),J x=sz:=fun x hx=>by grind [XbS]
 have hs1:=Xfx (g:=g) h1 n;have bh:=V6 hs1;rw[LM,X2m _ hlen,length_replicate] at bh;have hinv:=Xe7 hs.1 γ hn'.1 hl'.1 (vs:=(VC zs n).toArray) (e:=e) (fr:=(0,0)) (cap:=n) hlen (by
  grind) (by simp) (by unfold maxLen;omega) (by grind) (X6J _)
 rw[length_replicate] at hinv;exact⟨_,_,_,by simp only[execOp,Sem.run_bind,Uy hq.1,Uy hq.2.1,hm,hm',he];rfl,X9Q (w:=w),hinv,X44 hn'.1 hs.2.2.2⟩
def X9y (S:St):Option Operand->Nat->Prop
 |none,l=>l=0
 |some x,l=>S.ev x=ai l
def Xac (S:St) (len:Nat):Option Operand->Nat->Prop
 |none,h=>h=len
 |some x,h=>S.ev x=ai h
def X2T:Option Operand->Nat->List (Operand×AVal)
 |none,_=>[]
 |some x,n=>[(x,ai n)]
theorem Xju:∀{l m:List (Operand×AVal)},VK g a (l++m)↔VK g a l/\VK g a m
 :=by intro x;induction x<;>simp_all [VK,and_assoc]
def XnA {S:St}{l m:List (Operand×AVal)}:X1U S (l++m)↔X1U S l/\X1U S m:=by
 simp only[X5n,mem_append]
 grind
def Xf0 {l h:Nat}{cy:Bool} (h1:lo=none->l=0) (h2:hi=none->h=len) (hlo:VK g a (X2T lo l)) (hhi:VK g a (X2T hi h)) (cg:l<=h) (hc:h<=cap) (w:World):
  (Instr.sliceBounds cy len cap (lo.map a.eval) (hi.map a.eval) none).run P w= .ok (l,h,cap) w:=by
 cases lo with
 |none=>
  have:=h1 rfl;subst this;cases hi with
  |none=>simp_all [Instr.sliceBounds]
  |some y=>
   have e2:=Uy hhi.1;simp_all [Instr.sliceBounds,run_sliceBound]
 |some x=>
  have e1:=Uy hlo.1;cases hi with
  |none=>simp_all [Instr.sliceBounds,run_sliceBound]
  |some y=>
   have e2:=Uy hhi.1;simp_all [Instr.sliceBounds,run_sliceBound]
def Xd7 {S:St}{l:Nat} (h:∀x,lo=some x->S.ev x=ai l):X1U S (X2T lo l):=by
 cases lo<;>simp_all [X1U,X2T]
def XhZ {T:TypeId} (hx:S.ev x= .d (.sl sz xs)) (hlo:X9y S lo lb) (hhi:Xac S (J xs) hi hb) (cg:lb<=hb) (hh:hb<=J xs)
  (hT:UT P T sz=true) (hd:Nat.blt d S.n=true) (hg:XL ops S gd)
  (h:Walk P ops draw K rest ((J l,⟨some d,.slice T x lo hi none,ty,pos,ah,gd⟩,⟨XH ops gd++((x,.d (.sl sz xs))::(X2T lo lb++X2T hi hb)),some (d,.d (.sl sz ((xs.take hb).drop lb))),[],[],[]⟩)::l) (S.set d (.d (.sl sz ((xs.take hb).drop lb))))):
  Walk P ops draw K (⟨some d,.slice T x lo hi none,ty,pos,ah,gd⟩::rest) l S:=by
 refine Yq h hg (Uk rfl fun E S g a w hs hq hl=> ?_) ⟨⟨hx,XnA.2 ⟨Xd7 fun y e=>by subst e;exact hlo,Xd7 fun y e=>by subst e;exact hhi⟩⟩,TV,TV,hd⟩;obtain⟨e,h1,h2,h3⟩:=X29 hT;obtain⟨aN,bJ⟩:=hq;rw[Xju] at bJ;simp only[AVal.sat,D.rep] at aN;obtain⟨b,cap,hv,c1,c2,c3⟩:=aN;have hbd:=Xf0 (P:=P) (cy:=true) (len:=J xs) (cap:=cap) (fun e=>by subst e;exact hlo) (fun e=>by subst e;exact hhi) bJ.1 bJ.2 cg (Nat.le_trans hh c1) w;have hrun:=run_slice_any (P:=P) w T b (J xs) cap (by rw[h3];exact h1) (lo.map a.eval) (hi.map a.eval) none;rw[hbd,Result.andThen_ok,h3,h2 w,Result.andThen_ok] at hrun;have aY:(Instr.sliceAt T (.slice b (J xs) cap) (lo.map a.eval) (hi.map a.eval) none)=Instr.slice T (.slice b (J xs) cap) (lo.map a.eval) (hi.map a.eval) none\/True:= .inr trivial;refine⟨sliced b lb hb cap sz,?_,?_⟩
 ·simp_all [execOp,Instr.sliceAt,run_underlying]
 grind [AVal.sat,D.rep,sliced,Xbk,Xaf,Vq]
def Xs6 {xt yt:TypeId} (hx:S.ev x= .d (.sl sz xs)) (ht:cy P xt=true) (hd:Nat.blt d S.n=true) (hg:XL ops S gd)
  (h:Walk P ops draw K rest ((J l,⟨some d,.binOp .eql xt x (.const (.slice none 0 0)) yt,ty,pos,ah,gd⟩,⟨XH ops gd++[(x,.d (.sl sz xs))],some (d,.bq (xs=[]) True),[],[],[]⟩)::l) (S.set d (.bq (xs=[]) True))):
  Walk P ops draw K (⟨some d,.binOp .eql xt x (.const (.slice none 0 0)) yt,ty,pos,ah,gd⟩::rest) l S:=
 Yq h hg (Uk rfl fun E S g a w hs hq hl=>by
  have aN:=hq.1;simp only[AVal.sat,D.rep] at aN;obtain⟨b,cap,hv,c1,c2,c3⟩:=aN;refine⟨.bool b.isNone,?_,?_⟩
  ·obtain⟨e,he⟩:=X5R ht;have e1:eqGuard .eql xt x (.const (.slice none 0 0)) (.slice b (J xs) cap) (.slice none 0 0)=pure ():=eqGuard_at_slice _ _ _ _ _ _ _ _;simp only[execOp,hv,show a.eval (.const (.slice none 0 0))= .slice none 0 0 from rfl,e1,Sem.run_bind,Sem.run_pure,Result.andThen_ok,Lib.run_eql_slice_nil w xt e b (J xs) cap 0 0 he]
  grind [AVal.sat]) ⟨⟨hx,TV⟩,TV,TV,hd⟩
def Xe (t:Nat) {y:AVal} (h:(S.get t).le y):S.le (S.set t (y)):=by
 rintro E a w ⟨g,hs⟩;refine X4B hs hs.1 rfl fun k=> ?_
 grind [YK,YC,St.get,St.set,AVal.le,Vr]
def XrH (γ b9:Nat) (hL:S.obj γ= .row 1 []):S.le (S.own γ (.mat b9 [])):=by
 rintro E a w ⟨g,hs⟩;have ho:=hs.1.obj γ;rw[hL] at ho;have hi:Inv E (Xs .dead ((γ,.mat b9 [])::S.L)) g w:=by
  refine Inv.upd hs.1 γ _ (YK _ _ _ _) (fun k hk=>YC _ _ _ (Ne.symm hk)) (fun _ _ _=>rfl) (Nat.le_refl _) rfl rfl rfl (fun _ _=>⟨rfl,rfl,rfl⟩) (fun _ _ _ _ _ h=>h) ?_ (fun b hb=> .inl ?_) (fun _=>Gh.keeps_refl _ _)
  ·refine⟨?_,by simp,by simp⟩;rcases ho.2 with ⟨h1,_⟩|⟨b,cap,vs,e,fr,h1,h2,h3,h4,h5,h6,h7⟩
   ·grind
   ·exact .inr ⟨b,cap,vs,e,fr,h1,h2,h3,h4,h5,by simpa using h6,by simp,by simp⟩
  grind [Xw]
 exact X4B hs hi rfl hs.2.2.2
theorem Xgy (hr:UZ g w h sz xs) {M':Mem} (hM:YN g.M M') (hc:∀b o,U0 h b->M' ⟨b,o,none⟩=w.cell? ⟨b,o,none⟩):(D.sl sz xs).rep M' h:=by
 simp only[D.rep];rcases hr.2 with ⟨h1,rfl⟩|⟨b,cap,vs,e,fr,h1,h2,h3,h4,h5,h6,h7⟩
 ·grind
 ·refine⟨_,cap,h1,h2,h3,.inr ⟨b,0,rfl,X7O xs 0 hr.1 fun i d hd=> ?_⟩⟩;obtain⟨hl,dM⟩:=X7r h7
  grind [D.rep_mono,cell_of_row,U0]
open Classical in
noncomputable def X0h (g:Gh) (w:World) (x:AObj) (γ:Nat):Mem:=fun p=>if p.spot=none/\Xw g x γ p.block then w.cell? p else g.M p
def XmQ (hi:Inv E S.obj g w) {γ sz:Nat}{xs:List (List D)} (cQ:(D.sl sz xs).rep (X0h g w (S.obj γ) γ) (g.hd γ)):
  YN g.M (X0h g w (S.obj γ) γ)/\Inv E (Xs .dead ((γ,.froz sz xs)::S.L)) {g with M:=X0h g w (S.obj γ) γ} w:=by
 have hle:YN g.M (X0h g w (S.obj γ) γ):=by
  intro a v h;unfold X0h;rw[NI (fun hc=>hi.sep γ _ hc.2 a v h rfl)];exact h
 refine⟨hle,?_⟩;have ki:∀a v,X0h g w (S.obj γ) γ a=some v->g.M a=some v\/(w.cell? a=some v/\Xw g (S.obj γ) γ a.block):=by
  grind [X0h]
 have eG:∀k,Xs .dead ((γ,.froz sz xs)::S.L) k=if k=γ then .froz sz xs else S.obj k:=by
  grind [YK,YC,St.obj]
 have hlv:∀k b,Xw {g with M:=X0h g w (S.obj γ) γ} (Xs .dead ((γ,.froz sz xs)::S.L) k) k b->k≠γ/\Xw g (S.obj k) k b:=by
  grind [X5l,Xw]
 refine⟨fun k=> ?_,fun k k' b h h'=>hi.inj k k' b (hlv _ _ h).2 (hlv _ _ h').2,fun a v h=> ?_,fun k b h a v ha=> ?_,fun k b h=>hi.new k b (hlv _ _ h).2,hi.ext.trans hle,fun a v h=> ?_,hi.frame,hi.size,hi.os,hi.out,fun k hk=>(hi.kp k hk).trans' (Gh.keeps_of rfl rfl rfl)⟩
 ·rw[eG];by_cases hk:k=γ
  ·grind [Ud]
  ·rw[NI hk];exact Xe5 (g:=g) (g':={g with M:=X0h g w (S.obj γ) γ}) hle rfl rfl rfl (fun _ _=>rfl) (hi.obj k)
 ·rcases ki a v h with h1|h1
  ·exact hi.mem a v h1
  ·exact h1.1
 ·obtain⟨hk,hb⟩:=hlv k b h;rcases ki a v ha with h1|h1
  ·exact hi.sep k b hb a v h1
  ·intro e;rw[e] at h1;exact hk (hi.inj _ _ _ hb h1.2)
 ·rcases ki a v h with h1|h1
  ·exact hi.lim a v h1
  ·exact .inr (hi.new γ _ h1.2)
def Xqr (γ:Nat) {b9:Nat}{rows:List (List (List D))} (hL:S.obj γ= .mat b9 rows):S.le (S.own γ (.froz 1 (rows.map fun r=>[.sl b9 r]))):=by
 rintro E a w ⟨g,hs⟩;have ho:=hs.1.obj γ;rw[hL] at ho;have hle:YN g.M (X0h g w (S.obj γ) γ):=by
  intro a v h;unfold X0h;rw[NI (fun hc=>hs.1.sep γ _ hc.2 a v h rfl)];exact h
 have hcell:∀b o,Xw g (S.obj γ) γ b->X0h g w (S.obj γ) γ ⟨b,o,none⟩=w.cell? ⟨b,o,none⟩:=by
  grind [X0h]
 have cQ:(D.sl 1 (rows.map fun r=>[D.sl b9 r])).rep (X0h g w (S.obj γ) γ) (g.hd γ):=by
  obtain⟨h1,h2,h3⟩:=ho;simp only[D.rep,LM];rcases h1 with ⟨e,rfl⟩|⟨b,cap,vs,e,fr,k1,k2,k3,k4,k5,k6,k7,k8⟩
  ·grind
  ·refine⟨_,cap,k1,k2,k3,.inr ⟨b,0,rfl,X7O _ 0 (by simp) fun i d hd=> ?_⟩⟩;have hfl:(rows.map fun r=>[D.sl b9 r]).flatten=rows.map fun r=>D.sl b9 r:=by
    clear hd h2 h3 k1 k2 k7 k8 hL;induction rows<;>simp_all
   grind [Xgy,cell_of_row,Xw,U0]
 obtain⟨_,hi⟩:=XmQ hs.1 cQ;exact X4B hs hi rfl fun t=>X3R (g:=g) (g':={g with M:=X0h g w (S.obj γ) γ}) hle rfl rfl rfl (hs.2.2.2 t)
def XnK {T:TypeId} (aT:parts.toList=pl)
  (hps:evL S pl=ps) (hz:X34 P T=some zs) (hS:J zs=sz) (hT:UT P T sz=true) (cE:X1Q (VC zs len)=true) (hsmall:Nat.ble (len*sz) 16777216=true)
  (hout:X4z (fun i=>some (i*sz,sz)) (dvL (VC zs len)) ps=some out) (hc:X31 out=true) (hm:X0y γ out=false) (av:S.obj γ= .dead) (hf:S.free γ=true) (hd:Nat.blt d S.n=true) (hg:XL ops S gd)
  (h:Walk P ops draw K rest ((J l,⟨some d,.buildSlice T len parts,ty,pos,ah,gd⟩,⟨XH ops gd++X3d pl ps,some (d,.bsl γ len),[(γ,.dead)],[(γ,.box out)],[γ]⟩)::l) ((S.set d (.bsl γ len)).own γ (.box out))):
  Walk P ops draw K (⟨some d,.buildSlice T len parts,ty,pos,ah,gd⟩::rest) l S:=by
 have hkeys:ps.map (·.1)=pl.map (·.1):=by grind [XbO]
 have hrd:X1U S (X3d pl ps):=by grind [Xby]
 refine Yq h hg (X3H rfl fun E S g a w hs hq hl hn=> ?_) ⟨hrd,⟨av,TV⟩,⟨hf,TV⟩,hd⟩;obtain⟨us,k1,k2⟩:=XbV (vs:=(VC zs len).toArray) hkeys hq (by grind [XaF]) hout;have aU:len*sz<=16777216:=by simpa using hsmall
 obtain⟨e,he⟩:=Xjd (P:=P) (T:=T) (len:=len) (parts:=parts.map fun p=>(p.1,a.eval p.2)) hT hz hS aU (by
  have:(parts.map fun p=>(p.1,a.eval p.2)).toList=pl.map fun p=>(p.1,a.eval p.2):=by simp[aT]
  rw[this];exact k1) w
 refine⟨.slice (some ⟨w.heap.size,0,none⟩) len len,X4f g w γ,w.alloc (.cells us e),by simp_all [execOp],by simp[AVal.sat,X4f,Gh.put],XdJ hs.1 γ hn.1 hl.1 e k2 hm ((X6a _).1 hc),X44 hn.1 hs.2.2.2⟩
def Gh.reinn (g:Gh) (γ i:Nat) (h v:Value):Gh:={az:=g.az,hd:=fun k=>if k=γ then h else g.hd k,aI:=fun k j=>if k=γ/\j=i then v else g.aI k j,M:=g.M}
def Xta (hs:Vr E S g a w) {γ β aH b9 bytes n:Nat}{rows:List (List (List D))}{r:List (List D)} (hL:S.obj γ= .mat b9 rows) (kn:S.obj β= .box [.own aH n])
  (h2:S.obj aH= .row b9 r) (hn:n=J r) {T T2 ty:TypeId} (hT:X1w P T 1 bytes=true) (bN:X4r P T2=true) (hb0:bytes≠0) (hroom:(J rows+1)*bytes<=2^47):
  ∃v g' w',(Builtin.append_ #[T,T2] ty #[g.hd γ,.slice (some ⟨g.az β,0,none⟩) 1 1]).run P w= .ok v w'/\(AVal.own γ (J rows+1)).sat g' v/\
   Inv E (Xs .dead ((γ,.mat b9 (rows++[r]))::(aH,.dead)::S.L)) g' w'/\∀t,(S.get t).sat g' (a.tmps.getD t undef):=by
 obtain⟨e,i,z,hu,hi,hsz,gI,hz,hzs,cE⟩:=X6x hT;have fF:=Xfp bN;have hne:aH≠γ:=by grind
 have gX:=hs.1.obj β;rw[kn] at gX;obtain⟨bv,be,vg,gj,ej,jv,vh⟩:=gX;obtain⟨v0,hv0,jw⟩:=X07 jv 0 _ rfl;have bx:=V6 jv;have hro:=hs.1.obj aH;rw[h2] at hro;have qM:v0=g.hd aH:=X41 jw hro hn;subst qM;have vi:bv= #[g.hd aH]:=by
  grind
 have ko:(g.hd aH).oneCell'=true:=AVal.sat_one rfl jw;have hsrc:Src P w 1 (.slice (some ⟨g.az β,0,none⟩) 1 1) 1 #[g.hd aH]:=by
  refine⟨fun w' hw'=>⟨by simp[Builtin.lenOf],?_⟩,by simp⟩;have:=run_loadCells_list (P:=P) w' ⟨g.az β,0,none⟩ [g.hd aH] (fun j v hv=>by
   grind [Vq,cell_of_row])
  grind [Builtin.firstCells]
 have hi1:Inv E (Xs .dead ((aH,.dead)::S.L)) g w:=hs.1.sub fun k=>by
  grind [Xs,St.obj]
 have ek:Xs .dead ((aH,.dead)::S.L) γ= .mat b9 rows:=by grind [YC,St.obj]
 have ho:=hs.1.obj γ;rw[hL] at ho;obtain⟨ho,hin,hdist⟩:=ho;have hfree:∀c,U0 (g.hd aH) c->(∀k,¬Xw g (Xs .dead ((aH,.dead)::S.L) k) k c)/\(∀a v,g.M a=some v->a.block≠c)/\(E.W.heap.size<=c\/E.A c):=by
  intro c hc;have bM:Xw g (S.obj aH) aH c:=by rw[h2];exact hc
  refine⟨fun k hk=> ?_,fun a v ha=>hs.1.sep aH c bM a v ha,hs.1.new aH c bM⟩;by_cases b8:k=aH
  ·grind [YK,Xw]
  ·rw[YC _ _ _ (Ne.symm b8)] at hk;exact b8 (hs.1.inj _ _ _ hk bM)
 have fin:∀(a0:Option Addr) (c0 b cap':Nat) (vs':Array Value) (e':TypeId) (fr:Nat×Nat) (w':World),
   g.hd γ= .slice a0 (J rows) c0->
   (∀k,k<w.heap.size->¬U0 (g.hd γ) k->w'.heap[k]? =w.heap[k]?)->w.heap.size<=w'.heap.size->w'.os=w.os->w'.output=w.output->
   w'.heap[b]? =some (.cells vs' e' fr)->X4A fr vs'.size->J rows+1<=cap'->cap'<=maxLen->cap'<=vs'.size->
   (∀j,j<J rows->vs'[j]? =some (g.aI γ j))->vs'[J rows]? =some (g.hd aH)->(U0 (g.hd γ) b\/w.heap.size<=b)->
   let g':=g.reinn γ (J rows) (.slice (some ⟨b,0,none⟩) (J rows+1) cap') (g.hd aH)
   (AVal.own γ (J rows+1)).sat g' (.slice (some ⟨b,0,none⟩) (J rows+1) cap')/\
   Inv E (Xs .dead ((γ,.mat b9 (rows++[r]))::(aH,.dead)::S.L)) g' w'/\∀t,(S.get t).sat g' (a.tmps.getD t undef):=by
  intro a0 c0 b cap' vs' e' fr w' cN bg hsize hos hout hb oU hcap eF hcs hcells lX hlv g';have hk:∀k,g.keeps g' k:=by
   intro k;by_cases b8:k=γ
   ·subst b8;refine⟨rfl,.inr ⟨a0,_,c0,some ⟨b,0,none⟩,J rows+1,cap',cN,by simp[g',Gh.reinn],by omega⟩,fun j a m c he hj=> ?_⟩
    grind [Gh.reinn]
   grind [Gh.keeps_of,Gh.reinn]
  have hM:YN g.M g'.M:=YN.refl _;have oT:∀j,j<J rows->g'.aI γ j=g.aI γ j:=fun j hj=>by grind [Gh.reinn]
  have qN:g'.aI γ (J rows)=g.hd aH:=by simp[g',Gh.reinn]
  have hold:∀c,(∃j,j<J rows/\U0 (g.aI γ j) c)->w'.heap[c]? =w.heap[c]?/\¬U0 (g.hd γ) c:=by
   rintro c ⟨j,hj,hc⟩;have hnb:¬U0 (g.hd γ) c:=by
    grind [U0]
   exact⟨bg c (X9g (hin j _ (getElem?_eq_getElem hj)) hc) hnb,hnb⟩
  have hnew2:∀c,U0 (g.hd aH) c->w'.heap[c]? =w.heap[c]?/\¬U0 (g.hd γ) c:=by
   grind [X9g,Ud,Xw]
  refine⟨?_,?_,fun t=>AVal.sat_mono hM _ _ (fun k _=>hk k) (hs.2.2.2 t)⟩
  ·simp only[AVal.sat];exact⟨rfl,some ⟨b,0,none⟩,J rows+1,cap',by simp[g',Gh.reinn],Nat.le_refl _,fun _=>rfl⟩
  ·refine Inv.updX hi1 γ _ (YK _ _ _ _) (fun k b8=>YC _ _ _ (Ne.symm b8)) (fun k aG ax=>bg k aG (fun h=>ax (by grind [Xw]))) hsize hos hout rfl
    (fun k b8=>⟨rfl,by grind [Gh.reinn],by grind [Gh.reinn]⟩)
    (fun k cs us _ _ h=>X22 hM _ _ (fun k _=>hk k) h) ?_ (fun c hc=> ?_) (fun _=>hk γ)
   ·refine⟨.inr ⟨b,cap',vs',e',fr,by simp[g',Gh.reinn],by simpa using hcap,eF,hb,oU,hcs,fun j hj=> ?_,fun j hj vj=> ?_⟩,fun j q hq=> ?_,fun j k c hj hk' vm hkc=> ?_⟩
    ·grind
    ·simp at hj
     grind
    ·by_cases hjl:j<J rows
     ·grind [X4M]
     ·have sV:j=J rows:=by
       grind
      subst sV;simp at hq;subst hq;rw[qN];exact X4M hM (fun c hc=>(hnew2 c hc).1) hro
    ·simp at hj hk';by_cases hjl:j<J rows<;>by_cases aG:k<J rows<;>grind [Xw]
   ·rw[ek];rcases hc with hc|⟨j,hj,hc⟩
    ·simp only[g',Gh.reinn,if_true] at hc;obtain⟨a1,n1,c1,e1,rfl⟩:=hc
     grind [Xw]
    ·simp at hj;by_cases hjl:j<J rows<;>grind [Xw]
 have dy:J rows+1<2^63:=by
  have:J rows+1<=(J rows+1)*bytes:=Nat.le_mul_of_pos_right _ (by omega);omega
 have gi:∀cap,J rows+1>cap->Builtin.nextslicecap (J rows+1) cap*i.bytes<=2^48:=by
  intro cap hc;have h1:=nextslicecap_le (need:=J rows+1) (old:=cap) hc;have h2:Builtin.nextslicecap (J rows+1) cap*i.bytes<=2*(J rows+1)*i.bytes:=Nat.mul_le_mul_right _ h1
  grind
 have grow:∀(base:Option Addr) (c0:Nat) (olds:Array Value),g.hd γ= .slice base (J rows) c0->¬J rows+1<=c0->(∀w':World,w'.heap=w.heap->(Builtin.firstCells i.size (J rows) (.slice base (J rows) c0)).run P w'= .ok olds w')->
   olds.size=J rows->(∀j,j<J rows->olds[j]? =some (g.aI γ j))->
   ∃v g' w',(Builtin.append_ #[T,T2] ty #[g.hd γ,.slice (some ⟨g.az β,0,none⟩) 1 1]).run P w= .ok v w'/\(AVal.own γ (J rows+1)).sat g' v/\
    Inv E (Xs .dead ((γ,.mat b9 (rows++[r]))::(aH,.dead)::S.L)) g' w'/\∀t,(S.get t).sat g' (a.tmps.getD t undef):=by
  intro base c0 olds cN hc oV qO qP
  have hr:=Xb7 (P:=P) (w:=w) (T:=T) (T2:=T2) (ty:=ty) (base:=base) (n:=J rows) (cap:=c0) (m:=1) (olds:=olds) (news:= #[g.hd aH]) hu hi hz fF (by rw[gI];exact hb0)
   (by rw[hsz];exact hsrc) oV hc (gi c0 (by omega))
  obtain⟨c1,c2⟩:=XaW (J rows+1) c0 e (w.tape w.drawn (.appendCap (J rows+1) c0 e)) dy;revert hr c1 c2;generalize (Question.appendCap (J rows+1) c0 e).cut (w.tape w.drawn (.appendCap (J rows+1) c0 e))=nc;intro hr c1 c2
  have:=fin base c0 w.heap.size nc (olds++ #[g.hd aH]++Builtin.zeroCells z.cells (nc-(J rows+1))) e (0,0) _ cN
   (fun k hk _=>X4V w.drew _ k hk) (X7q w.drew _) rfl rfl (heap_alloc_new w.drew _) (X6J _) c1 c2
   (by grind [X79])
   (fun j hj=>by grind)
   (by rw[Array.append_assoc,Array.getElem?_append_right (by omega),qO,Nat.sub_self];grind [Array.getElem?_append_left]) (.inr (Nat.le_refl _))
  grind
 rcases ho with ⟨eE,rfl⟩|⟨b,cap,vs,e',fr,h1,dr,h3,h4,h5,h6,h7,h8⟩
 ·exact grow none 0 #[] eE (by simp) (fun w' _=>by simp[Builtin.firstCells]) rfl (by simp)
 ·by_cases hc:J rows+1<=cap
  ·have hr:=Xap (P:=P) (w:=w) (T:=T) (T2:=T2) (ty:=ty) (base:=some ⟨b,0,none⟩) (n:=J rows) (cap:=cap) (m:=1) (news:= #[g.hd aH]) hu hi fF (by rw[hsz];exact hsrc) hc;obtain⟨vs',k1,k2⟩:=X6W (P:=P) b e' fr vs.size h5 [g.hd aH] (J rows) 0 vs w h4 rfl (by simp;omega) (by simpa using ko);simp only[Nat.add_zero,length_singleton] at k2;simp only at hr;rw[show (⟨b,0,none⟩:Addr).add (J rows*i.size)=⟨b,J rows,none⟩ by rw[Vq,hsz];simp] at hr;simp only[k1,Result.andThen_ok] at hr;have cP:vs'.size=vs.size:=by
    have:=CG length k2;simp at this;omega
   have aY:∀j,vs'[j]? =(vs.toList.take (J rows)++[g.hd aH]++vs.toList.drop (J rows+1))[j]? :=fun j=>by rw[<-k2];exact Array.getElem?_toList.symm
   have:=fin (some ⟨b,0,none⟩) cap b cap vs' e' fr (w.setRow b vs') h1
    (fun k hk hne=>setRow_other w b k vs' (fun e=>hne (by grind [U0]))) (by simp) rfl rfl (setRow_heap w b vs _ e' fr h4) (by rw[cP];exact h5) hc h3 (by rw[cP];exact h6)
    (fun j hj=>by
     rw[aY,AS,getElem?_append_left (by simp;omega),getElem?_take,PI hj]
     grind)
    (by
     have hl:J (vs.toList.take (J rows))=J rows:=by simp;omega
     rw[aY,AS,getElem?_append_right (by omega),hl];simp) (.inl ⟨_,_,_,h1,rfl⟩)
   grind
  ·refine grow (some ⟨b,0,none⟩) cap (vs.toList.take (J rows)).toArray h1 hc (fun w' hw'=> ?_) (by simp;omega) (fun j hj=> ?_)
   ·have hl:J (vs.toList.take (J rows))=J rows:=by simp;omega
    have:=run_loadCells_list (P:=P) w' ⟨b,0,none⟩ (vs.toList.take (J rows)) (fun j v hv=>by
     grind [Vq,cell_of_row])
    rw[hl] at this;simp only[Builtin.firstCells,hsz,Nat.mul_one];exact this
   grind
theorem Xq3 (h:Ud g w γ (.mat b9 rows)):∃b c,g.hd γ= .slice b (J rows) c:=by
 rcases h.1 with ⟨e,rfl⟩|⟨b,cap,vs,e',fr,e,_⟩<;>simp_all
def Xki (h:(AVal.own γ n).sat g v) (ho:Ud g w γ (.mat b9 rows)) (hn:n=J rows):v=g.hd γ:=by
 grind [AVal.sat,Xq3]
def XpY {T T2:TypeId}{β aH n2:Nat} (hx:S.ev x= .own γ n) (hL:S.obj γ= .mat b9 rows) (hy:S.ev y= .bsl β 1) (kn:S.obj β= .box [.own aH n2]) (h2:S.obj aH= .row b9 r)
  (hn:n=J rows) (hn2:n2=J r) (hB:elB P T=bytes) (hT:X1w P T 1 bytes=true) (bN:X4r P T2=true) (hb0:Nat.beq bytes 0=false) (hroom:(J rows+1)*bytes<=140737488355328)
  (hd:Nat.blt d S.n=true) (hg:XL ops S gd)
  (h:Walk P ops draw K rest ((J l,⟨some d,.call ⟨.builtin .append,#[x,y],#[T,T2]⟩,ty,pos,ah,gd⟩,⟨XH ops gd++[(x,.own γ n),(y,.bsl β 1)],some (d,.own γ (J rows+1)),[(γ,.mat b9 rows),(β,.box [.own aH n2]),(aH,.row b9 r)],[(γ,.mat b9 (rows++[r])),(aH,.dead)],[]⟩)::l)
   (((S.set d (.own γ (J rows+1))).own aH .dead).own γ (.mat b9 (rows++[r])))):
  Walk P ops draw K (⟨some d,.call ⟨.builtin .append,#[x,y],#[T,T2]⟩,ty,pos,ah,gd⟩::rest) l S:=by
 refine Yq h hg ?_ ⟨⟨hx,hy,TV⟩,⟨hL,kn,h2,TV⟩,TV,hd⟩;intro E S a w g hs hok Q K hK;obtain⟨dL,⟨l1,l2,l3,_⟩,_,dz⟩:=hok;have hq:=X1K hs _ dL;have ho:=hs.1.obj γ;rw[l1] at ho;have hv:=Xki hq.1 ho hn;have hy':a.eval y= .slice (some ⟨g.az β,0,none⟩) 1 1:=by grind [AVal.sat,VK]
 obtain⟨v,g',w',r1,r2,r3,r4⟩:=Xta hs l1 l2 l3 hn2 (ty:=ty) hT bN (X5L hb0) (by simpa using hroom);have hrun:=X7o (P:=P) (ρ:=a.eval) (o:=⟨some d,.call ⟨.builtin .append,#[x,y],#[T,T2]⟩,ty,pos,ah,gd⟩) rfl (by rw[hv,hy'];exact r1)
 grind [Oper.wp,Oper.upon_value,X2f,Vr,Cert.app,X4K]
def Xum {T:TypeId}{m:Int} (hx:S.ev x= .own γ n) (hL:S.obj γ= .mat b9 rows) (hi:S.ev i= .d (.v (.int kd m))) (hn:n=J rows) (hk:m=(k:Nat)) (hlt:k<J rows)
  (hT:UT P T 1=true) (hd:Nat.blt d S.n=true) (hg:XL ops S gd)
  (h:Walk P ops draw K rest ((J l,⟨some d,.indexAddr T x i,ty,pos,ah,gd⟩,⟨XH ops gd++[(x,.own γ n),(i,.d (.v (.int kd m)))],some (d,.mptr γ n k),[(γ,.mat b9 rows)],[],[]⟩)::l) (S.set d (.mptr γ n k))):
  Walk P ops draw K (⟨some d,.indexAddr T x i,ty,pos,ah,gd⟩::rest) l S:=
 Yq h hg (Uk rfl fun E S g a w hs hq hl=>by
  obtain⟨e,h1,h2,h3⟩:=X29 hT;have ho:=hs.1.obj γ;rw[hl.1] at ho;have hv:=Xki hq.1 ho hn;rcases ho.1 with ⟨e,rfl⟩|⟨b,cap,vs,e',fr,hh,_⟩
  ·simp at hlt
  ·rw[hh] at hv;refine⟨.pointer (some ⟨b,k,none⟩),?_,?_⟩
   ·have hb:(0:Int)<=m/\m<(J rows:Int):=by omega
    have hm:m.toNat=k:=by omega
    have:=run_indexAt_slice (P:=P) w T ⟨b,0,none⟩ (J rows) cap kd m (by rw[h3];exact h1);rw[PI hb,h3,h2 w,Result.andThen_ok,Vq,hm,Nat.mul_one,Nat.zero_add] at this;simp only[execOp,hv,Uy hq.2.1,Sem.run_bind,this];rfl
   ·simp only[AVal.sat];exact⟨rfl,_,_,_,hh,by omega,fun _=>⟨_,rfl,rfl⟩⟩) ⟨⟨hx,hi,TV⟩,⟨hL,TV⟩,TV,hd⟩
def Xv4 {t:TypeId} (hx:S.ev x= .mptr γ n k) (hL:S.obj γ= .mat b9 rows) (hn:n=J rows) (hlt:k<J rows)
  (ht:X1u P t false 1=true) (hd:Nat.blt d S.n=true) (hg:XL ops S gd)
  (h:Walk P ops draw K rest ((J l,⟨some d,.load t x,ty,pos,ah,gd⟩,⟨XH ops gd++[(x,.mptr γ n k)],some (d,.inn γ k),[(γ,.mat b9 rows)],[],[]⟩)::l) (S.set d (.inn γ k))):
  Walk P ops draw K (⟨some d,.load t x,ty,pos,ah,gd⟩::rest) l S:=
 Yq h hg (Uk rfl fun E S g a w hs hq hl=>by
  have ho:=hs.1.obj γ;rw[hl.1] at ho;have aN:=hq.1;simp only[AVal.sat] at aN;obtain⟨_,a',m,c,q1,q2,q3⟩:=aN;rcases ho.1 with ⟨e,rfl⟩|⟨b,cap,vs,e',fr,hh,k2,k3,k4,k5,k6,k7,k8⟩
  ·simp at hlt
  ·rw[hh] at q1;cases q1;obtain⟨b',e1,e2⟩:=q3 hn;cases e1;have hc:w.cell? ⟨b,k,none⟩=some (g.aI γ k):=by grind [cell_of_row]
   have hone:(g.aI γ k).oneCell'=true:=by
    have:=(ho.2.1 k _ (getElem?_eq_getElem hlt)).2;rcases this with ⟨e,_⟩|⟨_,_,_,_,_,e,_⟩<;>rw[e]<;>rfl
   refine⟨g.aI γ k,?_,by grind [AVal.sat]⟩;simp_all [execOp,Instr.loadAt,Instr.sureAddr,X8P]) ⟨⟨hx,TV⟩,⟨hL,TV⟩,TV,hd⟩
def Xgh {P:Program}{L:Nat->AObj} (hi:Inv E L g w) {sz m:Nat}{ys:List (List D)}{x:Value} (h:(D.sl sz ys).rep g.M x) (hm:m<=J ys):
  ∃news,(Builtin.firstCells sz m x).run P w= .ok news w/\news.size=m*sz/\Xy g ((ys.take m).flatten.map .d) news.toList/\(Builtin.lenOf x).run P w= .ok (J ys) w/\∀y∈ys.take m,J y=sz:=by
 simp only[D.rep] at h;obtain⟨a,cap,rfl,h2,h3,h4⟩:=h;rcases h4 with rfl|⟨b,o,rfl,hr⟩
 ·have:m=0:=by simpa using hm
  subst this;refine⟨#[],?_,by simp,by simp[Xy],by simp[Builtin.lenOf],by simp⟩;cases a<;>simp_all [Builtin.firstCells,loadCells,loadCellsFrom]
 ·have hr':=Xaf hr m;obtain⟨vs,k1,k2,k3⟩:=Xcu hi.mem _ b o hr';have hl:∀y∈ys.take m,J y=sz:=fun y hy=>by
   obtain⟨i,hi⟩:=getElem?_of_mem hy;exact(X6o _ b o i y hr' hi).1
  have hlen:J (ys.take m)=m:=by simp;omega
  rw[hlen] at k1;refine⟨vs.toArray,?_,by simp[k1],?_,by simp[Builtin.lenOf],hl⟩<;>grind [run_loadCells_list,Vq,Builtin.firstCells,X4k,X2m,AVal.sat]
def Xg1:∀(zs:List (List D)) (n:Nat),(∀z∈zs,J z=sz)->n<=J zs->(zs.take n).flatten=zs.flatten.take (n*sz)/\(zs.drop n).flatten=zs.flatten.drop (n*sz)
 |[],n,_,hn=>by simp
 |z::zs,0,_,_=>by simp
 |z::zs,n+1,hz,hn=>by
  have hzl:=hz z (by simp);obtain⟨i1,i2⟩:=Xg1 zs n (fun q hq=>hz q (by simp[hq])) (by simpa using hn);have e:(n+1)*sz=J z+n*sz:=by rw[hzl,Nat.add_mul];omega
  constructor
  ·rw[take_succ_cons,flatten_cons,flatten_cons,i1,e,take_length_add_append]
  ·rw[drop_succ_cons,flatten_cons,i2,e,drop_length_add_append]
theorem XlM {α:Type}{A N:List α}{a L:Nat} (hN:J N=m) (h1:a+m<=L) (h2:L<=J A):
  (A.take a++N++A.drop (a+m)).take L=(A.take L).take a++N++(A.take L).drop (a+m):=by
 apply ext_getElem?;intro j;simp only[getElem?_take,getElem?_append,getElem?_drop,LA,LT,hN]
 grind
def XcM {P:Program} (hr:UZ g w h sz xs) (hm:k+m<=J xs) (cF:∀y∈ys,J y=sz) (lu:J ys=m) {news:Array Value} (aB:news.size=m*sz) (bf:Xy g (ys.flatten.map .d) news.toList):
  ∃w',(match h with| .slice (some a) _ _=>(storeCells (a.add (k*sz)) news.toList).run P w|_=> .ok () w)= .ok () w'/\UZ g w' h sz (xs.take k++ys++xs.drop (k+m))/\
   (∀b,¬U0 h b->w'.heap[b]? =w.heap[b]?)/\w'.heap.size=w.heap.size/\w'.os=w.os/\w'.output=w.output:=by
 have hlen':∀r∈xs.take k++ys++xs.drop (k+m),J r=sz:=by
  grind [UZ]
 have bz:J (xs.take k++ys++xs.drop (k+m))=J xs:=by simp[lu];omega
 rcases hr.2 with ⟨rfl,rfl⟩|⟨b,cap,vs,e,fr,rfl,h2,h3,h4,h5,h6,h7⟩
 ·grind
 ·have nr:=X2m xs hr.1;have vo:=X2m ys cF;have qQ:k*sz+m*sz<=vs.size:=by
   rw[<-Nat.add_mul];exact Nat.le_trans (Nat.mul_le_mul_right _ (Nat.le_trans hm h2)) h6
  obtain⟨vs',k1,k2⟩:=X6W (P:=P) b e fr vs.size h5 news.toList (k*sz) 0 vs w h4 rfl (by simp[aB];omega) (fun u hu=>by
   obtain⟨j,hj,rfl⟩:=getElem_of_mem hu;have hjl:j<J ys.flatten:=by grind
   obtain⟨_,cQ⟩:=X7r bf;obtain⟨u,iE,fG⟩:=cQ j _ (getElem?_eq_getElem hjl)
   grind [D.rep_one])
  simp only[Nat.add_zero,Array.length_toList,aB] at k2;have cP:vs'.size=vs.size:=by
   have:=CG length k2
   grind
  refine⟨w.setRow b vs',?_,⟨hlen',.inr ⟨b,cap,vs',e,fr,by rw[bz],by rw[bz];exact h2,h3,setRow_heap w b vs _ e fr h4,by rw[cP];exact h5,by rw[cP];exact h6,?_⟩⟩,fun c hc=>setRow_other w b c vs' (fun e=>hc (by grind [U0])),by simp,rfl,rfl⟩
  ·grind [Vq]
  ·rw[bz];have sW:J (vs.toList.take (J xs*sz))=J xs*sz:=by grind [V6,LM]
   have hle:k*sz+m*sz<=J xs*sz:=by rw[<-Nat.add_mul];exact Nat.mul_le_mul_right _ hm
   have e1:vs'.toList.take (J xs*sz)=(vs.toList.take (J xs*sz)).take (k*sz)++news.toList++(vs.toList.take (J xs*sz)).drop (k*sz+m*sz):=by
    rw[k2];exact XlM (by simp[aB]) hle (by grind)
   rw[e1];have e2:(xs.take k++ys++xs.drop (k+m)).flatten=xs.flatten.take (k*sz)++ys.flatten++xs.flatten.drop (k*sz+m*sz):=by
    obtain⟨t1,_⟩:=Xg1 xs k hr.1 (by omega);obtain⟨_,t2⟩:=Xg1 xs (k+m) hr.1 hm
    grind [Nat.add_mul]
   grind [map_take,map_drop,X4D,X3G,X5d]
def XaG {T T2 ty:TypeId}{x y:Value}{news:Array Value}{w':World}{a:Option Addr}{c kY:Nat} (hT:UT P T sz=true) (hx:x= .slice a n c) (hl:(Builtin.lenOf y).run P w= .ok kY w) (hm:m=min kY n)
  (hf:(Builtin.firstCells sz m y).run P w= .ok news w) (hst:(match x with| .slice (some a) _ _=>(storeCells (a.add (0*sz)) news.toList).run P w|_=> .ok () w)= .ok () w'):
  (Builtin.copy_ #[T,T2] ty #[x,y]).run P w= .ok (.int .i64 m) w':=by
 obtain⟨e,h1,h2,_⟩:=X29 hT;subst hx hm;have hmin:Nat.min kY n=min kY n:=rfl;cases a<;>simp_all [Builtin.copy_,run_underlying,goInt,Addr.add_zero']
def XsV {T T2:TypeId} (hx:S.ev x= .inn γ k) (hL:S.obj γ= .mat b9 rows) (hr:rows[k]? =some r) (hy:S.ev y= .d (.sl b9 ys)) (hm:m=min (J ys) (J r))
  (hT:UT P T b9=true) {d':Option (Nat×AVal)} (hd:X4K S d') (hd':d'=none\/∃t,d'=some (t,ai m)) (hg:XL ops S gd)
  (h:Walk P ops draw K rest ((J l,⟨d'.map (·.1),.call ⟨.builtin .copy,#[x,y],#[T,T2]⟩,ty,pos,ah,gd⟩,⟨XH ops gd++[(x,.inn γ k),(y,.d (.sl b9 ys))],d',[(γ,.mat b9 rows)],[(γ,.mat b9 (rows.set k (ys.take m++r.drop m)))],[]⟩)::l)
   ⟨S.n,d'.toList++S.τ,(γ,.mat b9 (rows.set k (ys.take m++r.drop m)))::S.L⟩):
  Walk P ops draw K (⟨d'.map (·.1),.call ⟨.builtin .copy,#[x,y],#[T,T2]⟩,ty,pos,ah,gd⟩::rest) l S:=by
 refine Yq h hg ?_ ⟨⟨hx,hy,TV⟩,⟨hL,TV⟩,TV,hd⟩;intro E S a w g hs hok Q K hK;obtain⟨dL,⟨l1,_⟩,_,dz⟩:=hok;have hq:=X1K hs _ dL;have ho:=hs.1.obj γ;rw[l1] at ho;have hx':a.eval x=g.aI γ k:=by grind [AVal.sat,VK]
 have kf:(D.sl b9 ys).rep g.M (a.eval y):=by grind [AVal.sat,VK]
 have hlt:k<J rows:=(GS.1 hr).1;have hrow:=ho.2.1 k r hr;obtain⟨news,n1,n2,n3,n4,n5⟩:=Xgh (P:=P) hs.1 kf (m:=m) (by omega);obtain⟨w',s1,s2,s3,s4,s5,s6⟩:=XcM (P:=P) (k:=0) (m:=m) hrow (by omega) n5 (by simp;omega) n2 n3;simp only[take_zero,nil_append,Nat.zero_add] at s2;have cN:∃b c,g.aI γ k= .slice b (J r) c:=by
  grind [UZ]
 obtain⟨b0,c0,cN⟩:=cN;have hrun:=XaG (P:=P) (T2:=T2) (ty:=ty) hT cN n4 hm n1 s1;have hi:Inv E (Xs .dead ((γ,.mat b9 (rows.set k (ys.take m++r.drop m)))::S.L)) g w':=by
  refine Inv.upd hs.1 γ _ (YK _ _ _ _) (fun j hj=>YC _ _ _ (Ne.symm hj)) (fun b hb ax=>s3 b fun hc=>ax (by grind [Xw])) (by omega) s5 s6 rfl (fun _ _=>⟨rfl,rfl,rfl⟩) (fun _ _ _ _ _ h=>h) ?_ (fun b hb=> .inl ?_) (fun _=>Gh.keeps_refl _ _)
  ·obtain⟨h1,h2,h3⟩:=ho;refine⟨?_,fun i q hq=> ?_,fun i j b hi hj=>h3 i j b (by simpa using hi) (by simpa using hj)⟩
   ·rcases h1 with ⟨e,rfl⟩|⟨b,cap,vs,e',fr,k1,k2,k3,k4,k5,k6,k7,k8⟩
    ·simp at hlt
    ·refine .inr ⟨b,cap,vs,e',fr,by simpa using k1,by simpa using k2,k3,?_,k5,k6,fun i hi=>k7 i (by simpa using hi),fun i hi=>k8 i (by simpa using hi)⟩
     grind
   grind [X4M,YN.refl]
  grind [Xw]
 have cT:(execOp a.eval ⟨d'.map (·.1),.call ⟨.builtin .copy,#[x,y],#[T,T2]⟩,ty,pos,ah,gd⟩).run P w= .ok (.value (.int .i64 m)) w':=by
  simp_all [execOp,resolve,invoke,builtin]
 unfold Oper.wp;rw[cT,Oper.upon_value];rcases hd' with rfl|⟨t,rfl⟩
 ·exact hK _ _ ⟨g,hi,hs.2.1,hs.2.2.1,hs.2.2.2⟩
 ·exact hK _ _ (X2f hi hs.2.1 hs.2.2.1 hs.2.2.2 (X0k rfl) dz)
def XpL {T T2:TypeId} (hx:S.ev x= .inn γ k) (hL:S.obj γ= .mat b9 rows) (hr:rows[k]? =some r) (hy:S.ev y= .d (.sl b9 ys)) (hm:m=min (J ys) (J r))
  (hT:UT P T b9=true) (hd:Nat.blt d S.n=true) (hg:XL ops S gd)
  (h:Walk P ops draw K rest ((J l,⟨some d,.call ⟨.builtin .copy,#[x,y],#[T,T2]⟩,ty,pos,ah,gd⟩,⟨XH ops gd++[(x,.inn γ k),(y,.d (.sl b9 ys))],some (d,ai m),[(γ,.mat b9 rows)],[(γ,.mat b9 (rows.set k (ys.take m++r.drop m)))],[]⟩)::l)
   ((S.set d (ai m)).own γ (.mat b9 (rows.set k (ys.take m++r.drop m))))):
  Walk P ops draw K (⟨some d,.call ⟨.builtin .copy,#[x,y],#[T,T2]⟩,ty,pos,ah,gd⟩::rest) l S:=
 XsV (d':=some (d,ai m)) hx hL hr hy hm hT hd (.inr ⟨d,rfl⟩) hg h
def Xpy {tys:Array TypeId}{k:IntKind}{a b:Int} (hx:S.ev x= .d (.v (.int k a))) (hy:S.ev y= .d (.v (.int k b))) (hd:Nat.blt d S.n=true) (hg:XL ops S gd)
  (h:Walk P ops draw K rest ((J l,⟨some d,.call ⟨.builtin .max,#[x,y],tys⟩,ty,pos,ah,gd⟩,⟨XH ops gd++[(x,.d (.v (.int k a))),(y,.d (.v (.int k b)))],some (d,.d (.v (.int k (max a b)))),[],[],[]⟩)::l) (S.set d (.d (.v (.int k (max a b)))))):
  Walk P ops draw K (⟨some d,.call ⟨.builtin .max,#[x,y],tys⟩,ty,pos,ah,gd⟩::rest) l S:=
 Yq h hg (Uk rfl fun E S g act w hs hq hl=>by
  refine⟨_,?_,X0k rfl⟩;have e:(if b>a then b else a)=max a b:=by
   omega
  simp[execOp,resolve,invoke,builtin,Builtin.max_,Builtin.max2,Uy hq.1,Uy hq.2.1];omega) ⟨⟨hx,hy,TV⟩,TV,TV,hd⟩
def Xvg {tys:Array TypeId}{k:IntKind}{a b:Int} (hx:S.ev x= .d (.v (.int k a))) (hy:S.ev y= .d (.v (.int k b))) (hd:Nat.blt d S.n=true) (hg:XL ops S gd)
  (h:Walk P ops draw K rest ((J l,⟨some d,.call ⟨.builtin .min,#[x,y],tys⟩,ty,pos,ah,gd⟩,⟨XH ops gd++[(x,.d (.v (.int k a))),(y,.d (.v (.int k b)))],some (d,.d (.v (.int k (min a b)))),[],[],[]⟩)::l) (S.set d (.d (.v (.int k (min a b)))))):
  Walk P ops draw K (⟨some d,.call ⟨.builtin .min,#[x,y],tys⟩,ty,pos,ah,gd⟩::rest) l S:=
 Yq h hg (Uk rfl fun E S g act w hs hq hl=>by
  refine⟨_,?_,X0k rfl⟩;simp[execOp,resolve,invoke,builtin,Builtin.min_,Builtin.min2,Uy hq.1,Uy hq.2.1];omega) ⟨⟨hx,hy,TV⟩,TV,TV,hd⟩
mutual
def AVal.ren (ρ:Nat->Nat):AVal->AVal
 | .any=> .any
 | .d x=> .d x
 | .ptr γ o=> .ptr (ρ γ) o
 | .own γ n=> .own (ρ γ) n
 | .rptr γ n o=> .rptr (ρ γ) n o
 | .inn γ i=> .inn (ρ γ) i
 | .bsl γ n=> .bsl (ρ γ) n
 | .rs γ o n c=> .rs (ρ γ) o n c
 | .mptr γ n i=> .mptr (ρ γ) n i
 | .cut γ n k sz=> .cut (ρ γ) n k sz
 | .dptr row=> .dptr row
 | .dx sz xs=> .dx sz xs
 | .bq p q=> .bq p q
 | .agg cs=> .agg (X0t ρ cs)
 | .tup cs=> .tup (X0t ρ cs)
 | .fn f cs=> .fn f (X0t ρ cs)
def X0t (ρ:Nat->Nat):List AVal->List AVal
 |[]=>[]
 |x::r=>x.ren ρ::X0t ρ r
end
def AObj.ren (ρ:Nat->Nat):AObj->AObj
 | .dead=> .dead
 | .box cs=> .box (X0t ρ cs)
 | .row sz xs=> .row sz xs
 | .froz sz xs=> .froz sz xs
 | .mat sz rows=> .mat sz rows
 | .iter s p=> .iter s p
 | .imap es=> .imap es
 | .nest sz xs=> .nest sz xs
 | .bag hs=> .bag hs
 | .raw cs ho=> .raw cs (ho.map fun h=>(h.1,h.2.ren ρ))
 | .wrow sz xs=> .wrow sz xs
def X1T (ρ:Nat->Nat):List (Nat×AObj)->List (Nat×AObj)
 |[]=>[]
 |(k,o)::r=>(ρ k,o.ren ρ)::X1T ρ r
def Gh.pull (g:Gh) (ρ:Nat->Nat):Gh:={az:=fun k=>g.az (ρ k),hd:=fun k=>g.hd (ρ k),aI:=fun k=>g.aI (ρ k),M:=g.M}
mutual
theorem XdH:∀(x:AVal) (u:Value),(x.ren ρ).sat g u↔x.sat (g.pull ρ) u
 | .any,_=>by simp only[AVal.ren,AVal.sat]
 | .d x,_=>by simp only[AVal.ren,AVal.sat,Gh.pull]
 | .ptr γ o,_=>by simp only[AVal.ren,AVal.sat,Gh.pull]
 | .own γ n,_=>by simp only[AVal.ren,AVal.sat,Gh.pull]
 | .rptr γ n o,_=>by simp only[AVal.ren,AVal.sat,Gh.pull]
 | .inn γ i,_=>by simp only[AVal.ren,AVal.sat,Gh.pull]
 | .bsl γ n,_=>by simp only[AVal.ren,AVal.sat,Gh.pull]
 | .rs γ o n c,_=>by simp only[AVal.ren,AVal.sat,Gh.pull]
 | .mptr γ n i,_=>by simp only[AVal.ren,AVal.sat,Gh.pull]
 | .cut γ n k sz,_=>by simp only[AVal.ren,AVal.sat,Gh.pull]
 | .dptr row,_=>by simp only[AVal.ren,AVal.sat,Gh.pull]
 | .dx sz xs,_=>by simp only[AVal.ren,AVal.sat,Gh.pull]
 | .bq p q,_=>by simp only[AVal.ren,AVal.sat]
 | .agg cs,u=>by simp only[AVal.ren,AVal.sat,X5W cs]
 | .tup cs,u=>by simp only[AVal.ren,AVal.sat,X5W cs]
 | .fn f cs,u=>by simp only[AVal.ren,AVal.sat,X5W cs]
theorem X5W:∀(xs:List AVal) (us:List Value),Xy g (X0t ρ xs) us↔Xy (g.pull ρ) xs us
 |[],[]=>by grind [X0t,Xy]
 |[],_::_=>by grind [X0t,Xy]
 |_::_,[]=>by grind [X0t,Xy]
 |x::xs,u::us=>by simp only[X0t,Xy,XdH x u,X5W xs us]
end
def XnB:∀(cs:List AVal),(∀c∈cs,c.cellish=true)↔∀c∈X0t ρ cs,c.cellish=true
 |[]=>by simp[X0t]
 |c::r=>by
  simp only[X0t,mem_cons,forall_eq_or_imp,<-XnB r];refine and_congr_left fun _=> ?_;cases c<;>simp[AVal.ren,AVal.cellish]
theorem Xiw {l:List D}:Xy (g.pull ρ) (l.map .d) us↔Xy g (l.map .d) us:=by
 have h:X0t ρ (l.map .d)=l.map .d:=by
  induction l<;>simp_all [X0t,AVal.ren]
 rw[<-X5W,h]
theorem XbG:UZ (g.pull ρ) w h sz xs↔UZ g w h sz xs:=by
 simp only[UZ,Xiw]
def Xq0:X5Y (g.pull ρ) w h sz xs↔X5Y g w h sz xs:=by
 simp only[X5Y,Xiw]
theorem XmS (ρ:Nat->Nat):∀cs:List (Option D),X0t ρ (cs.map oA)=cs.map oA
 |[]=>rfl
 |c::cs=>by rw[map_cons,X0t,XmS ρ cs];cases c<;>rfl
theorem XiS (ρ:Nat->Nat):∀(l:List AVal) (j:Nat) (c:AVal),X0t ρ (l.set j c)=(X0t ρ l).set j (c.ren ρ)
 |[],_,_=>rfl
 |x::l,0,c=>rfl
 |x::l,j+1,c=>by rw[set_cons_succ,X0t,X0t,set_cons_succ,XiS ρ l j c]
theorem Xwd (ρ:Nat->Nat) (cs:List (Option D)) (ho:Option (Nat×AVal)):Yj cs (ho.map fun h=>(h.1,h.2.ren ρ))=X0t ρ (Yj cs ho):=by
 cases ho<;>simp_all [XmS,Yj,XiS]
theorem Xil (o:AObj):Ud g w (ρ γ) (o.ren ρ)↔Ud (g.pull ρ) w γ o:=by
 cases o with
 |dead=>exact Iff.rfl
 |box cs=>simp only[AObj.ren,Ud,X5W,<-XnB cs];rfl
 |row sz xs=>simp only[AObj.ren,Ud];exact XbG.symm
 |froz sz xs=>exact Iff.rfl
 |iter s p=>exact Iff.rfl
 |imap es=>exact Iff.rfl
 |mat sz rows=>simp only[AObj.ren,Ud,XeU,XbG];rfl
 |nest sz xs=>simp only[AObj.ren,Ud,XfR,X1X,XbG];rfl
 |bag hs=>grind [AObj.ren,Ud,X1X,XbG]
 |raw cs ho=>simp only[AObj.ren,Ud,Xwd,X5W];rfl
 |wrow sz xs=>simp only[AObj.ren,Ud];exact Xq0.symm
theorem XeY {b:Nat} (o:AObj):Xw g (o.ren ρ) (ρ γ) b↔Xw (g.pull ρ) o γ b:=by
 cases o<;>exact Iff.rfl
def X94 (h1:∀k,σ (ρ k)=k):∀(L:List (Nat×AObj)) (γ:Nat),Xs .dead (X1T ρ L) (ρ γ)=(Xs .dead L γ).ren ρ
 |[],γ=>rfl
 |(k,o)::r,γ=>by
  simp only[X1T];by_cases h:k=γ
  ·grind [YK]
  ·rw[YC _ _ _ h,YC _ _ _ (fun e=>h (by grind)),X94 h1 r γ]
def Xjp (h1:∀k,σ (ρ k)=k):∀(L:List (Nat×AObj)) (γ:Nat),Yg (ρ γ) (X1T ρ L)=Yg γ L
 |[],γ=>rfl
 |(k,o)::r,γ=>by
  simp only[X1T,Yg,Xjp h1 r γ]
  grind [Nat.beq_eq]
def XbW (h1:∀k,σ (ρ k)=k) (h2:∀k,ρ (σ k)=k) {L:List (Nat×AObj)}{g:Gh}{w:World}{g0:Gh}:
  Inv {E with g0:=g} (Xs .dead (X1T ρ L)) g w↔Inv {E with g0:=g.pull ρ} (Xs .dead L) (g.pull ρ) w:=by
 have hlv:∀γ b,Xw g (Xs .dead (X1T ρ L) (ρ γ)) (ρ γ) b↔Xw (g.pull ρ) (Xs .dead L γ) γ b:=fun γ b=>by rw[X94 h1];exact XeY _
 constructor
 ·intro hi;refine⟨fun γ=> ?_,fun γ γ' b h h'=> ?_,hi.mem,fun γ b h=>hi.sep (ρ γ) b ((hlv _ _).2 h),fun γ b h=>hi.new (ρ γ) b ((hlv _ _).2 h),hi.ext,hi.lim,hi.frame,hi.size,hi.os,hi.out,fun _ _=>Gh.keeps_refl _ _⟩
  ·have:=hi.obj (ρ γ);rw[X94 h1] at this;grind [Xil]
  ·have:=hi.inj (ρ γ) (ρ γ') b ((hlv _ _).2 h) ((hlv _ _).2 h')
   grind
 ·intro hi;have hs:∀γ b,Xw g (Xs .dead (X1T ρ L) γ) γ b->Xw (g.pull ρ) (Xs .dead L (σ γ)) (σ γ) b:=fun γ b h=>by
   grind
  refine⟨fun γ=> ?_,fun γ γ' b h h'=> ?_,hi.mem,fun γ b h=>hi.sep (σ γ) b (hs _ _ h),fun γ b h=>hi.new (σ γ) b (hs _ _ h),hi.ext,hi.lim,hi.frame,hi.size,hi.os,hi.out,fun _ _=>Gh.keeps_refl _ _⟩
  ·have:=hi.obj (σ γ);rw[<-Xil (ρ:=ρ),<-X94 h1,h2] at this;exact this
  ·have:=hi.inj (σ γ) (σ γ') b (hs _ _ h) (hs _ _ h')
   grind
theorem XtG:(g.pull ρ).keeps (g'.pull ρ) γ↔g.keeps g' (ρ γ):=Iff.rfl
def XwH (ρ σ:Nat->Nat) (h1:∀k,σ (ρ k)=k) (h2:∀k,ρ (σ k)=k) (h:Con P f Li args Lo res):
  Con P f (X1T ρ Li) (X0t ρ args) (X1T ρ Lo) (res.ren ρ):=by
 intro g w vs hi hs;have hA:∀b,(∃γ,Xw g (Xs .dead (X1T ρ Li) γ) γ b)↔∃γ,Xw (g.pull ρ) (Xs .dead Li γ) γ b:=by
  intro b;constructor
  ·rintro⟨γ,b6⟩;refine⟨σ γ,?_⟩;rw[<-h2 γ,X94 h1,XeY] at b6;exact b6
  ·rintro⟨γ,b6⟩;refine⟨ρ γ,?_⟩;rw[X94 h1,XeY];exact b6
 have hE:VA (g.pull ρ) w Li={VA g w (X1T ρ Li) with g0:=g.pull ρ}:=by
  simp only[VA,Env.mk.injEq,true_and,and_true];exact⟨rfl,funext fun b=>propext (hA b).symm⟩
 have hi':Inv (VA (g.pull ρ) w Li) (Xs .dead Li) (g.pull ρ) w:=by
  rw[hE];exact(XbW (g0:=g) h1 h2).1 hi
 refine(h (g.pull ρ) w vs hi' ((X5W _ _).1 hs)).mono ?_;rintro e w' ⟨v,g',rfl,hv,hi2,hk⟩;have dN:(g'.pull σ).pull ρ=g':=by simp_all [Gh.pull]
 refine⟨v,g'.pull σ,rfl,(XdH _ _).2 (by rw[dN];exact hv),?_,fun γ b6=> ?_⟩
 ·refine(XbW (E:=VA g w (X1T ρ Li)) (g0:=g) h1 h2).2 ?_
  grind
 ·have oE:Yg (σ γ) Li=true:=by rw[<-Xjp h1,h2];exact b6
  grind [XtG]
def swp (a b k:Nat):Nat:=bif Nat.beq k a then b else bif Nat.beq k b then a else k
theorem X5p (a b k:Nat):swp a b (swp a b k)=k:=by
 simp only[swp];by_cases h1:k=a
 ·subst h1;by_cases h2:b=k
  ·subst h2;simp
  ·have:Nat.beq b k=false:=by grind [Nat.eq_of_beq_eq_true]
   simp[this]
 ·have e1:Nat.beq k a=false:=by grind [Nat.eq_of_beq_eq_true]
  by_cases h2:k=b
  ·subst h2;simp[e1]
  grind [Nat.eq_of_beq_eq_true]
def YU (a b:Nat) (h:Con P f Li args Lo res):
  Con P f (X1T (swp a b) Li) (X0t (swp a b) args) (X1T (swp a b) Lo) (res.ren (swp a b)):=
 XwH _ _ (X5p a b) (X5p a b) h
def XpH {t:Tmp}{caps:List AVal}{args:Array Operand}{tys:Array TypeId}{xs:List Operand}{ys zs:List AVal}
  (ht:S.ev (.tmp t)= .fn f caps) (hxs:args.toList=xs) (hys:evA S xs=ys) (hle:leL (ys++caps) zs) (ag:Con P f Li zs Lo res) (hf:X2H P f=true)
  (bB:Vn S Li) (hin:X4j Li Lo=true) (dw:X4n Lo Lo=true) (hres:res.within Lo=true) (hnew:X33 S (VU Li Lo)) (av:Vn S (X3v (VU Li Lo)))
  (hd:Nat.blt d S.n=true) (hg:XL ops S gd)
  (h:Walk P ops draw K rest ((J l,⟨some d,.call ⟨.value (.tmp t),args,tys⟩,ty,pos,ah,gd⟩,⟨XH ops gd++((.tmp t,.fn f caps)::X5U xs ys),some (d,res),Li++X3v (VU Li Lo),Lo,VU Li Lo⟩)::l)
   ((S.set d res).cat Lo)):
  Walk P ops draw K (⟨some d,.call ⟨.value (.tmp t),args,tys⟩,ty,pos,ah,gd⟩::rest) l S:=by
 have hap:∀(A B:List (Nat×AObj)) (T:St),Vn T (A++B)↔Vn T A/\Vn T B:=by
  intro A B T;simp only[X6v,mem_append]
  grind
 have hlen:J ys=J xs:=by
  rw[<-hys];clear hys hxs h hle;induction xs<;>simp_all [evA]
 refine Yq h hg ?_ ⟨⟨ht,by grind [Xas]⟩,(hap _ _ _).2 ⟨bB,av⟩,hnew,hd⟩;intro E S a w g hs hok Q K hK;obtain⟨dL,eH,iF,dz⟩:=hok;rw[hap] at eH;obtain⟨aN,bJ⟩:=X1K hs _ dL;simp only[AVal.sat] at aN;obtain⟨cv,jx,hcs⟩:=aN;have bf:=X86 hle (X4D (Xae hlen bJ) hcs);have hinv:Inv (VA g w Li) (Xs .dead Li) g w:=by
  have hsub:=Xm eH.1;have hl:∀γ b,Xw g (Xs .dead Li γ) γ b->Xw g (S.obj γ) γ b:=by
   intro γ b hb;rcases hsub γ with e|e<;>simp_all [Xw]
  refine⟨fun γ=> ?_,fun γ γ' b k k'=>hs.1.inj γ γ' b (hl _ _ k) (hl _ _ k'),hs.1.mem,fun γ b k=>hs.1.sep γ b (hl _ _ k),fun γ b k=> .inr ⟨γ,k⟩,YN.refl _,fun a v ha=> .inl ⟨v,ha⟩,fun _ _ _=>rfl,Nat.le_refl _,rfl,rfl,fun γ _=>Gh.keeps_refl _ _⟩;rcases hsub γ with e|e
  ·rw[e];exact hs.1.obj γ
  ·rw[e];trivial
 have aA:=ag g w (xs.map a.eval++cv.toList) hinv bf;have hrun:(execOp a.eval ⟨some d,.call ⟨.value (.tmp t),args,tys⟩,ty,pos,ah,gd⟩).run P w= .ok (.enter f (xs.map a.eval++cv.toList).toArray) w:=by
  have e1:(#[]++args.map a.eval++cv:Array Value)=(xs.map a.eval++cv.toList).toArray:=by
   grind
  simp_all [execOp,resolve,Deferred.ofValue,invoke,Xd3]
 unfold Oper.wp;rw[hrun,Oper.upon_enter];refine aA.mono ?_;rintro e w' ⟨v,g',rfl,hv,hi',hk⟩;obtain⟨j1,j2,j3⟩:=XfW hs.1 eH.1 hin dw iF eH.2 hi' hk;exact hK _ _ (X2f j1 hs.2.1 hs.2.2.1 (fun t=>j3 t _ (hs.2.2.2 t)) (j2 _ _ hres hv) dz)
def XwQ {caps:Array Operand}{xs:List Operand}{ys:List AVal} (hxs:caps.toList=xs) (hys:evA S xs=ys) (hd:Nat.blt d S.n=true) (hg:XL ops S gd)
  (h:Walk P ops draw K rest ((J l,⟨some d,.makeFunc (.func f) #[] caps,ty,pos,ah,gd⟩,⟨XH ops gd++X5U xs ys,some (d,.fn f ys),[],[],[]⟩)::l) (S.set d (.fn f ys))):
  Walk P ops draw K (⟨some d,.makeFunc (.func f) #[] caps,ty,pos,ah,gd⟩::rest) l S:=by
 have hlen:J ys=J xs:=by
  rw[<-hys];clear hys hxs h;induction xs<;>simp_all [evA]
 refine Yq h hg (Uk rfl fun E S g a w hs hq hl=> ?_) ⟨by grind [Xas],TV,TV,hd⟩;simp_all [execOp,Instr.makeFunc,AVal.sat,Xae]
def XvI {T T2:TypeId} (hx:S.ev x= .own γ n) (hL:S.obj γ= .row sz r) (hn:n=J r) (hy:S.ev y= .d (.sl sz ys)) (hm:m=min (J ys) (J r))
  (hT:UT P T sz=true) {d':Option (Nat×AVal)} (hd:X4K S d') (hd':d'=none\/∃t,d'=some (t,ai m)) (hg:XL ops S gd)
  (h:Walk P ops draw K rest ((J l,⟨d'.map (·.1),.call ⟨.builtin .copy,#[x,y],#[T,T2]⟩,ty,pos,ah,gd⟩,⟨XH ops gd++[(x,.own γ n),(y,.d (.sl sz ys))],d',[(γ,.row sz r)],[(γ,.row sz (ys.take m++r.drop m))],[]⟩)::l)
   ⟨S.n,d'.toList++S.τ,(γ,.row sz (ys.take m++r.drop m))::S.L⟩):
  Walk P ops draw K (⟨d'.map (·.1),.call ⟨.builtin .copy,#[x,y],#[T,T2]⟩,ty,pos,ah,gd⟩::rest) l S:=by
 refine Yq h hg ?_ ⟨⟨hx,hy,TV⟩,⟨hL,TV⟩,TV,hd⟩;intro E S a w g hs hok Q K hK;obtain⟨dL,⟨l1,_⟩,_,dz⟩:=hok;have hq:=X1K hs _ dL;have ho:=hs.1.obj γ;rw[l1] at ho;have hx':a.eval x=g.hd γ:=X41 hq.1 ho hn;have kf:(D.sl sz ys).rep g.M (a.eval y):=by grind [AVal.sat,VK]
 have hrow:UZ g w (g.hd γ) sz r:=ho;obtain⟨news,n1,n2,n3,n4,n5⟩:=Xgh (P:=P) hs.1 kf (m:=m) (by omega);obtain⟨w',s1,s2,s3,s4,s5,s6⟩:=XcM (P:=P) (k:=0) (m:=m) hrow (by omega) n5 (by simp;omega) n2 n3;simp only[take_zero,nil_append,Nat.zero_add] at s2;have cN:∃b c,g.hd γ= .slice b (J r) c:=by
  grind [UZ]
 obtain⟨b0,c0,cN⟩:=cN;have hrun:=XaG (P:=P) (T2:=T2) (ty:=ty) hT cN n4 hm n1 s1;have hi:Inv E (Xs .dead ((γ,.row sz (ys.take m++r.drop m))::S.L)) g w':=by
  refine Inv.upd hs.1 γ _ (YK _ _ _ _) (fun j hj=>YC _ _ _ (Ne.symm hj)) (fun b hb ax=>s3 b fun hc=>ax (by rw[l1];exact hc)) (by omega) s5 s6 rfl (fun _ _=>⟨rfl,rfl,rfl⟩) (fun _ _ _ _ _ h=>h) s2 (fun b hb=> .inl ?_) (fun _=>Gh.keeps_refl _ _);rw[l1];exact hb
 have cT:(execOp a.eval ⟨d'.map (·.1),.call ⟨.builtin .copy,#[x,y],#[T,T2]⟩,ty,pos,ah,gd⟩).run P w= .ok (.value (.int .i64 m)) w':=by
  simp_all [execOp,resolve,invoke,builtin]
 unfold Oper.wp;rw[cT,Oper.upon_value];rcases hd' with rfl|⟨t,rfl⟩
 ·exact hK _ _ ⟨g,hi,hs.2.1,hs.2.2.1,hs.2.2.2⟩
 ·exact hK _ _ (X2f hi hs.2.1 hs.2.2.1 hs.2.2.2 (X0k rfl) dz)
def Xb4 {T T2:TypeId} (hx:S.ev x= .own γ n) (hL:S.obj γ= .row sz r) (hn:n=J r) (hy:S.ev y= .d (.sl sz ys)) (hm:m=min (J ys) (J r))
  (hT:UT P T sz=true) (hd:Nat.blt d S.n=true) (hg:XL ops S gd)
  (h:Walk P ops draw K rest ((J l,⟨some d,.call ⟨.builtin .copy,#[x,y],#[T,T2]⟩,ty,pos,ah,gd⟩,⟨XH ops gd++[(x,.own γ n),(y,.d (.sl sz ys))],some (d,ai m),[(γ,.row sz r)],[(γ,.row sz (ys.take m++r.drop m))],[]⟩)::l)
   ((S.set d (ai m)).own γ (.row sz (ys.take m++r.drop m)))):
  Walk P ops draw K (⟨some d,.call ⟨.builtin .copy,#[x,y],#[T,T2]⟩,ty,pos,ah,gd⟩::rest) l S:=
 XvI (d':=some (d,ai m)) hx hL hn hy hm hT hd (.inr ⟨d,rfl⟩) hg h
def Xg (β:Nat) {cs cs':List AVal} (hb:S.obj β= .box cs) (hle:leL cs cs') (hc:X31 cs'=true):S.le (S.own β (.box cs')):=by
 rintro E a w ⟨g,hs⟩;have ho:=hs.1.obj β;rw[hb] at ho;obtain⟨vs,e,fr,h1,h2,h3,h4⟩:=ho;have hi2:Inv E (Xs .dead ((β,.box cs')::S.L)) g w:=by
  refine Inv.upd hs.1 β _ (YK _ _ _ _) (fun k hk=>YC _ _ _ (Ne.symm hk)) (fun _ _ _=>rfl) (Nat.le_refl _) rfl rfl rfl (fun _ _=>⟨rfl,rfl,rfl⟩) (fun _ _ _ _ _ h=>h) ?_ (fun b hb'=> .inl (by rw[hb];exact hb')) (fun _=>Gh.keeps_refl _ _)
  grind [X86,X6a,Ud]
 exact X4B hs hi2 rfl hs.2.2.2
def X7 (l:List UInt8):ByteArray:=⟨l.toArray⟩
theorem X57 (l:List UInt8):(X7 l).toList=l:=by
 grind [ByteArray.toList_eq,X7]
theorem XsY (l:List UInt8):∀s:ByteArray,(l.map fun b=>(b.toNat:Int)).foldl (fun r n=>r.push (UInt8.ofNat n.toNat)) s=⟨s.data++l.toArray⟩:=by
 induction l<;>simp_all
def XwZ {t:TypeId}{a:List UInt8} (w:World):(do eqGuard .eql t x y (.string (X7 a)) (.string (X7 b));binOp .eql t (.string (X7 a)) (.string (X7 b)):Sem Value).run P w= .ok (.bool (decide (a=b))) w:=by
 simp[go_sem,X57];grind
def XvV {t:TypeId}{a:List UInt8} (w:World):(do eqGuard .neq t x y (.string (X7 a)) (.string (X7 b));binOp .neq t (.string (X7 a)) (.string (X7 b)):Sem Value).run P w= .ok (.bool (decide (a≠b))) w:=by
 simp[go_sem,X57];grind
def Xe2 (P:Program) (src dst:TypeId):Bool:=
 match P.underlying src,P.underlying dst with
 |some (.slice e),some .string=>(match P.underlying e with|some (.int .u8)=>true|_=>false)
 |_,_=>false
def Xw3 {src dst:TypeId} (h:Xe2 P src dst=true):∃e,P.underlying src=some (.slice e)/\P.underlying e=some (.int .u8)/\P.underlying dst=some .string:=by
 grind [Xe2]
theorem Xw5 (b:List UInt8):(b.map fun c=>[D.v (.int .u8 c.toNat)]).flatten=b.map fun c=>D.v (.int .u8 c.toNat):=by
 induction b<;>simp_all
def Xth {src dst:TypeId} (hx:S.ev x= .d (.sl 1 (b.map fun c=>[D.v (.int .u8 c.toNat)]))) (ht:Xe2 P src dst=true) (hd:Nat.blt d S.n=true) (hg:XL ops S gd)
  (h:Walk P ops draw K rest ((J l,⟨some d,.convert src dst x,ty,pos,ah,gd⟩,⟨XH ops gd++[(x,.d (.sl 1 (b.map fun c=>[D.v (.int .u8 c.toNat)])))],some (d,.d (.v (.string (X7 b)))),[],[],[]⟩)::l) (S.set d (.d (.v (.string (X7 b)))))):
  Walk P ops draw K (⟨some d,.convert src dst x,ty,pos,ah,gd⟩::rest) l S:=by
 refine Yq h hg (Uk rfl fun E S g a w hs hq _=> ?_) ⟨⟨hx,TV⟩,TV,TV,hd⟩;refine⟨.string (X7 b),?_,X0k rfl⟩;obtain⟨e,t1,t2,t3⟩:=Xw3 ht;have qR:=hq.1;simp only[AVal.sat,D.rep] at qR;obtain⟨ad,cap,hv,h2,h3,h4⟩:=qR;have hc:(convert src dst (a.eval x)).run P w= .ok (.string (X7 b)) w:=by
  rw[hv,run_convert_bytes_string w src dst e ad _ cap t1 t2 t3];rcases h4 with h4|⟨bl,o,rfl,hr⟩
  ·have hb:b=[]:=by simpa using h4
   subst hb;cases ad with
   |none=>simp[Conv.bytesToString,X7];rfl
   |some q=>
    have:=run_bytesToString (P:=P) w q 0 cap [] (by simp[loadCells,loadCellsFrom]);simp only[map_nil,foldl_nil] at this;exact this
  ·obtain⟨vs,k1,k2,k3⟩:=Xcu hs.1.mem _ bl o hr;have hvs:vs=(b.map fun c=>(c.toNat:Int)).map (Value.int .u8):=by
    apply ext_getElem?;intro i;cases sX:b[i]? with
    |none=>
     grind
    |some c=>
     have hi:i<J b:=(GS.1 sX).1;have hiv:i<J vs:=by grind
     have:=k3 i (D.v (.int .u8 c.toNat)) vs[i] (by
      grind [Xw5]) (getElem?_eq_getElem hiv)
     grind [D.rep]
   have lY:=run_loadCells_list (P:=P) w ⟨bl,o,none⟩ vs (fun j v hv=>by grind [Vq]);rw[k1,hvs] at lY;have:=run_bytesToString (P:=P) w ⟨bl,o,none⟩ _ cap (b.map fun c=>(c.toNat:Int)) (by simpa using lY);simp_all [XsY,X7]
 simp_all [execOp]
def XyA {T T2:TypeId} (hx:S.ev x= .own γ n) (hL:S.obj γ= .row sz xs) (hy:S.ev y= .d (.sl sz ys)) (hn:n=J xs)
  (hB:elB P T=bytes) (hT:X1w P T sz bytes=true) (bN:X4r P T2=true) (hb0:Nat.beq bytes 0=false) (hroom:(J xs+J ys)*bytes<=140737488355328)
  (hd:Nat.blt d S.n=true) (hg:XL ops S gd)
  (h:Walk P ops draw K rest ((J l,⟨some d,.call ⟨.builtin .append,#[x,y],#[T,T2]⟩,ty,pos,ah,gd⟩,⟨XH ops gd++[(x,.own γ n),(y,.d (.sl sz ys))],some (d,.d (.sl sz (xs++ys))),[(γ,.row sz xs)],[(γ,.froz sz (xs++ys))],[]⟩)::l)
   ((S.set d (.d (.sl sz (xs++ys)))).own γ (.froz sz (xs++ys)))):
  Walk P ops draw K (⟨some d,.call ⟨.builtin .append,#[x,y],#[T,T2]⟩,ty,pos,ah,gd⟩::rest) l S:=
 Yq h hg (X3H rfl fun E S g a w hs hq hl iR=>by
  have ho:=hs.1.obj γ;rw[hl.1] at ho;have hv:=X41 hq.1 ho hn;have kf:(D.sl sz ys).rep g.M (a.eval y):=by grind [AVal.sat,VK]
  obtain⟨news,k1,k2,k3⟩:=X9T (P:=P) hs.1 kf;have cF:∀r∈ys,J r=sz:=by grind
  obtain⟨v,g',w',r1,r2,r3,r4⟩:=Xmj hs hl.1 (ty:=ty) hT bN (X5L hb0) k1 rfl cF k2 (by simpa using hroom);obtain⟨M',hle,hi⟩:=X8F (S:=S.own γ (.row sz (xs++ys))) r3 (YK _ _ _ _);have hi2:Inv E (Xs .dead ((γ,.froz sz (xs++ys))::S.L)) {g' with M:=M'} w':=by
   refine hi.sub fun k=> .inl ?_
   grind [Xs,St.own]
  have oY:=hi2.obj γ;rw[YK] at oY;exact⟨v,{g' with M:=M'},w',X7o rfl (by rw[hv];exact r1),X75 oY (by simp) (X3R (g:=g') (g':={g' with M:=M'}) hle rfl rfl rfl r2),hi2,fun t=>X3R (g:=g') (g':={g' with M:=M'}) hle rfl rfl rfl (r4 t)⟩) ⟨⟨hx,hy,TV⟩,⟨hL,TV⟩,TV,hd⟩
def Xke {T:TypeId}{m:Int} (hx:S.ev x= .own γ n) (hL:S.obj γ= .row 1 xs) (hi:S.ev i= .d (.v (.int kd m))) (hn:n=J xs) (hk:m=(k:Nat)) (hlt:k<J xs)
  (hT:UT P T 1=true) (hd:Nat.blt d S.n=true) (hg:XL ops S gd)
  (h:Walk P ops draw K rest ((J l,⟨some d,.indexAddr T x i,ty,pos,ah,gd⟩,⟨XH ops gd++[(x,.own γ n),(i,.d (.v (.int kd m)))],some (d,.rptr γ n k),[(γ,.row 1 xs)],[],[]⟩)::l) (S.set d (.rptr γ n k))):
  Walk P ops draw K (⟨some d,.indexAddr T x i,ty,pos,ah,gd⟩::rest) l S:=
 Yq h hg (Uk rfl fun E S g a w hs hq hl=>by
  obtain⟨e,h1,h2,h3⟩:=X29 hT;have ho:=hs.1.obj γ;rw[hl.1] at ho;have hv:=X41 hq.1 ho hn;rcases ho.2 with ⟨e,rfl⟩|⟨b,cap,vs,e',fr,hh,_⟩
  ·simp at hlt
  ·rw[hh] at hv;refine⟨.pointer (some ⟨b,k,none⟩),?_,?_⟩
   ·have hb:(0:Int)<=m/\m<(J xs:Int):=by omega
    have hm:m.toNat=k:=by omega
    have:=run_indexAt_slice (P:=P) w T ⟨b,0,none⟩ (J xs) cap kd m (by rw[h3];exact h1);rw[PI hb,h3,h2 w,Result.andThen_ok,Vq,hm,Nat.mul_one,Nat.zero_add] at this;simp only[execOp,hv,Uy hq.2.1,Sem.run_bind,this];rfl
   ·simp only[AVal.sat];exact⟨rfl,_,_,_,hh,by omega,fun _=>⟨_,rfl,rfl⟩⟩) ⟨⟨hx,hi,TV⟩,⟨hL,TV⟩,TV,hd⟩
def Xsj (h:∀x∈xs,J x=1) {k:Nat}{y:D} (hk:xs[k]? =some [y]):xs.flatten[k]? =some y:=by
 induction xs generalizing k<;>grind
def Xzb {t:TypeId}{y:D} (hx:S.ev x= .rptr γ n k) (hL:S.obj γ= .row 1 xs) (hn:n=J xs) (hy:xs[k]? =some [y])
  (ht:X1u P t false 1=true) (hd:Nat.blt d S.n=true) (hg:XL ops S gd)
  (h:Walk P ops draw K rest ((J l,⟨some d,.load t x,ty,pos,ah,gd⟩,⟨XH ops gd++[(x,.rptr γ n k)],some (d,.d y),[(γ,.row 1 xs)],[],[]⟩)::l) (S.set d (.d y))):
  Walk P ops draw K (⟨some d,.load t x,ty,pos,ah,gd⟩::rest) l S:=
 Yq h hg (Uk rfl fun E S g a w hs hq hl=>by
  have ho:=hs.1.obj γ;rw[hl.1] at ho;have aN:=hq.1;simp only[AVal.sat] at aN;obtain⟨_,a',m,c,q1,q2,q3⟩:=aN;have hlt:k<J xs:=(GS.1 hy).1;rcases ho.2 with ⟨e,rfl⟩|⟨b,cap,vs,e',fr,hh,k2,k3,k4,k5,k6,k7⟩
  ·simp at hlt
  ·rw[hh] at q1;cases q1;obtain⟨b',e1,e2⟩:=q3 hn;cases e1;obtain⟨u,hu,gG⟩:=X07 k7 k (.d y) (by rw[getElem?_map,Xsj ho.1 hy];rfl);have hc:w.cell? ⟨b,k,none⟩=some u:=by
    grind [cell_of_row]
   simp_all [execOp,Instr.loadAt,Instr.sureAddr,X8P]) ⟨⟨hx,TV⟩,⟨hL,TV⟩,TV,hd⟩
def XzG {t:TypeId}{v:Operand}{y:D} (hx:S.ev x= .rptr γ n k) (hL:S.obj γ= .row 1 xs) (hv:S.ev v= .d y) (hn:n=J xs) (hlt:k<J xs)
  (ht:X7A P t 1=true) (hg:XL ops S gd)
  (h:Walk P ops draw K rest ((J l,⟨none,.store t x v,ty,pos,ah,gd⟩,⟨XH ops gd++[(x,.rptr γ n k),(v,.d y)],none,[(γ,.row 1 xs)],[(γ,.row 1 (xs.take k++[[y]]++xs.drop (k+1)))],[]⟩)::l)
   (S.own γ (.row 1 (xs.take k++[[y]]++xs.drop (k+1))))):
  Walk P ops draw K (⟨none,.store t x v,ty,pos,ah,gd⟩::rest) l S:=
 Yq h hg (Xd9 rfl fun E S g a w hs hq hl dB=>by
  have ho:=hs.1.obj γ;rw[hl.1] at ho;have aN:=hq.1;simp only[AVal.sat] at aN;obtain⟨_,a',m,c,q1,q2,q3⟩:=aN;have hrow:UZ g w (g.hd γ) 1 xs:=ho;have hone:(a.eval v).cells= #[a.eval v]:=by
   have:=AVal.sat_one (x:= .d y) rfl hq.2.1;cases cj:a.eval v<;>rw[cj] at this<;>first|rfl|simp[Value.oneCell'] at this
  obtain⟨w',s1,s2,s3,s4,s5,s6⟩:=XcM (P:=P) (k:=k) (m:=1) (ys:=[[y]]) hrow (by omega) (by simp) rfl (news:= #[a.eval v]) (by simp) (by
   grind [Xy,VK])
  rcases hrow.2 with ⟨e,rfl⟩|⟨b,cap,vs,e',fr,hh,_⟩
  ·simp at hlt
  rw[hh] at q1 s1;cases q1;obtain⟨b',e1,e2⟩:=q3 hn;cases e1;simp only[Nat.mul_one,Vq,Nat.zero_add] at s1;refine⟨g,w',?_,?_,hs.2.2.2⟩
  ·have hsz:=Xbt ht w;simp_all [execOp,Instr.storeAt,Instr.sureAddr,storeVar]
  ·refine Inv.upd hs.1 γ _ (YK _ _ _ _) (fun j hj=>YC _ _ _ (Ne.symm hj)) (fun b hb ax=>s3 b fun hc=>ax (by rw[hl.1];exact hc)) (by omega) s5 s6 rfl (fun _ _=>⟨rfl,rfl,rfl⟩) (fun _ _ _ _ _ h=>h) s2 (fun b hb=> .inl (by rw[hl.1];exact hb)) (fun _=>Gh.keeps_refl _ _)) ⟨⟨hx,hv,TV⟩,⟨hL,TV⟩,TV,TV⟩
section
variable {P:Program}
def XbM (P:Program) (t:TypeId):Bool:=match P.underlying t with|some .bool=>true|_=>false
def XkY {t:TypeId} (h:XbM P t=true):P.underlying t=some .bool:=by
 grind [XbM]
def XxO {t:TypeId}{a b:Bool} (ht:XbM P t=true) (w:World):(do eqGuard .eql t x y (.bool a) (.bool b);binOp .eql t (.bool a) (.bool b):Sem Value).run P w= .ok (.bool (decide (a=b))) w:=by
 have h:=run_equalIn_bool' (P:=P) w 9999 t a b (XkY ht);have h2:(Op.equal t (.bool a) (.bool b)).run P w= .ok (a==b) w:=h;simp_all [eqGuard,binOp,Bool.beq_eq_decide_eq]
def Xu6 {t:TypeId}{a b:Bool} (ht:XbM P t=true) (w:World):(do eqGuard .neq t x y (.bool a) (.bool b);binOp .neq t (.bool a) (.bool b):Sem Value).run P w= .ok (.bool (decide (a≠b))) w:=by
 have h:=run_equalIn_bool' (P:=P) w 9999 t a b (XkY ht);have h2:(Op.equal t (.bool a) (.bool b)).run P w= .ok (a==b) w:=h;simp[eqGuard,binOp,h2,Bool.beq_eq_decide_eq]
def Xj4 {t:TypeId}{k:IntKind}{a b:Int} (ha:0<=a) (hb:b≠0) (w:World):(do eqGuard .rem t x y (.int k a) (.int k b);binOp .rem t (.int k a) (.int k b):Sem Value).run P w= .ok (.int k (a%b)) w:=by
 simp_all [eqGuard,binOp,Op.intDiv,Int.tmod_eq_emod_of_nonneg]
def Xqb {src dst:TypeId}{b:UInt8} (hs:(P.underlying src).isSome=true) (hd:X8J P dst .i64=true) (w:World):
  (convert src dst (.int .u8 (b.toNat:Int))).run P w= .ok (.int .i64 (b.toNat:Int)) w:=by
 have h:=Xd4 (P:=P) (n:=(b.toNat:Int)) (k:= .u8) hs hd w;have:=b.toNat_lt
 grind [IntWalk.i64_in]
end
def X3X {xt yt:TypeId}{r:Value} (r':Value) (hr':r=r') (hx:S.ev x= .d (.v u)) (hy:S.ev y= .d (.v v))
  (hr:∀w,(do eqGuard op xt x y u v;binOp op xt u v:Sem Value).run P w= .ok r w) (h1:r'.oneCell'=true) (hd:Nat.blt d S.n=true) (hg:XL ops S gd)
  (h:Walk P ops draw K rest ((J l,⟨some d,.binOp op xt x y yt,ty,pos,ah,gd⟩,⟨XH ops gd++[(x,.d (.v u)),(y,.d (.v v))],some (d,.d (.v r')),[],[],[]⟩)::l) (S.set d (.d (.v r')))):
  Walk P ops draw K (⟨some d,.binOp op xt x y yt,ty,pos,ah,gd⟩::rest) l S:=by
 subst hr';exact UV hx hy hr h1 hd hg h
def X11 (k:IntKind):Nat:=if k.signed then k.bits-1 else k.bits
theorem VE:2^X11 .u8=256:=by decide
theorem X1N:2^X11 .u32=4294967296:=by decide
theorem Yz:2^X11 .u64=18446744073709551616:=by decide
theorem YX:2^X11 .i64=9223372036854775808:=by decide
theorem Xek (k:IntKind):2^X11 k<=2^k.bits:=Nat.pow_le_pow_right (by omega) (by grind [X11])
theorem X6m {k:IntKind} (h:n<2^X11 k):k.wrap (n:Int)=n:=by
 cases k<;>simp[X11,IntKind.signed,IntKind.bits] at h<;>simp[IntKind.wrap,IntKind.bits,IntKind.signed]<;>omega
theorem XfO {k:IntKind} (hs:k.signed=false):k.wrap (n:Int)=((n%2^k.bits:Nat):Int):=by
 simp[IntKind.wrap,hs]
section
variable {P:Program}{t:TypeId}{x y:Operand}{k:IntKind}{a b:Nat}
theorem Xez {a b:Int}{r:Value} (h1:op= .and\/op= .or\/op= .xor) (h:Op.intBits op k a b=pure r) (w:World):(do eqGuard op t x y (.int k a) (.int k b);binOp op t (.int k a) (.int k b):Sem Value).run P w= .ok r w:=by
 rcases h1 with rfl|rfl|rfl<;>simp[eqGuard,binOp,h]
theorem Xgt {a b:Int}{r:Value} (h1:op= .shl\/op= .shr) (h:Op.shift op k a k' b=pure r) (w:World):(do eqGuard op t x y (.int k a) (.int k' b);binOp op t (.int k a) (.int k' b):Sem Value).run P w= .ok r w:=by
 rcases h1 with rfl|rfl<;>simp[eqGuard,binOp,h]
def X1S (ha:a<2^X11 k) (hb:b<2^X11 k) (w:World):(do eqGuard .and t x y (.int k a) (.int k b);binOp .and t (.int k a) (.int k b):Sem Value).run P w= .ok (.int k ((a&&&b:Nat):Int)) w:=by
 grind [Xek,Nat.and_lt_two_pow,Xez,Op.intBits,X6m]
def X2h (ha:a<2^X11 k) (hb:b<2^X11 k) (w:World):(do eqGuard .or t x y (.int k a) (.int k b);binOp .or t (.int k a) (.int k b):Sem Value).run P w= .ok (.int k ((a|||b:Nat):Int)) w:=by
 grind [Xek,Nat.or_lt_two_pow,Xez,Op.intBits,X6m]
def X9b (ha:a<2^X11 k) (hb:b<2^X11 k) (w:World):(do eqGuard .xor t x y (.int k a) (.int k b);binOp .xor t (.int k a) (.int k b):Sem Value).run P w= .ok (.int k ((a^^^b:Nat):Int)) w:=by
 grind [Xek,Nat.xor_lt_two_pow,Xez,Op.intBits,X6m]
def X1H (hb:b<=k.bits) (w:World):(do eqGuard .shr t x y (.int k a) (.int k' b);binOp .shr t (.int k a) (.int k' b):Sem Value).run P w= .ok (.int k ((a/2^b:Nat):Int)) w:=by
 grind [Xgt,Op.shift]
def XrY (hb:b<=k.bits) (h:a*2^b<2^X11 k) (w:World):(do eqGuard .shl t x y (.int k a) (.int k' b);binOp .shl t (.int k a) (.int k' b):Sem Value).run P w= .ok (.int k ((a*2^b:Nat):Int)) w:=by
 have e:=X6m h
 grind [Xgt,Op.shift]
def X2p (hs:k.signed=false) (hb:b<=k.bits) (w:World):(do eqGuard .shl t x y (.int k a) (.int k' b);binOp .shl t (.int k a) (.int k' b):Sem Value).run P w= .ok (.int k ((a*2^b%2^k.bits:Nat):Int)) w:=by
 have e:=XfO (k:=k) (n:=a*2^b) hs
 grind [Xgt,Op.shift]
def X23 (hb:b≠0) (h:a<2^X11 k) (w:World):(do eqGuard .quo t x y (.int k a) (.int k b);binOp .quo t (.int k a) (.int k b):Sem Value).run P w= .ok (.int k ((a/b:Nat):Int)) w:=by
 have e:=X6m (k:=k) (n:=a/b) (Nat.lt_of_le_of_lt (Nat.div_le_self _ _) h);simp_all [eqGuard,binOp,Op.intDiv]
def Va (hb:b≠0) (w:World):(do eqGuard .rem t x y (.int k a) (.int k b);binOp .rem t (.int k a) (.int k b):Sem Value).run P w= .ok (.int k ((a%b:Nat):Int)) w:=by
 simp_all [Int.tmod_eq_emod_of_nonneg,eqGuard,binOp,Op.intDiv]
def X2e (h:a+b<2^X11 k) (w:World):(do eqGuard .add t x y (.int k a) (.int k b);binOp .add t (.int k a) (.int k b):Sem Value).run P w= .ok (.int k ((a+b:Nat):Int)) w:=by
 rw[XoC,<-Int.natCast_add,X6m h]
def X3C (h:a*b<2^X11 k) (w:World):(do eqGuard .mul t x y (.int k a) (.int k b);binOp .mul t (.int k a) (.int k b):Sem Value).run P w= .ok (.int k ((a*b:Nat):Int)) w:=by
 rw[Xn6,<-Int.natCast_mul,X6m h]
def XiA (hs:k.signed=false) (ha:a<2^k.bits) (w:World):(Op.unary .xor (.int k a)).run P w= .ok (.int k ((2^k.bits-1-a:Nat):Int)) w:=by
 have hp:0<2^k.bits:=Nat.pow_pos (by omega);have e0:k.max=((2^k.bits-1:Nat):Int):=by
  grind [IntKind.max]
 have e1:(BitVec.ofInt k.bits ((2^k.bits-1:Nat):Int))=BitVec.allOnes k.bits:=by
  grind [BitVec.toNat_allOnes]
 have e2:(BitVec.allOnes k.bits^^^BitVec.ofInt k.bits (a:Int)).toNat=2^k.bits-1-a:=by
  grind [BitVec.allOnes_xor]
 have e3:=XfO (k:=k) (n:=2^k.bits-1-a) hs;rw[Nat.mod_eq_of_lt (by omega)] at e3;simp_all [Op.unary,Op.intBits]
def XvG {n:Int} (h: -9223372036854775808<=n/\n<=9223372036854775807) (w:World):(Op.unary .xor (.int .i64 n)).run P w= .ok (.int .i64 (-n-1)) w:=by
 have e1:BitVec.ofInt 64 (-1)=BitVec.allOnes 64:=by decide
 have e2:IntKind.i64.wrap ((BitVec.allOnes 64^^^BitVec.ofInt 64 n).toNat:Int)= -n-1:=by
  rw[BitVec.allOnes_xor,BitVec.toNat_not,BitVec.toNat_ofInt,IntKind.wrap_i64];omega
 have e:Op.unary .xor (.int .i64 n)=pure (.int .i64 (-n-1)):=by
  show Op.intBits .xor .i64 (-1) n=_;show(pure (Value.int .i64 (IntKind.i64.wrap ((BitVec.ofInt 64 (-1)^^^BitVec.ofInt 64 n).toNat:Int))):Sem Value)=_;rw[e1,e2]
 rw[e];rfl
def Xeh {n:Int} (h: -9223372036854775807<=n/\n<=9223372036854775807) (w:World):(Op.unary .neg (.int .i64 n)).run P w= .ok (.int .i64 (-n)) w:=by
 have e:IntKind.i64.wrap (0-n)= -n:=by grind [IntWalk.i64_in]
 have e':Op.unary .neg (.int .i64 n)=pure (.int .i64 (-n)):=by
  show(pure (Value.int .i64 (IntKind.i64.wrap (0-n))):Sem Value)=_;rw[e]
 rw[e'];rfl
variable {src dst:TypeId}{q:IntKind}
def Ub (hs:(P.underlying src).isSome=true) (hd:X8J P dst q=true) (ha:a<2^X11 q) (w:World):(convert src dst (.int k (a:Int))).run P w= .ok (.int q (a:Int)) w:=by
 have h:=Xd4 (P:=P) (n:=(a:Int)) (k:=k) hs hd w
 grind [X6m]
def XvP (hs:(P.underlying src).isSome=true) (hd:X8J P dst q=true) (hq:q.signed=false) (w:World):(convert src dst (.int k (a:Int))).run P w= .ok (.int q ((a%2^q.bits:Nat):Int)) w:=by
 have h:=Xd4 (P:=P) (n:=(a:Int)) (k:=k) hs hd w
 grind [XfO]
end
structure SrcV (P:Program) (y:AVal) (sz:Nat) (ys:List (List D)):Prop where
 src:∀(E:Env) (L:Nat->AObj) (g:Gh) (w:World) (u:Value),Inv E L g w->y.sat g u->∀m,m<=J ys->
  ∃news,(Builtin.firstCells sz m u).run P w= .ok news w/\news.size=m*sz/\Xy g ((ys.take m).flatten.map .d) news.toList/\(Builtin.lenOf u).run P w= .ok (J ys) w/\∀y∈ys.take m,J y=sz
def Xjb:SrcV P (.d (.sl sz ys)) sz ys:=by
 refine⟨fun E L g w u hi hs m hm=>Xgh hi ?_ hm⟩
 grind [AVal.sat]
theorem Xhs:∀l:List UInt8,Xy g ((l.map fun b=>[D.v (.int .u8 b.toNat)]).flatten.map .d) (l.map fun b=>Value.int .u8 b.toNat)
 |[]=>by simp[Xy]
 |b::l=>by
  simp only[map_cons,flatten_cons,singleton_append,Xy];exact⟨X0k rfl,Xhs l⟩
def Xm5 {l:List UInt8}:SrcV P (aZ (X7 l)) 1 (l.map fun b=>[.v (.int .u8 b.toNat)]):=by
 refine⟨fun E L g w u hi hs m hm=> ?_⟩;have hu:=Uy hs;subst hu;rw[LM] at hm;have hsz:(X7 l).size=J l:=rfl;have hex:((X7 l).extract 0 m).data=(l.take m).toArray:=by
  grind [ByteArray.data_extract,X7]
 refine⟨((l.take m).map fun b=>Value.int .u8 b.toNat).toArray,?_,by simp;omega,?_,by simp[Builtin.lenOf,hsz],?_⟩
 ·grind [Builtin.firstCells,Sem.run_pure]
 ·rw[<-map_take];exact Xhs _
 grind
def Xnw (hr:UZ g w h sz xs):∃b c,h= .slice b (J xs) c/\J xs<=c:=by
 grind [UZ]
def X28 {T:TypeId}{lo:Operand} (hx:S.ev x= .own γ n) (hL:S.obj γ= .row sz xs) (hlo:S.ev lo=ai k) (hn:n=J xs) (hk:k<=J xs)
  (hT:UT P T sz=true) (hd:Nat.blt d S.n=true) (hg:XL ops S gd)
  (h:Walk P ops draw K rest ((J l,⟨some d,.slice T x (some lo) none none,ty,pos,ah,gd⟩,⟨XH ops gd++[(x,.own γ n),(lo,ai k)],some (d,.cut γ n k sz),[(γ,.row sz xs)],[],[]⟩)::l) (S.set d (.cut γ n k sz))):
  Walk P ops draw K (⟨some d,.slice T x (some lo) none none,ty,pos,ah,gd⟩::rest) l S:=by
 refine Yq h hg (Uk rfl fun E S g a w hs hq hl=> ?_) ⟨⟨hx,hlo,TV⟩,⟨hL,TV⟩,TV,hd⟩;have ho:=hs.1.obj γ;rw[hl.1] at ho;obtain⟨e,h1,h2,h3⟩:=X29 hT;have hv:a.eval x=g.hd γ:=X41 hq.1 ho hn;obtain⟨b,cap,hh,c1⟩:=Xnw (h:=g.hd γ) ho;have hbd:=Xf0 (P:=P) (g:=g) (a:=a) (lo:=some lo) (hi:=none) (l:=k) (h:=J xs) (cy:=true) (len:=J xs) (cap:=cap) (fun e=>by cases e) (fun _=>rfl) ⟨hq.2.1,TV⟩ trivial hk c1 w;have hrun:=run_slice_any (P:=P) w T b (J xs) cap (by rw[h3];exact h1) (some (a.eval lo)) none none;simp only[Option.map_some,Option.map_none] at hbd;rw[hbd,Result.andThen_ok,h3,h2 w,Result.andThen_ok] at hrun;refine⟨sliced b k (J xs) cap sz,?_,?_⟩
 ·simp_all [execOp,Instr.sliceAt,run_underlying]
 ·simp only[AVal.sat,sliced];exact⟨rfl,b,J xs,cap,hh,by omega,fun _=>by rw[hn]⟩
def Xpk {T T2:TypeId} (hx:S.ev x= .cut γ n k sz) (hL:S.obj γ= .row sz r) (hn:n=J r) (hk:k<=J r) (hy:S.ev y=yv) (hsrc:SrcV P yv sz ys) (hm:m=min (J ys) (J r-k))
  (hT:UT P T sz=true) {d':Option (Nat×AVal)} (hd:X4K S d') (hd':d'=none\/∃t,d'=some (t,ai m)) (hg:XL ops S gd)
  (h:Walk P ops draw K rest ((J l,⟨d'.map (·.1),.call ⟨.builtin .copy,#[x,y],#[T,T2]⟩,ty,pos,ah,gd⟩,⟨XH ops gd++[(x,.cut γ n k sz),(y,yv)],d',[(γ,.row sz r)],[(γ,.row sz (r.take k++ys.take m++r.drop (k+m)))],[]⟩)::l)
   ⟨S.n,d'.toList++S.τ,(γ,.row sz (r.take k++ys.take m++r.drop (k+m)))::S.L⟩):
  Walk P ops draw K (⟨d'.map (·.1),.call ⟨.builtin .copy,#[x,y],#[T,T2]⟩,ty,pos,ah,gd⟩::rest) l S:=by
 refine Yq h hg ?_ ⟨⟨hx,hy,TV⟩,⟨hL,TV⟩,TV,hd⟩;intro E S a w g hs hok Q K hK;obtain⟨dL,⟨l1,_⟩,_,dz⟩:=hok;have hq:=X1K hs _ dL;have ho:=hs.1.obj γ;rw[l1] at ho;have hrow:UZ g w (g.hd γ) sz r:=ho;obtain⟨b,cap,hh,c1⟩:=Xnw hrow;have hx':a.eval x= .slice (if cap=k then b else b.map fun p=>p.add (k*sz)) (n-k) (cap-k):=by
  grind [AVal.sat,VK]
 obtain⟨news,n1,n2,n3,n4,n5⟩:=hsrc.src E _ g w _ hs.1 hq.2.1 m (by omega);obtain⟨w',s1,s2,s3,s4,s5,s6⟩:=XcM (P:=P) (k:=k) (m:=m) hrow (by omega) n5 (by simp;omega) n2 n3;have hst:(match Value.slice (if cap=k then b else b.map fun p=>p.add (k*sz)) (n-k) (cap-k) with| .slice (some a) _ _=>(storeCells (a.add (0*sz)) news.toList).run P w|_=> .ok () w)= .ok () w':=by
  by_cases nw:cap=k
  ·have hm0:m=0:=by omega
   grind [storeCells,Xy]
  grind [Addr.add_zero',UZ]
 have hrun:=XaG (P:=P) (T2:=T2) (ty:=ty) (m:=m) hT hx' n4 (by omega) n1 (by rw[hx'];exact hst);have hi:Inv E (Xs .dead ((γ,.row sz (r.take k++ys.take m++r.drop (k+m)))::S.L)) g w':=by
  refine Inv.upd hs.1 γ _ (YK _ _ _ _) (fun j hj=>YC _ _ _ (Ne.symm hj)) (fun b hb ax=>s3 b fun hc=>ax (by rw[l1];exact hc)) (by omega) s5 s6 rfl (fun _ _=>⟨rfl,rfl,rfl⟩) (fun _ _ _ _ _ h=>h) s2 (fun b hb=> .inl ?_) (fun _=>Gh.keeps_refl _ _);rw[l1];exact hb
 have cT:(execOp a.eval ⟨d'.map (·.1),.call ⟨.builtin .copy,#[x,y],#[T,T2]⟩,ty,pos,ah,gd⟩).run P w= .ok (.value (.int .i64 m)) w':=by
  simp[execOp,resolve,invoke,builtin,hrun]
 unfold Oper.wp;rw[cT,Oper.upon_value];rcases hd' with rfl|⟨t,rfl⟩
 ·exact hK _ _ ⟨g,hi,hs.2.1,hs.2.2.1,hs.2.2.2⟩
 ·exact hK _ _ (X2f hi hs.2.1 hs.2.2.1 hs.2.2.2 (X0k rfl) dz)
def X3u {T T2:TypeId} (hx:S.ev x= .cut γ n k sz) (hL:S.obj γ= .row sz r) (hn:n=J r) (hk:k<=J r) (hy:S.ev y=yv) (hsrc:SrcV P yv sz ys) (hm:m=min (J ys) (J r-k))
  (hT:UT P T sz=true) (hd:Nat.blt d S.n=true) (hg:XL ops S gd)
  (h:Walk P ops draw K rest ((J l,⟨some d,.call ⟨.builtin .copy,#[x,y],#[T,T2]⟩,ty,pos,ah,gd⟩,⟨XH ops gd++[(x,.cut γ n k sz),(y,yv)],some (d,ai m),[(γ,.row sz r)],[(γ,.row sz (r.take k++ys.take m++r.drop (k+m)))],[]⟩)::l)
   ((S.set d (ai m)).own γ (.row sz (r.take k++ys.take m++r.drop (k+m))))):
  Walk P ops draw K (⟨some d,.call ⟨.builtin .copy,#[x,y],#[T,T2]⟩,ty,pos,ah,gd⟩::rest) l S:=
 Xpk (d':=some (d,ai m)) hx hL hn hk hy hsrc hm hT hd (.inr ⟨d,rfl⟩) hg h
def XmK {T:TypeId}{lo hi:Operand} (hx:S.ev x= .d (.sl sz xs)) (hlo:S.ev lo=ai lb) (hhi:S.ev hi=ai hb) (cU:S.ev mx=ai mb) (cg:lb<=hb) (hh:hb<=mb) (hm:mb<=J xs)
  (hT:UT P T sz=true) (hd:Nat.blt d S.n=true) (hg:XL ops S gd)
  (h:Walk P ops draw K rest ((J l,⟨some d,.slice T x (some lo) (some hi) (some mx),ty,pos,ah,gd⟩,⟨XH ops gd++[(x,.d (.sl sz xs)),(lo,ai lb),(hi,ai hb),(mx,ai mb)],some (d,.d (.sl sz ((xs.take hb).drop lb))),[],[],[]⟩)::l) (S.set d (.d (.sl sz ((xs.take hb).drop lb))))):
  Walk P ops draw K (⟨some d,.slice T x (some lo) (some hi) (some mx),ty,pos,ah,gd⟩::rest) l S:=by
 refine Yq h hg (Uk rfl fun E S g a w hs hq hl=> ?_) ⟨⟨hx,hlo,hhi,cU,TV⟩,TV,TV,hd⟩;obtain⟨e,h1,h2,h3⟩:=X29 hT;obtain⟨aN,bJ,hq3,hq4,_⟩:=hq;simp only[AVal.sat,D.rep] at aN;obtain⟨b,cap,hv,c1,c2,c3⟩:=aN;have e2:=Uy bJ;have e3:=Uy hq3;have e4:=Uy hq4;have nx:mb<=cap:=by omega
 have hbd:(Instr.sliceBounds true (J xs) cap (some (a.eval lo)) (some (a.eval hi)) (some (a.eval mx))).run P w= .ok (lb,hb,mb) w:=by
  simp_all [Instr.sliceBounds,run_sliceBound]
 have hrun:=run_slice_any (P:=P) w T b (J xs) cap (by rw[h3];exact h1) (some (a.eval lo)) (some (a.eval hi)) (some (a.eval mx));rw[hbd,Result.andThen_ok,h3,h2 w,Result.andThen_ok] at hrun;refine⟨sliced b lb hb mb sz,?_,?_⟩
 ·simp_all [execOp,Instr.sliceAt,run_underlying]
 grind [AVal.sat,D.rep,sliced,Xbk,Xaf,Vq]
def Con.data (h:Con P f [] args [(γ,.row sz xs)] (.own γ n)) (hn:n=J xs):Con P f [] args [] (.d (.sl sz xs)):=by
 intro g w vs hi hs;refine(h g w vs hi hs).mono ?_;rintro e w' ⟨v,g',h1,h2,h3,_⟩;obtain⟨M',hle,hi2⟩:=X8F (S:=⟨0,[],[(γ,.row sz xs)]⟩) h3 (YK _ _ _ _);have ho:=hi2.obj γ;rw[YK] at ho;have cV:(AVal.own γ n).sat {g' with M:=M'} v:=X3R (g:=g') (g':={g' with M:=M'}) hle rfl rfl rfl h2;refine⟨v,{g' with M:=M'},h1,X75 ho hn cV,?_,fun γ b6=>by simp[Yg] at b6⟩;refine(hi2.free (g0:={g' with M:=M'}) fun γ _=>Gh.keeps_refl _ _).sub fun k=> .inr rfl
def Con.dataT {y:D} (h:Con P f [] args [(γ,.row sz xs)] (.tup [.own γ n,.d y])) (hn:n=J xs):Con P f [] args [] (.tup [.d (.sl sz xs),.d y]):=by
 intro g w vs hi hs;refine(h g w vs hi hs).mono ?_;rintro e w' ⟨v,g',h1,h2,h3,_⟩;obtain⟨M',hle,hi2⟩:=X8F (S:=⟨0,[],[(γ,.row sz xs)]⟩) h3 (YK _ _ _ _);have ho:=hi2.obj γ;rw[YK] at ho;have cV:(AVal.tup [.own γ n,.d y]).sat {g' with M:=M'} v:=X3R (g:=g') (g':={g' with M:=M'}) hle rfl rfl rfl h2;refine⟨v,{g' with M:=M'},h1,?_,?_,fun γ b6=>by simp[Yg] at b6⟩
 ·simp only[AVal.sat] at cV |-;obtain⟨us,e1,e2⟩:=cV;refine⟨us,e1,?_⟩;generalize us.toList=l at*
  match l,e2 with
  |[a,b],e2=>
   simp only[Xy,AVal.sat,and_true] at e2 |-;have:=X75 (γ:=γ) (u:=a) ho hn (by simp only[AVal.sat];exact e2.1);simp only[AVal.sat] at this;exact⟨this,e2.2⟩
 ·refine(hi2.free (g0:={g' with M:=M'}) fun γ _=>Gh.keeps_refl _ _).sub fun k=> .inr rfl
def XyV {T:TypeId}{hi:Operand} (hx:S.ev x= .d (.sl sz xs)) (hhi:S.ev hi=ai hb) (cU:S.ev mx=ai mb) (hh:hb<=mb) (hm:mb<=J xs)
  (hT:UT P T sz=true) (hd:Nat.blt d S.n=true) (hg:XL ops S gd)
  (h:Walk P ops draw K rest ((J l,⟨some d,.slice T x none (some hi) (some mx),ty,pos,ah,gd⟩,⟨XH ops gd++[(x,.d (.sl sz xs)),(hi,ai hb),(mx,ai mb)],some (d,.d (.sl sz ((xs.take hb).drop 0))),[],[],[]⟩)::l) (S.set d (.d (.sl sz ((xs.take hb).drop 0))))):
  Walk P ops draw K (⟨some d,.slice T x none (some hi) (some mx),ty,pos,ah,gd⟩::rest) l S:=by
 refine Yq h hg (Uk rfl fun E S g a w hs hq hl=> ?_) ⟨⟨hx,hhi,cU,TV⟩,TV,TV,hd⟩;obtain⟨e,h1,h2,h3⟩:=X29 hT;obtain⟨aN,hq3,hq4,_⟩:=hq;simp only[AVal.sat,D.rep] at aN;obtain⟨b,cap,hv,c1,c2,c3⟩:=aN;have e3:=Uy hq3;have e4:=Uy hq4;have nx:mb<=cap:=by omega
 have hbd:(Instr.sliceBounds true (J xs) cap none (some (a.eval hi)) (some (a.eval mx))).run P w= .ok (0,hb,mb) w:=by
  simp[Instr.sliceBounds,e3,e4,run_sliceBound,hh,nx]
 have hrun:=run_slice_any (P:=P) w T b (J xs) cap (by rw[h3];exact h1) none (some (a.eval hi)) (some (a.eval mx));rw[hbd,Result.andThen_ok,h3,h2 w,Result.andThen_ok] at hrun;refine⟨sliced b 0 hb mb sz,?_,?_⟩
 ·simp only[execOp,hv,Instr.sliceAt,Sem.run_bind,run_underlying h1,Result.andThen_ok,Option.map_some,Option.map_none,hrun];rfl
 ·simp only[AVal.sat,D.rep,sliced];have hlen:J ((xs.take hb).drop 0)=hb-0:=by simp;omega
  refine⟨if mb=0 then b else b.map fun p=>p.add (0*sz),mb-0,by rw[hlen],by omega,by omega,?_⟩;rcases c3 with rfl|⟨b',o,rfl,hr⟩
  ·left;simp
  ·by_cases hem:(xs.take hb).drop 0=[]
   ·exact .inl hem
   ·right;have hne:mb≠0:=by
     intro e;apply hem;apply eq_nil_of_length_eq_zero;omega
    refine⟨b',o+0*sz,?_,Xbk (Xaf hr hb) 0⟩;rw[NI hne,Option.map_some,Vq]
def Xx9 {T:TypeId} (hx:S.ev x= .d (.sl sz xs)) (hlo:X9y S lo lb) (hhi:Xac S (J xs) hi hb) (cg:lb<=hb) (hh:hb<=J xs) (hys:(xs.take hb).drop lb=ys)
  (hT:UT P T sz=true) (hd:Nat.blt d S.n=true) (hg:XL ops S gd)
  (h:Walk P ops draw K rest ((J l,⟨some d,.slice T x lo hi none,ty,pos,ah,gd⟩,⟨XH ops gd++((x,.d (.sl sz xs))::(X2T lo lb++X2T hi hb)),some (d,.d (.sl sz ys)),[],[],[]⟩)::l) (S.set d (.d (.sl sz ys)))):
  Walk P ops draw K (⟨some d,.slice T x lo hi none,ty,pos,ah,gd⟩::rest) l S:=by
 subst hys;exact XhZ hx hlo hhi cg hh hT hd hg h
def XzA {T:TypeId}{lo hi:Operand} (hx:S.ev x= .d (.sl sz xs)) (hlo:S.ev lo=ai lb) (hhi:S.ev hi=ai hb) (cU:S.ev mx=ai mb) (cg:lb<=hb) (hh:hb<=mb) (hm:mb<=J xs) (hys:(xs.take hb).drop lb=ys)
  (hT:UT P T sz=true) (hd:Nat.blt d S.n=true) (hg:XL ops S gd)
  (h:Walk P ops draw K rest ((J l,⟨some d,.slice T x (some lo) (some hi) (some mx),ty,pos,ah,gd⟩,⟨XH ops gd++[(x,.d (.sl sz xs)),(lo,ai lb),(hi,ai hb),(mx,ai mb)],some (d,.d (.sl sz ys)),[],[],[]⟩)::l) (S.set d (.d (.sl sz ys)))):
  Walk P ops draw K (⟨some d,.slice T x (some lo) (some hi) (some mx),ty,pos,ah,gd⟩::rest) l S:=by
 subst hys;exact XmK hx hlo hhi cU cg hh hm hT hd hg h
def XyD {t:TypeId} (hx:S.ev x=aZ s) (ht:Xa0 P t=true) (av:S.obj γ= .dead) (hf:S.free γ=true)
  (hd:Nat.blt d S.n=true) (hg:XL ops S gd)
  (h:Walk P ops draw K rest ((J l,⟨some d,.range t x,ty,pos,ah,gd⟩,⟨XH ops gd++[(x,aZ s)],some (d,.ptr γ 0),[(γ,.dead)],[(γ,.iter s 0)],[γ]⟩)::l)
   ((S.set d (.ptr γ 0)).own γ (.iter s 0))):
  Walk P ops draw K (⟨some d,.range t x,ty,pos,ah,gd⟩::rest) l S:=
 Yq h hg (X3H rfl fun E S g a w hs hq hl hn=>by
  refine⟨.pointer (some ⟨w.heap.size,0,none⟩),X4f g w γ,w.alloc (.stringIter s 0),?_,?_,?_,X44 hn.1 hs.2.2.2⟩
  ·have:=run_underlying (P:=P) (w:=w) (Xg4 ht);simp only[execOp,Instr.range,Uy hq.1,Sem.run_bind,this,Result.andThen_ok];rfl
  ·simp[AVal.sat,X4f,Gh.put]
  ·refine X80 hs.1 γ hn.1 hl.1 _ _ _ (X4V w _) (X7q w _) rfl rfl ?_ (fun k hk=> ?_)
   ·show(w.alloc (.stringIter s 0)).heap[(X4f g w γ).az γ]? =some (.stringIter s 0);simp only[X4f,Gh.put,if_true];exact heap_alloc_new w _
   ·have hk:(g.put γ w.heap.size undef).az γ=k:=hk;simp only[Gh.put,if_true] at hk;omega) ⟨⟨hx,TV⟩,⟨av,TV⟩,⟨hf,TV⟩,hd⟩
def Xy9 {p:Nat} (hx:S.ev x= .ptr γ 0) (hL:S.obj γ= .iter s p) (hlt:p<s.size)
  (hd:Nat.blt d S.n=true) (hg:XL ops S gd)
  (h:Walk P ops draw K rest ((J l,⟨some d,.next x true,ty,pos,ah,gd⟩,⟨XH ops gd++[(x,.ptr γ 0)],some (d,.tup [ab true,ai p,.d (.v (.int .i32 (Utf8.decode s p).1))]),[(γ,.iter s p)],[(γ,.iter s (p+(Utf8.decode s p).2))],[]⟩)::l)
   ((S.set d (.tup [ab true,ai p,.d (.v (.int .i32 (Utf8.decode s p).1))])).own γ (.iter s (p+(Utf8.decode s p).2)))):
  Walk P ops draw K (⟨some d,.next x true,ty,pos,ah,gd⟩::rest) l S:=by
 refine Yq h hg (X3H rfl fun E S g a w hs hq hl hn=> ?_) ⟨⟨hx,TV⟩,⟨hL,TV⟩,TV,hd⟩;have ho:=hs.1.obj γ;rw[hl.1] at ho;have ho:w.heap[g.az γ]? =some (.stringIter s p):=ho;have hb:=(Array.getElem?_eq_some_iff.1 ho).1;have hv:=hq.1;simp only[AVal.sat] at hv;refine⟨.tuple #[.bool true,goInt p,.int .i32 (Utf8.decode s p).1],g,{w with heap:=w.heap.set! (g.az γ) (.stringIter s (p+(Utf8.decode s p).2))},?_,?_,?_,hs.2.2.2⟩
 ·simp only[execOp,hv,Instr.next,getObj,setObj,Sem.run_bind,Sem.run,ho,Result.andThen,hlt,if_true];simp[goInt,ho,hlt]
 ·simp only[AVal.sat];refine⟨_,rfl,?_⟩;simp[Xy,AVal.sat,D.rep,goInt,Value.oneCell']
 ·refine Inv.upd hs.1 γ _ (YK _ _ _ _) (fun k hk=>YC _ _ _ (Ne.symm hk)) (fun b ej ax=> ?_) (by simp) rfl rfl rfl (fun _ _=>⟨rfl,rfl,rfl⟩) (fun _ _ _ _ _ h=>h) ?_ (fun b ej=> .inl ?_) (fun _=>Gh.keeps_refl _ _)
  ·have hne:g.az γ≠b:=fun e=>ax (by rw[hl.1];exact e);simp[Array.set!,Array.getElem?_setIfInBounds,hne]
  ·show(w.heap.set! (g.az γ) _)[g.az γ]? =_;simp[Array.set!,Array.getElem?_setIfInBounds,hb]
  ·rw[hl.1];exact ej
def XtW {p:Nat} (hx:S.ev x= .ptr γ 0) (hL:S.obj γ= .iter s p) (hge:s.size<=p)
  (hd:Nat.blt d S.n=true) (hg:XL ops S gd)
  (h:Walk P ops draw K rest ((J l,⟨some d,.next x true,ty,pos,ah,gd⟩,⟨XH ops gd++[(x,.ptr γ 0)],some (d,.tup [ab false]),[(γ,.iter s p)],[],[]⟩)::l) (S.set d (.tup [ab false]))):
  Walk P ops draw K (⟨some d,.next x true,ty,pos,ah,gd⟩::rest) l S:=by
 refine Yq h hg (Uk rfl fun E S g a w hs hq hl=> ?_) ⟨⟨hx,TV⟩,⟨hL,TV⟩,TV,hd⟩;have ho:=hs.1.obj γ;rw[hl.1] at ho;have ho:w.heap[g.az γ]? =some (.stringIter s p):=ho;have hv:=hq.1;simp only[AVal.sat] at hv;refine⟨.tuple #[.bool false],?_,?_⟩
 ·simp only[execOp,hv,Instr.next,getObj,Sem.run_bind,Sem.run,ho,Result.andThen,show ¬p<s.size by omega,if_false];simp[ho,show ¬p<s.size by omega]
 ·simp only[AVal.sat];refine⟨_,rfl,?_⟩;simp[Xy,AVal.sat,D.rep,Value.oneCell']
def XsF {c:UInt8} (h:b[k]? =some c):(X7 b)[k]? =some c:=by
 have hlt:k<(X7 b).size:=(GS.1 h).1;rw[getElem?_pos (X7 b) k hlt];exact CG some (GS.1 h).2
def Xyw {t:TypeId}{m:Int}{c:UInt8} (hx:S.ev x=aZ (X7 b)) (hi:S.ev i= .d (.v (.int kd m))) (hk:m=(k:Nat)) (hc:b[k]? =some c)
  (ht:Xa0 P t=true) (hd:Nat.blt d S.n=true) (hg:XL ops S gd)
  (h:Walk P ops draw K rest ((J l,⟨some d,.index t x i,ty,pos,ah,gd⟩,⟨XH ops gd++[(x,aZ (X7 b)),(i,.d (.v (.int kd m)))],some (d,.d (.v (.int .u8 c.toNat))),[],[],[]⟩)::l) (S.set d (.d (.v (.int .u8 c.toNat))))):
  Walk P ops draw K (⟨some d,.index t x i,ty,pos,ah,gd⟩::rest) l S:=
 Yq h hg (Uk rfl fun E S g a w hs hq hl=>by
  refine⟨.int .u8 c.toNat,?_,X0k rfl⟩;subst hk;have h0:(0:Int)<=(k:Int):=by omega
  have hu:=run_underlying (P:=P) (w:=w) (Xg4 ht);simp only[execOp,Instr.index,Uy hq.1,Uy hq.2.1,asIntOf,Sem.run_bind,Sem.run_pure,Result.andThen_ok,hu,PI h0,Int.toNat_natCast,XsF hc]) ⟨⟨hx,hi,TV⟩,TV,TV,hd⟩
def Con.adopt (h:Con P f [(0,.row sz [])] (.own 0 0::args) Lo res) (hm:X0y 0 args=false):Con P f [] (aq::args) Lo res:=by
 intro g w vs hi hs;let g1:Gh:={az:=g.az,hd:=fun k=>if k=0 then .slice none 0 0 else g.hd k,aI:=g.aI,M:=g.M}
 have iG:g1.hd 0= .slice none 0 0:=rfl;have hno:∀γ b,¬Xw g1 (Xs .dead [(0,AObj.row sz [])] γ) γ b:=by
  intro γ b hl;by_cases b6:γ=0
  ·subst b6;rw[YK] at hl;obtain⟨a,n,c,e,_⟩:=hl
   grind
  grind [YC,Xs,Xw]
 have uR:∀γ b,¬Xw g (Xs .dead ([]:List (Nat×AObj)) γ) γ b:=fun γ b hl=>hl;have hi1:Inv (VA g1 w [(0,.row sz [])]) (Xs .dead [(0,.row sz [])]) g1 w:=by
  refine⟨fun γ=> ?_,fun γ γ' b hl=>absurd hl (hno γ b),hi.mem,fun γ b hl=>absurd hl (hno γ b),fun γ b hl=>absurd hl (hno γ b),YN.refl _,fun a v hv=> .inl ⟨v,hv⟩,fun _ _ _=>rfl,Nat.le_refl _,rfl,rfl,fun γ _=>Gh.keeps_refl _ _⟩;by_cases b6:γ=0
  ·subst b6;rw[YK];exact⟨by simp,.inl ⟨rfl,rfl⟩⟩
  grind [YC,Ud,Xs]
 match vs,hs with
 |[],hs=>grind [Xy]
 |v::vs,hs=>
  simp only[Xy] at hs;have hv:=Uy hs.1;have hs1:Xy g1 (.own 0 0::args) (v::vs):=by
   simp only[Xy];refine⟨?_,X22 (g:=g) (g':=g1) (YN.refl _) args vs (fun γ b6=> ?_) hs.2⟩
   ·simp only[AVal.sat];rw[hv];exact⟨rfl,none,0,0,rfl,Nat.le_refl _,fun _=>rfl⟩
   grind [Gh.keeps_of]
  refine(h g1 w (v::vs) hi1 hs1).mono ?_
  grind [Yg,VA]
variable {P:Program}{ops:Array Oper}{draw:Bool}{K:XU->St->Prop}{rest:List Oper}{l:XU}{S:St}{d:Nat}{ty:TypeId}{pos:String}{ah:Array Edge}{gd:Option (Nat×Bool)}
def Xtp {o:Nat} (hx:S.ev x= .ptr γ o) (hd:Nat.blt d S.n=true) (hg:XL ops S gd)
  (h:Walk P ops draw K rest ((J l,⟨some d,.nilCheck x,ty,pos,ah,gd⟩,⟨XH ops gd++[(x,.ptr γ o)],some (d,.ptr γ o),[],[],[]⟩)::l) (S.set d (.ptr γ o))):
  Walk P ops draw K (⟨some d,.nilCheck x,ty,pos,ah,gd⟩::rest) l S:=
 Yq h hg (Uk rfl fun E S g a w hs hq hl=>by
  have hp:a.eval x= .pointer (some ⟨g.az γ,o,none⟩):=by grind [AVal.sat,VK]
  simp_all [execOp,AVal.sat]) ⟨⟨hx,TV⟩,TV,TV,hd⟩
inductive SK where
 |i (k:IntKind)
 |b
 |s
def SK.of (P:Program) (t:TypeId):Option SK:=match P.underlying t with|some (.int k)=>some (.i k)|some .bool=>some .b|some .string=>some .s|_=>none
def X1D:Value->Option SK
 | .int k _=>some (.i k)
 | .bool _=>some .b
 | .string _=>some .s
 |_=>none
def X5w:Value->Value->Bool
 | .int _ a,.int _ b=>decide (a=b)
 | .bool a,.bool b=>decide (a=b)
 | .string a,.string b=>decide (a.data.toList=b.data.toList)
 |_,_=>false
def X2g:List Value->List Value->Bool
 |a::aZ,b::bs=>X5w a b&&X2g aZ bs
 |_,_=>true
def X8Z (P:Program):Nat->List Field->Option (List SK)
 |_,[]=>some []
 |i,f::fs=>if f.name≠ "_" /\f.offset=i/\X1u P f.type false 1=true then (SK.of P f.type).bind fun k=>(X8Z P (i+1) fs).map (k:: ·) else none
def X8W (P:Program) (t:TypeId):Option (List SK):=
 match P.underlying t with
 |some (.struct fs)=>if P.stoodInHeld t=false/\P.eqGuardType P.depth t=false then X8Z P 0 fs.toList else none
 |some (.array n e)=>if P.eqGuardType P.depth t=false/\X1u P e false 1=true then (SK.of P e).map fun k=>replicate n k else none
 |_=>none
variable{ks:List SK}
section
variable {P:Program}
def XnO {d:Nat}{t:TypeId}{k:SK} (hk:SK.of P t=some k) (hu:X1D u=some k) (hv:X1D v=some k) (w:World):(Op.equalIn (d+1) t u v).run P w= .ok (X5w u v) w:=by
 unfold SK.of at hk;cases ht:P.underlying t with
 |none=>simp[ht] at hk
 |some de=>
  rw[ht] at hk;cases de<;>simp at hk<;>subst hk<;>cases u<;>simp[X1D] at hu<;>cases v<;>simp[X1D] at hv
  ·grind [run_equalIn_bool,X5w]
  ·grind [run_equalIn_int,X5w]
  grind [run_equalIn_string,ByteArray.toList_eq,X5w]
theorem XlQ {d:Nat}{xs ys:Array Value}:∀(fs:List Field) (i:Nat) (ks:List SK) (us vs:List Value),X8Z P i fs=some ks->us.map X1D=ks.map some->vs.map X1D=ks.map some->
  (∀j u,us[j]? =some u->xs[i+j]? =some u)->(∀j u,vs[j]? =some u->ys[i+j]? =some u)->∀w,(Op.eqFields (d+1) xs ys fs).run P w= .ok (X2g us vs) w
 |[],i,ks,us,vs,hf,hu,hv,hx,hy,w=>by
  simp[X8Z] at hf;subst hf;simp at hu hv;subst hu;subst hv;rfl
 |f::fs,i,ks,us,vs,hf,hu,hv,hx,hy,w=>by
  unfold X8Z at hf;split at hf
  case isFalse=>cases hf
  rename_i hc;obtain⟨c1,c2,c3⟩:=hc;cases hk:SK.of P f.type with
  |none=>simp[hk] at hf
  |some k=>
   cases hr:X8Z P (i+1) fs with
   |none=>simp[hk,hr] at hf
   |some kr=>
    simp[hk,hr] at hf;subst hf;cases us with
    |nil=>simp at hu
    |cons u us=>
     cases vs with
     |nil=>simp at hv
     |cons v vs=>
      simp only[map_cons,cons.injEq] at hu hv;have h1:xs[f.offset]? =some u:=by rw[c2];exact hx 0 u rfl
      have h2:ys[f.offset]? =some v:=by rw[c2];exact hy 0 v rfl
      have ih:=XlQ (d:=d) (xs:=xs) (ys:=ys) fs (i+1) kr us vs hr hu.2 hv.2 (fun j u hj=>by have:=hx (j+1) u hj;rwa [show i+(j+1)=i+1+j by omega] at this) (fun j u hj=>by have:=hy (j+1) u hj;rwa [show i+(j+1)=i+1+j by omega] at this) w;have p1:=XbY c3 xs f.offset w;have p2:=XbY c3 ys f.offset w;rw[h1] at p1;rw[h2] at p2;simp only[Bool.false_eq_true,if_false] at p1 p2;unfold Op.eqFields;rw[PI c1];simp only[Sem.run_bind,p1,p2,Result.andThen_ok,XnO hk hu.1 hv.1];unfold X2g;cases hs:X5w u v with
      |false=>simp
      |true=>simpa using ih
def Xqu {k:SK} (hu:us.map X1D=(replicate n k).map some) (hv:vs.map X1D=(replicate n k).map some):J us=n/\J vs=n:=by
 grind [LM]
theorem Xsn {t:TypeId} (hk:X8W P t=some ks) (hu:us.map X1D=ks.map some) (hv:vs.map X1D=ks.map some) (w:World):
  (Op.equalIn 10000 t (.agg us.toArray) (.agg vs.toArray)).run P w= .ok (X2g us vs) w/\P.eqGuardType P.depth t=false:=by
 unfold X8W at hk;split at hk
 ·grind [Program.fieldsOf,run_equalIn_agg,XlQ]
 ·rename_i n e he;split at hk
  case isFalse=>cases hk
  rename_i hc;refine⟨?_,hc.1⟩;cases hs:SK.of P e with
  |none=>simp[hs] at hk
  |some k=>
   simp[hs] at hk;subst hk;have hl:=Xqu hu hv;have hsz:=(X8f hc.2).2;rw[show (10000:Nat)=9998+1+1 from rfl,Op.equalIn];simp only[Sem.run_bind,run_underlying he,Result.andThen_ok,hsz];rw[Std.Legacy.Range.forIn_eq_forIn_range'];simp only[Std.Legacy.Range.size,Nat.sub_zero,Nat.add_sub_cancel,Nat.div_one,Nat.mul_one]
   have key:∀(m i:Nat),i+m=n->∀w,((forIn (range' i m) ((none,()):Option Bool×Unit) fun i r=>do
     let __do_lift <-part e us.toArray i
     let __do_lift_1 <-part e vs.toArray i
     let __do_lift <-Op.equalIn (9998+1) e __do_lift __do_lift_1
     if (!__do_lift)=true then pure (ForInStep.done (some false,())) else pure (ForInStep.yield (none,())):Sem (Option Bool×Unit))).run P w= .ok (if X2g (us.drop i) (vs.drop i)=true then (none,()) else (some false,())) w:=by
    intro m;induction m with
    |zero=>
     intro i hi w;rw[drop_of_length_le (by omega),drop_of_length_le (by omega)];rfl
    |succ m ih=>
     intro i hi w;have l1:i<J us:=by omega
     have l2:i<J vs:=by omega
     have g1:X1D us[i]=some k:=by
      have:=CG (·[i]?) hu
      grind
     have g2:X1D vs[i]=some k:=by
      have:=CG (·[i]?) hv
      grind
     have p1:=XbY hc.2 us.toArray i w;have p2:=XbY hc.2 vs.toArray i w;simp only[getElem?_toArray,getElem?_eq_getElem l1,getElem?_eq_getElem l2,Bool.false_eq_true,if_false] at p1 p2;rw[range'_succ,forIn_cons];simp only[Sem.run_bind,p1,p2,Result.andThen_ok,XnO hs g1 g2,Sem.run_ite]
     grind [drop_eq_getElem_cons,X2g,Sem.run_pure,Result.andThen_ok]
   have:=key n 0 (by omega) w;simp only[drop_zero] at this;rw[this];cases X2g us vs<;>simp
 ·cases hk
def Xtw {t:TypeId}{r:Bool} (hk:X8W P t=some ks) (hu:us.map X1D=ks.map some) (hv:vs.map X1D=ks.map some) (hr:X2g us vs=r) (w:World):
  (do eqGuard .neq t x y (.agg us.toArray) (.agg vs.toArray);binOp .neq t (.agg us.toArray) (.agg vs.toArray):Sem Value).run P w= .ok (.bool (!r)) w:=by
 grind [Xsn,Sem.run_bind,run_eqGuard_agg,Result.andThen_ok,run_neq_struct,X8W]
def XmO:∀{us:List Value}{vs:List Value},Xy g (dvL us) vs->vs=us
 |[],[],_=>rfl
 |[],_::_,h=>by grind [dvL,Xy]
 |_::_,[],h=>by grind [dvL,Xy]
 |u::us,v::vs,h=>by
  simp only[dvL,Xy] at h;rw[Uy h.1,XmO h.2]
end
section
variable {P:Program}{ops:Array Oper}{draw:Bool}{K:XU->St->Prop}{rest:List Oper}{l:XU}{S:St}{ty:TypeId}{pos:String}{ah:Array Edge}{gd:Option (Nat×Bool)}{d:Nat}
def Xjj (h:(AVal.agg (dvL us)).sat g v):v= .agg us.toArray:=by
 simp only[AVal.sat] at h;obtain⟨vs,rfl,h⟩:=h;rw[<-XmO h]
def X3Z {xt yt:TypeId}{r:Bool}{cs es:List AVal} (hk:X8W P xt=some ks) (hx:S.ev x= .agg cs) (hy:S.ev y= .agg es) (hcs:cs=dvL us) (aP:es=dvL vs) (hu:us.map X1D=ks.map some) (hv:vs.map X1D=ks.map some)
  (hr:X2g us vs=r) (hd:Nat.blt d S.n=true) (hg:XL ops S gd)
  (h:Walk P ops draw K rest ((J l,⟨some d,.binOp .neq xt x y yt,ty,pos,ah,gd⟩,⟨XH ops gd++[(x,.agg cs),(y,.agg es)],some (d,ab (!r)),[],[],[]⟩)::l) (S.set d (ab (!r)))):
  Walk P ops draw K (⟨some d,.binOp .neq xt x y yt,ty,pos,ah,gd⟩::rest) l S:=by
 subst hcs;subst aP;exact Yq h hg (Uk rfl fun E S g a w hs hq _=>by
  refine⟨.bool (!r),?_,X0k rfl⟩;have:=Xtw (x:=x) (y:=y) hk hu hv hr w;simp only[execOp,Xjj hq.1,Xjj hq.2.1,Sem.run_bind,Sem.run_pure] at this |-;rw[this];rfl) ⟨⟨hx,hy,TV⟩,TV,TV,hd⟩
end
def XwU {T:TypeId} (hx:S.ev x= .bsl γ n) (hT:cy P T=true)
  (hd:Nat.blt d S.n=true) (hg:XL ops S gd)
  (h:Walk P ops draw K rest ((J l,⟨some d,.call ⟨.builtin .len,#[x],#[T]⟩,ty,pos,ah,gd⟩,⟨XH ops gd++[(x,.bsl γ n)],some (d,ai n),[],[],[]⟩)::l) (S.set d (ai n))):
  Walk P ops draw K (⟨some d,.call ⟨.builtin .len,#[x],#[T]⟩,ty,pos,ah,gd⟩::rest) l S:=
 Yq h hg (Uk rfl fun E S g a w hs hq hl=>by
  obtain⟨e,h1⟩:=X5R hT;have hv:=hq.1;simp only[AVal.sat] at hv;refine⟨.int .i64 n,?_,X0k rfl⟩;simp[execOp,resolve,invoke,builtin,hv,Builtin.len_,run_underlying h1,goInt]) ⟨⟨hx,TV⟩,TV,TV,hd⟩
def Xc4 {T:TypeId}{m:Int} (hx:S.ev x= .bsl γ n) (hi:S.ev i= .d (.v (.int kd m))) (hk:m=(k:Nat)) (hlt:k<n)
  (hT:UT P T 1=true) (hd:Nat.blt d S.n=true) (hg:XL ops S gd)
  (h:Walk P ops draw K rest ((J l,⟨some d,.indexAddr T x i,ty,pos,ah,gd⟩,⟨XH ops gd++[(x,.bsl γ n),(i,.d (.v (.int kd m)))],some (d,.ptr γ k),[],[],[]⟩)::l) (S.set d (.ptr γ k))):
  Walk P ops draw K (⟨some d,.indexAddr T x i,ty,pos,ah,gd⟩::rest) l S:=
 Yq h hg (Uk rfl fun E S g a w hs hq hl=>by
  obtain⟨e,h1,h2,h3⟩:=X29 hT;have hv:=hq.1;simp only[AVal.sat] at hv;refine⟨.pointer (some ⟨g.az γ,k,none⟩),?_,by simp only[AVal.sat]⟩;have hb:(0:Int)<=m/\m<(n:Int):=by omega
  have hm:m.toNat=k:=by omega
  have:=run_indexAt_slice (P:=P) w T ⟨g.az γ,0,none⟩ n n kd m (by rw[h3];exact h1);rw[PI hb,h3,h2 w,Result.andThen_ok,Vq,hm,Nat.mul_one,Nat.zero_add] at this;simp only[execOp,hv,Uy hq.2.1,Sem.run_bind,this];rfl) ⟨⟨hx,hi,TV⟩,TV,TV,hd⟩
section
variable {P:Program}{E:Env}{S:St}{Q:Exit->St->Prop}
def VI {x y:Code}{inst:Decidable p} (hc:S.ev c=ab (@decide p inst)) (ht:p->AWP P E x S Q) (hf:¬p->AWP P E y S Q):AWP P E (.cond c x y) S Q:=by simp_all [X2E]
def X4q {x y:Code}{Q':Exit->St->Prop} (U:St) (h:AWP P E x S (X3p (fun T=>T.le U) Q')) (k:AWP P E y U Q):AWP P E x S (X3p (fun T=>AWP P E y T Q) Q'):=
 Xcp h fun e T hq=>by
  cases e<;>grind [X8,X3p]
end
section
variable {P:Program}{ops:Array Oper}{draw:Bool}{K:XU->St->Prop}{rest:List Oper}{l:XU}{S:St}
def Ye {b:Bool}{inst:Decidable p} (hg:o.guard=some (j,b)) (hx:S.get (X4i ops j)=ab (@decide p inst)) (ht:p->Walk P ops draw K (o::rest) l S) (hf:¬p->Walk P ops draw K (o::rest) l S):Walk P ops draw K (o::rest) l S:=by
 by_cases h:p
 ·exact ht h
 ·exact hf h
def X5f {b x:Bool} (hg:o.guard=some (j,b)) (hx:S.get (X4i ops j)=ab x) (ht:x=true->Walk P ops draw K (o::rest) l S) (hf:x=false->Walk P ops draw K (o::rest) l S):Walk P ops draw K (o::rest) l S:=by
 cases x
 ·exact hf rfl
 ·exact ht rfl
end
section
variable {P:Program}{E:Env}{S:St}{Q:Exit->St->Prop}
def YQ {x y:Code}{b:Bool} (hc:S.ev c=ab (!b)) (ht:b=false->AWP P E x S Q) (hf:b=true->AWP P E y S Q):AWP P E (.cond c x y) S Q:=
 X2E hc (fun h=>ht (by simpa using h)) (fun h=>hf (by simpa using h))
end
section
variable {P:Program}{ops:Array Oper}{draw:Bool}{K:XU->St->Prop}{rest:List Oper}{l:XU}{S:St}
def Ux {b x:Bool} (hg:o.guard=some (j,b)) (hx:S.get (X4i ops j)=ab (!x)) (ht:x=true->Walk P ops draw K (o::rest) l S) (hf:x=false->Walk P ops draw K (o::rest) l S):Walk P ops draw K (o::rest) l S:=by
 cases x
 ·exact hf rfl
 ·exact ht rfl
end
section
variable {P:Program}{t:TypeId}{x y:Operand}{a b:List UInt8}
def Xub (w:World):(do eqGuard .lss t x y (.string (X7 a)) (.string (X7 b));binOp .lss t (.string (X7 a)) (.string (X7 b)):Sem Value).run P w= .ok (.bool (Op.bytesLess a b)) w:=by
 simp[go_sem,binOp,Op.stringOp,X57]
def XqQ (w:World):(do eqGuard .gtr t x y (.string (X7 a)) (.string (X7 b));binOp .gtr t (.string (X7 a)) (.string (X7 b)):Sem Value).run P w= .ok (.bool (!(Op.bytesLess a b||decide (a=b)))) w:=by
 simp[go_sem,binOp,Op.stringOp,X57];grind
def Xu3 (w:World):(do eqGuard .leq t x y (.string (X7 a)) (.string (X7 b));binOp .leq t (.string (X7 a)) (.string (X7 b)):Sem Value).run P w= .ok (.bool (Op.bytesLess a b||decide (a=b))) w:=by
 simp[go_sem,binOp,Op.stringOp,X57];grind
end
theorem XaR:∀s:List UInt8,Op.bytesLess s s=false
 :=by intro x;induction x<;>simp_all [Op.bytesLess]
def XlF:∀s t:List UInt8,Op.bytesLess s t=true->Op.bytesLess t s=false
 |[],[],h=>by simp[Op.bytesLess]
 |[],b::t,h=>by simp[Op.bytesLess]
 |a::s,[],h=>by grind [Op.bytesLess]
 |a::s,b::t,h=>by
  simp only[Op.bytesLess,Bool.or_eq_true,decide_eq_true_eq,Bool.and_eq_true,beq_iff_eq,Bool.or_eq_false_iff,decide_eq_false_iff_not,Bool.and_eq_false_iff] at h |-;rcases h with h|⟨rfl,h⟩
  ·refine⟨fun h'=> ?_,.inl ?_⟩
   ·exact absurd (UInt8.lt_trans h h') (UInt8.lt_irrefl _)
   ·simp only[beq_eq_false_iff_ne,ne_eq];rintro rfl;exact absurd h (UInt8.lt_irrefl _)
  ·exact⟨UInt8.lt_irrefl _,.inr (XlF s t h)⟩
theorem XcI:∀s t:List UInt8,Op.bytesLess s t=false->Op.bytesLess t s=false->s=t
 |[],[],_,_=>rfl
 |[],b::t,h,_=>by grind [Op.bytesLess]
 |a::s,[],_,h=>by grind [Op.bytesLess]
 |a::s,b::t,h,h'=>by
  simp only[Op.bytesLess,Bool.or_eq_false_iff,decide_eq_false_iff_not,Bool.and_eq_false_iff,beq_eq_false_iff_ne] at h h';have e:a=b:=by
   rcases UInt8.lt_or_lt_of_ne (a:=a) (b:=b) with h1;by_cases e:a=b
   ·exact e
   ·rcases h1 e with h1|h1
    ·exact absurd h1 h.1
    ·exact absurd h1 h'.1
  subst e;have h2:=h.2.resolve_left (by simp);have h3:=h'.2.resolve_left (by simp);rw[XcI s t h2 h3]
def leD (d e:D):Prop:=∀(M:Mem) (u:Value),d.rep M u->e.rep M u
def leC (r s:List D):Prop:=∀(M:Mem) (b o:Nat),X09 M r b o->X09 M s b o
def leW (sz:Nat) (r s:List (List D)):Prop:=J r=J s/\∀(M:Mem) (b o:Nat),X0N M sz r b o->X0N M sz s b o
def X1O (d:D):leD d d:=fun _ _ h=>h
def XhI (sz:Nat):leD (.v (.slice none 0 0)) (.sl sz []):=fun M u h=>by
 grind [D.rep]
def XlW:leC [] []:=fun _ _ _ h=>h
def X1p {d e:D}{r s:List D} (h:leD d e) (hr:leC r s):leC (d::r) (e::s):=fun M b o q=>by
 grind [X09,leD,leC]
def XmH (sz:Nat):leW sz [] []:=⟨rfl,fun _ _ _ h=>h⟩
def XdN {d e:List D}{s:List (List D)} (h:leC d e) (hl:J d=J e) (hr:leW sz r s):leW sz (d::r) (e::s):=⟨by grind [leW],fun M b o q=>by
 grind [X0N,leC,leW]⟩
def XcE {s:List (List D)} (h:leW sz r s):leD (.sl sz r) (.sl sz s):=fun M u q=>by
 grind [D.rep,leW]
def AVal.le_d {d e:D} (h:leD d e):AVal.le (.d d) (.d e):=fun g u q=>by
 grind [AVal.sat,leD]
def X9U:∀{xs:List (List D)} (h:∀x∈xs,J x=sz) {k:Nat}{r:List D},xs[k]? =some r->∀{o q:Nat},o+q<=sz->(xs.flatten.drop (k*sz+o)).take q=(r.drop o).take q
 |[],_,k,r,hk,_,_,_=>by simp at hk
 |x::xs,h,0,r,hk,o,q,hq=>by
  simp only[getElem?_cons_zero,Option.some.injEq] at hk;subst hk;have hx:=h x (by simp);rw[Nat.zero_mul,Nat.zero_add,flatten_cons,drop_append_of_le_length (by omega),take_append_of_le_length (by rw[LD];omega)]
 |x::xs,h,k+1,r,hk,o,q,hq=>by
  have hx:=h x (by simp);have:=X9U (fun y hy=>h y (by simp[hy])) (xs:=xs) (k:=k) (r:=r) (by simpa using hk) hq;rw[flatten_cons,show(k+1)*sz+o=J x+(k*sz+o) by rw[hx,Nat.succ_mul];omega,<-drop_drop,drop_left];exact this
def X3E {T:TypeId}{m:Int} (hx:S.ev x= .own γ n) (hL:S.obj γ= .row sz xs) (hi:S.ev i= .d (.v (.int kd m))) (hn:n=J xs) (hk:m=(k:Nat)) (hlt:k<J xs)
  (hT:UT P T sz=true) (hd:Nat.blt d S.n=true) (hg:XL ops S gd)
  (h:Walk P ops draw K rest ((J l,⟨some d,.indexAddr T x i,ty,pos,ah,gd⟩,⟨XH ops gd++[(x,.own γ n),(i,.d (.v (.int kd m)))],some (d,.rptr γ n (k*sz)),[(γ,.row sz xs)],[],[]⟩)::l) (S.set d (.rptr γ n (k*sz)))):
  Walk P ops draw K (⟨some d,.indexAddr T x i,ty,pos,ah,gd⟩::rest) l S:=
 Yq h hg (Uk rfl fun E S g a w hs hq hl=>by
  obtain⟨e,h1,h2,h3⟩:=X29 hT;have ho:=hs.1.obj γ;rw[hl.1] at ho;have hv:=X41 hq.1 ho hn;rcases ho.2 with ⟨e,rfl⟩|⟨b,cap,vs,e',fr,hh,_⟩
  ·simp at hlt
  ·rw[hh] at hv;refine⟨.pointer (some ⟨b,k*sz,none⟩),?_,?_⟩
   ·have hb:(0:Int)<=m/\m<(J xs:Int):=by omega
    have hm:m.toNat=k:=by omega
    have:=run_indexAt_slice (P:=P) w T ⟨b,0,none⟩ (J xs) cap kd m (by rw[h3];exact h1);rw[PI hb,h3,h2 w,Result.andThen_ok,Vq,hm,Nat.zero_add] at this;simp only[execOp,hv,Uy hq.2.1,Sem.run_bind,this];rfl
   ·simp only[AVal.sat];exact⟨rfl,_,_,_,hh,by omega,fun _=>⟨_,rfl,rfl⟩⟩) ⟨⟨hx,hi,TV⟩,⟨hL,TV⟩,TV,hd⟩
def XlP {o:Nat} (hs:(AVal.rptr γ n o).sat g u) (ho:UZ g w (g.hd γ) sz xs) (hn:n=J xs) (h0:0<J xs):
  ∃b cap vs e fr,u= .pointer (some ⟨b,o,none⟩)/\g.hd γ= .slice (some ⟨b,0,none⟩) (J xs) cap/\w.heap[b]? =some (.cells vs e fr)/\Xy g (xs.flatten.map .d) (vs.toList.take (J xs*sz)):=by
 grind [AVal.sat,UZ]
def X5A {t:TypeId}{o q:Nat}{ys:List D} (hx:S.ev x= .rptr γ n o) (hL:S.obj γ= .row sz xs) (hn:n=J xs) (h0:0<J xs) (hb:o+q<=J xs*sz) (hys:(xs.flatten.drop o).take q=ys)
  (ht:X1u P t true q=true) (hd:Nat.blt d S.n=true) (hg:XL ops S gd)
  (h:Walk P ops draw K rest ((J l,⟨some d,.load t x,ty,pos,ah,gd⟩,⟨XH ops gd++[(x,.rptr γ n o)],some (d,.agg (ys.map .d)),[(γ,.row sz xs)],[],[]⟩)::l) (S.set d (.agg (ys.map .d)))):
  Walk P ops draw K (⟨some d,.load t x,ty,pos,ah,gd⟩::rest) l S:=
 Yq h hg (Uk rfl fun E S g a w hs hq hl=>by
  have ho:=hs.1.obj γ;rw[hl.1] at ho;obtain⟨b,cap,vs,e,fr,e1,e2,e3,e4⟩:=XlP hq.1 ho hn h0;have hsub:=X3G (X5d e4 o) q;rw[<-map_drop,<-map_take,hys] at hsub;have bh:=V6 hsub;have nr:=X2m xs ho.1;have cF:J ys=q:=by grind
  rw[LM] at bh;refine⟨.agg (((vs.toList.take (J xs*sz)).drop o).take q).toArray,?_,by grind [AVal.sat]⟩;have:=Xa1 (P:=P) (p:=⟨b,o,none⟩) (w:=w) (vs:=((vs.toList.take (J xs*sz)).drop o).take q) (t:=t) (by grind) (fun j v hv=>by
   grind [Vq,cell_of_row])
  simp_all [execOp,Instr.loadAt,Instr.sureAddr]) ⟨⟨hx,TV⟩,⟨hL,TV⟩,TV,hd⟩
end
end Go.Fw
