/- Third part: how the invariant goes through a change of one object; rules for code. -/
import Derived.Scope
import Derived.IntWalk
import Derived.Laws.Slices
import Derived.Test.YtlkcofbjniphbaaGreatDoorB01
namespace Go.Fw
open Go
set_option linter.unusedVariables false
theorem Gh.keeps.trans' {g g' g'':Gh}{γ:Nat} (h:g.keeps g' γ) (k:g'.keeps g'' γ):g.keeps g'' γ:=Gh.keeps_trans h k
theorem X6v {g:Gh}{w:World}{h:Value}{sz:Nat}{xs:List (List D)} (hr:UU g w h sz xs) {b:Nat} (hb:Ux h b):b<w.heap.size:=by
 obtain⟨a,n,c,rfl,rfl⟩:=hb
 rcases hr.2 with ⟨e,_⟩|⟨b',cap,vs,e',fr,e,_,_,h4,_⟩
 ·simp at e
 ·cases e;exact(Array.getElem?_eq_some_iff.1 h4).1
theorem Xps {g:Gh}{w:World}{h:Value}{sz:Nat}{xs:List (List D)} (hr:X47 g w h sz xs) {b:Nat} (hb:Ux h b):b<w.heap.size:=by
 obtain⟨a,n,c,rfl,rfl⟩:=hb
 rcases hr.2 with ⟨e,_⟩|⟨b',cap,vs,e',fr,e,_,_,h4,_⟩
 ·simp at e
 ·cases e;exact(Array.getElem?_eq_some_iff.1 h4).1
theorem X2H {E:Env}{L:Nat→AObj}{g:Gh}{w:World} (hi:Inv E L g w) {γ b:Nat} (h:XM g (L γ) γ b):b<w.heap.size:=by
 have ho:=hi.obj γ
 cases hL:L γ with
 |dead=>rw[hL] at h;exact h.elim
 |froz sz xs=>rw[hL] at h;exact h.elim
 |box cs=>
  rw[hL] at h ho
  obtain⟨vs,e,fr,h1,_⟩:=ho
  have h:g.blk γ=b:=h
  rw[h] at h1
  exact(Array.getElem?_eq_some_iff.1 h1).1
 |iter s p=>
  rw[hL] at h ho
  have h:g.blk γ=b:=h
  have ho:w.heap[g.blk γ]? =some (.stringIter s p):=ho
  rw[h] at ho
  exact(Array.getElem?_eq_some_iff.1 ho).1
 |imap es=>
  rw[hL] at h ho
  have h:g.blk γ=b:=h
  obtain⟨_,ms,clock,h1,_⟩:=ho
  rw[h] at h1
  exact(Array.getElem?_eq_some_iff.1 h1).1
 |row sz xs=>
  rw[hL] at h ho
  exact X6v ho h
 |wrow sz xs=>
  rw[hL] at h ho
  exact Xps ho h
 |raw cs hole=>
  rw[hL] at h ho
  obtain⟨vs,e,fr,h1,_⟩:=ho
  have h:g.blk γ=b:=h
  rw[h] at h1
  exact(Array.getElem?_eq_some_iff.1 h1).1
 |bag hs=>
  rw[hL] at h ho
  obtain⟨k,hk,hb⟩:=h
  exact X6v (ho.1 k hk) hb
 |nest sz xs=>
  rw[hL] at h ho
  obtain⟨⟨rows,_,_,h1⟩,h2,_⟩:=ho
  rcases h with h|⟨k,hk,hb⟩
  ·exact X6v h1 h
  ·exact X6v (h2.1 k hk) hb
 |mat sz rows=>
  rw[hL] at h ho
  obtain⟨h1,h2,h3⟩:=ho
  rcases h with h|⟨i,hi',hb⟩
  ·rcases h1 with ⟨e,_⟩|⟨b',cap,vs,e',fr,e,_,_,h4,_⟩
   ·obtain⟨a,n,c,e',_⟩:=h;rw[e] at e';simp at e'
   ·obtain⟨a,n,c,e'',rfl⟩:=h;rw[e] at e'';cases e''
    exact(Array.getElem?_eq_some_iff.1 h4).1
  ·exact X6v (h2 i _ (List.getElem?_eq_getElem hi')) hb
theorem Inv.updX {E:Env}{L L':Nat→AObj}{g g':Gh}{w w':World} (hi:Inv E L g w) (γ:Nat) (obj':AObj)
  (hL:L' γ=obj') (hL':∀k,k≠γ→L' k=L k)
  (hheap:∀b,b<w.heap.size→¬XM g (L γ) γ b→w'.heap[b]? =w.heap[b]?)
  (hsize:w.heap.size≤w'.heap.size) (hos:w'.os=w.os) (hout:w'.output=w.output)
  (hM:g'.M=g.M) (hk:∀k,k≠γ→g'.blk k=g.blk k∧g'.hd k=g.hd k∧g'.ihd k=g.ihd k)
  (hsat:∀k cs us,k≠γ→(L k).says=cs→XB g cs us→XB g' cs us)
  (hobj:Ua g' w' γ obj')
  (hlive:∀b,XM g' obj' γ b→XM g (L γ) γ b∨w.heap.size≤b∨((∀k,k≠γ→¬XM g (L k) k b)∧(∀a v,g.M a=some v→a.block≠b)∧(E.W.heap.size≤b∨E.A b))) (hkp:γ<100→g.keeps g' γ):Inv E L' g' w':=by
 have hlv:∀k b,k≠γ→(XM g' (L' k) k b↔XM g (L k) k b):=by
  intro k b hkγ
  rw[hL' k hkγ]
  exact X2F (hk k hkγ).1 (hk k hkγ).2.1 (hk k hkγ).2.2 _ _
 have hold:∀k b,k≠γ→XM g (L k) k b→w'.heap[b]? =w.heap[b]? :=by
  intro k b hkγ hb
  refine hheap b (X2H hi hb) fun h=>hkγ (hi.inj _ _ _ hb h)
 refine⟨fun k=> ?_,fun k k' b h h'=> ?_,fun a v h=> ?_,fun k b h a v hm=> ?_,fun k b h=> ?_,hM ▸ hi.ext,hM ▸ hi.lim,fun b hb hA=> ?_,Nat.le_trans hi.size hsize,hos.trans hi.os,hout.trans hi.out,fun k hk100=> ?_⟩
 ·by_cases hkγ:k=γ
  ·subst hkγ;rw[hL];exact hobj
  ·rw[hL' k hkγ]
   exact X4i (by rw[hM];exact Yj.refl _) (hk k hkγ).1 (hk k hkγ).2.1 (hk k hkγ).2.2 (fun b hb=>hold k b hkγ hb) (fun cs us e h=>hsat k cs us hkγ e h) (hi.obj k)
 ·by_cases h1:k=γ<;>by_cases h2:k'=γ
  ·rw[h1,h2]
  ·subst h1
   rw[hL] at h;rw[hlv k' _ h2] at h'
   rcases hlive b h with h3|h3|h3
   ·exact hi.inj _ _ _ h3 h'
   ·have:=X2H hi h';omega
   ·exact(h3.1 k' h2 h').elim
  ·subst h2
   rw[hL] at h';rw[hlv k _ h1] at h
   rcases hlive b h' with h3|h3|h3
   ·exact hi.inj _ _ _ h h3
   ·have:=X2H hi h;omega
   ·exact(h3.1 k h1 h).elim
  ·rw[hlv k _ h1] at h;rw[hlv k' _ h2] at h'
   exact hi.inj _ _ _ h h'
 ·rw[hM] at h
  have hc:=hi.mem a v h
  have hlt:=block_lt_of_cell hc
  have:=hheap a.block hlt (fun hlv=>hi.sep _ _ hlv a v h rfl)
  simp only[World.cell?] at hc ⊢
  rw[this];exact hc
 ·rw[hM] at hm
  by_cases h1:k=γ
  ·subst h1
   rw[hL] at h
   rcases hlive b h with h3|h3|h3
   ·exact hi.sep _ _ h3 a v hm
   ·have:=block_lt_of_cell (hi.mem a v hm);omega
   ·exact h3.2.1 a v hm
  ·rw[hlv k _ h1] at h
   exact hi.sep _ _ h a v hm
 ·by_cases h1:k=γ
  ·subst h1
   rw[hL] at h
   rcases hlive b h with h3|h3|h3
   ·exact hi.new _ _ h3
   ·have:=hi.size;exact .inl (by omega)
   ·exact h3.2.2
  ·rw[hlv k _ h1] at h
   exact hi.new _ _ h
 ·have:=hi.size
  rw[hheap b (by omega) (fun hlv=>(hi.new _ _ hlv).elim (fun h=>by omega) hA)]
  exact hi.frame b hb hA
 ·by_cases hkγ:k=γ
  ·subst hkγ;exact(hi.kp k hk100).trans' (hkp hk100)
  ·exact(hi.kp k hk100).trans' (Gh.keeps_of (hk k hkγ).1 (hk k hkγ).2.1 (hk k hkγ).2.2)
theorem Inv.upd {E:Env}{L L':Nat→AObj}{g g':Gh}{w w':World} (hi:Inv E L g w) (γ:Nat) (obj':AObj)
  (hL:L' γ=obj') (hL':∀k,k≠γ→L' k=L k)
  (hheap:∀b,b<w.heap.size→¬XM g (L γ) γ b→w'.heap[b]? =w.heap[b]?)
  (hsize:w.heap.size≤w'.heap.size) (hos:w'.os=w.os) (hout:w'.output=w.output)
  (hM:g'.M=g.M) (hk:∀k,k≠γ→g'.blk k=g.blk k∧g'.hd k=g.hd k∧g'.ihd k=g.ihd k)
  (hsat:∀k cs us,k≠γ→(L k).says=cs→XB g cs us→XB g' cs us)
  (hobj:Ua g' w' γ obj')
  (hlive:∀b,XM g' obj' γ b→XM g (L γ) γ b∨w.heap.size≤b) (hkp:γ<100→g.keeps g' γ):Inv E L' g' w':=
 Inv.updX hi γ obj' hL hL' hheap hsize hos hout hM hk hsat hobj (fun b h=>(hlive b h).imp id .inl) hkp
structure AWP (P:Program) (E:Env) (c:Code) (S:St) (Q:Exit→St→Prop):Prop where
 run:∀a w,holds E S a w→c.wp P (fun e a' w'=> ∃T,Q e T∧holds E T a' w') a w
def X2j (next:St→Prop) (Q:Exit→St→Prop):Exit→St→Prop
 | .normal,T=>next T
 |e,T=>Q e T
def XeU (id:Nat) (Q:Exit→St→Prop):Exit→St→Prop
 | .exit k,T=>bif Nat.beq k id then Q .normal T else Q (.exit k) T
 |e,T=>Q e T
def XjC (Q:Exit→St→Prop):Exit→St→Prop
 | .goto _,_=>False
 |e,T=>Q e T
def XoI (R:St→Prop):Exit→St→Prop
 | .normal,T=>R T
 | .ret,T=>R T
 |_,_=>False
section
variable {P:Program}{E:Env}{S:St}{Q:Exit→St→Prop}
theorem XP (h:Q .normal S):AWP P E .skip S Q:=⟨fun a w hs=>wp_skip ⟨S,h,hs⟩⟩
theorem X1 (h:Q .ret S):AWP P E .ret S Q:=⟨fun a w hs=>wp_ret ⟨S,h,hs⟩⟩
theorem X57 {id:Nat} (h:Q (.exit id) S):AWP P E (.exit id) S Q:=⟨fun a w hs=>wp_exit ⟨S,h,hs⟩⟩
theorem X5 {x y:Code} (h:AWP P E x S (X2j (fun T=>AWP P E y T Q) Q)):AWP P E (.seq x y) S Q:=by
 refine⟨fun a w hs=> ?_⟩
 refine wp_seq (wp_mono (h.run a w hs) ?_)
 rintro e a' w' ⟨T,hq,ht⟩
 cases e<;>first|exact hq.run a' w' ht|exact⟨T,hq,ht⟩
theorem YB {id:Nat}{c:Code} (h:AWP P E c S (XeU id Q)):AWP P E (.block id c) S Q:=by
 refine⟨fun a w hs=> ?_⟩
 refine wp_block (wp_mono (h.run a w hs) ?_)
 rintro e a' w' ⟨T,hq,ht⟩
 cases e with
 |exit k=>
  simp only[XeU] at hq
  simp only[Exit.inBlock]
  by_cases hk:k=id
  ·subst hk
   simp at hq
   simp;exact⟨T,hq,ht⟩
  ·have:Nat.beq k id=false:=by
    cases hb:Nat.beq k id with
    |false=>rfl
    |true=>exact absurd (Nat.eq_of_beq_eq_true hb) hk
   rw[this] at hq
   rw[if_neg hk]
   exact⟨T,hq,ht⟩
 |_=>exact⟨T,hq,ht⟩
theorem Xn5 {c:Code} (h:AWP P E c S (XjC Q)):AWP P E (.scope c) S Q:=by
 refine⟨fun a w hs=> ?_⟩
 refine wp_scope_straight (wp_mono (h.run a w hs) ?_)
 rintro e a' w' ⟨T,hq,ht⟩
 cases e<;>first|exact hq.elim|exact⟨T,hq,ht⟩
theorem X6F {c:Operand}{x y:Code}{b:Bool} (hc:S.ev c= .d (.v (.bool b))) (ht:b=true→AWP P E x S Q) (hf:b=false→AWP P E y S Q):
  AWP P E (.cond c x y) S Q:=by
 refine⟨fun a w hs=> ?_⟩
 obtain⟨g,hg⟩:=hs
 have he:=X6D hg c
 rw[hc] at he
 simp only[AVal.sat,D.rep] at he
 exact wp_cond_split he.1 (fun h=>(ht h).run a w ⟨g,hg⟩) (fun h=>(hf h).run a w ⟨g,hg⟩)
theorem Xqt {c:Operand}{x y:Code}{b:Bool} (hc:S.ev c= .d (.v (.bool b))) (hb:b=true) (ht:AWP P E x S Q):AWP P E (.cond c x y) S Q:=
 X6F hc (fun _=>ht) (fun h=>by rw[hb] at h;cases h)
theorem Xno {c:Operand}{x y:Code}{b:Bool} (hc:S.ev c= .d (.v (.bool b))) (hb:b=false) (hf:AWP P E y S Q):AWP P E (.cond c x y) S Q:=
 X6F hc (fun h=>by rw[hb] at h;cases h) (fun _=>hf)
theorem X6e {c:Operand}{x y:Code}{p q:Prop} (hc:S.ev c= .bq p q) (ht:p→AWP P E x S Q) (hf:q→AWP P E y S Q):
  AWP P E (.cond c x y) S Q:=by
 refine⟨fun a w hs=> ?_⟩
 obtain⟨g,hg⟩:=hs
 have he:=X6D hg c
 rw[hc] at he
 simp only[AVal.sat] at he
 obtain⟨b,hb,hp,hq⟩:=he
 exact wp_cond_split hb (fun h=>(ht (hp h)).run a w ⟨g,hg⟩) (fun h=>(hf (hq h)).run a w ⟨g,hg⟩)
theorem Xrs {id:Nat}{ops:Array Oper}{draw:Bool} (hm:P.follows .mixedOrders=true)
  (h:Walk P ops draw (fun _=>Q .normal) ops.toList [] S):AWP P E (.region id ops draw) S Q:=
 ⟨fun a w hs=>Xm9 (fun _=>hm) h (fun _ T hT a' w' h'=>⟨T,hT,h'⟩) hs⟩
def St.le (S T:St):Prop:=∀E a w,holds E S a w→holds E T a w
theorem St.le_refl (S:St):S.le S:=fun _ _ _ h=>h
theorem St.le_trans {S T U:St} (h:S.le T) (k:T.le U):S.le U:=fun E a w x=>k E a w (h E a w x)
theorem Xq {c:Code}{T:St} (h:S.le T) (k:AWP P E c T Q):AWP P E c S Q:=⟨fun a w hs=>k.run a w (h E a w hs)⟩
theorem X7M {c:Code}{Q':Exit→St→Prop} (h:AWP P E c S Q) (hq:∀e T,Q e T→Q' e T):AWP P E c S Q':=
 ⟨fun a w hs=>wp_mono (h.run a w hs) fun e a' w' ⟨T,h1,h2⟩=>⟨T,hq e T h1,h2⟩⟩
theorem Xku {c:Code}{ι:Type} (st:ι→St) (m:ι→Nat) (i₀:ι) (h₀:S.le (st i₀))
  (hr:∀i,AWP P E c (st i) (X2j (fun T=> ∃j,m j<m i∧T.le (st j)) Q)):AWP P E (.loop c) S Q:=by
 refine⟨fun a w hs b k cs=> ?_⟩
 have key:∀n i a w,m i=n→holds E (st i) a w→
   ∃e a' w',(∃T,Q e T∧holds E T a' w')∧Arrives P (lone (b.at a (.code c:: .inLoop c::k)) cs w) b k cs e a' w':=by
  intro n
  induction n using Nat.strongRecOn with
  |_ n ih=>
   intro i a w hn hh
   obtain⟨e,a₁,w₁,⟨T,hq,ht⟩,harr⟩:=(hr i).run a w hh b (.inLoop c::k) cs
   cases e with
   |normal=>
    obtain⟨j,hj,hle⟩:=hq
    obtain⟨e₂,a₂,w₂,hq₂,harr₂⟩:=ih (m j) (hn ▸ hj) j a₁ w₁ rfl (hle E a₁ w₁ ht)
    exact⟨e₂,a₂,w₂,hq₂,.of_steps (Steps.trans harr (.one step_inLoop)) harr₂⟩
   |exit id=>exact⟨_,a₁,w₁,⟨T,hq,ht⟩,.pass (x:= .inLoop c) rfl (fun _ _=> .inl (by simp)) harr⟩
   |goto l=>exact⟨_,a₁,w₁,⟨T,hq,ht⟩,.pass (x:= .inLoop c) rfl (fun _ _=> .inl (by simp)) harr⟩
   |ret=>exact⟨_,a₁,w₁,⟨T,hq,ht⟩,.pass (x:= .inLoop c) rfl (fun _ _=> .inl (by simp)) harr⟩
   |panic ch=>exact⟨_,a₁,w₁,⟨T,hq,ht⟩,.pass (x:= .inLoop c) rfl (fun _ _=> .inl (by simp)) harr⟩
   |outgrown=>exact⟨_,a₁,w₁,⟨T,hq,ht⟩,.pass (x:= .inLoop c) rfl (fun _ _=> .inl (by simp)) harr⟩
 obtain⟨e,a',w',hq,harr⟩:=key _ i₀ a w rfl (h₀ E a w hs)
 exact⟨e,a',w',hq,.of_steps (.one step_loop) harr⟩
theorem XK {c:Code}{ι:Type} (I:ι→Prop) (st:ι→St) (m:ι→Nat) (i₀:ι) (hI:I i₀) (h₀:S.le (st i₀))
  (hr:∀i,I i→AWP P E c (st i) (X2j (fun T=> ∃j,I j∧m j<m i∧T.le (st j)) Q)):AWP P E (.loop c) S Q:=by
 refine Xku (ι:={i:ι//I i}) (fun i=>st i.1) (fun i=>m i.1) ⟨i₀,hI⟩ h₀ fun i=> ?_
 refine X7M (hr i.1 i.2) fun e T hq=> ?_
 cases e with
 |normal=>obtain⟨j,h1,h2,h3⟩:=hq;exact⟨⟨j,h1⟩,h2,h3⟩
 |_=>exact hq
end
abbrev ab (b:Bool):AVal:= .d (.v (.bool b))
abbrev ai (n:Int):AVal:= .d (.v (.int .i64 n))
abbrev au8 (n:Int):AVal:= .d (.v (.int .u8 n))
abbrev aZ (s:ByteArray):AVal:= .d (.v (.string s))
abbrev ani:AVal:= .d (.v (.slice none 0 0))
def X0N (g:Gh) (a:Act):List (Operand×AVal)→Prop
 |[]=>True
 |p::r=>p.2.sat g (a.eval p.1)∧X0N g a r
theorem X0M {E:Env}{S:St}{g:Gh}{a:Act}{w:World} (h:Vl E S g a w):∀l,X13 S l→X0N g a l
 |[],_=>trivial
 |p::r,hr=>⟨by have:=X6D h p.1;rw[hr.1] at this;exact this,X0M h r hr.2⟩
def X8U (P:Program) (o:Oper) (c:Cert):Prop:=
 ∀E S a w g,Vl E S g a w→c.ok S→∀(Q:Exit→Act→World→Prop) (K:Act→World→Prop),(∀a' w',holds E (c.app S) a' w'→K a' w')→o.wp P a w K Q
def X2o (ops:Array Oper) (j:Nat):Nat:=((ops[j]?).bind (·.dst)).getD 0
def XQ (ops:Array Oper):Option (Nat×Bool)→List (Operand×AVal)
 |none=>[]
 |some (j,b)=>[(.tmp (X2o ops j),ab b)]
def XR (ops:Array Oper) (S:St):Option (Nat×Bool)→Prop
 |none=>True
 |some (j,b)=>((ops[j]?).bind (·.dst)).isSome=true∧S.get (X2o ops j)=ab b
def XcS (ops:Array Oper) (S:St):Option (Nat×Bool)→Prop
 |none=>False
 |some (j,true)=>((ops[j]?).bind (·.dst)).isSome=true∧S.get (X2o ops j)=ab false
 |some (j,false)=>((ops[j]?).bind (·.dst)).isSome=true∧S.get (X2o ops j)=ab true
theorem Xmt {ops:Array Oper}{S:St}{j:Nat}{b:Bool} (h:XcS ops S (some (j,b))):((ops[j]?).bind (·.dst)).isSome=true∧S.get (X2o ops j)=ab (!b):=by
 cases b<;>exact h
theorem Xdh {E:Env}{ops:Array Oper}{S:St}{g:Gh}{a:Act}{w:World}{j:Nat}{b:Bool} (h:Vl E S g a w)
  (hd:((ops[j]?).bind (·.dst)).isSome=true) (hb:S.get (X2o ops j)=ab b):yielded ops a.tmps j=some b:=by
 obtain⟨t,ht⟩:=Option.isSome_iff_exists.1 hd
 have hdst:X2o ops j=t:=by simp[X2o,ht]
 have hs:=h.2.2.2 t
 rw[←hdst,hb,hdst] at hs
 simp only[AVal.sat,D.rep] at hs
 have hs:=hs.1
 unfold yielded
 rw[ht]
 simp only[Option.bind_some]
 cases hq:a.tmps[t]? with
 |none=>simp[hq,undef] at hs
 |some v=>simp[hq] at hs;subst hs;rfl
section
variable {P:Program}{ops:Array Oper}{draw:Bool}{K:Y4→St→Prop}{rest:List Oper}{l:Y4}{S:St}
theorem Yh {o:Oper} (c:Cert) (hv:X8U P o c) (hg:XR ops S o.guard) (hc:c.ok S)
  (h:Walk P ops draw K rest ((l.length,o,{c with reads:=XQ ops o.guard++c.reads})::l) (c.app S)):Walk P ops draw K (o::rest) l S:=by
 refine .step {c with reads:=XQ ops o.guard++c.reads} (fun E S' a w hs hok Q K' hK=> ?_) ?_ h
 ·obtain⟨g,hs⟩:=hs
  have hok':c.ok S':=by
   refine⟨?_,hok.2⟩
   have:=hok.1
   rw[X2V] at this ⊢
   exact fun p hp=>this p (by simp[hp])
  have hw:Region.wanted o (yielded ops a.tmps)=true:=by
   unfold Region.wanted
   cases hgd:o.guard with
   |none=>rfl
   |some jb=>
    obtain⟨j,b⟩:=jb
    rw[hgd] at hg
    have h1:=hok.1
    rw[hgd] at h1
    simp[Xdh hs hg.1 h1.1]
  rw[if_pos hw]
  exact hv E S' a w g hs hok' Q K' hK
 ·refine⟨?_,hc.2⟩
  have:=hc.1
  rw[X2V] at this ⊢
  intro p hp
  rcases List.mem_append.1 hp with h'|h'
  ·cases hgd:o.guard with
   |none=>rw[hgd] at h';simp[XQ] at h'
   |some jb=>
    rw[hgd] at h' hg
    simp[XQ] at h'
    subst h'
    exact hg.2
  ·exact this p h'
theorem X1u {E:Env}{L':List (Nat×AObj)}{g':Gh}{w':World}{a:Act}{x:AVal}{v:Value}{d:Nat}
  (hi:Inv E (Xo .dead L') g' w') (hd:a.defers=E.ds) (hn:a.tmps.size=S.n) (hs:∀t,(S.get t).sat g' (a.tmps.getD t undef)) (hx:x.sat g' v)
  (hlt:Nat.blt d S.n=true):holds E ⟨S.n,(d,x)::S.τ,L'⟩ (a.put (some d) v) w':=by
 have hlt':d<a.tmps.size:=by rw[hn];simpa using hlt
 refine⟨g',hi,hd,by simp[Act.put,hn],fun t=> ?_⟩
 by_cases h:t=d
 ·subst h
  show AVal.sat g' (Xo _ _ _) _
  rw[Yq]
  simpa [Act.put,hlt'] using hx
 ·show AVal.sat g' (Xo _ _ _) _
  rw[Y9 _ _ _ (Ne.symm h)]
  have:(a.put (some d) v).tmps.getD t undef=a.tmps.getD t undef:=by
   simp[Act.put,Array.getElem?_setIfInBounds_ne (Ne.symm h)]
  rw[this];exact hs t
theorem Xew {g:Gh}:(AVal.tup []).sat g undef:=by
 simp only[AVal.sat]
 exact⟨#[],rfl,by simp only[XB]⟩
theorem X0 {d:Option Nat}{op:Op}{ty:TypeId}{pos:String}{aft:Array Edge}{gd:Option (Nat×Bool)}
  (hg:XcS ops S gd) (hd:X3u S (d.map fun t=>(t,AVal.tup [])))
  (h:Walk P ops draw K rest ((l.length,⟨d,op,ty,pos,aft,gd⟩,⟨XQ ops (gd.map fun p=>(p.1,!p.2)),d.map fun t=>(t,.tup []),[],[],[]⟩)::l)
   (S.skip d)):
  Walk P ops draw K (⟨d,op,ty,pos,aft,gd⟩::rest) l S:=by
 cases gd with
 |none=>exact hg.elim
 |some jb=>
  obtain⟨j,b⟩:=jb
  have hg:=Xmt hg
  refine .step ⟨XQ ops (some (j,!b)),d.map fun t=>(t,.tup []),[],[],[]⟩ (fun E S' a w hs hok Q K' hK=> ?_) ⟨⟨hg.2,trivial⟩,trivial,trivial,hd⟩ h
  obtain⟨g,hs⟩:=hs
  have hy:=Xdh (b:= !b) hs hg.1 hok.1.1
  have hw:Region.wanted ⟨d,op,ty,pos,aft,some (j,b)⟩ (yielded ops a.tmps)=false:=by
   simp only[Region.wanted,hy]
   cases b<;>rfl
  rw[hw]
  simp only[Bool.false_eq_true,if_false]
  refine hK _ _ ?_
  cases d with
  |none=>exact⟨g,hs⟩
  |some d=>exact X1u hs.1 hs.2.1 hs.2.2.1 hs.2.2.2 Xew hok.2.2.2
theorem X7 {d:Option Nat}{op:Op}{ty:TypeId}{pos:String}{aft:Array Edge}{gd:Option (Nat×Bool)}{t:Nat}{j:Nat}{b:Bool} (hgd:gd=some (j,b))
  (hj:(ops[j]?).bind (·.dst)=some t) (ht:S.get t= .tup []) (hd:X3u S (d.map fun t=>(t,AVal.tup [])))
  (h:Walk P ops draw K rest ((l.length,⟨d,op,ty,pos,aft,gd⟩,⟨[(.tmp t,.tup [])],d.map fun t=>(t,.tup []),[],[],[]⟩)::l) (S.skip d)):
  Walk P ops draw K (⟨d,op,ty,pos,aft,gd⟩::rest) l S:=by
 subst hgd
 refine .step ⟨[(.tmp t,.tup [])],d.map fun t=>(t,.tup []),[],[],[]⟩ (fun E S' a w hs hok Q K' hK=> ?_) ⟨⟨ht,trivial⟩,trivial,trivial,hd⟩ h
 obtain⟨g,hs⟩:=hs
 have hv:=hs.2.2.2 t
 have h1:S'.get t= .tup []:=hok.1.1
 rw[h1] at hv
 simp only[AVal.sat] at hv
 obtain⟨vs,hv,_⟩:=hv
 have hw:Region.wanted ⟨d,op,ty,pos,aft,some (j,b)⟩ (yielded ops a.tmps)=false:=by
  simp only[Region.wanted,yielded,hj,Option.bind_some]
  cases hq:a.tmps[t]? with
  |none=>rfl
  |some v=>simp[hq] at hv;subst hv;rfl
 rw[hw]
 simp only[Bool.false_eq_true,if_false]
 refine hK _ _ ?_
 cases d with
 |none=>exact⟨g,hs⟩
 |some d=>exact X1u hs.1 hs.2.1 hs.2.2.1 hs.2.2.2 Xew hok.2.2.2
theorem U6 {o:Oper}{reads:List (Operand×AVal)}{d:Nat}{x:AVal}{lrd:List (Nat×AObj)} (hdst:o.dst=some d)
  (h:∀E S g a w,Vl E S g a w→X0N g a reads→UQ S lrd→∃v,(execOp a.eval o).run P w= .ok (.value v) w∧x.sat g v):
  X8U P o ⟨reads,some (d,x),lrd,[],[]⟩:=by
 intro E S a w g hs hok Q K hK
 obtain⟨v,h1,h2⟩:=h E S g a w hs (X0M hs _ hok.1) hok.2.1
 unfold Oper.wp
 rw[h1,Oper.upon_value,hdst]
 exact hK _ _ (X1u hs.1 hs.2.1 hs.2.2.1 hs.2.2.2 h2 hok.2.2.2)
variable {d:Nat}{ty:TypeId}{pos:String}{aft:Array Edge}{gd:Option (Nat×Bool)}
theorem X8 {x:Operand}{y:AVal} (hx:S.ev x=y) (hd:Nat.blt d S.n=true) (hg:XR ops S gd)
  (h:Walk P ops draw K rest ((l.length,⟨some d,.move x,ty,pos,aft,gd⟩,⟨XQ ops gd++[(x,y)],some (d,y),[],[],[]⟩)::l) (S.set d (y))):
  Walk P ops draw K (⟨some d,.move x,ty,pos,aft,gd⟩::rest) l S:=
 Yh ⟨[(x,y)],some (d,y),[],[],[]⟩ (U6 rfl fun E S g a w hs hr _=>⟨_,rfl,hr.1⟩) hg ⟨⟨hx,trivial⟩,trivial,trivial,hd⟩ h
theorem Xf {x:Operand}{y:AVal} (hx:S.ev x=y) (hd:Nat.blt d S.n=true) (hg:XR ops S gd)
  (h:Walk P ops draw K rest ((l.length,⟨some d,.assign x,ty,pos,aft,gd⟩,⟨XQ ops gd++[(x,y)],some (d,y),[],[],[]⟩)::l) (S.set d (y))):
  Walk P ops draw K (⟨some d,.assign x,ty,pos,aft,gd⟩::rest) l S:=
 Yh ⟨[(x,y)],some (d,y),[],[],[]⟩ (U6 rfl fun E S g a w hs hr _=>⟨_,rfl,hr.1⟩) hg ⟨⟨hx,trivial⟩,trivial,trivial,hd⟩ h
theorem XeS {g:Gh}{b:Bool}{v:Value} (h:(ab b).sat g v):v= .bool b:=by simp only[AVal.sat,D.rep] at h;exact h.1
theorem Uc {g:Gh}{x v:Value} (h:(AVal.d (.v x)).sat g v):v=x:=by simp only[AVal.sat,D.rep] at h;exact h.1
theorem VB {g:Gh}{x:Value} (h:x.oneCell'=true):(AVal.d (.v x)).sat g x:=by simpa [AVal.sat,D.rep] using h
theorem X4 {c x z:Operand}{b:Bool}{y:AVal} (hc:S.ev c=ab b) (hb:b=true) (hx:S.ev x=y) (hd:Nat.blt d S.n=true) (hg:XR ops S gd)
  (h:Walk P ops draw K rest ((l.length,⟨some d,.pick c x z,ty,pos,aft,gd⟩,⟨XQ ops gd++[(c,ab true),(x,y)],some (d,y),[],[],[]⟩)::l) (S.set d (y))):
  Walk P ops draw K (⟨some d,.pick c x z,ty,pos,aft,gd⟩::rest) l S:=
 Yh ⟨[(c,ab true),(x,y)],some (d,y),[],[],[]⟩ (U6 rfl fun E S g a w hs hr _=>by
  refine⟨a.eval x,?_,hr.2.1⟩
  simp[execOp,XeS hr.1,asBool]) hg ⟨⟨hb ▸ hc,hx,trivial⟩,trivial,trivial,hd⟩ h
theorem X3 {c x z:Operand}{b:Bool}{y:AVal} (hc:S.ev c=ab b) (hb:b=false) (hx:S.ev z=y) (hd:Nat.blt d S.n=true) (hg:XR ops S gd)
  (h:Walk P ops draw K rest ((l.length,⟨some d,.pick c x z,ty,pos,aft,gd⟩,⟨XQ ops gd++[(c,ab false),(z,y)],some (d,y),[],[],[]⟩)::l) (S.set d (y))):
  Walk P ops draw K (⟨some d,.pick c x z,ty,pos,aft,gd⟩::rest) l S:=
 Yh ⟨[(c,ab false),(z,y)],some (d,y),[],[],[]⟩ (U6 rfl fun E S g a w hs hr _=>by
  refine⟨a.eval z,?_,hr.2.1⟩
  simp[execOp,XeS hr.1,asBool]) hg ⟨⟨hb ▸ hc,hx,trivial⟩,trivial,trivial,hd⟩ h
theorem X6 {op:BinOp}{xt yt:TypeId}{x y:Operand}{u v r:Value} (hx:S.ev x= .d (.v u)) (hy:S.ev y= .d (.v v))
  (hr:∀w,(do eqGuard op xt x y u v;binOp op xt u v:Sem Value).run P w= .ok r w) (h1:r.oneCell'=true) (hd:Nat.blt d S.n=true) (hg:XR ops S gd)
  (h:Walk P ops draw K rest ((l.length,⟨some d,.binOp op xt x y yt,ty,pos,aft,gd⟩,⟨XQ ops gd++[(x,.d (.v u)),(y,.d (.v v))],some (d,.d (.v r)),[],[],[]⟩)::l) (S.set d (.d (.v r)))):
  Walk P ops draw K (⟨some d,.binOp op xt x y yt,ty,pos,aft,gd⟩::rest) l S:=
 Yh ⟨[(x,.d (.v u)),(y,.d (.v v))],some (d,.d (.v r)),[],[],[]⟩ (U6 rfl fun E S g a w hs hq _=>by
  refine⟨r,?_,VB h1⟩
  have:=hr w
  simp only[execOp,Uc hq.1,Uc hq.2.1,Sem.run_bind,Sem.run_pure] at this ⊢
  rw[this];rfl) hg ⟨⟨hx,hy,trivial⟩,trivial,trivial,hd⟩ h
theorem XiO {t:TypeId}{x y:Operand}{k:IntKind}{a b:Int} (w:World):(do eqGuard .lss t x y (.int k a) (.int k b);binOp .lss t (.int k a) (.int k b):Sem Value).run P w= .ok (.bool (decide (a<b))) w:=by simp[go_sem]
theorem XqJ {t:TypeId}{x y:Operand}{k:IntKind}{a b:Int} (w:World):(do eqGuard .leq t x y (.int k a) (.int k b);binOp .leq t (.int k a) (.int k b):Sem Value).run P w= .ok (.bool (decide (a≤b))) w:=by simp[go_sem]
theorem XqV {t:TypeId}{x y:Operand}{k:IntKind}{a b:Int} (w:World):(do eqGuard .gtr t x y (.int k a) (.int k b);binOp .gtr t (.int k a) (.int k b):Sem Value).run P w= .ok (.bool (decide (b<a))) w:=by simp[go_sem]
theorem Xnb {t:TypeId}{x y:Operand}{k:IntKind}{a b:Int} (w:World):(do eqGuard .geq t x y (.int k a) (.int k b);binOp .geq t (.int k a) (.int k b):Sem Value).run P w= .ok (.bool (decide (b≤a))) w:=by simp[go_sem]
theorem Xd1 {t:TypeId}{x y:Operand}{k:IntKind}{a b:Int} (w:World):(do eqGuard .eql t x y (.int k a) (.int k b);binOp .eql t (.int k a) (.int k b):Sem Value).run P w= .ok (.bool (decide (a=b))) w:=by
 simp[go_sem];exact Bool.beq_eq_decide_eq a b
theorem Xiw {t:TypeId}{x y:Operand}{k:IntKind}{a b:Int} (w:World):(do eqGuard .neq t x y (.int k a) (.int k b);binOp .neq t (.int k a) (.int k b):Sem Value).run P w= .ok (.bool (decide (a≠b))) w:=by
 simp[go_sem,bne,Bool.beq_eq_decide_eq]
theorem Xiq {t:TypeId}{x y:Operand}{k:IntKind}{a b:Int} (w:World):(do eqGuard .add t x y (.int k a) (.int k b);binOp .add t (.int k a) (.int k b):Sem Value).run P w= .ok (.int k (k.wrap (a+b))) w:=by simp[go_sem]
theorem XaK {t:TypeId}{x y:Operand}{k:IntKind}{a b:Int} (w:World):(do eqGuard .sub t x y (.int k a) (.int k b);binOp .sub t (.int k a) (.int k b):Sem Value).run P w= .ok (.int k (k.wrap (a-b))) w:=by simp[go_sem]
theorem Xob {t:TypeId}{x y:Operand}{k:IntKind}{a b:Int} (w:World):(do eqGuard .mul t x y (.int k a) (.int k b);binOp .mul t (.int k a) (.int k b):Sem Value).run P w= .ok (.int k (k.wrap (a*b))) w:=by simp[go_sem]
def XT (n:Int):Prop:= -9223372036854775808≤n∧n≤9223372036854775807
theorem UC {t:TypeId}{x y:Operand}{a b:Int} (h:XT (a+b)) (w:World):(do eqGuard .add t x y (.int .i64 a) (.int .i64 b);binOp .add t (.int .i64 a) (.int .i64 b):Sem Value).run P w= .ok (.int .i64 (a+b)) w:=by
 rw[Xiq,IntWalk.i64_in _ h]
theorem Yl {t:TypeId}{x y:Operand}{a b:Int} (h:XT (a-b)) (w:World):(do eqGuard .sub t x y (.int .i64 a) (.int .i64 b);binOp .sub t (.int .i64 a) (.int .i64 b):Sem Value).run P w= .ok (.int .i64 (a-b)) w:=by
 rw[XaK,IntWalk.i64_in _ h]
theorem XdO {op:UnOp}{xt:TypeId}{x:Operand}{u r:Value} (hx:S.ev x= .d (.v u))
  (hr:∀w,(Op.unary op u).run P w= .ok r w) (h1:r.oneCell'=true) (hd:Nat.blt d S.n=true) (hg:XR ops S gd)
  (h:Walk P ops draw K rest ((l.length,⟨some d,.unOp op xt x,ty,pos,aft,gd⟩,⟨XQ ops gd++[(x,.d (.v u))],some (d,.d (.v r)),[],[],[]⟩)::l) (S.set d (.d (.v r)))):
  Walk P ops draw K (⟨some d,.unOp op xt x,ty,pos,aft,gd⟩::rest) l S:=
 Yh ⟨[(x,.d (.v u))],some (d,.d (.v r)),[],[],[]⟩ (U6 rfl fun E S g a w hs hq _=>by
  refine⟨r,?_,VB h1⟩
  simp only[execOp,Uc hq.1,Sem.run_bind,hr w];rfl) hg ⟨⟨hx,trivial⟩,trivial,trivial,hd⟩ h
theorem Xmr {b:Bool} (w:World):(Op.unary .not (.bool b)).run P w= .ok (.bool (!b)) w:=rfl
theorem Xim {src dst:TypeId}{x:Operand}{u r:Value} (hx:S.ev x= .d (.v u))
  (hr:∀w,(convert src dst u).run P w= .ok r w) (h1:r.oneCell'=true) (hd:Nat.blt d S.n=true) (hg:XR ops S gd)
  (h:Walk P ops draw K rest ((l.length,⟨some d,.convert src dst x,ty,pos,aft,gd⟩,⟨XQ ops gd++[(x,.d (.v u))],some (d,.d (.v r)),[],[],[]⟩)::l) (S.set d (.d (.v r)))):
  Walk P ops draw K (⟨some d,.convert src dst x,ty,pos,aft,gd⟩::rest) l S:=
 Yh ⟨[(x,.d (.v u))],some (d,.d (.v r)),[],[],[]⟩ (U6 rfl fun E S g a w hs hq _=>by
  refine⟨r,?_,VB h1⟩
  simp only[execOp,Uc hq.1,Sem.run_bind,hr w];rfl) hg ⟨⟨hx,trivial⟩,trivial,trivial,hd⟩ h
def X4t (P:Program) (t:TypeId) (k:IntKind):Bool:=match P.underlying t with|some (.int q)=>decide (q=k)|_=>false
theorem X6H {src dst:TypeId}{k q:IntKind}{n:Int} (hs:(P.underlying src).isSome=true) (hd:X4t P dst q=true) (w:World):
  (convert src dst (.int k n)).run P w= .ok (.int q (q.wrap n)) w:=by
 have h1:P.underlying dst=some (.int q):=by
  unfold X4t at hd
  cases hu:P.underlying dst with
  |none=>rw[hu] at hd;simp at hd
  |some t=>cases t<;>rw[hu] at hd<;>simp at hd;subst hd;rfl
 have h2:P.intKind dst=q:=by simp[Program.intKind,h1]
 have:=run_convert_int (P:=P) w src dst k n hs (by rw[h2];exact h1)
 rwa [h2] at this
def X0I (P:Program) (t:TypeId) (agg:Bool) (sz:Nat):Bool:=
 match P.underlying t,P.info? t with
 |some d,some i=>((match d with| .struct _=>agg| .array _ _=>agg|_=> !agg)&&Nat.beq i.size sz)
 |_,_=>false
def XdM (P:Program) (t:TypeId):Nat:=match P.info? t with|some i=>i.size|none=>0
def XeK (P:Program) (s:TypeId) (f:Nat):Nat:=
 match P.underlying s with
 |some (.struct fs)=>(match fs[f]? with|some q=>q.offset|none=>0)
 |_=>0
def isSl (P:Program) (t:TypeId):Bool:=match P.underlying t with|some (.slice _)=>true|_=>false
theorem X54 {t:TypeId} (h:isSl P t=true):∃e,P.underlying t=some (.slice e):=by
 unfold isSl at h
 cases hu:P.underlying t with
 |none=>simp[hu] at h
 |some de=>rw[hu] at h;cases de<;>simp at h;exact⟨_,rfl⟩
def Ui (P:Program) (t:TypeId) (sz:Nat):Bool:=
 match P.underlying t with
 |some (.slice e)=>(match P.info? e with|some i=>Nat.beq i.size sz|none=>false)
 |_=>false
def X6y (P:Program) (s:TypeId) (f off:Nat):Bool:=
 match P.underlying s with
 |some (.struct fs)=>(match fs[f]? with|some q=>Nat.beq q.offset off&&(match P.info? q.type with|some i=> !Nat.beq i.size 0|none=>false)|none=>false)
 |_=>false
theorem X9E {t:TypeId}{agg:Bool}{sz:Nat} (h:X0I P t agg sz=true):
  (∀w,(isAgg t).run P w= .ok agg w)∧(∀w,(sizeOf t).run P w= .ok sz w):=by
 unfold X0I at h
 cases hu:P.underlying t with
 |none=>simp[hu] at h
 |some de=>
  cases hq:P.info? t with
  |none=>simp[hq] at h
  |some i=>
   rw[hu,hq] at h
   simp only[Bool.and_eq_true] at h
   have h2:i.size=sz:=Nat.eq_of_beq_eq_true h.2
   refine⟨fun w=> ?_,fun w=>by simp[sizeOf,typeInfo,hq,h2]⟩
   unfold isAgg
   rw[Sem.run_bind,run_underlying hu w]
   have h1:=h.1
   cases de<;>cases agg<;>simp_all
theorem X1i {t:TypeId}{sz:Nat} (h:Ui P t sz=true):∃e,P.underlying t=some (.slice e)∧(∀w,(sizeOf e).run P w= .ok sz w)∧P.elem t=e:=by
 unfold Ui at h
 cases hu:P.underlying t with
 |none=>simp[hu] at h
 |some de=>
  cases de<;>rw[hu] at h<;>simp at h
  rename_i e
  cases hq:P.info? e with
  |none=>simp[hq] at h
  |some i=>
   rw[hq] at h
   have h2:i.size=sz:=by simpa using h
   exact⟨e,rfl,fun w=>by simp[sizeOf,typeInfo,hq,h2],by simp[Program.elem,hu]⟩
theorem X6q {t:TypeId}{p:Addr}{v:Value}{w:World} (ht:X0I P t false 1=true) (h:w.cell? p=some v):(loadVar t p).run P w= .ok v w:=by
 have:=(X9E ht).1 w
 simp[loadVar,this,h]
theorem X6b {t:TypeId}{p:Addr}{vs:List Value}{w:World} (ht:X0I P t true vs.length=true) (h:∀j v,vs[j]? =some v→w.cell? (p.add j)=some v):
  (loadVar t p).run P w= .ok (.agg vs.toArray) w:=by
 have h1:=(X9E ht).1 w
 have h2:=(X9E ht).2 w
 have h3:=run_loadCells_list (P:=P) w p vs h
 simp[loadVar,h1,h2,h3]
theorem Uw (b o j:Nat):(⟨b,o,none⟩:Addr).add j=⟨b,o+j,none⟩:=Addr.add_lit b o j
theorem X9 {t:TypeId}{x:Operand}{γ o:Nat}{cs:List AVal}{y:AVal} (hx:S.ev x= .ptr γ o) (hL:S.obj γ= .box cs) (hy:cs[o]? =some y)
  (ht:X0I P t false 1=true) (hd:Nat.blt d S.n=true) (hg:XR ops S gd)
  (h:Walk P ops draw K rest ((l.length,⟨some d,.load t x,ty,pos,aft,gd⟩,⟨XQ ops gd++[(x,.ptr γ o)],some (d,y),[(γ,.box cs)],[],[]⟩)::l) (S.set d (y))):
  Walk P ops draw K (⟨some d,.load t x,ty,pos,aft,gd⟩::rest) l S:=
 Yh ⟨[(x,.ptr γ o)],some (d,y),[(γ,.box cs)],[],[]⟩ (U6 rfl fun E S g a w hs hq hl=>by
  have ho:=hs.1.obj γ
  rw[hl.1] at ho
  obtain⟨vs,e,fr,h1,h2,h3,h4⟩:=ho
  obtain⟨u,hu,hsu⟩:=UX h3 o y hy
  refine⟨u,?_,hsu⟩
  have hp:a.eval x= .pointer (some ⟨g.blk γ,o,none⟩):=by have:=hq.1;simpa only[AVal.sat] using this
  have hc:w.cell? ⟨g.blk γ,o,none⟩=some u:=by rw[cell_of_row w _ o vs e fr h1];simpa using hu
  simp[execOp,hp,Instr.loadAt,Instr.sureAddr,X6q ht hc]) hg ⟨⟨hx,trivial⟩,⟨hL,trivial⟩,trivial,hd⟩ h
theorem X9J {t:TypeId}{x:Operand}{γ o sz:Nat}{cs ys:List AVal} (hx:S.ev x= .ptr γ o) (hL:S.obj γ= .box cs)
  (hsz:XdM P t=sz) (ht:X0I P t true sz=true) (hy:(cs.drop o).take sz=ys) (hlen:Nat.beq ys.length sz=true) (hd:Nat.blt d S.n=true) (hg:XR ops S gd)
  (h:Walk P ops draw K rest ((l.length,⟨some d,.load t x,ty,pos,aft,gd⟩,⟨XQ ops gd++[(x,.ptr γ o)],some (d,.agg ys),[(γ,.box cs)],[],[]⟩)::l) (S.set d (.agg ys))):
  Walk P ops draw K (⟨some d,.load t x,ty,pos,aft,gd⟩::rest) l S:=
 Yh ⟨[(x,.ptr γ o)],some (d,.agg ys),[(γ,.box cs)],[],[]⟩ (U6 rfl fun E S g a w hs hq hl=>by
  have ho:=hs.1.obj γ
  rw[hl.1] at ho
  obtain⟨vs,e,fr,h1,h2,h3,h4⟩:=ho
  have hsub:=X2N (X3o h3 o) sz
  rw[hy] at hsub
  have hl1:=Ue hsub
  have hl2:ys.length=sz:=Nat.eq_of_beq_eq_true hlen
  refine⟨.agg ((vs.toList.drop o).take sz).toArray,?_,by simp only[AVal.sat];exact⟨_,rfl,hsub⟩⟩
  have hp:a.eval x= .pointer (some ⟨g.blk γ,o,none⟩):=by have:=hq.1;simpa only[AVal.sat] using this
  have:=X6b (P:=P) (p:=⟨g.blk γ,o,none⟩) (w:=w) (vs:=(vs.toList.drop o).take sz) (t:=t) (by rw[hl1,hl2];exact ht) (fun j v hv=>by
   rw[Uw,cell_of_row w _ _ vs e fr h1]
   rw[List.getElem?_take] at hv
   split at hv
   ·rw[List.getElem?_drop] at hv;simpa using hv
   ·simp at hv)
  simp[execOp,hp,Instr.loadAt,Instr.sureAddr,this]) hg ⟨⟨hx,trivial⟩,⟨hL,trivial⟩,trivial,hd⟩ h
theorem X1b {t:TypeId}{x:Operand}{y:D}{r:List D} (hx:S.ev x= .dptr (y::r))
  (ht:X0I P t false 1=true) (hd:Nat.blt d S.n=true) (hg:XR ops S gd)
  (h:Walk P ops draw K rest ((l.length,⟨some d,.load t x,ty,pos,aft,gd⟩,⟨XQ ops gd++[(x,.dptr (y::r))],some (d,.d y),[],[],[]⟩)::l) (S.set d (.d y))):
  Walk P ops draw K (⟨some d,.load t x,ty,pos,aft,gd⟩::rest) l S:=
 Yh ⟨[(x,.dptr (y::r))],some (d,.d y),[],[],[]⟩ (U6 rfl fun E S g a w hs hq hl=>by
  have:=hq.1
  simp only[AVal.sat] at this
  obtain⟨b,o,hp,hr⟩:=this
  simp only[UK] at hr
  obtain⟨⟨u,hu,hsu⟩,_⟩:=hr
  refine⟨u,?_,by simp only[AVal.sat];exact hsu⟩
  have hc:=hs.1.mem _ _ hu
  simp[execOp,hp,Instr.loadAt,Instr.sureAddr,X6q ht hc]) hg ⟨⟨hx,trivial⟩,trivial,trivial,hd⟩ h
theorem XbC {M:Mem}{w:World} (hm:∀a v,M a=some v→w.cell? a=some v):∀(ds:List D) (b o:Nat),UK M ds b o→
  ∃vs:List Value,vs.length=ds.length∧(∀(j:Nat) (v:Value),vs[j]? =some v→w.cell? ⟨b,o+j,none⟩=some v)∧(∀(j:Nat) (d:D) (v:Value),ds[j]? =some d→vs[j]? =some v→d.rep M v)
 |[],_,_,_=>⟨[],rfl,by simp,by simp⟩
 |d::ds,b,o,h=>by
  simp only[UK] at h
  obtain⟨⟨u,h1,h2⟩,h3⟩:=h
  obtain⟨vs,k1,k2,k3⟩:=XbC hm ds b (o+1) h3
  refine⟨u::vs,by simp[k1],fun j v hv=> ?_,fun j d' v hd' hv=> ?_⟩
  ·cases j with
   |zero=>simp at hv;subst hv;exact hm _ _ h1
   |succ j=>have:=k2 j v (by simpa using hv);rwa [show o+1+j=o+(j+1) by omega] at this
  ·cases j with
   |zero=>simp at hv hd';subst hv hd';exact h2
   |succ j=>exact k3 j d' v (by simpa using hd') (by simpa using hv)
theorem UO {t:TypeId}{x:Operand}{row:List D}{sz:Nat}{ys:List AVal} (hx:S.ev x= .dptr row)
  (hsz:XdM P t=sz) (ht:X0I P t true sz=true) (hy:(row.take sz).map .d=ys) (hlen:Nat.beq ys.length sz=true) (hd:Nat.blt d S.n=true) (hg:XR ops S gd)
  (h:Walk P ops draw K rest ((l.length,⟨some d,.load t x,ty,pos,aft,gd⟩,⟨XQ ops gd++[(x,.dptr row)],some (d,.agg ys),[],[],[]⟩)::l) (S.set d (.agg ys))):
  Walk P ops draw K (⟨some d,.load t x,ty,pos,aft,gd⟩::rest) l S:=
 Yh ⟨[(x,.dptr row)],some (d,.agg ys),[],[],[]⟩ (U6 rfl fun E S g a w hs hq hl=>by
  have:=hq.1
  simp only[AVal.sat] at this
  obtain⟨b,o,hp,hr⟩:=this
  obtain⟨vs,k1,k2,k3⟩:=XbC hs.1.mem _ _ _ (Xlg hr sz)
  have hl2:ys.length=sz:=Nat.eq_of_beq_eq_true hlen
  have hl3:vs.length=sz:=by rw[k1,←hl2,←hy];simp
  refine⟨.agg vs.toArray,?_,?_⟩
  ·have:=X6b (P:=P) (p:=⟨b,o,none⟩) (w:=w) (vs:=vs) (t:=t) (by rw[hl3];exact ht) (fun j v hv=>by rw[Uw];exact k2 j v hv)
   simp[execOp,hp,Instr.loadAt,Instr.sureAddr,this]
  ·simp only[AVal.sat]
   refine⟨_,rfl,X24 (by simp[hl2,hl3]) fun i z u hz hu=> ?_⟩
   rw[←hy] at hz
   simp only[List.getElem?_map,Option.map_eq_some_iff] at hz
   obtain⟨d',hd',rfl⟩:=hz
   simp only[AVal.sat]
   exact k3 i d' u hd' (by simpa using hu)) hg ⟨⟨hx,trivial⟩,trivial,trivial,hd⟩ h
theorem XnV {s:TypeId}{f off:Nat} (h:X6y P s f off=true):∃fs q i,P.underlying s=some (.struct fs)∧fs[f]? =some q∧q.offset=off∧P.info? q.type=some i∧i.size≠0:=by
 unfold X6y at h
 cases hu:P.underlying s with
 |none=>simp[hu] at h
 |some de=>
  cases de<;>rw[hu] at h<;>simp at h
  rename_i fs
  cases hq:fs[f]? with
  |none=>simp[hq] at h
  |some q=>
   rw[hq] at h
   cases hi:P.info? q.type with
   |none=>simp[hi] at h
   |some i=>simp[hi] at h;exact⟨fs,q,i,rfl,hq,h.1,hi,X3N h.2⟩
theorem Xge {s:TypeId}{f off b o:Nat} (h:X6y P s f off=true) (w:World):(Instr.fieldAt s (.pointer (some ⟨b,o,none⟩)) f).run P w= .ok (.pointer (some ⟨b,o+off,none⟩)) w:=by
 obtain⟨fs,q,i,h1,h2,h3,h4,h5⟩:=XnV h
 simp[Instr.fieldAt,run_underlying h1,h2,Instr.sureAddr,fieldPlace,h3,Uw,sizeOf,typeInfo,h4,h5]
theorem Xa {s:TypeId}{x:Operand}{f γ o off:Nat} (hx:S.ev x= .ptr γ o) (hoff:XeK P s f=off) (hf:X6y P s f off=true) (hd:Nat.blt d S.n=true) (hg:XR ops S gd)
  (h:Walk P ops draw K rest ((l.length,⟨some d,.fieldAddr s x f,ty,pos,aft,gd⟩,⟨XQ ops gd++[(x,.ptr γ o)],some (d,.ptr γ (o+off)),[],[],[]⟩)::l) (S.set d (.ptr γ (o+off)))):
  Walk P ops draw K (⟨some d,.fieldAddr s x f,ty,pos,aft,gd⟩::rest) l S:=
 Yh ⟨[(x,.ptr γ o)],some (d,.ptr γ (o+off)),[],[],[]⟩ (U6 rfl fun E S g a w hs hq hl=>by
  have hp:a.eval x= .pointer (some ⟨g.blk γ,o,none⟩):=by have:=hq.1;simpa only[AVal.sat] using this
  exact⟨.pointer (some ⟨g.blk γ,o+off,none⟩),by simp[execOp,hp,Xge hf],by simp only[AVal.sat]⟩) hg ⟨⟨hx,trivial⟩,trivial,trivial,hd⟩ h
theorem X1o {s:TypeId}{x:Operand}{f off:Nat}{row:List D} (hx:S.ev x= .dptr row) (hoff:XeK P s f=off) (hf:X6y P s f off=true) (hd:Nat.blt d S.n=true) (hg:XR ops S gd)
  (h:Walk P ops draw K rest ((l.length,⟨some d,.fieldAddr s x f,ty,pos,aft,gd⟩,⟨XQ ops gd++[(x,.dptr row)],some (d,.dptr (row.drop off)),[],[],[]⟩)::l) (S.set d (.dptr (row.drop off)))):
  Walk P ops draw K (⟨some d,.fieldAddr s x f,ty,pos,aft,gd⟩::rest) l S:=
 Yh ⟨[(x,.dptr row)],some (d,.dptr (row.drop off)),[],[],[]⟩ (U6 rfl fun E S g a w hs hq hl=>by
  have:=hq.1
  simp only[AVal.sat] at this
  obtain⟨b,o,hp,hr⟩:=this
  exact⟨.pointer (some ⟨b,o+off,none⟩),by simp[execOp,hp,Xge hf],by simp only[AVal.sat];exact⟨b,o+off,rfl,XqQ hr off⟩⟩) hg ⟨⟨hx,trivial⟩,trivial,trivial,hd⟩ h
theorem Xc5 {x:Operand}{i:Nat}{vs:List AVal}{y:AVal} (hx:S.ev x= .tup vs) (hy:vs[i]? =some y) (hd:Nat.blt d S.n=true) (hg:XR ops S gd)
  (h:Walk P ops draw K rest ((l.length,⟨some d,.extract x i,ty,pos,aft,gd⟩,⟨XQ ops gd++[(x,.tup vs)],some (d,y),[],[],[]⟩)::l) (S.set d (y))):
  Walk P ops draw K (⟨some d,.extract x i,ty,pos,aft,gd⟩::rest) l S:=
 Yh ⟨[(x,.tup vs)],some (d,y),[],[],[]⟩ (U6 rfl fun E S g a w hs hq hl=>by
  have:=hq.1
  simp only[AVal.sat] at this
  obtain⟨us,hp,hr⟩:=this
  obtain⟨u,hu,hsu⟩:=UX hr i y hy
  have hu':us[i]? =some u:=by simpa using hu
  exact⟨u,by simp[execOp,hp,Instr.extract,hu'],hsu⟩) hg ⟨⟨hx,trivial⟩,trivial,trivial,hd⟩ h
end
end Go.Fw
