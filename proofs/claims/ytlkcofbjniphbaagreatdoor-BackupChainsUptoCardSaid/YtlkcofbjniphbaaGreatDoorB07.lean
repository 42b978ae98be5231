/- The check that a pointer is not nil: the step. -/
import Derived.Laws.StructEq
import Derived.Test.YtlkcofbjniphbaaGreatDoorB06
namespace Go.Fw
open Go
set_option linter.unusedVariables false
set_option linter.unusedSimpArgs false
variable {P:Program}{ops:Array Oper}{draw:Bool}{K:Y4→St→Prop}{rest:List Oper}{l:Y4}{S:St}{d:Nat}{ty:TypeId}{pos:String}{aft:Array Edge}{gd:Option (Nat×Bool)}
theorem Xpd {x:Operand}{γ o:Nat} (hx:S.ev x= .ptr γ o) (hd:Nat.blt d S.n=true) (hg:XR ops S gd)
  (h:Walk P ops draw K rest ((l.length,⟨some d,.nilCheck x,ty,pos,aft,gd⟩,⟨XQ ops gd++[(x,.ptr γ o)],some (d,.ptr γ o),[],[],[]⟩)::l) (S.set d (.ptr γ o))):
  Walk P ops draw K (⟨some d,.nilCheck x,ty,pos,aft,gd⟩::rest) l S:=
 Yh ⟨[(x,.ptr γ o)],some (d,.ptr γ o),[],[],[]⟩ (U6 rfl fun E S g a w hs hq hl=>by
  have hp:a.eval x= .pointer (some ⟨g.blk γ,o,none⟩):=by have:=hq.1;simpa only[AVal.sat] using this
  exact⟨.pointer (some ⟨g.blk γ,o,none⟩),by simp[execOp,hp],by simp only[AVal.sat]⟩) hg ⟨⟨hx,trivial⟩,trivial,trivial,hd⟩ h
def X9F (P:Program) (t:TypeId):Bool:=match P.underlying t with|some (.slice e)=>(match P.underlying e with|some (.int .u8)=>true|_=>false)|_=>false
theorem XnK {t:TypeId} (h:X9F P t=true):∃e,P.underlying t=some (.slice e)∧P.underlying e=some (.int .u8):=by
 unfold X9F at h
 split at h
 ·rename_i e h1
  split at h
  ·rename_i h2;exact⟨e,h1,h2⟩
  ·simp at h
 ·simp at h
theorem Xs7 (w:World) (b n:Nat) (vs:Array Value) (e:TypeId) (fr:Nat×Nat) (hb:w.heap[b]? =some (.cells vs e fr)):
  (∃fr',(w.freeze ⟨b,n,none⟩ 1).heap[b]? =some (.cells vs e fr')∧(fr'=(n,n+1)∨fr'=(min fr.1 n,max fr.2 (n+1))∧fr.1≠fr.2))∧(∀j,j≠b→(w.freeze ⟨b,n,none⟩ 1).heap[j]? =w.heap[j]?)∧
   (w.freeze ⟨b,n,none⟩ 1).heap.size=w.heap.size∧(w.freeze ⟨b,n,none⟩ 1).os=w.os∧(w.freeze ⟨b,n,none⟩ 1).output=w.output:=by
 obtain⟨lo,hi⟩:=fr
 unfold World.freeze
 rw[if_neg (by decide)]
 refine⟨?_,fun j hj=> ?_,by simp,rfl,rfl⟩
 ·by_cases h:lo=hi
  ·refine⟨(n,n+1),?_,.inl rfl⟩
   simp[Array.getElem?_modify,hb,h]
  ·refine⟨(min lo n,max hi (n+1)),?_,.inr ⟨rfl,h⟩⟩
   simp[Array.getElem?_modify,hb,h]
 ·simp[Array.getElem?_modify,Ne.symm hj]
theorem XrB {E:Env}{L:Nat→AObj}{g:Gh}{w:World} (hi:Inv E L g w) {b n:Nat}{vs:Array Value}{e:TypeId}{fr:Nat×Nat} (hb:w.heap[b]? =some (.cells vs e fr)) (hnew:E.W.heap.size≤b∨E.A b) (hnl:∀γ,¬XM g (L γ) γ b):
  Inv E L g (w.freeze ⟨b,n,none⟩ 1):=by
 obtain⟨⟨fr',f1,f2⟩,f3,f4,f5,f6⟩:=Xs7 w b n vs e fr hb
 refine⟨fun γ=>X4i (fun _ _ h=>h) rfl rfl rfl (fun j hj=>f3 j fun h=>hnl γ (h ▸ hj)) (fun _ _ _ h=>h) (hi.obj γ),hi.inj,fun a v ha=> ?_,hi.sep,hi.new,hi.ext,hi.lim,fun j hj hA=> ?_,by rw[f4];exact hi.size,by rw[f5];exact hi.os,by rw[f6];exact hi.out,hi.kp⟩
 ·have h1:=hi.mem a v ha
  unfold World.cell? at h1 ⊢
  by_cases h:a.block=b
  ·rw[h,f1];rw[h,hb] at h1;exact h1
  ·rw[f3 _ h];exact h1
 ·rw[f3 j fun h=> ?_]
  ·exact hi.frame j hj hA
  ·subst h
   rcases hnew with h|h
   ·omega
   ·exact hA h
theorem X82 {t:TypeId}{x:Operand}{γ n:Nat}{xs:List (List D)} (hx:S.ev x= .own γ n) (hL:S.obj γ= .row 1 xs) (hn:n=xs.length) (hne:Nat.beq n 0=false) (ht:X9F P t=true) (hd:Nat.blt d S.n=true) (hg:XR ops S gd)
  (h:Walk P ops draw K rest ((l.length,⟨some d,.convert t t x,ty,pos,aft,gd⟩,⟨XQ ops gd++[(x,.own γ n)],some (d,.d (.sl 1 xs)),[(γ,.row 1 xs)],[(γ,.froz 1 xs)],[]⟩)::l) ((S.set d (.d (.sl 1 xs))).own γ (.froz 1 xs))):
  Walk P ops draw K (⟨some d,.convert t t x,ty,pos,aft,gd⟩::rest) l S:=
 Yh ⟨[(x,.own γ n)],some (d,.d (.sl 1 xs)),[(γ,.row 1 xs)],[(γ,.froz 1 xs)],[]⟩ (X1c rfl fun E S g a w hs hq hl hnw=>by
  have ho:=hs.1.obj γ
  rw[hl.1] at ho
  have hv:=X23 hq.1 ho hn
  obtain⟨e,t1,t2⟩:=XnK ht
  rcases ho.2 with ⟨_,h2⟩|⟨b,cap,vs,e',fr,k1,k2,k3,k4,k5,k6,k7⟩
  ·rw[hn,h2] at hne;exact absurd hne (by decide)
  have hsh:w.shape? b=some (e',vs.size):=by unfold World.shape?;rw[k4]
  have hrun:(execOp a.eval ⟨some d,.convert t t x,ty,pos,aft,gd⟩).run P w= .ok (.value (g.hd γ)) (w.freeze ⟨b,vs.size,none⟩ 1):=by
   simp only[execOp,hv,k1]
   simp[convert,run_underlying t1,run_underlying t2,markStringish,hsh]
  obtain⟨M',hle,hi1⟩:=X93 hs.1 hl.1
  have hlv:XM g (S.obj γ) γ b:=by rw[hl.1];exact⟨_,_,_,k1,rfl⟩
  have hi2:=XrB hi1 (n:=vs.size) k4 (hs.1.new γ b hlv) (fun k hk=>by
   by_cases h:γ=k
   ·subst h;rw[Yq] at hk;exact hk
   ·rw[Y9 _ _ _ h] at hk
    exact h (hs.1.inj γ k b hlv hk))
  have ho2:=hi2.obj γ
  rw[Yq] at ho2
  have hq1:(AVal.own γ n).sat {g with M:=M'} (a.eval x):=X26 (g:=g) (g':={g with M:=M'}) hle rfl rfl rfl hq.1
  rw[hv] at hq1
  exact⟨g.hd γ,{g with M:=M'},_,hrun,X5V ho2 hn hq1,hi2,fun t=>X26 (g:=g) (g':={g with M:=M'}) hle rfl rfl rfl (hs.2.2.2 t)⟩) hg ⟨⟨hx,trivial⟩,⟨hL,trivial⟩,trivial,hd⟩ h
inductive SK where
 |i (k:IntKind)
 |b
 |s
def SK.of (P:Program) (t:TypeId):Option SK:=match P.underlying t with|some (.int k)=>some (.i k)|some .bool=>some .b|some .string=>some .s|_=>none
section
variable {P:Program}{ops:Array Oper}{draw:Bool}{K:Y4→St→Prop}{rest:List Oper}{l:Y4}{S:St}
variable {d:Nat}{ty:TypeId}{pos:String}{aft:Array Edge}{gd:Option (Nat×Bool)}
theorem XnH {x:Operand}{T:TypeId}{γ n:Nat} (hx:S.ev x= .bsl γ n) (hT:isSl P T=true)
  (hd:Nat.blt d S.n=true) (hg:XR ops S gd)
  (h:Walk P ops draw K rest ((l.length,⟨some d,.call ⟨.builtin .len,#[x],#[T]⟩,ty,pos,aft,gd⟩,⟨XQ ops gd++[(x,.bsl γ n)],some (d,ai n),[],[],[]⟩)::l) (S.set d (ai n))):
  Walk P ops draw K (⟨some d,.call ⟨.builtin .len,#[x],#[T]⟩,ty,pos,aft,gd⟩::rest) l S:=
 Yh ⟨[(x,.bsl γ n)],some (d,ai n),[],[],[]⟩ (U6 rfl fun E S g a w hs hq hl=>by
  obtain⟨e,h1⟩:=X54 hT
  have hv:=hq.1
  simp only[AVal.sat] at hv
  refine⟨.int .i64 n,?_,VB rfl⟩
  simp[execOp,resolve,invoke,builtin,hv,Builtin.len_,run_underlying h1,goInt]) hg ⟨⟨hx,trivial⟩,trivial,trivial,hd⟩ h
theorem X7h {x i:Operand}{T:TypeId}{γ n k:Nat}{kd:IntKind}{m:Int} (hx:S.ev x= .bsl γ n) (hi:S.ev i= .d (.v (.int kd m))) (hk:m=(k:Nat)) (hlt:k<n)
  (hT:Ui P T 1=true) (hd:Nat.blt d S.n=true) (hg:XR ops S gd)
  (h:Walk P ops draw K rest ((l.length,⟨some d,.indexAddr T x i,ty,pos,aft,gd⟩,⟨XQ ops gd++[(x,.bsl γ n),(i,.d (.v (.int kd m)))],some (d,.ptr γ k),[],[],[]⟩)::l) (S.set d (.ptr γ k))):
  Walk P ops draw K (⟨some d,.indexAddr T x i,ty,pos,aft,gd⟩::rest) l S:=
 Yh ⟨[(x,.bsl γ n),(i,.d (.v (.int kd m)))],some (d,.ptr γ k),[],[],[]⟩ (U6 rfl fun E S g a w hs hq hl=>by
  obtain⟨e,h1,h2,h3⟩:=X1i hT
  have hv:=hq.1
  simp only[AVal.sat] at hv
  refine⟨.pointer (some ⟨g.blk γ,k,none⟩),?_,by simp only[AVal.sat]⟩
  have hb:(0:Int)≤m∧m<(n:Int):=by omega
  have hm:m.toNat=k:=by omega
  have:=run_indexAt_slice (P:=P) w T ⟨g.blk γ,0,none⟩ n n kd m (by rw[h3];exact h1)
  rw[if_pos hb,h3,h2 w,Result.andThen_ok,Uw,hm,Nat.mul_one,Nat.zero_add] at this
  simp only[execOp,hv,Uc hq.2.1,Sem.run_bind,this];rfl) hg ⟨⟨hx,hi,trivial⟩,trivial,trivial,hd⟩ h
end
section
variable {P:Program}{E:Env}{S:St}{Q:Exit→St→Prop}
theorem X1Q {c:Operand}{x y:Code}{p:Prop}{inst:Decidable p} (hc:S.ev c=ab (@decide p inst)) (ht:p→AWP P E x S Q) (hf:¬p→AWP P E y S Q):AWP P E (.cond c x y) S Q:=
 X6F hc (fun h=>ht (of_decide_eq_true h)) (fun h=>hf (of_decide_eq_false h))
theorem X2h {x y:Code}{Q':Exit→St→Prop} (U:St) (h:AWP P E x S (X2j (fun T=>T.le U) Q')) (k:AWP P E y U Q):AWP P E x S (X2j (fun T=>AWP P E y T Q) Q'):=
 X7M h fun e T hq=>by
  cases e with
  |normal=>exact Xq hq k
  |_=>exact hq
end
section
variable {P:Program}{ops:Array Oper}{draw:Bool}{K:Y4→St→Prop}{rest:List Oper}{l:Y4}{S:St}
theorem Uh {o:Oper}{j:Nat}{b:Bool}{p:Prop}{inst:Decidable p} (hg:o.guard=some (j,b)) (hx:S.get (X2o ops j)=ab (@decide p inst)) (ht:p→Walk P ops draw K (o::rest) l S) (hf:¬p→Walk P ops draw K (o::rest) l S):Walk P ops draw K (o::rest) l S:=by
 by_cases h:p
 ·exact ht h
 ·exact hf h
theorem X6N {o:Oper}{j:Nat}{b x:Bool} (hg:o.guard=some (j,b)) (hx:S.get (X2o ops j)=ab x) (ht:x=true→Walk P ops draw K (o::rest) l S) (hf:x=false→Walk P ops draw K (o::rest) l S):Walk P ops draw K (o::rest) l S:=by
 cases x
 ·exact hf rfl
 ·exact ht rfl
end
section
variable {P:Program}{E:Env}{S:St}{Q:Exit→St→Prop}
theorem YO {c:Operand}{x y:Code}{b:Bool} (hc:S.ev c=ab (!b)) (ht:b=false→AWP P E x S Q) (hf:b=true→AWP P E y S Q):AWP P E (.cond c x y) S Q:=
 X6F hc (fun h=>ht (by simpa using h)) (fun h=>hf (by simpa using h))
end
section
variable {P:Program}{ops:Array Oper}{draw:Bool}{K:Y4→St→Prop}{rest:List Oper}{l:Y4}{S:St}
theorem Un {o:Oper}{j:Nat}{b x:Bool} (hg:o.guard=some (j,b)) (hx:S.get (X2o ops j)=ab (!x)) (ht:x=true→Walk P ops draw K (o::rest) l S) (hf:x=false→Walk P ops draw K (o::rest) l S):Walk P ops draw K (o::rest) l S:=by
 cases x
 ·exact hf rfl
 ·exact ht rfl
end
section
variable {P:Program}{t:TypeId}{x y:Operand}{a b:List UInt8}
theorem XpZ (w:World):(do eqGuard .lss t x y (.string (Xb a)) (.string (Xb b));binOp .lss t (.string (Xb a)) (.string (Xb b)):Sem Value).run P w= .ok (.bool (Op.bytesLess a b)) w:=by
 simp[go_sem,binOp,Op.stringOp,X2Z]
theorem XkF (w:World):(do eqGuard .gtr t x y (.string (Xb a)) (.string (Xb b));binOp .gtr t (.string (Xb a)) (.string (Xb b)):Sem Value).run P w= .ok (.bool (!(Op.bytesLess a b||decide (a=b)))) w:=by
 simp[go_sem,binOp,Op.stringOp,X2Z];rw[show (a==b)=decide (a=b) from Bool.beq_eq_decide_eq a b]
theorem Xpa (w:World):(do eqGuard .leq t x y (.string (Xb a)) (.string (Xb b));binOp .leq t (.string (Xb a)) (.string (Xb b)):Sem Value).run P w= .ok (.bool (Op.bytesLess a b||decide (a=b))) w:=by
 simp[go_sem,binOp,Op.stringOp,X2Z];rw[show (a==b)=decide (a=b) from Bool.beq_eq_decide_eq a b]
end
theorem X8N:∀s:List UInt8,Op.bytesLess s s=false
 |[]=>by simp[Op.bytesLess]
 |b::s=>by simp[Op.bytesLess,X8N s]
theorem Xil:∀s t:List UInt8,Op.bytesLess s t=true→Op.bytesLess t s=false
 |[],[],h=>by simp[Op.bytesLess]
 |[],b::t,h=>by simp[Op.bytesLess]
 |a::s,[],h=>by simp[Op.bytesLess] at h
 |a::s,b::t,h=>by
  simp only[Op.bytesLess,Bool.or_eq_true,decide_eq_true_eq,Bool.and_eq_true,beq_iff_eq,Bool.or_eq_false_iff,decide_eq_false_iff_not,Bool.and_eq_false_iff] at h ⊢
  rcases h with h|⟨rfl,h⟩
  ·refine⟨fun h'=> ?_,.inl ?_⟩
   ·exact absurd (UInt8.lt_trans h h') (UInt8.lt_irrefl _)
   ·simp only[beq_eq_false_iff_ne,ne_eq]
    rintro rfl
    exact absurd h (UInt8.lt_irrefl _)
  ·exact⟨UInt8.lt_irrefl _,.inr (Xil s t h)⟩
theorem Xa4:∀s t:List UInt8,Op.bytesLess s t=false→Op.bytesLess t s=false→s=t
 |[],[],_,_=>rfl
 |[],b::t,h,_=>by simp[Op.bytesLess] at h
 |a::s,[],_,h=>by simp[Op.bytesLess] at h
 |a::s,b::t,h,h'=>by
  simp only[Op.bytesLess,Bool.or_eq_false_iff,decide_eq_false_iff_not,Bool.and_eq_false_iff,beq_eq_false_iff_ne] at h h'
  have e:a=b:=by
   rcases UInt8.lt_or_lt_of_ne (a:=a) (b:=b) with h1
   by_cases e:a=b
   ·exact e
   ·rcases h1 e with h1|h1
    ·exact absurd h1 h.1
    ·exact absurd h1 h'.1
  subst e
  have h2:=h.2.resolve_left (by simp)
  have h3:=h'.2.resolve_left (by simp)
  rw[Xa4 s t h2 h3]
def leD (d e:D):Prop:=∀(M:Mem) (u:Value),d.rep M u→e.rep M u
def leC (r s:List D):Prop:=∀(M:Mem) (b o:Nat),UK M r b o→UK M s b o
def leW (sz:Nat) (r s:List (List D)):Prop:=r.length=s.length∧∀(M:Mem) (b o:Nat),Vp M sz r b o→Vp M sz s b o
theorem X6W (d:D):leD d d:=fun _ _ h=>h
theorem XkJ (sz:Nat):leD (.v (.slice none 0 0)) (.sl sz []):=fun M u h=>by
 simp only[D.rep] at h ⊢
 exact⟨none,0,h.1,by simp,by simp,by simp⟩
theorem Xs8:leC [] []:=fun _ _ _ h=>h
theorem X5e {d e:D}{r s:List D} (h:leD d e) (hr:leC r s):leC (d::r) (e::s):=fun M b o q=>by
 rw[UK] at q ⊢
 obtain⟨⟨u,h1,h2⟩,h3⟩:=q
 exact⟨⟨u,h1,h M u h2⟩,hr M b (o+1) h3⟩
theorem XmS (sz:Nat):leW sz [] []:=⟨rfl,fun _ _ _ h=>h⟩
theorem Xjf {sz:Nat}{d e:List D}{r s:List (List D)} (h:leC d e) (hl:d.length=e.length) (hr:leW sz r s):leW sz (d::r) (e::s):=⟨by rw[List.length_cons,List.length_cons,hr.1],fun M b o q=>by
 rw[Vp] at q ⊢
 exact⟨by rw[←hl];exact q.1,h M b o q.2.1,hr.2 M b (o+sz) q.2.2⟩⟩
theorem XkH {sz:Nat}{r s:List (List D)} (h:leW sz r s):leD (.sl sz r) (.sl sz s):=fun M u q=>by
 simp only[D.rep] at q ⊢
 obtain⟨a,cap,h1,h2,h3,h4⟩:=q
 refine⟨a,cap,by rw[←h.1];exact h1,by rw[←h.1];exact h2,h3,?_⟩
 rcases h4 with h4|⟨b,o,h5,h6⟩
 ·left
  have:=h.1
  rw[h4] at this
  exact List.eq_nil_of_length_eq_zero this.symm
 ·exact .inr ⟨b,o,h5,h.2 M b o h6⟩
theorem AVal.le_d {d e:D} (h:leD d e):AVal.le (.d d) (.d e):=fun g u q=>by
 simp only[AVal.sat] at q ⊢
 exact h g.M u q
section
variable {P:Program}{E:Env}{S:St}
theorem Xok {x:Code}{Q:Exit→St→Prop} (U:St) (h:AWP P E x S (X2j (fun T=>T.le U) Q)) (k:∀T,T.le U→Q .normal T):AWP P E x S Q:=
 X7M h fun e T hq=>by
  cases e with
  |normal=>exact k T hq
  |_=>exact hq
end
def bPs (bs:List UInt8):List (Nat×AVal):=bs.zipIdx.map fun p=>(p.2,.d (.v (.int .u8 p.1.toNat)))
def X7G (bs:List UInt8):List AVal:=bs.map fun b=> .d (.v (.int .u8 b.toNat))
theorem XaT {sz:Nat}:∀{xs:List (List D)} (h:∀x∈xs,x.length=sz) {k:Nat}{r:List D},xs[k]? =some r→∀{o q:Nat},o+q≤sz→(xs.flatten.drop (k*sz+o)).take q=(r.drop o).take q
 |[],_,k,r,hk,_,_,_=>by simp at hk
 |x::xs,h,0,r,hk,o,q,hq=>by
  simp only[List.getElem?_cons_zero,Option.some.injEq] at hk
  subst hk
  have hx:=h x (by simp)
  rw[Nat.zero_mul,Nat.zero_add,List.flatten_cons,List.drop_append_of_le_length (by omega),List.take_append_of_le_length (by rw[List.length_drop];omega)]
 |x::xs,h,k+1,r,hk,o,q,hq=>by
  have hx:=h x (by simp)
  have:=XaT (fun y hy=>h y (by simp[hy])) (xs:=xs) (k:=k) (r:=r) (by simpa using hk) hq
  rw[List.flatten_cons,show(k+1)*sz+o=x.length+(k*sz+o) by rw[hx,Nat.succ_mul];omega,←List.drop_drop,List.drop_left]
  exact this
section
variable {P:Program}{ops:Array Oper}{draw:Bool}{K:Y4→St→Prop}{rest:List Oper}{l:Y4}{S:St}
variable {d:Nat}{ty:TypeId}{pos:String}{aft:Array Edge}{gd:Option (Nat×Bool)}
theorem X4Q {x i:Operand}{T:TypeId}{γ n k sz:Nat}{kd:IntKind}{m:Int}{xs:List (List D)} (hx:S.ev x= .own γ n) (hL:S.obj γ= .row sz xs) (hi:S.ev i= .d (.v (.int kd m))) (hn:n=xs.length) (hk:m=(k:Nat)) (hlt:k<xs.length)
  (hT:Ui P T sz=true) (hd:Nat.blt d S.n=true) (hg:XR ops S gd)
  (h:Walk P ops draw K rest ((l.length,⟨some d,.indexAddr T x i,ty,pos,aft,gd⟩,⟨XQ ops gd++[(x,.own γ n),(i,.d (.v (.int kd m)))],some (d,.rptr γ n (k*sz)),[(γ,.row sz xs)],[],[]⟩)::l) (S.set d (.rptr γ n (k*sz)))):
  Walk P ops draw K (⟨some d,.indexAddr T x i,ty,pos,aft,gd⟩::rest) l S:=
 Yh ⟨[(x,.own γ n),(i,.d (.v (.int kd m)))],some (d,.rptr γ n (k*sz)),[(γ,.row sz xs)],[],[]⟩ (U6 rfl fun E S g a w hs hq hl=>by
  obtain⟨e,h1,h2,h3⟩:=X1i hT
  have ho:=hs.1.obj γ
  rw[hl.1] at ho
  have hv:=X23 hq.1 ho hn
  rcases ho.2 with ⟨e,rfl⟩|⟨b,cap,vs,e',fr,hh,_⟩
  ·simp at hlt
  ·rw[hh] at hv
   refine⟨.pointer (some ⟨b,k*sz,none⟩),?_,?_⟩
   ·have hb:(0:Int)≤m∧m<(xs.length:Int):=by omega
    have hm:m.toNat=k:=by omega
    have:=run_indexAt_slice (P:=P) w T ⟨b,0,none⟩ xs.length cap kd m (by rw[h3];exact h1)
    rw[if_pos hb,h3,h2 w,Result.andThen_ok,Uw,hm,Nat.zero_add] at this
    simp only[execOp,hv,Uc hq.2.1,Sem.run_bind,this];rfl
   ·simp only[AVal.sat]
    exact⟨rfl,_,_,_,hh,by omega,fun _=>⟨_,rfl,rfl⟩⟩) hg ⟨⟨hx,hi,trivial⟩,⟨hL,trivial⟩,trivial,hd⟩ h
theorem Xp8 {g:Gh}{w:World}{γ n o sz:Nat}{xs:List (List D)}{u:Value} (hs:(AVal.rptr γ n o).sat g u) (ho:UU g w (g.hd γ) sz xs) (hn:n=xs.length) (h0:0<xs.length):
  ∃b cap vs e fr,u= .pointer (some ⟨b,o,none⟩)∧g.hd γ= .slice (some ⟨b,0,none⟩) xs.length cap∧w.heap[b]? =some (.cells vs e fr)∧XB g (xs.flatten.map .d) (vs.toList.take (xs.length*sz)):=by
 simp only[AVal.sat] at hs
 obtain⟨_,a',m,c,q1,q2,q3⟩:=hs
 rcases ho.2 with ⟨e,rfl⟩|⟨b,cap,vs,e',fr,hh,k2,k3,k4,k5,k6,k7⟩
 ·simp at h0
 ·rw[hh] at q1;cases q1
  obtain⟨b',e1,e2⟩:=q3 hn
  cases e1
  exact⟨b,_,vs,e',fr,e2,hh,k4,k7⟩
theorem X8Y {t:TypeId}{x:Operand}{γ n o q sz:Nat}{xs:List (List D)}{ys:List D} (hx:S.ev x= .rptr γ n o) (hL:S.obj γ= .row sz xs) (hn:n=xs.length) (h0:0<xs.length) (hb:o+q≤xs.length*sz) (hys:(xs.flatten.drop o).take q=ys)
  (ht:X0I P t true q=true) (hd:Nat.blt d S.n=true) (hg:XR ops S gd)
  (h:Walk P ops draw K rest ((l.length,⟨some d,.load t x,ty,pos,aft,gd⟩,⟨XQ ops gd++[(x,.rptr γ n o)],some (d,.agg (ys.map .d)),[(γ,.row sz xs)],[],[]⟩)::l) (S.set d (.agg (ys.map .d)))):
  Walk P ops draw K (⟨some d,.load t x,ty,pos,aft,gd⟩::rest) l S:=
 Yh ⟨[(x,.rptr γ n o)],some (d,.agg (ys.map .d)),[(γ,.row sz xs)],[],[]⟩ (U6 rfl fun E S g a w hs hq hl=>by
  have ho:=hs.1.obj γ
  rw[hl.1] at ho
  obtain⟨b,cap,vs,e,fr,e1,e2,e3,e4⟩:=Xp8 hq.1 ho hn h0
  have hsub:=X2N (X3o e4 o) q
  rw[←List.map_drop,←List.map_take,hys] at hsub
  have hl1:=Ue hsub
  have hfx:=X0A xs ho.1
  have hyl:ys.length=q:=by rw[←hys,List.length_take,List.length_drop,hfx];omega
  rw[List.length_map] at hl1
  refine⟨.agg (((vs.toList.take (xs.length*sz)).drop o).take q).toArray,?_,by simp only[AVal.sat];exact⟨_,rfl,hsub⟩⟩
  have:=X6b (P:=P) (p:=⟨b,o,none⟩) (w:=w) (vs:=((vs.toList.take (xs.length*sz)).drop o).take q) (t:=t) (by rw[hl1,hyl];exact ht) (fun j v hv=>by
   rw[Uw,cell_of_row w _ _ vs e fr e3]
   rw[List.getElem?_take] at hv
   split at hv
   ·rw[List.getElem?_drop,List.getElem?_take] at hv
    split at hv
    ·simpa using hv
    ·simp at hv
   ·simp at hv)
  simp[execOp,e1,Instr.loadAt,Instr.sureAddr,this]) hg ⟨⟨hx,trivial⟩,⟨hL,trivial⟩,trivial,hd⟩ h
end
theorem XeY (n:Nat):X6Y (0,0) n:=fun i hi=>by simp
section
variable {P:Program}
theorem XhS (b:Nat) (e:TypeId) (fr:Nat×Nat) (n:Nat) (hfr:X6Y fr n):∀(us:List Value) (o i:Nat) (vs:Array Value) (w:World),w.heap[b]? =some (.cells vs e fr)→vs.size=n→
  o+i+us.length≤vs.size→(∀u∈us,u.oneCell'=true)→
  ∃vs':Array Value,(storeCells ⟨b,o,none⟩ us i).run P w= .ok () (w.setRow b vs')∧vs'.toList=vs.toList.take (o+i)++us++vs.toList.drop (o+i+us.length)
 |[],o,i,vs,w,h,hn,hl,h1=>⟨vs,by
   have:w.setRow b vs=w:=by
    cases w with
    |mk heap tape drawn os output=>
     simp only[World.setRow]
     congr 1
     apply Array.ext_getElem?
     intro k
     simp only[Array.getElem?_modify]
     split
     ·rename_i hk;subst hk;simp at h;simp[h]
     ·rfl
   simp[storeCells,this],by simp⟩
 |u::us,o,i,vs,w,h,hn,hl,h1=>by
  have hlt:o+i<vs.size:=by simp at hl;omega
  have hc:w.cell? ⟨b,o+i,none⟩=some vs[o+i]:=by rw[cell_of_row w _ _ vs e fr h];simp[hlt]
  have hf:w.frozen? ⟨b,o+i,none⟩=false:=by
   simp only[World.frozen?,h]
   have:=hfr (o+i) (by omega)
   simpa using this
  have hset:=setCell_eq_setRow w b (o+i) vs e fr u h
  have hw':(w.setRow b (vs.setIfInBounds (o+i) u)).heap[b]? =some (.cells (vs.setIfInBounds (o+i) u) e fr):=setRow_heap w b vs _ e fr h
  obtain⟨vs',k1,k2⟩:=XhS b e fr n hfr us o (i+1) (vs.setIfInBounds (o+i) u) _ hw' (by simp[hn]) (by simp at hl ⊢;omega) (fun x hx=>h1 x (by simp[hx]))
  refine⟨vs',?_,?_⟩
  ·simp only[storeCells,Sem.run_bind,Uw,run_store P w _ u .plain (h1 u (by simp)),hc,hf,hset,Bool.false_eq_true,if_false,Result.andThen_ok,k1,setRow_setRow]
  ·rw[k2]
   apply List.ext_getElem?
   intro k
   simp only[List.getElem?_append,List.length_append,List.length_take,List.length_drop,Array.length_toList,Array.size_setIfInBounds,List.length_cons,List.getElem?_take,List.getElem?_drop,Array.getElem?_toList,Array.getElem?_setIfInBounds,List.getElem?_cons]
   have hm1:min (o+(i+1)) vs.size=o+i+1:=by simp at hl;omega
   have hm2:min (o+i) vs.size=o+i:=by omega
   rw[hm1,hm2]
   by_cases c1:k<o+i
   ·simp[c1,show k<o+i+1 by omega,show k<o+i+1+us.length by omega,show k<o+i+(us.length+1) by omega,show k<o+(i+1) by omega,show o+i≠k by omega]
   ·by_cases c2:k=o+i
    ·subst c2
     simp[show o+i<o+(i+1) by omega,hlt]
     omega
    ·by_cases c3:k<o+i+(us.length+1)
     ·simp[c1,c3,show ¬k<o+i+1 by omega,show k<o+i+1+us.length by omega,show k-(o+i)≠0 by omega,show k-(o+i+1)=k-(o+i)-1 by omega]
     ·simp[c3,show ¬k<o+i+1+us.length by omega,
       show o+(i+1)+us.length+(k-(o+i+1+us.length))=o+i+(us.length+1)+(k-(o+i+(us.length+1))) by omega]
      intro hh;exfalso;omega
end
theorem Xp3 {P:Program}{E:Env}{S:St}{g:Gh}{a:Act}{w:World} (hs:Vl E S g a w) {γ sz bytes m:Nat}{xs ys:List (List D)} (hL:S.obj γ= .wrow sz xs)
  {T T2 ty:TypeId} (hT:X0K P T sz bytes=true) (h2:X2U P T2=true) (hb0:bytes≠0) {x:Value}{news:Array Value} (hsrc:Src P w sz x m news)
  (hm:m=ys.length) (hy:∀y∈ys,y.length=sz) (hnews:XB g (ys.flatten.map .d) news.toList) (hroom:(xs.length+m)*bytes≤2^47):
  ∃v g' w',(Builtin.append_ #[T,T2] ty #[g.hd γ,x]).run P w= .ok v w'∧(AVal.own γ (xs.length+m)).sat g' v∧
   Inv E (Xo .dead ((γ,.wrow sz (xs++ys))::S.L)) g' w'∧∀t,(S.get t).sat g' (a.tmps.getD t undef):=by
 obtain⟨e,i,z,hu,hi,hsz,hbt,hz,hzs,hz1⟩:=X4W hT
 have hsrcT:=X9K h2
 have ho:=hs.1.obj γ
 rw[hL] at ho
 obtain⟨hlen,ho⟩:=ho
 have hflat:=X0A xs hlen
 have hflat2:=X0A ys hy
 have hlen':∀r∈xs++ys,r.length=sz:=fun r hr=>(List.mem_append.1 hr).elim (hlen r) (hy r)
 have hnsz:news.size=m*sz:=hsrc.2
 have fin:∀(a0:Option Addr) (c0:Nat) (b cap':Nat) (vs':Array Value) (e':TypeId) (fr:Nat×Nat) (w':World),
   g.hd γ= .slice a0 xs.length c0→
   (Value.slice (some ⟨b,0,none⟩) (xs.length+m) cap'= .slice a0 xs.length c0∨xs.length<xs.length+m)→
   (∀k,k<w.heap.size→¬XM g (S.obj γ) γ k→w'.heap[k]? =w.heap[k]?)→w.heap.size≤w'.heap.size→w'.os=w.os→w'.output=w.output→
   w'.heap[b]? =some (.cells vs' e' fr)→X6Y fr vs'.size→xs.length+m≤cap'→cap'≤maxLen→cap'*sz≤vs'.size→
   XB g ((xs++ys).flatten.map .d) (vs'.toList.take ((xs++ys).length*sz))→(XM g (S.obj γ) γ b∨w.heap.size≤b)→
   let g':=g.rehd γ (.slice (some ⟨b,0,none⟩) (xs.length+m) cap')
   (AVal.own γ (xs.length+m)).sat g' (.slice (some ⟨b,0,none⟩) (xs.length+m) cap')∧
   Inv E (Xo .dead ((γ,.wrow sz (xs++ys))::S.L)) g' w'∧∀t,(S.get t).sat g' (a.tmps.getD t undef):=by
  intro a0 c0 b cap' vs' e' fr w' hhd hgrow hheap hsize hos hout hb hth hcap hmax hcs hsat hlv g'
  have hk:∀k,g.keeps g' k:=Xfc hhd hgrow
  have hM:Yj g.M g'.M:=Yj.refl _
  refine⟨?_,?_,fun t=>AVal.sat_mono hM _ _ (fun k _=>hk k) (hs.2.2.2 t)⟩
  ·simp only[AVal.sat]
   exact⟨rfl,some ⟨b,0,none⟩,xs.length+m,cap',by simp[g',Gh.rehd],Nat.le_refl _,fun _=>rfl⟩
  ·refine Inv.upd hs.1 γ _ (Yq _ _ _ _) (fun k hkγ=>Y9 _ _ _ (Ne.symm hkγ)) hheap hsize hos hout rfl (fun k hkγ=>⟨rfl,by simp[g',Gh.rehd,hkγ],rfl⟩)
    (fun k cs us _ _ h=>X0r hM _ _ (fun k _=>hk k) h) ?_ (fun k hkl=> ?_) (fun _=>hk γ)
   ·refine⟨hlen',.inr ⟨b,cap',vs',e',fr,by simp[g',Gh.rehd,hm],by simp[←hm];exact hcap,hmax,hb,hth,hcs,X0r hM _ _ (fun k _=>hk k) hsat⟩⟩
   ·simp only[XM,g',Gh.rehd,if_true] at hkl
    obtain⟨a1,n1,c1,e1,rfl⟩:=hkl
    cases e1;exact hlv
 have hgrowcap:∀cap,xs.length+m>cap→Builtin.nextslicecap (xs.length+m) cap*i.bytes≤2^48:=by
  intro cap hc
  have h1:=nextslicecap_le (need:=xs.length+m) (old:=cap) hc
  have h2:Builtin.nextslicecap (xs.length+m) cap*i.bytes≤2*(xs.length+m)*i.bytes:=Nat.mul_le_mul_right _ h1
  rw[hbt] at h2 ⊢
  have h3:2*(xs.length+m)*bytes=2*((xs.length+m)*bytes):=Nat.mul_assoc _ _ _
  omega
 have hneed:xs.length+m<2^63:=by
  have:xs.length+m≤(xs.length+m)*bytes:=Nat.le_mul_of_pos_right _ (by omega)
  omega
 rcases ho with ⟨hnil,rfl⟩|⟨b,cap,vs,e',fr,h1,h2',h3,h4,h5,h6,h7⟩
 ·by_cases hm0:m=0
  ·-- nothing to nothing
   have hys:ys=[]:=by cases ys with|nil=>rfl|cons=>simp at hm;omega
   subst hys
   have hr:=X70 (P:=P) (w:=w) (T:=T) (T2:=T2) (ty:=ty) (base:=none) (n:=0) (cap:=0) (x:=x) (news:=news) (m:=m) hu hi hsrcT (by rw[hsz];exact hsrc) (by omega)
   refine⟨_,g,w,by rw[hnil];exact hr,?_,?_,hs.2.2.2⟩
   ·simp only[AVal.sat]
    exact⟨rfl,none,0,0,hnil,by simp[hm0],fun _=>by simp[hm0]⟩
   ·have e1:Xo .dead ((γ,.wrow sz ([]++[]))::S.L)=S.obj:=by
     funext k
     by_cases hk:k=γ
     ·subst hk;rw[Yq];exact hL.symm
     ·rw[Y9 _ _ _ (Ne.symm hk)];rfl
    rw[e1];exact hs.1
  ·have hr:=X7x (P:=P) (w:=w) (T:=T) (T2:=T2) (ty:=ty) (base:=none) (n:=0) (cap:=0) (x:=x) (olds:= #[]) (news:=news) (m:=m) hu hi hz hsrcT (by rw[hbt];exact hb0) (by rw[hsz];exact hsrc)
    (fun w' _=>by simp[Builtin.firstCells]) (by omega) (by have:=hgrowcap 0 (by simp;omega);simpa using this)
   obtain⟨c1,c2⟩:=X6B (0+m) 0 e (w.tape w.drawn (.appendCap (0+m) 0 e)) (by simpa using hneed)
   revert hr c1 c2
   generalize (Question.appendCap (0+m) 0 e).cut (w.tape w.drawn (.appendCap (0+m) 0 e))=nc
   intro hr c1 c2
   have:=fin none 0 w.heap.size nc (#[]++news++Builtin.zeroCells z.cells (nc-(0+m))) e (0,0) _ (by simpa using hnil) (.inr (by simp;omega))
    (fun k hk _=>X1R w.drew _ k hk) (X37 w.drew _) rfl rfl (heap_alloc_new w.drew _) (XeY _) (by simpa using c1) c2
    (by simp[X4x,hnsz,hzs,←Nat.add_mul];rw[show m+(nc-m)=nc by omega];exact Nat.le_refl _)
    (by
     simp only[List.nil_append]
     have e1:((#[]++news++Builtin.zeroCells z.cells (nc-(0+m))).toList.take (ys.length*sz))=news.toList:=by
      rw[←hm,←hnsz];simp
     rw[e1];exact hnews) (.inr (Nat.le_refl _))
   exact⟨_,_,_,by rw[hnil];exact hr,by simpa using this⟩
 ·have hfc:∀w':World,w'.heap=w.heap→(Builtin.firstCells i.size xs.length (.slice (some ⟨b,0,none⟩) xs.length cap)).run P w'= .ok (vs.toList.take (xs.length*sz)).toArray w':=by
   intro w' hw'
   have hl:=Ue h7
   have:=run_loadCells_list (P:=P) w' ⟨b,0,none⟩ (vs.toList.take (xs.length*sz)) (fun j v hv=>by
    rw[Uw,cell_of_row w' _ _ vs e' fr (by rw[hw'];exact h4)]
    rw[List.getElem?_take] at hv
    split at hv
    ·simpa using hv
    ·simp at hv)
   rw[hl] at this
   simp only[List.length_map,hflat] at this
   simp only[Builtin.firstCells,hsz]
   exact this
  have htl:(vs.toList.take (xs.length*sz)).length=xs.length*sz:=by have:=Ue h7;simp only[List.length_map,hflat] at this;exact this
  have hta:(vs.toList.take (xs.length*sz)).toArray.toList=vs.toList.take (xs.length*sz):=rfl
  by_cases hc:xs.length+m≤cap
  ·have hr:=X70 (P:=P) (w:=w) (T:=T) (T2:=T2) (ty:=ty) (base:=some ⟨b,0,none⟩) (n:=xs.length) (cap:=cap) (x:=x) (news:=news) (m:=m) hu hi hsrcT (by rw[hsz];exact hsrc) hc
   have hsz1:xs.length*sz+news.size≤vs.size:=by
    rw[hnsz,←Nat.add_mul];exact Nat.le_trans (Nat.mul_le_mul_right _ hc) h6
   obtain⟨vs',k1,k2⟩:=XhS (P:=P) b e' fr vs.size h5 news.toList (xs.length*sz) 0 vs w h4 rfl (by simpa using hsz1) (fun u hu'=>by
    obtain⟨j,hj,rfl⟩:=List.getElem_of_mem hu'
    have hjl:j<ys.flatten.length:=by rw[hflat2,←hm,←hnsz];simpa using hj
    obtain⟨_,hrep⟩:=X3U hnews
    obtain⟨u,hu1,hu2⟩:=hrep j _ (List.getElem?_eq_getElem hjl)
    rw[List.getElem?_eq_getElem hj] at hu1;cases hu1
    exact D.rep_one hu2)
   simp only[Nat.add_zero,Array.length_toList] at k2
   simp only at hr
   rw[show (⟨b,0,none⟩:Addr).add (xs.length*i.size)=⟨b,xs.length*sz,none⟩ by rw[Uw,hsz];simp] at hr
   simp only[k1,Result.andThen_ok] at hr
   have hvs':vs'.size=vs.size:=by
    have:=congrArg List.length k2
    simp at this;omega
   have hlv:XM g (S.obj γ) γ b:=by rw[hL];exact⟨_,_,_,h1,rfl⟩
   have:=fin (some ⟨b,0,none⟩) cap b cap vs' e' fr (w.setRow b vs') h1 (by by_cases hm0:m=0;exact .inl (by rw[hm0];simp);exact .inr (by omega))
    (fun k hk hne=>setRow_other w b k vs' (fun e=>hne (by rw[e];exact hlv))) (by simp) rfl rfl (setRow_heap w b vs _ e' fr h4) (by rw[hvs'];exact h5) hc h3 (by rw[hvs'];exact h6)
    (by
     have e1:vs'.toList.take ((xs++ys).length*sz)=vs.toList.take (xs.length*sz)++news.toList:=by
      rw[k2,List.length_append,←hm,Nat.add_mul,←hnsz]
      rw[List.take_append_of_le_length (by rw[List.length_append,htl];simp)]
      rw[List.take_of_length_le (by rw[List.length_append,htl];simp)]
     rw[e1,List.flatten_append]
     exact X6s h7 hnews) (.inl hlv)
   exact⟨_,_,_,by rw[h1];exact hr,this⟩
  ·have hr:=X7x (P:=P) (w:=w) (T:=T) (T2:=T2) (ty:=ty) (base:=some ⟨b,0,none⟩) (n:=xs.length) (cap:=cap) (x:=x) (olds:=(vs.toList.take (xs.length*sz)).toArray) (news:=news) (m:=m) hu hi hz hsrcT (by rw[hbt];exact hb0)
    (by rw[hsz];exact hsrc) hfc hc (hgrowcap cap (by omega))
   obtain⟨c1,c2⟩:=X6B (xs.length+m) cap e (w.tape w.drawn (.appendCap (xs.length+m) cap e)) hneed
   revert hr c1 c2
   generalize (Question.appendCap (xs.length+m) cap e).cut (w.tape w.drawn (.appendCap (xs.length+m) cap e))=nc
   intro hr c1 c2
   have:=fin (some ⟨b,0,none⟩) cap w.heap.size nc ((vs.toList.take (xs.length*sz)).toArray++news++Builtin.zeroCells z.cells (nc-(xs.length+m))) e (0,0) _ h1 (.inr (by omega))
    (fun k hk _=>X1R w.drew _ k hk) (X37 w.drew _) rfl rfl (heap_alloc_new w.drew _) (XeY _) c1 c2
    (by
     have:((vs.toList.take (xs.length*sz)).toArray++news++Builtin.zeroCells z.cells (nc-(xs.length+m))).size=nc*sz:=by
      rw[Array.size_append,Array.size_append,X4x,hnsz,hzs,List.size_toArray,htl,←Nat.add_mul,←Nat.add_mul]
      congr 1;omega
     omega)
    (by
     have e1:(((vs.toList.take (xs.length*sz)).toArray++news++Builtin.zeroCells z.cells (nc-(xs.length+m))).toList.take ((xs++ys).length*sz))=vs.toList.take (xs.length*sz)++news.toList:=by
      rw[Array.toList_append,Array.toList_append,List.length_append,←hm,Nat.add_mul,←hnsz]
      rw[List.take_append_of_le_length (by rw[List.length_append,hta,htl];simp)]
      rw[List.take_of_length_le (by rw[List.length_append,hta,htl];simp),hta]
     rw[e1,List.flatten_append]
     exact X6s h7 hnews) (.inr (Nat.le_refl _))
   exact⟨_,_,_,by rw[h1];exact hr,this⟩
theorem Xls {E:Env}{S:St}{g:Gh}{w:World} (hi:Inv E S.obj g w) {γ sz:Nat}{xs:List (List D)} (hL:S.obj γ= .wrow sz xs):
  ∃M',Yj g.M M'∧Inv E (Xo .dead ((γ,.froz sz xs)::S.L)) {g with M:=M'} w:=by
 have ho:=hi.obj γ
 rw[hL] at ho
 obtain⟨hlen,ho⟩:=ho
 have key:∀(M':Mem),Yj g.M M'→(D.sl sz xs).rep M' (g.hd γ)→(∀a v,M' a=some v→g.M a=some v∨(w.cell? a=some v∧XM g (S.obj γ) γ a.block))→
   Inv E (Xo .dead ((γ,.froz sz xs)::S.L)) {g with M:=M'} w:=by
  intro M' hle hrep hM'
  have hlook:∀k,Xo .dead ((γ,.froz sz xs)::S.L) k=if k=γ then .froz sz xs else S.obj k:=by
   intro k
   by_cases hk:k=γ
   ·subst hk;rw[Yq,if_pos rfl]
   ·rw[Y9 _ _ _ (Ne.symm hk),if_neg hk];rfl
  have hlv:∀k b,XM {g with M:=M'} (Xo .dead ((γ,.froz sz xs)::S.L) k) k b→k≠γ∧XM g (S.obj k) k b:=by
   intro k b h
   rw[hlook] at h
   by_cases hk:k=γ
   ·rw[if_pos hk] at h;exact h.elim
   ·rw[if_neg hk] at h
    refine⟨hk,?_⟩
    rwa [X2F (g:=g) (g':={g with M:=M'}) rfl rfl rfl] at h
  refine⟨fun k=> ?_,fun k k' b h h'=>hi.inj k k' b (hlv _ _ h).2 (hlv _ _ h').2,fun a v h=> ?_,fun k b h a v ha=> ?_,fun k b h=>hi.new k b (hlv _ _ h).2,hi.ext.trans hle,fun a v h=> ?_,hi.frame,hi.size,hi.os,hi.out,fun k hk=>(hi.kp k hk).trans' (Gh.keeps_of rfl rfl rfl)⟩
  ·rw[hlook]
   by_cases hk:k=γ
   ·subst hk;rw[if_pos rfl];exact hrep
   ·rw[if_neg hk];exact X97 (g:=g) (g':={g with M:=M'}) hle rfl rfl rfl (fun _ _=>rfl) (hi.obj k)
  ·rcases hM' a v h with h1|h1
   ·exact hi.mem a v h1
   ·exact h1.1
  ·obtain⟨hk,hb⟩:=hlv k b h
   rcases hM' a v ha with h1|h1
   ·exact hi.sep k b hb a v h1
   ·intro e
    rw[e] at h1
    exact hk (hi.inj _ _ _ hb h1.2)
  ·rcases hM' a v h with h1|h1
   ·exact hi.lim a v h1
   ·exact .inr (hi.new γ _ h1.2)
 rcases ho with ⟨h1,rfl⟩|⟨b,cap,vs,e,fr,h1,h2,h3,h4,h5,h6,h7⟩
 ·refine⟨g.M,Yj.refl _,key g.M (Yj.refl _) ?_ (fun a v h=> .inl h)⟩
  simp only[D.rep]
  exact⟨none,0,h1,by simp,by simp,by simp⟩
 ·have hlv:XM g (S.obj γ) γ b:=by rw[hL];exact⟨_,_,_,h1,rfl⟩
  have hle:Yj g.M (fun p=>if p.block=b∧p.spot=none then vs[p.off]? else g.M p):=by
   intro a v h
   have:=hi.sep γ b hlv a v h
   show(if _ then _ else _)=_
   rw[if_neg (fun hc=>this hc.1)];exact h
  refine⟨_,hle,key _ hle ?_ (fun a v h=> ?_)⟩
  ·simp only[D.rep]
   refine⟨_,cap,h1,h2,h3,.inr ⟨b,0,rfl,X5x xs 0 hlen fun i d hd=> ?_⟩⟩
   obtain⟨hl,hr⟩:=X3U h7
   obtain⟨u,hu,hsu⟩:=hr i d hd
   refine⟨u,?_,D.rep_mono hle _ _ hsu⟩
   show(if _ then _ else _)=_
   rw[if_pos ⟨rfl,rfl⟩,Nat.zero_add]
   rw[List.getElem?_take] at hu
   split at hu
   ·simpa using hu
   ·simp at hu
  ·have h':(if a.block=b∧a.spot=none then vs[a.off]? else g.M a)=some v:=h
   split at h'
   ·rename_i hc
    obtain⟨b',o,s⟩:=a
    simp only at hc
    obtain⟨rfl,rfl⟩:=hc
    right
    exact⟨by rw[cell_of_row w _ _ vs e fr h4];exact h',hlv⟩
   ·exact .inl h'
theorem XdP {S:St} (γ:Nat) {sz:Nat}{xs:List (List D)} (hL:S.obj γ= .wrow sz xs):S.le (S.own γ (.froz sz xs)):=by
 rintro E a w ⟨g,hs⟩
 obtain⟨M',hle,hi⟩:=Xls hs.1 hL
 exact X35 hs hi rfl fun t=>X26 (g:=g) (g':={g with M:=M'}) hle rfl rfl rfl (hs.2.2.2 t)
theorem XjK {E:Env}{S:St}{g:Gh}{w:World} (hi:Inv E S.obj g w) (γ:Nat) (hf:S.free γ=true) (hdead:S.obj γ= .dead) {sz:Nat}{xs:List (List D)}{vs:Array Value}{e:TypeId}{fr:Nat×Nat}{cap:Nat}
  (hlen:∀x∈xs,x.length=sz) (hsat:XB g (xs.flatten.map .d) (vs.toList.take (xs.length*sz))) (hcap:xs.length≤cap) (hmax:cap≤maxLen) (hsz:cap*sz≤vs.size) (hfr:X6Y fr vs.size):
  Inv E (Xo .dead ((γ,.wrow sz xs)::S.L)) (g.put γ 0 (.slice (some ⟨w.heap.size,0,none⟩) xs.length cap)) (w.alloc (.cells vs e fr)):=
 X4g hi γ hf hdead _ _ _ (X1R w _) (X37 w _) rfl rfl
  ⟨hlen,.inr ⟨w.heap.size,cap,vs,e,fr,by simp[Gh.put],hcap,hmax,heap_alloc_new w _,hfr,hsz,X5M (X7F _ _) hsat⟩⟩
  (fun k hk=>by obtain⟨a,n,c,e,rfl⟩:=hk;simp only[Gh.put,if_true] at e;cases e;exact Nat.le_refl _)
section
variable {P:Program}{ops:Array Oper}{draw:Bool}{K:Y4→St→Prop}{rest:List Oper}{l:Y4}{S:St}
variable {d:Nat}{ty:TypeId}{pos:String}{aft:Array Edge}{gd:Option (Nat×Bool)}
theorem XkR {g:Gh}{γ n:Nat}{v:Value} (h:(AVal.own γ n).sat g v) {sz:Nat}{xs:List (List D)}{w:World} (ho:Ua g w γ (.wrow sz xs)) (hn:n=xs.length):v=g.hd γ:=by
 simp only[AVal.sat] at h
 obtain⟨_,a,m,c,h1,h2,h3⟩:=h
 have:g.hd γ= .slice a n c:=by
  rcases ho.2 with ⟨e,rfl⟩|⟨b,cap,vs,e',fr,e,_⟩
  ·rw[e] at h1;cases h1;rw[e];simp[hn]
  ·rw[e] at h1;cases h1;rw[e];simp[hn]
 rw[this] at h1;cases h1
 rw[h3 rfl,this]
theorem XhY {x y:Operand}{T T2:TypeId}{γ n sz bytes:Nat}{xs ys:List (List D)} (hx:S.ev x= .own γ n) (hL:S.obj γ= .wrow sz xs) (hy:S.ev y= .d (.sl sz ys)) (hn:n=xs.length)
  (hB:elB P T=bytes) (hT:X0K P T sz bytes=true) (hT2:X2U P T2=true) (hb0:Nat.beq bytes 0=false) (hroom:(xs.length+ys.length)*bytes≤140737488355328)
  (hd:Nat.blt d S.n=true) (hg:XR ops S gd)
  (h:Walk P ops draw K rest ((l.length,⟨some d,.call ⟨.builtin .append,#[x,y],#[T,T2]⟩,ty,pos,aft,gd⟩,⟨XQ ops gd++[(x,.own γ n),(y,.d (.sl sz ys))],some (d,.own γ (xs.length+ys.length)),[(γ,.wrow sz xs)],[(γ,.wrow sz (xs++ys))],[]⟩)::l)
   ((S.set d (.own γ (xs.length+ys.length))).own γ (.wrow sz (xs++ys)))):
  Walk P ops draw K (⟨some d,.call ⟨.builtin .append,#[x,y],#[T,T2]⟩,ty,pos,aft,gd⟩::rest) l S:=
 Yh ⟨[(x,.own γ n),(y,.d (.sl sz ys))],some (d,.own γ (xs.length+ys.length)),[(γ,.wrow sz xs)],[(γ,.wrow sz (xs++ys))],[]⟩ (X1c rfl fun E S g a w hs hq hl hnw=>by
  have ho:=hs.1.obj γ
  rw[hl.1] at ho
  have hv:=XkR hq.1 ho hn
  have hsy:(D.sl sz ys).rep g.M (a.eval y):=by have:=hq.2.1;simpa only[AVal.sat] using this
  obtain⟨news,k1,k2,k3⟩:=Xav (P:=P) hs.1 hsy
  have hyl:∀r∈ys,r.length=sz:=by rcases k3 with rfl|k3;simp;exact k3
  obtain⟨v,g',w',r1,r2,r3,r4⟩:=Xp3 hs hl.1 (ty:=ty) hT hT2 (X3N hb0) k1 rfl hyl k2 (by simpa using hroom)
  exact⟨v,g',w',X65 rfl (by rw[hv];exact r1),r2,r3,r4⟩) hg ⟨⟨hx,hy,trivial⟩,⟨hL,trivial⟩,trivial,hd⟩ h
theorem XhQ {src dst:TypeId}{x:Operand}{b:List UInt8}{γ:Nat} (hx:S.ev x=aZ (Xb b)) (hb:b.length≤9223372036854775807) (ht:X8C P src dst=true) (hdead:S.obj γ= .dead) (hf:S.free γ=true) (hd:Nat.blt d S.n=true) (hg:XR ops S gd)
  (h:Walk P ops draw K rest ((l.length,⟨some d,.convert src dst x,ty,pos,aft,gd⟩,⟨XQ ops gd++[(x,aZ (Xb b))],some (d,.own γ (b.map fun c=>[D.v (.int .u8 c.toNat)]).length),[(γ,.dead)],[(γ,.wrow 1 (b.map fun c=>[D.v (.int .u8 c.toNat)]))],[γ]⟩)::l)
   ((S.set d (.own γ (b.map fun c=>[D.v (.int .u8 c.toNat)]).length)).own γ (.wrow 1 (b.map fun c=>[D.v (.int .u8 c.toNat)])))):
  Walk P ops draw K (⟨some d,.convert src dst x,ty,pos,aft,gd⟩::rest) l S:=by
 refine Yh ⟨[(x,aZ (Xb b))],some (d,.own γ (b.map fun c=>[D.v (.int .u8 c.toNat)]).length),[(γ,.dead)],[(γ,.wrow 1 (b.map fun c=>[D.v (.int .u8 c.toNat)]))],[γ]⟩ (X1c rfl fun E S g a w hs hq hl' hn'=> ?_) hg ⟨⟨hx,trivial⟩,⟨hdead,trivial⟩,⟨hf,trivial⟩,hd⟩ h
 obtain⟨e,t1,t2,t3⟩:=XgF ht
 have hb':b.length≤9223372036854775807:=hb
 have hsz:(Xb b).size=b.length:=rfl
 have hrow:=run_bytes_of_string (P:=P) w src dst e (Xb b) t1 t2 t3
 rw[hsz] at hrow
 generalize hc:grownCap w b.length 0 e=cap at hrow
 have hc1:b.length≤cap:=by rw[←hc];exact grownCap_ge w _ _ _
 have hc2:cap≤maxLen:=by rw[←hc];exact grownCap_le_maxLen w _ _ _ (by unfold maxLen;omega)
 have hs':Vl E S g a w.drew:=⟨XeD hs.1,hs.2⟩
 have hcs:(bytesRow (Xb b) cap).size=cap:=by
  simp only[bytesRow,Array.size_append,Array.size_map,Array.size_replicate]
  show(Xb b).data.size+(cap-b.length)=cap
  have:(Xb b).data.size=b.length:=hsz
  omega
 have hlm:(b.map fun c=>[D.v (.int .u8 c.toNat)]).length=b.length:=by simp
 have hinv:=XjK hs'.1 γ hn'.1 hl'.1 (sz:=1) (xs:=b.map fun c=>[D.v (.int .u8 c.toNat)]) (vs:=bytesRow (Xb b) cap) (e:=e) (fr:=((bytesRow (Xb b) cap).size,(bytesRow (Xb b) cap).size+1)) (cap:=cap)
  (by simp) (by
   have hb1:=X8M (g:=g) b
   rw[List.length_map,Nat.mul_one]
   have:(bytesRow (Xb b) cap).toList.take b.length=b.map fun c=>Value.int .u8 c.toNat:=by
    simp only[bytesRow,Xb,Array.toList_append,Array.toList_map]
    rw[List.take_append_of_le_length (by simp),List.take_of_length_le (by simp)]
   rw[this];exact hb1) (by rw[hlm];exact hc1) hc2 (by rw[hcs];omega) (fun i hi h=>by omega)
 refine⟨.slice (some ⟨w.heap.size,0,none⟩) b.length cap,_,_,?_,?_,hinv,X2v hn'.1 hs'.2.2.2⟩
 ·simp only[execOp,Sem.run_bind,Uc hq.1,hrow];rfl
 ·rw[←hlm]
  exact X7j (w:=w.drew)
end
theorem Inv.part {E:Env}{L L':Nat→AObj}{g g':Gh}{w:World} (hi:Inv E L g w) (sp:Nat→Prop) (hM:g'.M=g.M)
  (hother:∀k,¬sp k→L' k=L k∧g'.blk k=g.blk k∧g'.hd k=g.hd k∧g'.ihd k=g.ihd k)
  (hsat:∀k cs us,¬sp k→(L k).says=cs→XB g cs us→XB g' cs us)
  (hobj:∀k,sp k→Ua g' w k (L' k))
  (hlv:∀k b,sp k→XM g' (L' k) k b→∃k',sp k'∧XM g (L k') k' b)
  (hinj:∀k k' b,sp k→sp k'→XM g' (L' k) k b→XM g' (L' k') k' b→k=k')
  (hkp:∀k,sp k→k<100→g.keeps g' k):Inv E L' g' w:=by
 have hl:∀k b,¬sp k→(XM g' (L' k) k b↔XM g (L k) k b):=fun k b hk=>by
  obtain⟨h1,h2,h3,h4⟩:=hother k hk
  rw[h1];exact X2F h2 h3 h4 _ _
 have hany:∀k b,XM g' (L' k) k b→∃k',(sp k↔sp k')∧(¬sp k→k'=k)∧XM g (L k') k' b:=by
  intro k b hb
  by_cases hk:sp k
  ·obtain⟨k',h1,h2⟩:=hlv k b hk hb
   exact⟨k',⟨fun _=>h1,fun _=>hk⟩,fun h=>absurd hk h,h2⟩
  ·exact⟨k,Iff.rfl,fun _=>rfl,(hl k b hk).1 hb⟩
 refine⟨fun k=> ?_,fun k k' b h h'=> ?_,fun a v h=> ?_,fun k b h a v ha=> ?_,fun k b h=> ?_,hM ▸ hi.ext,fun a v h=> ?_,hi.frame,hi.size,hi.os,hi.out,fun k hk=> ?_⟩
 ·by_cases hk:sp k
  ·exact hobj k hk
  ·obtain⟨h1,h2,h3,h4⟩:=hother k hk
   rw[h1]
   exact X4i (by rw[hM];exact Yj.refl _) h2 h3 h4 (fun _ _=>rfl) (fun cs us e hs=>hsat k cs us hk e hs) (hi.obj k)
 ·by_cases hk:sp k
  ·by_cases hk':sp k'
   ·exact hinj k k' b hk hk' h h'
   ·obtain⟨j,h1,h2⟩:=hlv k b hk h
    have:=hi.inj _ _ _ h2 ((hl k' b hk').1 h')
    subst this;exact absurd h1 hk'
  ·by_cases hk':sp k'
   ·obtain⟨j,h1,h2⟩:=hlv k' b hk' h'
    have:=hi.inj _ _ _ ((hl k b hk).1 h) h2
    subst this;exact absurd h1 hk
   ·exact hi.inj _ _ _ ((hl k b hk).1 h) ((hl k' b hk').1 h')
 ·rw[hM] at h;exact hi.mem a v h
 ·rw[hM] at ha
  obtain⟨k',_,_,h2⟩:=hany k b h
  exact hi.sep k' b h2 a v ha
 ·obtain⟨k',_,_,h2⟩:=hany k b h
  exact hi.new k' b h2
 ·rw[hM] at h;exact hi.lim a v h
 ·by_cases hk':sp k
  ·exact(hi.kp k hk).trans' (hkp k hk' hk)
  ·obtain⟨_,h2,h3,h4⟩:=hother k hk'
   exact(hi.kp k hk).trans' (Gh.keeps_of h2 h3 h4)
theorem XrO {S:St}{γ:Nat} (h:S.free γ=true) (t:Nat):(S.get t).ment γ=false:=by
 simp only[St.free,Bool.and_eq_true] at h
 have:=(X4s γ S.τ).1 h.2.1
 unfold St.get
 by_cases hk:XS t S.τ=true
 ·exact this _ (Xaa AVal.any t S.τ hk)
 ·rw[XaR _ _ _ (by simpa using hk)];rfl
theorem X94 {S:St}{γ:Nat} (h:S.free γ=true):100≤γ:=by
 simp only[St.free,Bool.and_eq_true,Nat.ble_eq] at h;exact h.1
theorem X5Y {S:St}{g g':Gh}{a:Act} (hM:g'.M=g.M) (sp:Nat→Prop) (hsp:∀k,sp k→S.free k=true∨g.keeps g' k) (hother:∀k,¬sp k→g'.blk k=g.blk k∧g'.hd k=g.hd k∧g'.ihd k=g.ihd k)
  (h:∀t,(S.get t).sat g (a.tmps.getD t undef)):∀t,(S.get t).sat g' (a.tmps.getD t undef):=fun t=>
 AVal.sat_mono (by rw[hM];exact Yj.refl _) _ _ (fun γ hm=>by
  by_cases hk:sp γ
  ·rcases hsp γ hk with hf|hf
   ·rw[XrO hf] at hm;simp at hm
   ·exact hf
  ·obtain⟨h2,h3,h4⟩:=hother γ hk
   exact Gh.keeps_of h2 h3 h4) (h t)
theorem X6Q {S:St}{g g':Gh} (hM:g'.M=g.M) (sp:Nat→Prop) (hsp:∀k,sp k→S.free k=true∨g.keeps g' k) (hother:∀k,¬sp k→g'.blk k=g.blk k∧g'.hd k=g.hd k∧g'.ihd k=g.ihd k)
  {k:Nat}{cs:List AVal}{us:List Value} (e:(S.obj k).says=cs) (h:XB g cs us):XB g' cs us:=
 X0r (by rw[hM];exact Yj.refl _) _ _ (fun γ hm=>by
  by_cases hk:sp γ
  ·rcases hsp γ hk with hf|hf
   ·have:=Xbc hf k
    rw[AObj.ment,e,hm] at this;simp at this
   ·exact hf
  ·obtain⟨h2,h3,h4⟩:=hother γ hk
   exact Gh.keeps_of h2 h3 h4) h
theorem X7y {P:Program}{E:Env}{c:Code}{S:St}{Q:Exit→St→Prop}{ι:Type} (T:ι→St) (I:ι→Prop) (h:∀E a w,holds E S a w→∃i,I i∧holds E (T i) a w) (k:∀i,I i→AWP P E c (T i) Q):AWP P E c S Q:=
 ⟨fun a w hs=>let ⟨i,hI,hi⟩:=h E a w hs;(k i hI).run a w hi⟩
theorem XfC {P:Program}{E:Env}{c:Code}{S:St}{Q:Exit→St→Prop} (γ δ:Nat) {sz:Nat}{xs:List (List NC)} (hL:S.obj γ= .nest sz xs) (hdead:S.obj δ= .dead)
  (h:∀(rows:List (List D)) (hs:List Hd),rows.length=xs.length→VE xs.flatten rows.flatten hs→(∀x∈rows,x.length=sz)→AWP P E c ⟨S.n,S.τ,(γ,.row sz rows)::(δ,.bag hs)::S.L⟩ Q):AWP P E c S Q:=by
 refine X7y (ι:=List (List D)×List Hd) (fun i=>⟨S.n,S.τ,(γ,.row sz i.1)::(δ,.bag i.2)::S.L⟩) (fun i=>i.1.length=xs.length∧VE xs.flatten i.1.flatten i.2∧∀x∈i.1,x.length=sz) ?_ (fun i hi=>h i.1 i.2 hi.1 hi.2.1 hi.2.2)
 rintro E a w ⟨g,hs⟩
 have hne:γ≠δ:=by rintro rfl;rw[hL] at hdead;cases hdead
 have ho:=hs.1.obj γ
 rw[hL] at ho
 obtain⟨⟨rows,h1,h2,h3⟩,h4,h5⟩:=ho
 refine⟨(rows,X2u (g.ihd γ) xs),⟨h1,h2,h3.1⟩,g,?_,hs.2.1,hs.2.2.1,hs.2.2.2⟩
 have hγ:Xo .dead ((γ,AObj.row sz rows)::(δ,.bag (X2u (g.ihd γ) xs))::S.L) γ= .row sz rows:=Yq _ _ _ _
 have hδ:Xo .dead ((γ,AObj.row sz rows)::(δ,.bag (X2u (g.ihd γ) xs))::S.L) δ= .bag (X2u (g.ihd γ) xs):=by rw[Y9 _ _ _ hne,Yq]
 refine Inv.part hs.1 (fun k=>k=γ∨k=δ) rfl (fun k hk=> ?_) (fun _ _ _ _ _ h=>h) (fun k hk=> ?_) (fun k b hk hb=> ?_) (fun k k' b hk hk' hb hb'=> ?_) (fun _ _ _=>Gh.keeps_refl _ _)
 ·obtain⟨k1,k2⟩:=not_or.1 hk
  exact⟨by show Xo _ _ _=_;rw[Y9 _ _ _ (Ne.symm k1),Y9 _ _ _ (Ne.symm k2)];rfl,rfl,rfl,rfl⟩
 ·rcases hk with rfl|rfl
  ·show Ua _ _ _ (Xo _ _ _);rw[hγ];exact h3
  ·show Ua _ _ _ (Xo _ _ _);rw[hδ];exact h4
 ·refine⟨γ,.inl rfl,?_⟩
  rw[hL]
  rcases hk with rfl|rfl
  ·replace hb:XM g (Xo _ _ _) _ b:=hb
   rw[hγ] at hb;exact .inl hb
  ·replace hb:XM g (Xo _ _ _) _ b:=hb
   rw[hδ] at hb;exact .inr hb
 ·have key:∀b,XM g (.row sz rows) γ b→XM g (.bag (X2u (g.ihd γ) xs)) δ b→False:=fun b hb ⟨q,hq,hqb⟩=>h5 q hq b hqb hb
  replace hb:XM g (Xo _ _ _) _ b:=hb
  replace hb':XM g (Xo _ _ _) _ b:=hb'
  rcases hk with rfl|rfl<;>rcases hk' with rfl|rfl
  ·rfl
  ·rw[hγ] at hb;rw[hδ] at hb';exact(key b hb hb').elim
  ·rw[hγ] at hb';rw[hδ] at hb;exact(key b hb' hb).elim
  ·rfl
theorem Xgf (us:Nat→Value):∀(l:List (Nat×List (List D))) (j:Nat) (hs:List Hd),hs.map (·.2)=l→(∀i h,hs[i]? =some h→us (j+i)=h.1)→X7Q us j l=hs
 |[],j,[],_,_=>rfl
 |[],j,h::hs,e,_=>by simp at e
 |p::l,j,[],e,_=>by simp at e
 |p::l,j,h::hs,e,hu=>by
  simp only[List.map_cons,List.cons.injEq] at e
  rw[X7Q,Xgf us l (j+1) hs e.2 fun i q hq=>by rw[show j+1+i=j+(i+1) by omega];exact hu (i+1) q (by simpa using hq)]
  have:=hu 0 h (by simp)
  rw[Nat.add_zero] at this
  rw[this,←e.1]
theorem Xby:∀(cs:List NC) (ds:List D) (hs:List Hd),VE cs ds hs→hs.map (·.2)=X7K cs
 |[],[],[],_=>rfl
 |[],[],_::_,h=>h.elim
 |[],_::_,_,h=>by simp[VE] at h
 | .d x::cs,[],hs,h=>by simp[VE] at h
 | .d x::cs,y::ds,hs,h=>Xby cs ds hs h.2
 | .r z rows::cs,[],hs,h=>by simp[VE] at h
 | .r z rows::cs,y::ds,[],h=>by simp[VE] at h
 | .r z rows::cs,y::ds,k::hs,h=>by
  rw[List.map_cons,Xby cs ds hs h.2.2,h.2.1];rfl
theorem XiJ {S:St} (γ δ:Nat) {sz:Nat}{rows:List (List D)}{hs:List Hd} (xs:List (List NC)) (hL:S.obj γ= .row sz rows) (hB:S.obj δ= .bag hs) (hlen:rows.length=xs.length) (hres:VE xs.flatten rows.flatten hs):
  S.le ⟨S.n,S.τ,(γ,.nest sz xs)::(δ,.dead)::S.L⟩:=by
 rintro E a w ⟨g,hg⟩
 have hne:γ≠δ:=by rintro rfl;rw[hL] at hB;cases hB
 have ho:=hg.1.obj γ
 rw[hL] at ho
 have hb0:=hg.1.obj δ
 rw[hB] at hb0
 have ho:UU g w (g.hd γ) sz rows:=ho
 have hb0:X15 g w hs:=hb0
 let g':Gh:={g with ihd:=fun k j=>if k=γ∧KK≤j then ((hs[j-KK]?).map (·.1)).getD undef else g.ihd k j}
 have hH:X2u (g'.ihd γ) xs=hs:=by
  refine Xgf _ _ _ _ (Xby _ _ _ hres) fun i h hi=> ?_
  simp[g',hi]
 have hm:∀a m c,g.hd γ= .slice a m c→m≤KK:=by
  intro a m c e
  rcases ho.2 with ⟨e1,rfl⟩|⟨b,cap,vs,e',fr,e1,e2,e3,_⟩
  ·rw[e1] at e;cases e;exact Nat.zero_le _
  ·rw[e1] at e;cases e
   have:maxLen≤KK:=by decide
   omega
 have hkγ:g.keeps g' γ:=⟨rfl,.inl rfl,fun i a m c e hi=>by
  have:=hm a m c e
  simp only[g'];rw[if_neg (by omega)]⟩
 have hoth:∀k,k≠γ→g'.blk k=g.blk k∧g'.hd k=g.hd k∧g'.ihd k=g.ihd k:=fun k hk=>⟨rfl,rfl,by funext j;simp[g',hk]⟩
 have hγ:Xo .dead ((γ,AObj.nest sz xs)::(δ,.dead)::S.L) γ= .nest sz xs:=Yq _ _ _ _
 have hδ:Xo .dead ((γ,AObj.nest sz xs)::(δ,.dead)::S.L) δ= .dead:=by rw[Y9 _ _ _ hne,Yq]
 refine⟨g',Inv.part hg.1 (fun k=>k=γ∨k=δ) rfl (fun k hk=> ?_) (fun k cs us _ e h=>X6Q (S:=S) (g:=g) (g':=g') rfl (fun k=>k=γ) (fun k e=> .inr (e ▸ hkγ)) hoth e h) (fun k hk=> ?_) (fun k b hk hb=> ?_) (fun k k' b hk hk' hb hb'=> ?_) (fun k hk _=> ?_),hg.2.1,hg.2.2.1,X5Y (g:=g) (g':=g') rfl (fun k=>k=γ) (fun k e=> .inr (e ▸ hkγ)) hoth hg.2.2.2⟩
 ·obtain⟨k1,k2⟩:=not_or.1 hk
  exact⟨by show Xo _ _ _=_;rw[Y9 _ _ _ (Ne.symm k1),Y9 _ _ _ (Ne.symm k2)];rfl,hoth k k1⟩
 ·show Ua _ _ _ (Xo _ _ _)
  rcases hk with rfl|rfl
  ·rw[hγ]
   refine⟨⟨rows,hlen,by rw[hH];exact hres,X4j (g:=g) (g':=g') (Yj.refl _) (fun _ _=>rfl) ho⟩,by rw[hH];exact X8g (g:=g) (g':=g') (Yj.refl _) (fun _ _=>rfl) hb0,fun q hq b hqb hb=> ?_⟩
   rw[hH] at hq
   exact hne (hg.1.inj _ _ b (by rw[hL];exact hb) (by rw[hB];exact⟨q,hq,hqb⟩))
  ·rw[hδ];trivial
 ·replace hb:XM g' (Xo _ _ _) k b:=hb
  rcases hk with rfl|rfl
  ·rw[hγ] at hb
   rcases hb with hb|⟨q,hq,hqb⟩
   ·exact⟨k,.inl rfl,by rw[hL];exact hb⟩
   ·rw[hH] at hq
    exact⟨δ,.inr rfl,by rw[hB];exact⟨q,hq,hqb⟩⟩
  ·rw[hδ] at hb;exact hb.elim
 ·replace hb:XM g' (Xo _ _ _) k b:=hb
  replace hb':XM g' (Xo _ _ _) k' b:=hb'
  rcases hk with rfl|rfl
  ·rcases hk' with rfl|rfl
   ·rfl
   ·rw[hδ] at hb';exact hb'.elim
  ·rw[hδ] at hb;exact hb.elim
 ·rcases hk with rfl|rfl
  ·exact hkγ
  ·exact Gh.keeps_of (hoth k (Ne.symm hne)).1 (hoth k (Ne.symm hne)).2.1 (hoth k (Ne.symm hne)).2.2
end Go.Fw
