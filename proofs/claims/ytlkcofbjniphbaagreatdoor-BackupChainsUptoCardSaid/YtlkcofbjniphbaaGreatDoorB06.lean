/- Fourteenth part: copy into one's own row. -/
import Derived.Laws.Strings
import Derived.Laws.BytesString
import Derived.Laws.StructEq
import Derived.Laws.Entries
import Derived.Laws.BitsLemmas
import Derived.Test.YtlkcofbjniphbaaGreatDoorB05
namespace Go.Fw
open Go
set_option linter.unusedVariables false
set_option linter.unusedSimpArgs false
section
variable {P:Program}{ops:Array Oper}{draw:Bool}{K:Y4→St→Prop}{rest:List Oper}{l:Y4}{S:St}
variable {d:Nat}{ty:TypeId}{pos:String}{aft:Array Edge}{gd:Option (Nat×Bool)}
theorem Xra {x y:Operand}{T T2:TypeId}{γ n sz m:Nat}{r ys:List (List D)} (hx:S.ev x= .own γ n) (hL:S.obj γ= .row sz r) (hn:n=r.length) (hy:S.ev y= .d (.sl sz ys)) (hm:m=min ys.length r.length)
  (hT:Ui P T sz=true) {d':Option (Nat×AVal)} (hd:X3u S d') (hd':d'=none∨∃t,d'=some (t,ai m)) (hg:XR ops S gd)
  (h:Walk P ops draw K rest ((l.length,⟨d'.map (·.1),.call ⟨.builtin .copy,#[x,y],#[T,T2]⟩,ty,pos,aft,gd⟩,⟨XQ ops gd++[(x,.own γ n),(y,.d (.sl sz ys))],d',[(γ,.row sz r)],[(γ,.row sz (ys.take m++r.drop m))],[]⟩)::l)
   ⟨S.n,d'.toList++S.τ,(γ,.row sz (ys.take m++r.drop m))::S.L⟩):
  Walk P ops draw K (⟨d'.map (·.1),.call ⟨.builtin .copy,#[x,y],#[T,T2]⟩,ty,pos,aft,gd⟩::rest) l S:=by
 refine Yh ⟨[(x,.own γ n),(y,.d (.sl sz ys))],d',[(γ,.row sz r)],[(γ,.row sz (ys.take m++r.drop m))],[]⟩ ?_ hg ⟨⟨hx,hy,trivial⟩,⟨hL,trivial⟩,trivial,hd⟩ h
 intro E S a w g hs hok Q K hK
 obtain⟨ok1,⟨l1,_⟩,_,ok4⟩:=hok
 have hq:=X0M hs _ ok1
 have ho:=hs.1.obj γ
 rw[l1] at ho
 have hx':a.eval x=g.hd γ:=X23 hq.1 ho hn
 have hsy:(D.sl sz ys).rep g.M (a.eval y):=by have:=hq.2.1;simpa only[AVal.sat] using this
 have hrow:UU g w (g.hd γ) sz r:=ho
 obtain⟨news,n1,n2,n3,n4,n5⟩:=Xj6 (P:=P) hs.1 hsy (m:=m) (by omega)
 obtain⟨w',s1,s2,s3,s4,s5,s6⟩:=Xci (P:=P) (k:=0) (m:=m) hrow (by omega) n5 (by simp;omega) n2 n3
 simp only[List.take_zero,List.nil_append,Nat.zero_add] at s2
 have hhd:∃b c,g.hd γ= .slice b r.length c:=by
  rcases hrow.2 with ⟨e,rfl⟩|⟨b,cap,vs,e',fr,e,_⟩
  ·exact⟨_,_,e⟩
  ·exact⟨_,_,e⟩
 obtain⟨b0,c0,hhd⟩:=hhd
 have hrun:=X9f (P:=P) (T2:=T2) (ty:=ty) hT hhd n4 hm n1 s1
 have hi:Inv E (Xo .dead ((γ,.row sz (ys.take m++r.drop m))::S.L)) g w':=by
  refine Inv.upd hs.1 γ _ (Yq _ _ _ _) (fun j hj=>Y9 _ _ _ (Ne.symm hj)) (fun b hb hnl=>s3 b fun hc=>hnl (by rw[l1];exact hc)) (by omega) s5 s6 rfl (fun _ _=>⟨rfl,rfl,rfl⟩) (fun _ _ _ _ _ h=>h) s2 (fun b hb=> .inl ?_) (fun _=>Gh.keeps_refl _ _)
  rw[l1];exact hb
 have hrun':(execOp a.eval ⟨d'.map (·.1),.call ⟨.builtin .copy,#[x,y],#[T,T2]⟩,ty,pos,aft,gd⟩).run P w= .ok (.value (.int .i64 m)) w':=by
  simp[execOp,resolve,invoke,builtin,hx',hrun]
 unfold Oper.wp
 rw[hrun',Oper.upon_value]
 rcases hd' with rfl|⟨t,rfl⟩
 ·exact hK _ _ ⟨g,hi,hs.2.1,hs.2.2.1,hs.2.2.2⟩
 ·exact hK _ _ (X1u hi hs.2.1 hs.2.2.1 hs.2.2.2 (VB rfl) ok4)
theorem X9L {x y:Operand}{T T2:TypeId}{γ n sz m:Nat}{r ys:List (List D)} (hx:S.ev x= .own γ n) (hL:S.obj γ= .row sz r) (hn:n=r.length) (hy:S.ev y= .d (.sl sz ys)) (hm:m=min ys.length r.length)
  (hT:Ui P T sz=true) (hd:Nat.blt d S.n=true) (hg:XR ops S gd)
  (h:Walk P ops draw K rest ((l.length,⟨some d,.call ⟨.builtin .copy,#[x,y],#[T,T2]⟩,ty,pos,aft,gd⟩,⟨XQ ops gd++[(x,.own γ n),(y,.d (.sl sz ys))],some (d,ai m),[(γ,.row sz r)],[(γ,.row sz (ys.take m++r.drop m))],[]⟩)::l)
   ((S.set d (ai m)).own γ (.row sz (ys.take m++r.drop m)))):
  Walk P ops draw K (⟨some d,.call ⟨.builtin .copy,#[x,y],#[T,T2]⟩,ty,pos,aft,gd⟩::rest) l S:=
 Xra (d':=some (d,ai m)) hx hL hn hy hm hT hd (.inr ⟨d,rfl⟩) hg h
end
theorem XF {S:St} (β:Nat) {cs cs':List AVal} (hb:S.obj β= .box cs) (hle:leL cs cs') (hc:X0S cs'=true):S.le (S.own β (.box cs')):=by
 rintro E a w ⟨g,hs⟩
 have ho:=hs.1.obj β
 rw[hb] at ho
 obtain⟨vs,e,fr,h1,h2,h3,h4⟩:=ho
 have hi2:Inv E (Xo .dead ((β,.box cs')::S.L)) g w:=by
  refine Inv.upd hs.1 β _ (Yq _ _ _ _) (fun k hk=>Y9 _ _ _ (Ne.symm hk)) (fun _ _ _=>rfl) (Nat.le_refl _) rfl rfl rfl (fun _ _=>⟨rfl,rfl,rfl⟩) (fun _ _ _ _ _ h=>h) ?_ (fun b hb'=> .inl (by rw[hb];exact hb')) (fun _=>Gh.keeps_refl _ _)
  exact⟨vs,e,fr,h1,h2,X5B hle h3,(X33 _).1 hc⟩
 exact X35 hs hi2 rfl hs.2.2.2
def Xb (l:List UInt8):ByteArray:=⟨l.toArray⟩
theorem X2Z (l:List UInt8):(Xb l).toList=l:=by
 rw[ByteArray.toList_eq];simp[Xb]
theorem XkS (l:List UInt8):∀s:ByteArray,(l.map fun b=>(b.toNat:Int)).foldl (fun r n=>r.push (UInt8.ofNat n.toNat)) s=⟨s.data++l.toArray⟩:=by
 induction l with
 |nil=>intro s;cases s;simp
 |cons b l ih=>
  intro s
  simp only[List.map_cons,List.foldl_cons,ih]
  cases s
  simp[ByteArray.push]
section
variable {P:Program}{ops:Array Oper}{draw:Bool}{K:Y4→St→Prop}{rest:List Oper}{l:Y4}{S:St}
variable {d:Nat}{ty:TypeId}{pos:String}{aft:Array Edge}{gd:Option (Nat×Bool)}
theorem Xjy {t:TypeId}{x y:Operand}{a b:List UInt8} (w:World):(do eqGuard .eql t x y (.string (Xb a)) (.string (Xb b));binOp .eql t (.string (Xb a)) (.string (Xb b)):Sem Value).run P w= .ok (.bool (decide (a=b))) w:=by
 simp[go_sem,X2Z];exact Bool.beq_eq_decide_eq a b
theorem Xkm {t:TypeId}{x y:Operand}{a b:List UInt8} (w:World):(do eqGuard .neq t x y (.string (Xb a)) (.string (Xb b));binOp .neq t (.string (Xb a)) (.string (Xb b)):Sem Value).run P w= .ok (.bool (decide (a≠b))) w:=by
 simp[go_sem,X2Z];exact Bool.beq_eq_decide_eq a b
def Xcc (P:Program) (src dst:TypeId):Bool:=
 match P.underlying src,P.underlying dst with
 |some (.slice e),some .string=>(match P.underlying e with|some (.int .u8)=>true|_=>false)
 |_,_=>false
theorem Xni {src dst:TypeId} (h:Xcc P src dst=true):∃e,P.underlying src=some (.slice e)∧P.underlying e=some (.int .u8)∧P.underlying dst=some .string:=by
 unfold Xcc at h
 split at h
 ·rename_i e h1 h2
  split at h
  ·rename_i h3
   exact⟨e,h1,h3,h2⟩
  ·simp at h
 ·simp at h
theorem Xl4 (b:List UInt8):(b.map fun c=>[D.v (.int .u8 c.toNat)]).flatten=b.map fun c=>D.v (.int .u8 c.toNat):=by
 induction b with
 |nil=>rfl
 |cons c b ih=>simp[ih]
theorem Xm1 {src dst:TypeId}{x:Operand}{b:List UInt8} (hx:S.ev x= .d (.sl 1 (b.map fun c=>[D.v (.int .u8 c.toNat)]))) (ht:Xcc P src dst=true) (hd:Nat.blt d S.n=true) (hg:XR ops S gd)
  (h:Walk P ops draw K rest ((l.length,⟨some d,.convert src dst x,ty,pos,aft,gd⟩,⟨XQ ops gd++[(x,.d (.sl 1 (b.map fun c=>[D.v (.int .u8 c.toNat)])))],some (d,.d (.v (.string (Xb b)))),[],[],[]⟩)::l) (S.set d (.d (.v (.string (Xb b)))))):
  Walk P ops draw K (⟨some d,.convert src dst x,ty,pos,aft,gd⟩::rest) l S:=by
 refine Yh ⟨[(x,.d (.sl 1 (b.map fun c=>[D.v (.int .u8 c.toNat)])))],some (d,.d (.v (.string (Xb b)))),[],[],[]⟩ (U6 rfl fun E S g a w hs hq _=> ?_) hg ⟨⟨hx,trivial⟩,trivial,trivial,hd⟩ h
 refine⟨.string (Xb b),?_,VB rfl⟩
 obtain⟨e,t1,t2,t3⟩:=Xni ht
 have hsx:=hq.1
 simp only[AVal.sat,D.rep] at hsx
 obtain⟨ad,cap,hv,h2,h3,h4⟩:=hsx
 have hc:(convert src dst (a.eval x)).run P w= .ok (.string (Xb b)) w:=by
  rw[hv,run_convert_bytes_string w src dst e ad _ cap t1 t2 t3]
  rcases h4 with h4|⟨bl,o,rfl,hr⟩
  ·have hb:b=[]:=by simpa using h4
   subst hb
   cases ad with
   |none=>simp[Conv.bytesToString,Xb];rfl
   |some q=>
    have:=run_bytesToString (P:=P) w q 0 cap [] (by simp[loadCells,loadCellsFrom])
    simp only[List.map_nil,List.foldl_nil] at this
    exact this
  ·obtain⟨vs,k1,k2,k3⟩:=Xca hs.1.mem _ bl o hr
   have hvs:vs=(b.map fun c=>(c.toNat:Int)).map (Value.int .u8):=by
    apply List.ext_getElem?
    intro i
    cases hbi:b[i]? with
    |none=>
     have h1:b.length≤i:=by simpa using hbi
     have h5:vs.length≤i:=by rw[k1];simpa using h1
     simp[List.getElem?_eq_none h5,hbi]
    |some c=>
     have hi:i<b.length:=(List.getElem?_eq_some_iff.1 hbi).1
     have hiv:i<vs.length:=by rw[k1];simpa using hi
     have:=k3 i (D.v (.int .u8 c.toNat)) vs[i] (by
      rw[Xl4];simp[hbi]) (List.getElem?_eq_getElem hiv)
     simp only[D.rep] at this
     rw[List.getElem?_eq_getElem hiv,this.1];simp[hbi]
   have hload:=run_loadCells_list (P:=P) w ⟨bl,o,none⟩ vs (fun j v hv=>by rw[Uw];exact k2 j v hv)
   rw[k1,hvs] at hload
   have:=run_bytesToString (P:=P) w ⟨bl,o,none⟩ _ cap (b.map fun c=>(c.toNat:Int)) (by simpa using hload)
   rw[XkS] at this
   simpa [Xb] using this
 simp only[execOp,Sem.run_bind]
 rw[hc];rfl
end
section
variable {P:Program}{ops:Array Oper}{draw:Bool}{K:Y4→St→Prop}{rest:List Oper}{l:Y4}{S:St}
variable {d:Nat}{ty:TypeId}{pos:String}{aft:Array Edge}{gd:Option (Nat×Bool)}
theorem XlK {x y:Operand}{T T2:TypeId}{γ n sz bytes:Nat}{xs ys:List (List D)} (hx:S.ev x= .own γ n) (hL:S.obj γ= .row sz xs) (hy:S.ev y= .d (.sl sz ys)) (hn:n=xs.length)
  (hB:elB P T=bytes) (hT:X0K P T sz bytes=true) (hT2:X2U P T2=true) (hb0:Nat.beq bytes 0=false) (hroom:(xs.length+ys.length)*bytes≤140737488355328)
  (hd:Nat.blt d S.n=true) (hg:XR ops S gd)
  (h:Walk P ops draw K rest ((l.length,⟨some d,.call ⟨.builtin .append,#[x,y],#[T,T2]⟩,ty,pos,aft,gd⟩,⟨XQ ops gd++[(x,.own γ n),(y,.d (.sl sz ys))],some (d,.d (.sl sz (xs++ys))),[(γ,.row sz xs)],[(γ,.froz sz (xs++ys))],[]⟩)::l)
   ((S.set d (.d (.sl sz (xs++ys)))).own γ (.froz sz (xs++ys)))):
  Walk P ops draw K (⟨some d,.call ⟨.builtin .append,#[x,y],#[T,T2]⟩,ty,pos,aft,gd⟩::rest) l S:=
 Yh ⟨[(x,.own γ n),(y,.d (.sl sz ys))],some (d,.d (.sl sz (xs++ys))),[(γ,.row sz xs)],[(γ,.froz sz (xs++ys))],[]⟩ (X1c rfl fun E S g a w hs hq hl hnw=>by
  have ho:=hs.1.obj γ
  rw[hl.1] at ho
  have hv:=X23 hq.1 ho hn
  have hsy:(D.sl sz ys).rep g.M (a.eval y):=by have:=hq.2.1;simpa only[AVal.sat] using this
  obtain⟨news,k1,k2,k3⟩:=Xav (P:=P) hs.1 hsy
  have hyl:∀r∈ys,r.length=sz:=by rcases k3 with rfl|k3;simp;exact k3
  obtain⟨v,g',w',r1,r2,r3,r4⟩:=XgI hs hl.1 (ty:=ty) hT hT2 (X3N hb0) k1 rfl hyl k2 (by simpa using hroom)
  obtain⟨M',hle,hi⟩:=X93 (S:=S.own γ (.row sz (xs++ys))) r3 (Yq _ _ _ _)
  have hi2:Inv E (Xo .dead ((γ,.froz sz (xs++ys))::S.L)) {g' with M:=M'} w':=by
   refine hi.sub fun k=> .inl ?_
   by_cases hk:γ=k
   ·subst hk;rw[Yq,Yq]
   ·rw[Y9 _ _ _ hk]
    show _=Xo .dead ((γ,.froz sz (xs++ys))::(γ,.row sz (xs++ys))::S.L) k
    rw[Y9 _ _ _ hk,Y9 _ _ _ hk]
  have ho2:=hi2.obj γ
  rw[Yq] at ho2
  exact⟨v,{g' with M:=M'},w',X65 rfl (by rw[hv];exact r1),X5V ho2 (by simp) (X26 (g:=g') (g':={g' with M:=M'}) hle rfl rfl rfl r2),hi2,fun t=>X26 (g:=g') (g':={g' with M:=M'}) hle rfl rfl rfl (r4 t)⟩) hg ⟨⟨hx,hy,trivial⟩,⟨hL,trivial⟩,trivial,hd⟩ h
end
section
variable {P:Program}{ops:Array Oper}{draw:Bool}{K:Y4→St→Prop}{rest:List Oper}{l:Y4}{S:St}
variable {d:Nat}{ty:TypeId}{pos:String}{aft:Array Edge}{gd:Option (Nat×Bool)}
theorem XmM {x i:Operand}{T:TypeId}{γ n k:Nat}{kd:IntKind}{m:Int}{xs:List (List D)} (hx:S.ev x= .own γ n) (hL:S.obj γ= .row 1 xs) (hi:S.ev i= .d (.v (.int kd m))) (hn:n=xs.length) (hk:m=(k:Nat)) (hlt:k<xs.length)
  (hT:Ui P T 1=true) (hd:Nat.blt d S.n=true) (hg:XR ops S gd)
  (h:Walk P ops draw K rest ((l.length,⟨some d,.indexAddr T x i,ty,pos,aft,gd⟩,⟨XQ ops gd++[(x,.own γ n),(i,.d (.v (.int kd m)))],some (d,.rptr γ n k),[(γ,.row 1 xs)],[],[]⟩)::l) (S.set d (.rptr γ n k))):
  Walk P ops draw K (⟨some d,.indexAddr T x i,ty,pos,aft,gd⟩::rest) l S:=
 Yh ⟨[(x,.own γ n),(i,.d (.v (.int kd m)))],some (d,.rptr γ n k),[(γ,.row 1 xs)],[],[]⟩ (U6 rfl fun E S g a w hs hq hl=>by
  obtain⟨e,h1,h2,h3⟩:=X1i hT
  have ho:=hs.1.obj γ
  rw[hl.1] at ho
  have hv:=X23 hq.1 ho hn
  rcases ho.2 with ⟨e,rfl⟩|⟨b,cap,vs,e',fr,hh,_⟩
  ·simp at hlt
  ·rw[hh] at hv
   refine⟨.pointer (some ⟨b,k,none⟩),?_,?_⟩
   ·have hb:(0:Int)≤m∧m<(xs.length:Int):=by omega
    have hm:m.toNat=k:=by omega
    have:=run_indexAt_slice (P:=P) w T ⟨b,0,none⟩ xs.length cap kd m (by rw[h3];exact h1)
    rw[if_pos hb,h3,h2 w,Result.andThen_ok,Uw,hm,Nat.mul_one,Nat.zero_add] at this
    simp only[execOp,hv,Uc hq.2.1,Sem.run_bind,this];rfl
   ·simp only[AVal.sat]
    exact⟨rfl,_,_,_,hh,by omega,fun _=>⟨_,rfl,rfl⟩⟩) hg ⟨⟨hx,hi,trivial⟩,⟨hL,trivial⟩,trivial,hd⟩ h
theorem XkZ {xs:List (List D)} (h:∀x∈xs,x.length=1) {k:Nat}{y:D} (hk:xs[k]? =some [y]):xs.flatten[k]? =some y:=by
 induction xs generalizing k with
 |nil=>simp at hk
 |cons x xs ih=>
  obtain⟨z,rfl⟩:∃z,x=[z]:=by
   have:=h x (List.mem_cons_self ..)
   match x,this with
   |[z],_=>exact⟨z,rfl⟩
  cases k with
  |zero=>simp at hk;simp[hk]
  |succ k=>simp at hk;simp[ih (fun x hx=>h x (List.mem_cons_of_mem _ hx)) hk]
theorem Xrq {t:TypeId}{x:Operand}{γ n k:Nat}{xs:List (List D)}{y:D} (hx:S.ev x= .rptr γ n k) (hL:S.obj γ= .row 1 xs) (hn:n=xs.length) (hy:xs[k]? =some [y])
  (ht:X0I P t false 1=true) (hd:Nat.blt d S.n=true) (hg:XR ops S gd)
  (h:Walk P ops draw K rest ((l.length,⟨some d,.load t x,ty,pos,aft,gd⟩,⟨XQ ops gd++[(x,.rptr γ n k)],some (d,.d y),[(γ,.row 1 xs)],[],[]⟩)::l) (S.set d (.d y))):
  Walk P ops draw K (⟨some d,.load t x,ty,pos,aft,gd⟩::rest) l S:=
 Yh ⟨[(x,.rptr γ n k)],some (d,.d y),[(γ,.row 1 xs)],[],[]⟩ (U6 rfl fun E S g a w hs hq hl=>by
  have ho:=hs.1.obj γ
  rw[hl.1] at ho
  have hq1:=hq.1
  simp only[AVal.sat] at hq1
  obtain⟨_,a',m,c,q1,q2,q3⟩:=hq1
  have hlt:k<xs.length:=(List.getElem?_eq_some_iff.1 hy).1
  rcases ho.2 with ⟨e,rfl⟩|⟨b,cap,vs,e',fr,hh,k2,k3,k4,k5,k6,k7⟩
  ·simp at hlt
  ·rw[hh] at q1;cases q1
   obtain⟨b',e1,e2⟩:=q3 hn
   cases e1
   obtain⟨u,hu,hsu⟩:=UX k7 k (.d y) (by rw[List.getElem?_map,XkZ ho.1 hy];rfl)
   have hc:w.cell? ⟨b,k,none⟩=some u:=by
    rw[cell_of_row w _ _ vs e' fr k4]
    rw[List.getElem?_take] at hu
    split at hu
    ·simpa using hu
    ·simp at hu
   refine⟨u,?_,hsu⟩
   simp[execOp,e2,Instr.loadAt,Instr.sureAddr,X6q ht hc]) hg ⟨⟨hx,trivial⟩,⟨hL,trivial⟩,trivial,hd⟩ h
theorem Xmz {t:TypeId}{x v:Operand}{γ n k:Nat}{xs:List (List D)}{y:D} (hx:S.ev x= .rptr γ n k) (hL:S.obj γ= .row 1 xs) (hv:S.ev v= .d y) (hn:n=xs.length) (hlt:k<xs.length)
  (ht:X59 P t 1=true) (hg:XR ops S gd)
  (h:Walk P ops draw K rest ((l.length,⟨none,.store t x v,ty,pos,aft,gd⟩,⟨XQ ops gd++[(x,.rptr γ n k),(v,.d y)],none,[(γ,.row 1 xs)],[(γ,.row 1 (xs.take k++[[y]]++xs.drop (k+1)))],[]⟩)::l)
   (S.own γ (.row 1 (xs.take k++[[y]]++xs.drop (k+1))))):
  Walk P ops draw K (⟨none,.store t x v,ty,pos,aft,gd⟩::rest) l S:=
 Yh ⟨[(x,.rptr γ n k),(v,.d y)],none,[(γ,.row 1 xs)],[(γ,.row 1 (xs.take k++[[y]]++xs.drop (k+1)))],[]⟩ (X9p rfl fun E S g a w hs hq hl hnn=>by
  have ho:=hs.1.obj γ
  rw[hl.1] at ho
  have hq1:=hq.1
  simp only[AVal.sat] at hq1
  obtain⟨_,a',m,c,q1,q2,q3⟩:=hq1
  have hrow:UU g w (g.hd γ) 1 xs:=ho
  have hone:(a.eval v).cells= #[a.eval v]:=by
   have:=AVal.sat_one (x:= .d y) rfl hq.2.1
   cases hvv:a.eval v<;>rw[hvv] at this<;>first|rfl|simp[Value.oneCell'] at this
  obtain⟨w',s1,s2,s3,s4,s5,s6⟩:=Xci (P:=P) (k:=k) (m:=1) (ys:=[[y]]) hrow (by omega) (by simp) rfl (news:= #[a.eval v]) (by simp) (by
   simp only[List.flatten_cons,List.flatten_nil,List.append_nil,List.map_cons,List.map_nil,XB]
   exact⟨hq.2.1,trivial⟩)
  rcases hrow.2 with ⟨e,rfl⟩|⟨b,cap,vs,e',fr,hh,_⟩
  ·simp at hlt
  rw[hh] at q1 s1;cases q1
  obtain⟨b',e1,e2⟩:=q3 hn
  cases e1
  simp only[Nat.mul_one,Uw,Nat.zero_add] at s1
  refine⟨g,w',?_,?_,hs.2.2.2⟩
  ·have hsz:=Xbv ht w
   have s1':(storeCells ⟨b,k,none⟩ [a.eval v]).run P w= .ok () w':=by simpa using s1
   simp[execOp,e2,Instr.storeAt,Instr.sureAddr,storeVar,hsz,hone,s1']
  ·refine Inv.upd hs.1 γ _ (Yq _ _ _ _) (fun j hj=>Y9 _ _ _ (Ne.symm hj)) (fun b hb hnl=>s3 b fun hc=>hnl (by rw[hl.1];exact hc)) (by omega) s5 s6 rfl (fun _ _=>⟨rfl,rfl,rfl⟩) (fun _ _ _ _ _ h=>h) s2 (fun b hb=> .inl (by rw[hl.1];exact hb)) (fun _=>Gh.keeps_refl _ _)) hg ⟨⟨hx,hv,trivial⟩,⟨hL,trivial⟩,trivial,trivial⟩ h
end
section
variable {P:Program}
def X96 (P:Program) (t:TypeId):Bool:=match P.underlying t with|some .bool=>true|_=>false
theorem Xfs {t:TypeId} (h:X96 P t=true):P.underlying t=some .bool:=by
 unfold X96 at h
 cases hu:P.underlying t with
 |none=>rw[hu] at h;simp at h
 |some u=>cases u<;>rw[hu] at h<;>simp at h ⊢
theorem XkC {t:TypeId}{x y:Operand}{a b:Bool} (ht:X96 P t=true) (w:World):(do eqGuard .eql t x y (.bool a) (.bool b);binOp .eql t (.bool a) (.bool b):Sem Value).run P w= .ok (.bool (decide (a=b))) w:=by
 have h:=run_equalIn_bool' (P:=P) w 9999 t a b (Xfs ht)
 have h2:(Op.equal t (.bool a) (.bool b)).run P w= .ok (a==b) w:=h
 simp[eqGuard,binOp,h2]
 exact Bool.beq_eq_decide_eq a b
theorem Xnp {t:TypeId}{x y:Operand}{a b:Bool} (ht:X96 P t=true) (w:World):(do eqGuard .neq t x y (.bool a) (.bool b);binOp .neq t (.bool a) (.bool b):Sem Value).run P w= .ok (.bool (decide (a≠b))) w:=by
 have h:=run_equalIn_bool' (P:=P) w 9999 t a b (Xfs ht)
 have h2:(Op.equal t (.bool a) (.bool b)).run P w= .ok (a==b) w:=h
 simp[eqGuard,binOp,h2,Bool.beq_eq_decide_eq]
theorem XdZ {t:TypeId}{x y:Operand}{k:IntKind}{a b:Int} (ha:0≤a) (hb:b≠0) (w:World):(do eqGuard .rem t x y (.int k a) (.int k b);binOp .rem t (.int k a) (.int k b):Sem Value).run P w= .ok (.int k (a%b)) w:=by
 simp[eqGuard,binOp,Op.intDiv,hb,go_sem,Int.tmod_eq_emod_of_nonneg ha]
theorem Xjv {src dst:TypeId}{b:UInt8} (hs:(P.underlying src).isSome=true) (hd:X4t P dst .i64=true) (w:World):
  (convert src dst (.int .u8 (b.toNat:Int))).run P w= .ok (.int .i64 (b.toNat:Int)) w:=by
 have h:=X6H (P:=P) (n:=(b.toNat:Int)) (k:= .u8) hs hd w
 have:=b.toNat_lt
 rwa [IntWalk.i64_in _ ⟨by omega,by omega⟩] at h
theorem Xl2 {src dst:TypeId}{k:IntKind}{n:Int} (hs:(P.underlying src).isSome=true) (hd:X4t P dst .i64=true) (hn: -9223372036854775808≤n∧n≤9223372036854775807) (w:World):
  (convert src dst (.int k n)).run P w= .ok (.int .i64 n) w:=by
 have h:=X6H (P:=P) (n:=n) (k:=k) hs hd w
 rwa [IntWalk.i64_in _ hn] at h
end
section
variable {P:Program}{ops:Array Oper}{draw:Bool}{K:Y4→St→Prop}{rest:List Oper}{l:Y4}{S:St}
variable {d:Nat}{ty:TypeId}{pos:String}{aft:Array Edge}{gd:Option (Nat×Bool)}
theorem X4Z {op:BinOp}{xt yt:TypeId}{x y:Operand}{u v r:Value} (r':Value) (hr':r=r') (hx:S.ev x= .d (.v u)) (hy:S.ev y= .d (.v v))
  (hr:∀w,(do eqGuard op xt x y u v;binOp op xt u v:Sem Value).run P w= .ok r w) (h1:r'.oneCell'=true) (hd:Nat.blt d S.n=true) (hg:XR ops S gd)
  (h:Walk P ops draw K rest ((l.length,⟨some d,.binOp op xt x y yt,ty,pos,aft,gd⟩,⟨XQ ops gd++[(x,.d (.v u)),(y,.d (.v v))],some (d,.d (.v r')),[],[],[]⟩)::l) (S.set d (.d (.v r')))):
  Walk P ops draw K (⟨some d,.binOp op xt x y yt,ty,pos,aft,gd⟩::rest) l S:=by
 subst hr'
 exact X6 hx hy hr h1 hd hg h
end
def X0e (k:IntKind):Nat:=if k.signed then k.bits-1 else k.bits
theorem UR:2^X0e .u8=256:=by decide
theorem X0j:2^X0e .u32=4294967296:=by decide
theorem Yf:2^X0e .u64=18446744073709551616:=by decide
theorem XJ:2^X0e .i64=9223372036854775808:=by decide
theorem Xaz (k:IntKind):2^X0e k≤2^k.bits:=Nat.pow_le_pow_right (by omega) (by unfold X0e;split<;>omega)
theorem X3w {k:IntKind}{n:Nat} (h:n<2^X0e k):k.wrap (n:Int)=n:=by
 cases k<;>simp[X0e,IntKind.signed,IntKind.bits] at h<;>simp[IntKind.wrap,IntKind.bits,IntKind.signed]<;>omega
theorem Xa0 {k:IntKind}{n:Nat} (hs:k.signed=false):k.wrap (n:Int)=((n%2^k.bits:Nat):Int):=by
 simp[IntKind.wrap,hs]
theorem X3R {m n:Nat} (h:n<2^m):(BitVec.ofInt m (n:Int)).toNat=n:=by
 rw[BitVec.ofInt_natCast,BitVec.toNat_ofNat];exact Nat.mod_eq_of_lt h
section
variable {P:Program}{t:TypeId}{x y:Operand}{k:IntKind}{a b:Nat}
theorem XbL {op:BinOp}{a b:Int}{r:Value} (h1:op= .and∨op= .or∨op= .xor) (h:Op.intBits op k a b=pure r) (w:World):(do eqGuard op t x y (.int k a) (.int k b);binOp op t (.int k a) (.int k b):Sem Value).run P w= .ok r w:=by
 rcases h1 with rfl|rfl|rfl<;>simp[eqGuard,binOp,h]
theorem Xck {op:BinOp}{a b:Int}{k':IntKind}{r:Value} (h1:op= .shl∨op= .shr) (h:Op.shift op k a k' b=pure r) (w:World):(do eqGuard op t x y (.int k a) (.int k' b);binOp op t (.int k a) (.int k' b):Sem Value).run P w= .ok r w:=by
 rcases h1 with rfl|rfl<;>simp[eqGuard,binOp,h]
theorem X0i (ha:a<2^X0e k) (hb:b<2^X0e k) (w:World):(do eqGuard .and t x y (.int k a) (.int k b);binOp .and t (.int k a) (.int k b):Sem Value).run P w= .ok (.int k ((a&&&b:Nat):Int)) w:=by
 have h:=Xaz k
 have:=Nat.and_lt_two_pow a hb
 refine XbL (.inl rfl) ?_ w
 simp only[Op.intBits,BitVec.toNat_and,X3R (Nat.lt_of_lt_of_le ha h),X3R (Nat.lt_of_lt_of_le hb h),X3w this]
theorem X0G (ha:a<2^X0e k) (hb:b<2^X0e k) (w:World):(do eqGuard .or t x y (.int k a) (.int k b);binOp .or t (.int k a) (.int k b):Sem Value).run P w= .ok (.int k ((a|||b:Nat):Int)) w:=by
 have h:=Xaz k
 have:=Nat.or_lt_two_pow ha hb
 refine XbL (.inr (.inl rfl)) ?_ w
 simp only[Op.intBits,BitVec.toNat_or,X3R (Nat.lt_of_lt_of_le ha h),X3R (Nat.lt_of_lt_of_le hb h),X3w this]
theorem X5W (ha:a<2^X0e k) (hb:b<2^X0e k) (w:World):(do eqGuard .xor t x y (.int k a) (.int k b);binOp .xor t (.int k a) (.int k b):Sem Value).run P w= .ok (.int k ((a^^^b:Nat):Int)) w:=by
 have h:=Xaz k
 have:=Nat.xor_lt_two_pow ha hb
 refine XbL (.inr (.inr rfl)) ?_ w
 simp only[Op.intBits,BitVec.toNat_xor,X3R (Nat.lt_of_lt_of_le ha h),X3R (Nat.lt_of_lt_of_le hb h),X3w this]
theorem X0D {k':IntKind} (hb:b≤k.bits) (w:World):(do eqGuard .shr t x y (.int k a) (.int k' b);binOp .shr t (.int k a) (.int k' b):Sem Value).run P w= .ok (.int k ((a/2^b:Nat):Int)) w:=by
 have e:(a:Int).fdiv (2^b)=((a/2^b:Nat):Int):=by
  rw[Int.fdiv_eq_ediv_of_nonneg _ (by exact Int.le_of_lt (Int.pow_pos (by omega)))];simp
 refine Xck (.inr rfl) ?_ w
 have hb0:¬((b:Int)<0):=by omega
 simp only[Op.shift,if_neg hb0,Int.toNat_natCast,Nat.min_eq_left hb,e]
theorem XmB {k':IntKind} (hb:b≤k.bits) (h:a*2^b<2^X0e k) (w:World):(do eqGuard .shl t x y (.int k a) (.int k' b);binOp .shl t (.int k a) (.int k' b):Sem Value).run P w= .ok (.int k ((a*2^b:Nat):Int)) w:=by
 have e:=X3w h
 rw[show ((a*2^b:Nat):Int)=(a:Int)*2^b by simp] at e
 refine Xck (.inl rfl) ?_ w
 have hb0:¬((b:Int)<0):=by omega
 simp only[Op.shift,if_neg hb0,Int.toNat_natCast,Nat.min_eq_left hb,e]
 simp
theorem X0F {k':IntKind} (hs:k.signed=false) (hb:b≤k.bits) (w:World):(do eqGuard .shl t x y (.int k a) (.int k' b);binOp .shl t (.int k a) (.int k' b):Sem Value).run P w= .ok (.int k ((a*2^b%2^k.bits:Nat):Int)) w:=by
 have e:=Xa0 (k:=k) (n:=a*2^b) hs
 rw[show ((a*2^b:Nat):Int)=(a:Int)*2^b by simp] at e
 refine Xck (.inl rfl) ?_ w
 have hb0:¬((b:Int)<0):=by omega
 simp only[Op.shift,if_neg hb0,Int.toNat_natCast,Nat.min_eq_left hb,e]
theorem X0b (hb:b≠0) (h:a<2^X0e k) (w:World):(do eqGuard .quo t x y (.int k a) (.int k b);binOp .quo t (.int k a) (.int k b):Sem Value).run P w= .ok (.int k ((a/b:Nat):Int)) w:=by
 have e:=X3w (k:=k) (n:=a/b) (Nat.lt_of_le_of_lt (Nat.div_le_self _ _) h)
 have hb':(b:Int)≠0:=by omega
 have e2:(a:Int).tdiv b=((a/b:Nat):Int):=by rw[Int.tdiv_eq_ediv_of_nonneg (by omega)];simp
 simp only[eqGuard,binOp,Op.intDiv,if_neg hb',e2,e]
 simp[go_sem]
theorem US (hb:b≠0) (w:World):(do eqGuard .rem t x y (.int k a) (.int k b);binOp .rem t (.int k a) (.int k b):Sem Value).run P w= .ok (.int k ((a%b:Nat):Int)) w:=by
 have hb':(b:Int)≠0:=by omega
 have e2:(a:Int).tmod b=((a%b:Nat):Int):=by rw[Int.tmod_eq_emod_of_nonneg (by omega)];simp
 simp only[eqGuard,binOp,Op.intDiv,if_neg hb',e2]
 simp[go_sem]
theorem Ym (h:a+b<2^X0e k) (w:World):(do eqGuard .add t x y (.int k a) (.int k b);binOp .add t (.int k a) (.int k b):Sem Value).run P w= .ok (.int k ((a+b:Nat):Int)) w:=by
 rw[Xiq,←Int.natCast_add,X3w h]
theorem V0 (h:a*b<2^X0e k) (w:World):(do eqGuard .mul t x y (.int k a) (.int k b);binOp .mul t (.int k a) (.int k b):Sem Value).run P w= .ok (.int k ((a*b:Nat):Int)) w:=by
 rw[Xob,←Int.natCast_mul,X3w h]
theorem Xd8 (hs:k.signed=false) (ha:a<2^k.bits) (w:World):(Op.unary .xor (.int k a)).run P w= .ok (.int k ((2^k.bits-1-a:Nat):Int)) w:=by
 have hp:0<2^k.bits:=Nat.pow_pos (by omega)
 have e0:k.max=((2^k.bits-1:Nat):Int):=by
  have:((2^k.bits:Nat):Int)=2^k.bits:=by simp
  simp only[IntKind.max,hs,Bool.false_eq_true,if_false];omega
 have e1:(BitVec.ofInt k.bits ((2^k.bits-1:Nat):Int))=BitVec.allOnes k.bits:=by
  apply BitVec.eq_of_toNat_eq
  rw[X3R (by omega),BitVec.toNat_allOnes]
 have e2:(BitVec.allOnes k.bits^^^BitVec.ofInt k.bits (a:Int)).toNat=2^k.bits-1-a:=by
  rw[BitVec.allOnes_xor,BitVec.toNat_not,X3R ha]
 have e3:=Xa0 (k:=k) (n:=2^k.bits-1-a) hs
 rw[Nat.mod_eq_of_lt (by omega)] at e3
 simp only[Op.unary,hs,Bool.false_eq_true,if_false,Op.intBits,e0,e1,e2,e3]
 simp[go_sem]
theorem Xp7 {n:Int} (h: -9223372036854775808≤n∧n≤9223372036854775807) (w:World):(Op.unary .xor (.int .i64 n)).run P w= .ok (.int .i64 (-n-1)) w:=by
 have e1:BitVec.ofInt 64 (-1)=BitVec.allOnes 64:=by decide
 have e2:IntKind.i64.wrap ((BitVec.allOnes 64^^^BitVec.ofInt 64 n).toNat:Int)= -n-1:=by
  rw[BitVec.allOnes_xor,BitVec.toNat_not,BitVec.toNat_ofInt,IntKind.wrap_i64]
  omega
 have e:Op.unary .xor (.int .i64 n)=pure (.int .i64 (-n-1)):=by
  show Op.intBits .xor .i64 (-1) n=_
  show(pure (Value.int .i64 (IntKind.i64.wrap ((BitVec.ofInt 64 (-1)^^^BitVec.ofInt 64 n).toNat:Int))):Sem Value)=_
  rw[e1,e2]
 rw[e];rfl
theorem Xbo {n:Int} (h: -9223372036854775807≤n∧n≤9223372036854775807) (w:World):(Op.unary .neg (.int .i64 n)).run P w= .ok (.int .i64 (-n)) w:=by
 have e:IntKind.i64.wrap (0-n)= -n:=by rw[IntWalk.i64_in _ (by omega)];omega
 have e':Op.unary .neg (.int .i64 n)=pure (.int .i64 (-n)):=by
  show(pure (Value.int .i64 (IntKind.i64.wrap (0-n))):Sem Value)=_
  rw[e]
 rw[e'];rfl
variable {src dst:TypeId}{q:IntKind}
theorem YQ (hs:(P.underlying src).isSome=true) (hd:X4t P dst q=true) (ha:a<2^X0e q) (w:World):(convert src dst (.int k (a:Int))).run P w= .ok (.int q (a:Int)) w:=by
 have h:=X6H (P:=P) (n:=(a:Int)) (k:=k) hs hd w
 rwa [X3w ha] at h
theorem XoL (hs:(P.underlying src).isSome=true) (hd:X4t P dst q=true) (hq:q.signed=false) (w:World):(convert src dst (.int k (a:Int))).run P w= .ok (.int q ((a%2^q.bits:Nat):Int)) w:=by
 have h:=X6H (P:=P) (n:=(a:Int)) (k:=k) hs hd w
 rwa [Xa0 hq] at h
end
structure SrcV (P:Program) (y:AVal) (sz:Nat) (ys:List (List D)):Prop where
 src:∀(E:Env) (L:Nat→AObj) (g:Gh) (w:World) (u:Value),Inv E L g w→y.sat g u→∀m,m≤ys.length→
  ∃news,(Builtin.firstCells sz m u).run P w= .ok news w∧news.size=m*sz∧XB g ((ys.take m).flatten.map .d) news.toList∧(Builtin.lenOf u).run P w= .ok ys.length w∧∀y∈ys.take m,y.length=sz
theorem XeV {P:Program}{sz:Nat}{ys:List (List D)}:SrcV P (.d (.sl sz ys)) sz ys:=by
 refine⟨fun E L g w u hi hs m hm=>Xj6 hi ?_ hm⟩
 simpa only[AVal.sat] using hs
theorem X8M {g:Gh}:∀l:List UInt8,XB g ((l.map fun b=>[D.v (.int .u8 b.toNat)]).flatten.map .d) (l.map fun b=>Value.int .u8 b.toNat)
 |[]=>by simp[XB]
 |b::l=>by
  simp only[List.map_cons,List.flatten_cons,List.singleton_append,XB]
  exact⟨VB rfl,X8M l⟩
theorem XdI {P:Program}{l:List UInt8}:SrcV P (aZ (Xb l)) 1 (l.map fun b=>[.v (.int .u8 b.toNat)]):=by
 refine⟨fun E L g w u hi hs m hm=> ?_⟩
 have hu:=Uc hs
 subst hu
 rw[List.length_map] at hm
 have hsz:(Xb l).size=l.length:=rfl
 have hex:((Xb l).extract 0 m).data=(l.take m).toArray:=by
  rw[ByteArray.data_extract]
  simp[Xb]
 refine⟨((l.take m).map fun b=>Value.int .u8 b.toNat).toArray,?_,by simp;omega,?_,by simp[Builtin.lenOf,hsz],?_⟩
 ·simp only[Builtin.firstCells,hex,Sem.run_pure]
  congr 1
  simp
 ·rw[←List.map_take]
  exact X8M _
 ·intro y hy
  rw[←List.map_take] at hy
  obtain⟨b,_,rfl⟩:=List.mem_map.1 hy
  rfl
section
variable {P:Program}{ops:Array Oper}{draw:Bool}{K:Y4→St→Prop}{rest:List Oper}{l:Y4}{S:St}
variable {d:Nat}{ty:TypeId}{pos:String}{aft:Array Edge}{gd:Option (Nat×Bool)}
theorem Xhw {g:Gh}{w:World}{h:Value}{sz:Nat}{xs:List (List D)} (hr:UU g w h sz xs):∃b c,h= .slice b xs.length c∧xs.length≤c:=by
 rcases hr.2 with ⟨e,rfl⟩|⟨b,cap,vs,e',fr,e,hc,_⟩
 ·exact⟨none,0,e,Nat.le_refl _⟩
 ·exact⟨_,_,e,hc⟩
theorem X1f {T:TypeId}{x lo:Operand}{γ n sz k:Nat}{xs:List (List D)} (hx:S.ev x= .own γ n) (hL:S.obj γ= .row sz xs) (hlo:S.ev lo=ai k) (hn:n=xs.length) (hk:k≤xs.length)
  (hT:Ui P T sz=true) (hd:Nat.blt d S.n=true) (hg:XR ops S gd)
  (h:Walk P ops draw K rest ((l.length,⟨some d,.slice T x (some lo) none none,ty,pos,aft,gd⟩,⟨XQ ops gd++[(x,.own γ n),(lo,ai k)],some (d,.cut γ n k sz),[(γ,.row sz xs)],[],[]⟩)::l) (S.set d (.cut γ n k sz))):
  Walk P ops draw K (⟨some d,.slice T x (some lo) none none,ty,pos,aft,gd⟩::rest) l S:=by
 refine Yh ⟨[(x,.own γ n),(lo,ai k)],some (d,.cut γ n k sz),[(γ,.row sz xs)],[],[]⟩ (U6 rfl fun E S g a w hs hq hl=> ?_) hg
  ⟨⟨hx,hlo,trivial⟩,⟨hL,trivial⟩,trivial,hd⟩ h
 have ho:=hs.1.obj γ
 rw[hl.1] at ho
 obtain⟨e,h1,h2,h3⟩:=X1i hT
 have hv:a.eval x=g.hd γ:=X23 hq.1 ho hn
 obtain⟨b,cap,hh,c1⟩:=Xhw (h:=g.hd γ) ho
 have hbd:=XbW (P:=P) (g:=g) (a:=a) (lo:=some lo) (hi:=none) (l:=k) (h:=xs.length) (isSl:=true) (len:=xs.length) (cap:=cap) (fun e=>by cases e) (fun _=>rfl) ⟨hq.2.1,trivial⟩ trivial hk c1 w
 have hrun:=run_slice_any (P:=P) w T b xs.length cap (by rw[h3];exact h1) (some (a.eval lo)) none none
 simp only[Option.map_some,Option.map_none] at hbd
 rw[hbd,Result.andThen_ok,h3,h2 w,Result.andThen_ok] at hrun
 refine⟨sliced b k xs.length cap sz,?_,?_⟩
 ·simp only[execOp,hv,hh,Instr.sliceAt,Sem.run_bind,run_underlying h1,Result.andThen_ok,Option.map_some,Option.map_none,hrun];rfl
 ·simp only[AVal.sat,sliced]
  exact⟨rfl,b,xs.length,cap,hh,by omega,fun _=>by rw[hn]⟩
theorem Xpe {x y:Operand}{yv:AVal}{T T2:TypeId}{γ n sz m k:Nat}{r ys:List (List D)} (hx:S.ev x= .cut γ n k sz) (hL:S.obj γ= .row sz r) (hn:n=r.length) (hk:k≤r.length) (hy:S.ev y=yv) (hsrc:SrcV P yv sz ys) (hm:m=min ys.length (r.length-k))
  (hT:Ui P T sz=true) {d':Option (Nat×AVal)} (hd:X3u S d') (hd':d'=none∨∃t,d'=some (t,ai m)) (hg:XR ops S gd)
  (h:Walk P ops draw K rest ((l.length,⟨d'.map (·.1),.call ⟨.builtin .copy,#[x,y],#[T,T2]⟩,ty,pos,aft,gd⟩,⟨XQ ops gd++[(x,.cut γ n k sz),(y,yv)],d',[(γ,.row sz r)],[(γ,.row sz (r.take k++ys.take m++r.drop (k+m)))],[]⟩)::l)
   ⟨S.n,d'.toList++S.τ,(γ,.row sz (r.take k++ys.take m++r.drop (k+m)))::S.L⟩):
  Walk P ops draw K (⟨d'.map (·.1),.call ⟨.builtin .copy,#[x,y],#[T,T2]⟩,ty,pos,aft,gd⟩::rest) l S:=by
 refine Yh ⟨[(x,.cut γ n k sz),(y,yv)],d',[(γ,.row sz r)],[(γ,.row sz (r.take k++ys.take m++r.drop (k+m)))],[]⟩ ?_ hg ⟨⟨hx,hy,trivial⟩,⟨hL,trivial⟩,trivial,hd⟩ h
 intro E S a w g hs hok Q K hK
 obtain⟨ok1,⟨l1,_⟩,_,ok4⟩:=hok
 have hq:=X0M hs _ ok1
 have ho:=hs.1.obj γ
 rw[l1] at ho
 have hrow:UU g w (g.hd γ) sz r:=ho
 obtain⟨b,cap,hh,c1⟩:=Xhw hrow
 have hx':a.eval x= .slice (if cap=k then b else b.map fun p=>p.add (k*sz)) (n-k) (cap-k):=by
  have:=hq.1
  simp only[AVal.sat] at this
  obtain⟨_,a',m',c',e1,_,e3⟩:=this
  rw[hh] at e1;cases e1
  exact e3 hn
 obtain⟨news,n1,n2,n3,n4,n5⟩:=hsrc.src E _ g w _ hs.1 hq.2.1 m (by omega)
 obtain⟨w',s1,s2,s3,s4,s5,s6⟩:=Xci (P:=P) (k:=k) (m:=m) hrow (by omega) n5 (by simp;omega) n2 n3
 have hst:(match Value.slice (if cap=k then b else b.map fun p=>p.add (k*sz)) (n-k) (cap-k) with| .slice (some a) _ _=>(storeCells (a.add (0*sz)) news.toList).run P w|_=> .ok () w)= .ok () w':=by
  by_cases hck:cap=k
  ·have hm0:m=0:=by omega
   have hnil:news.toList=[]:=by
    apply List.eq_nil_of_length_eq_zero
    rw[Array.length_toList,n2,hm0,Nat.zero_mul]
   rw[hnil,hh] at s1
   rw[if_pos hck,hnil]
   cases b with
   |none=>exact s1
   |some p=>simpa [storeCells] using s1
  ·rw[if_neg hck]
   rw[hh] at s1
   cases b with
   |none=>exact s1
   |some p=>
    simp only[Option.map_some,Nat.zero_mul,Addr.add_zero']
    exact s1
 have hrun:=X9f (P:=P) (T2:=T2) (ty:=ty) (m:=m) hT hx' n4 (by omega) n1 (by rw[hx'];exact hst)
 have hi:Inv E (Xo .dead ((γ,.row sz (r.take k++ys.take m++r.drop (k+m)))::S.L)) g w':=by
  refine Inv.upd hs.1 γ _ (Yq _ _ _ _) (fun j hj=>Y9 _ _ _ (Ne.symm hj)) (fun b hb hnl=>s3 b fun hc=>hnl (by rw[l1];exact hc)) (by omega) s5 s6 rfl (fun _ _=>⟨rfl,rfl,rfl⟩) (fun _ _ _ _ _ h=>h) s2 (fun b hb=> .inl ?_) (fun _=>Gh.keeps_refl _ _)
  rw[l1];exact hb
 have hrun':(execOp a.eval ⟨d'.map (·.1),.call ⟨.builtin .copy,#[x,y],#[T,T2]⟩,ty,pos,aft,gd⟩).run P w= .ok (.value (.int .i64 m)) w':=by
  simp[execOp,resolve,invoke,builtin,hrun]
 unfold Oper.wp
 rw[hrun',Oper.upon_value]
 rcases hd' with rfl|⟨t,rfl⟩
 ·exact hK _ _ ⟨g,hi,hs.2.1,hs.2.2.1,hs.2.2.2⟩
 ·exact hK _ _ (X1u hi hs.2.1 hs.2.2.1 hs.2.2.2 (VB rfl) ok4)
theorem X2R {x y:Operand}{yv:AVal}{T T2:TypeId}{γ n sz m k:Nat}{r ys:List (List D)} (hx:S.ev x= .cut γ n k sz) (hL:S.obj γ= .row sz r) (hn:n=r.length) (hk:k≤r.length) (hy:S.ev y=yv) (hsrc:SrcV P yv sz ys) (hm:m=min ys.length (r.length-k))
  (hT:Ui P T sz=true) (hd:Nat.blt d S.n=true) (hg:XR ops S gd)
  (h:Walk P ops draw K rest ((l.length,⟨some d,.call ⟨.builtin .copy,#[x,y],#[T,T2]⟩,ty,pos,aft,gd⟩,⟨XQ ops gd++[(x,.cut γ n k sz),(y,yv)],some (d,ai m),[(γ,.row sz r)],[(γ,.row sz (r.take k++ys.take m++r.drop (k+m)))],[]⟩)::l)
   ((S.set d (ai m)).own γ (.row sz (r.take k++ys.take m++r.drop (k+m))))):
  Walk P ops draw K (⟨some d,.call ⟨.builtin .copy,#[x,y],#[T,T2]⟩,ty,pos,aft,gd⟩::rest) l S:=
 Xpe (d':=some (d,ai m)) hx hL hn hk hy hsrc hm hT hd (.inr ⟨d,rfl⟩) hg h
theorem Xeu {T:TypeId}{x lo hi mx:Operand}{sz lb hb mb:Nat}{xs:List (List D)} (hx:S.ev x= .d (.sl sz xs)) (hlo:S.ev lo=ai lb) (hhi:S.ev hi=ai hb) (hmx:S.ev mx=ai mb) (hlh:lb≤hb) (hh:hb≤mb) (hm:mb≤xs.length)
  (hT:Ui P T sz=true) (hd:Nat.blt d S.n=true) (hg:XR ops S gd)
  (h:Walk P ops draw K rest ((l.length,⟨some d,.slice T x (some lo) (some hi) (some mx),ty,pos,aft,gd⟩,⟨XQ ops gd++[(x,.d (.sl sz xs)),(lo,ai lb),(hi,ai hb),(mx,ai mb)],some (d,.d (.sl sz ((xs.take hb).drop lb))),[],[],[]⟩)::l) (S.set d (.d (.sl sz ((xs.take hb).drop lb))))):
  Walk P ops draw K (⟨some d,.slice T x (some lo) (some hi) (some mx),ty,pos,aft,gd⟩::rest) l S:=by
 refine Yh ⟨[(x,.d (.sl sz xs)),(lo,ai lb),(hi,ai hb),(mx,ai mb)],some (d,.d (.sl sz ((xs.take hb).drop lb))),[],[],[]⟩ (U6 rfl fun E S g a w hs hq hl=> ?_) hg
  ⟨⟨hx,hlo,hhi,hmx,trivial⟩,trivial,trivial,hd⟩ h
 obtain⟨e,h1,h2,h3⟩:=X1i hT
 obtain⟨hq1,hq2,hq3,hq4,_⟩:=hq
 simp only[AVal.sat,D.rep] at hq1
 obtain⟨b,cap,hv,c1,c2,c3⟩:=hq1
 have e2:=Uc hq2
 have e3:=Uc hq3
 have e4:=Uc hq4
 have hmc:mb≤cap:=by omega
 have hbd:(Instr.sliceBounds true xs.length cap (some (a.eval lo)) (some (a.eval hi)) (some (a.eval mx))).run P w= .ok (lb,hb,mb) w:=by
  simp[Instr.sliceBounds,e2,e3,e4,run_sliceBound,hlh,hh,hmc]
 have hrun:=run_slice_any (P:=P) w T b xs.length cap (by rw[h3];exact h1) (some (a.eval lo)) (some (a.eval hi)) (some (a.eval mx))
 rw[hbd,Result.andThen_ok,h3,h2 w,Result.andThen_ok] at hrun
 refine⟨sliced b lb hb mb sz,?_,?_⟩
 ·simp only[execOp,hv,Instr.sliceAt,Sem.run_bind,run_underlying h1,Result.andThen_ok,Option.map_some,hrun];rfl
 ·simp only[AVal.sat,D.rep,sliced]
  have hlen:((xs.take hb).drop lb).length=hb-lb:=by simp;omega
  refine⟨if mb=lb then b else b.map fun p=>p.add (lb*sz),mb-lb,by rw[hlen],by omega,by omega,?_⟩
  rcases c3 with rfl|⟨b',o,rfl,hr⟩
  ·left;simp
  ·by_cases hem:(xs.take hb).drop lb=[]
   ·exact .inl hem
   ·right
    have hne:mb≠lb:=by
     intro e
     apply hem
     apply List.eq_nil_of_length_eq_zero
     omega
    refine⟨b',o+lb*sz,?_,Xbx (X8F hr hb) lb⟩
    rw[if_neg hne,Option.map_some,Uw]
def X8C (P:Program) (src dst:TypeId):Bool:=
 match P.underlying src,P.underlying dst with
 |some .string,some (.slice e)=>(match P.underlying e with|some (.int .u8)=>true|_=>false)
 |_,_=>false
theorem XgF {src dst:TypeId} (h:X8C P src dst=true):∃e,P.underlying src=some .string∧P.underlying dst=some (.slice e)∧P.underlying e=some (.int .u8):=by
 unfold X8C at h
 split at h
 ·rename_i e h1 h2
  split at h
  ·rename_i h3;exact⟨e,h1,h2,h3⟩
  ·simp at h
 ·simp at h
theorem XrD {src dst:TypeId}{x:Operand}{b:List UInt8} (hx:S.ev x=aZ (Xb b)) (hb:b.length≤9223372036854775807) (ht:X8C P src dst=true) (hd:Nat.blt d S.n=true) (hg:XR ops S gd)
  (h:Walk P ops draw K rest ((l.length,⟨some d,.convert src dst x,ty,pos,aft,gd⟩,⟨XQ ops gd++[(x,aZ (Xb b))],some (d,.d (.sl 1 (b.map fun c=>[D.v (.int .u8 c.toNat)]))),[],[],[]⟩)::l) (S.set d (.d (.sl 1 (b.map fun c=>[D.v (.int .u8 c.toNat)]))))):
  Walk P ops draw K (⟨some d,.convert src dst x,ty,pos,aft,gd⟩::rest) l S:=by
 refine Yh ⟨[(x,aZ (Xb b))],some (d,.d (.sl 1 (b.map fun c=>[D.v (.int .u8 c.toNat)]))),[],[],[]⟩ ?_ hg ⟨⟨hx,trivial⟩,trivial,trivial,hd⟩ h
 intro E S a w g hs hok Q K hK
 have hq:=X0M hs _ hok.1
 obtain⟨e,t1,t2,t3⟩:=XgF ht
 have hsz:(Xb b).size=b.length:=rfl
 have hrow:=run_bytes_of_string (P:=P) w src dst e (Xb b) t1 t2 t3
 rw[hsz] at hrow
 generalize hc:grownCap w b.length 0 e=cap at hrow
 have hc1:b.length≤cap:=by rw[←hc];exact grownCap_ge w _ _ _
 have hc2:cap≤maxLen:=by rw[←hc];exact grownCap_le_maxLen w _ _ _ (by unfold maxLen;omega)
 have hs':Vl E S g a w.drew:=⟨XeD hs.1,hs.2⟩
 have hle:=X7e hs'.1 (bytesRow (Xb b) cap)
 have hrun:(execOp a.eval ⟨some d,.convert src dst x,ty,pos,aft,gd⟩).run P w= .ok (.value (.slice (some ⟨w.heap.size,0,none⟩) b.length cap)) (w.drew.alloc (.cells (bytesRow (Xb b) cap) e ((bytesRow (Xb b) cap).size,(bytesRow (Xb b) cap).size+1))):=by
  simp only[execOp,Sem.run_bind,Uc hq.1,hrow];rfl
 unfold Oper.wp
 rw[hrun,Oper.upon_value]
 refine hK _ _ (X1u (X9v hs'.1 _ e _) hs.2.1 hs.2.2.1 (fun t=>X26 (g:=g) (g':=g.lay w.drew.heap.size (bytesRow (Xb b) cap)) hle rfl rfl rfl (hs.2.2.2 t)) ?_ hok.2.2.2)
 have:=Xcg (g:=g) (w:=w.drew) (sz:=1) (xs:=b.map fun c=>[D.v (.int .u8 c.toNat)]) (vs:=bytesRow (Xb b) cap) (cap:=cap) (by simp) (by
  have hb1:=X8M (g:=g) b
  rw[List.length_map,Nat.mul_one]
  have:(bytesRow (Xb b) cap).toList.take b.length=b.map fun c=>Value.int .u8 c.toNat:=by
   simp only[bytesRow,Xb,Array.toList_append,Array.toList_map]
   rw[List.take_append_of_le_length (by simp),List.take_of_length_le (by simp)]
  rw[this];exact hb1) hle (by simpa using hc1) hc2
 rw[List.length_map] at this
 exact this
end
theorem Con.data {P:Program}{f:FuncId}{args:List AVal}{γ sz n:Nat}{xs:List (List D)} (h:Con P f [] args [(γ,.row sz xs)] (.own γ n)) (hn:n=xs.length):Con P f [] args [] (.d (.sl sz xs)):=by
 intro g w vs hi hs
 refine(h g w vs hi hs).mono ?_
 rintro e w' ⟨v,g',h1,h2,h3,_⟩
 obtain⟨M',hle,hi2⟩:=X93 (S:=⟨0,[],[(γ,.row sz xs)]⟩) h3 (Yq _ _ _ _)
 have ho:=hi2.obj γ
 rw[Yq] at ho
 have hs2:(AVal.own γ n).sat {g' with M:=M'} v:=X26 (g:=g') (g':={g' with M:=M'}) hle rfl rfl rfl h2
 refine⟨v,{g' with M:=M'},h1,X5V ho hn hs2,?_,fun γ hγ=>by simp[XS] at hγ⟩
 refine(hi2.free (g0:={g' with M:=M'}) fun γ _=>Gh.keeps_refl _ _).sub fun k=> .inr rfl
section
variable {P:Program}{ops:Array Oper}{draw:Bool}{K:Y4→St→Prop}{rest:List Oper}{l:Y4}{S:St}
variable {d:Nat}{ty:TypeId}{pos:String}{aft:Array Edge}{gd:Option (Nat×Bool)}
theorem Xkv {T:TypeId}{x hi mx:Operand}{sz hb mb:Nat}{xs:List (List D)} (hx:S.ev x= .d (.sl sz xs)) (hhi:S.ev hi=ai hb) (hmx:S.ev mx=ai mb) (hh:hb≤mb) (hm:mb≤xs.length)
  (hT:Ui P T sz=true) (hd:Nat.blt d S.n=true) (hg:XR ops S gd)
  (h:Walk P ops draw K rest ((l.length,⟨some d,.slice T x none (some hi) (some mx),ty,pos,aft,gd⟩,⟨XQ ops gd++[(x,.d (.sl sz xs)),(hi,ai hb),(mx,ai mb)],some (d,.d (.sl sz ((xs.take hb).drop 0))),[],[],[]⟩)::l) (S.set d (.d (.sl sz ((xs.take hb).drop 0))))):
  Walk P ops draw K (⟨some d,.slice T x none (some hi) (some mx),ty,pos,aft,gd⟩::rest) l S:=by
 refine Yh ⟨[(x,.d (.sl sz xs)),(hi,ai hb),(mx,ai mb)],some (d,.d (.sl sz ((xs.take hb).drop 0))),[],[],[]⟩ (U6 rfl fun E S g a w hs hq hl=> ?_) hg
  ⟨⟨hx,hhi,hmx,trivial⟩,trivial,trivial,hd⟩ h
 obtain⟨e,h1,h2,h3⟩:=X1i hT
 obtain⟨hq1,hq3,hq4,_⟩:=hq
 simp only[AVal.sat,D.rep] at hq1
 obtain⟨b,cap,hv,c1,c2,c3⟩:=hq1
 have e3:=Uc hq3
 have e4:=Uc hq4
 have hmc:mb≤cap:=by omega
 have hbd:(Instr.sliceBounds true xs.length cap none (some (a.eval hi)) (some (a.eval mx))).run P w= .ok (0,hb,mb) w:=by
  simp[Instr.sliceBounds,e3,e4,run_sliceBound,hh,hmc]
 have hrun:=run_slice_any (P:=P) w T b xs.length cap (by rw[h3];exact h1) none (some (a.eval hi)) (some (a.eval mx))
 rw[hbd,Result.andThen_ok,h3,h2 w,Result.andThen_ok] at hrun
 refine⟨sliced b 0 hb mb sz,?_,?_⟩
 ·simp only[execOp,hv,Instr.sliceAt,Sem.run_bind,run_underlying h1,Result.andThen_ok,Option.map_some,Option.map_none,hrun];rfl
 ·simp only[AVal.sat,D.rep,sliced]
  have hlen:((xs.take hb).drop 0).length=hb-0:=by simp;omega
  refine⟨if mb=0 then b else b.map fun p=>p.add (0*sz),mb-0,by rw[hlen],by omega,by omega,?_⟩
  rcases c3 with rfl|⟨b',o,rfl,hr⟩
  ·left;simp
  ·by_cases hem:(xs.take hb).drop 0=[]
   ·exact .inl hem
   ·right
    have hne:mb≠0:=by
     intro e
     apply hem
     apply List.eq_nil_of_length_eq_zero
     omega
    refine⟨b',o+0*sz,?_,Xbx (X8F hr hb) 0⟩
    rw[if_neg hne,Option.map_some,Uw]
theorem Xnq {T:TypeId}{x:Operand}{lo hi:Option Operand}{sz lb hb:Nat}{xs ys:List (List D)} (hx:S.ev x= .d (.sl sz xs)) (hlo:X6M S lo lb) (hhi:X6x S xs.length hi hb) (hlh:lb≤hb) (hh:hb≤xs.length) (hys:(xs.take hb).drop lb=ys)
  (hT:Ui P T sz=true) (hd:Nat.blt d S.n=true) (hg:XR ops S gd)
  (h:Walk P ops draw K rest ((l.length,⟨some d,.slice T x lo hi none,ty,pos,aft,gd⟩,⟨XQ ops gd++((x,.d (.sl sz xs))::(X0y lo lb++X0y hi hb)),some (d,.d (.sl sz ys)),[],[],[]⟩)::l) (S.set d (.d (.sl sz ys)))):
  Walk P ops draw K (⟨some d,.slice T x lo hi none,ty,pos,aft,gd⟩::rest) l S:=by
 subst hys
 exact Xiz hx hlo hhi hlh hh hT hd hg h
theorem XoX {T:TypeId}{x lo hi mx:Operand}{sz lb hb mb:Nat}{xs ys:List (List D)} (hx:S.ev x= .d (.sl sz xs)) (hlo:S.ev lo=ai lb) (hhi:S.ev hi=ai hb) (hmx:S.ev mx=ai mb) (hlh:lb≤hb) (hh:hb≤mb) (hm:mb≤xs.length) (hys:(xs.take hb).drop lb=ys)
  (hT:Ui P T sz=true) (hd:Nat.blt d S.n=true) (hg:XR ops S gd)
  (h:Walk P ops draw K rest ((l.length,⟨some d,.slice T x (some lo) (some hi) (some mx),ty,pos,aft,gd⟩,⟨XQ ops gd++[(x,.d (.sl sz xs)),(lo,ai lb),(hi,ai hb),(mx,ai mb)],some (d,.d (.sl sz ys)),[],[],[]⟩)::l) (S.set d (.d (.sl sz ys)))):
  Walk P ops draw K (⟨some d,.slice T x (some lo) (some hi) (some mx),ty,pos,aft,gd⟩::rest) l S:=by
 subst hys
 exact Xeu hx hlo hhi hmx hlh hh hm hT hd hg h
theorem XkM {t:TypeId}{γ:Nat}{x:Operand}{s:ByteArray} (hx:S.ev x=aZ s) (ht:X6E P t=true) (hdead:S.obj γ= .dead) (hf:S.free γ=true)
  (hd:Nat.blt d S.n=true) (hg:XR ops S gd)
  (h:Walk P ops draw K rest ((l.length,⟨some d,.range t x,ty,pos,aft,gd⟩,⟨XQ ops gd++[(x,aZ s)],some (d,.ptr γ 0),[(γ,.dead)],[(γ,.iter s 0)],[γ]⟩)::l)
   ((S.set d (.ptr γ 0)).own γ (.iter s 0))):
  Walk P ops draw K (⟨some d,.range t x,ty,pos,aft,gd⟩::rest) l S:=
 Yh ⟨[(x,aZ s)],some (d,.ptr γ 0),[(γ,.dead)],[(γ,.iter s 0)],[γ]⟩ (X1c rfl fun E S g a w hs hq hl hn=>by
  refine⟨.pointer (some ⟨w.heap.size,0,none⟩),X1L g w γ,w.alloc (.stringIter s 0),?_,?_,?_,X2v hn.1 hs.2.2.2⟩
  ·have:=run_underlying (P:=P) (w:=w) (Xaj ht)
   simp only[execOp,Instr.range,Uc hq.1,Sem.run_bind,this,Result.andThen_ok]
   rfl
  ·simp[AVal.sat,X1L,Gh.put]
  ·refine X4g hs.1 γ hn.1 hl.1 _ _ _ (X1R w _) (X37 w _) rfl rfl ?_ (fun k hk=> ?_)
   ·show(w.alloc (.stringIter s 0)).heap[(X1L g w γ).blk γ]? =some (.stringIter s 0)
    simp only[X1L,Gh.put,if_true]
    exact heap_alloc_new w _
   ·have hk:(g.put γ w.heap.size undef).blk γ=k:=hk
    simp only[Gh.put,if_true] at hk;omega) hg ⟨⟨hx,trivial⟩,⟨hdead,trivial⟩,⟨hf,trivial⟩,hd⟩ h
theorem XmP {x:Operand}{γ p:Nat}{s:ByteArray} (hx:S.ev x= .ptr γ 0) (hL:S.obj γ= .iter s p) (hlt:p<s.size)
  (hd:Nat.blt d S.n=true) (hg:XR ops S gd)
  (h:Walk P ops draw K rest ((l.length,⟨some d,.next x true,ty,pos,aft,gd⟩,⟨XQ ops gd++[(x,.ptr γ 0)],some (d,.tup [ab true,ai p,.d (.v (.int .i32 (Utf8.decode s p).1))]),[(γ,.iter s p)],[(γ,.iter s (p+(Utf8.decode s p).2))],[]⟩)::l)
   ((S.set d (.tup [ab true,ai p,.d (.v (.int .i32 (Utf8.decode s p).1))])).own γ (.iter s (p+(Utf8.decode s p).2)))):
  Walk P ops draw K (⟨some d,.next x true,ty,pos,aft,gd⟩::rest) l S:=by
 refine Yh ⟨[(x,.ptr γ 0)],some (d,.tup [ab true,ai p,.d (.v (.int .i32 (Utf8.decode s p).1))]),[(γ,.iter s p)],[(γ,.iter s (p+(Utf8.decode s p).2))],[]⟩ (X1c rfl fun E S g a w hs hq hl hn=> ?_) hg ⟨⟨hx,trivial⟩,⟨hL,trivial⟩,trivial,hd⟩ h
 have ho:=hs.1.obj γ
 rw[hl.1] at ho
 have ho:w.heap[g.blk γ]? =some (.stringIter s p):=ho
 have hb:=(Array.getElem?_eq_some_iff.1 ho).1
 have hv:=hq.1
 simp only[AVal.sat] at hv
 refine⟨.tuple #[.bool true,goInt p,.int .i32 (Utf8.decode s p).1],g,{w with heap:=w.heap.set! (g.blk γ) (.stringIter s (p+(Utf8.decode s p).2))},?_,?_,?_,hs.2.2.2⟩
 ·simp only[execOp,hv,Instr.next,getObj,setObj,Sem.run_bind,Sem.run,ho,Result.andThen,hlt,if_true]
  simp[goInt,ho,hlt]
 ·simp only[AVal.sat]
  refine⟨_,rfl,?_⟩
  simp[XB,AVal.sat,D.rep,goInt,Value.oneCell']
 ·refine Inv.upd hs.1 γ _ (Yq _ _ _ _) (fun k hk=>Y9 _ _ _ (Ne.symm hk)) (fun b hb2 hnl=> ?_) (by simp) rfl rfl rfl (fun _ _=>⟨rfl,rfl,rfl⟩) (fun _ _ _ _ _ h=>h) ?_ (fun b hb2=> .inl ?_) (fun _=>Gh.keeps_refl _ _)
  ·have hne:g.blk γ≠b:=fun e=>hnl (by rw[hl.1];exact e)
   simp[Array.set!,Array.getElem?_setIfInBounds,hne]
  ·show(w.heap.set! (g.blk γ) _)[g.blk γ]? =_
   simp[Array.set!,Array.getElem?_setIfInBounds,hb]
  ·rw[hl.1];exact hb2
theorem Xjr {x:Operand}{γ p:Nat}{s:ByteArray} (hx:S.ev x= .ptr γ 0) (hL:S.obj γ= .iter s p) (hge:s.size≤p)
  (hd:Nat.blt d S.n=true) (hg:XR ops S gd)
  (h:Walk P ops draw K rest ((l.length,⟨some d,.next x true,ty,pos,aft,gd⟩,⟨XQ ops gd++[(x,.ptr γ 0)],some (d,.tup [ab false]),[(γ,.iter s p)],[],[]⟩)::l) (S.set d (.tup [ab false]))):
  Walk P ops draw K (⟨some d,.next x true,ty,pos,aft,gd⟩::rest) l S:=by
 refine Yh ⟨[(x,.ptr γ 0)],some (d,.tup [ab false]),[(γ,.iter s p)],[],[]⟩ (U6 rfl fun E S g a w hs hq hl=> ?_) hg ⟨⟨hx,trivial⟩,⟨hL,trivial⟩,trivial,hd⟩ h
 have ho:=hs.1.obj γ
 rw[hl.1] at ho
 have ho:w.heap[g.blk γ]? =some (.stringIter s p):=ho
 have hv:=hq.1
 simp only[AVal.sat] at hv
 refine⟨.tuple #[.bool false],?_,?_⟩
 ·simp only[execOp,hv,Instr.next,getObj,Sem.run_bind,Sem.run,ho,Result.andThen,show ¬p<s.size by omega,if_false]
  simp[ho,show ¬p<s.size by omega]
 ·simp only[AVal.sat]
  refine⟨_,rfl,?_⟩
  simp[XB,AVal.sat,D.rep,Value.oneCell']
end
section
variable {P:Program}{ops:Array Oper}{draw:Bool}{K:Y4→St→Prop}{rest:List Oper}{l:Y4}{S:St}
variable {d:Nat}{ty:TypeId}{pos:String}{aft:Array Edge}{gd:Option (Nat×Bool)}
theorem XpO {b:List UInt8}{k:Nat}{c:UInt8} (h:b[k]? =some c):(Xb b)[k]? =some c:=by
 have hlt:k<(Xb b).size:=(List.getElem?_eq_some_iff.1 h).1
 rw[getElem?_pos (Xb b) k hlt]
 exact congrArg some (List.getElem?_eq_some_iff.1 h).2
theorem XmA {t:TypeId}{x i:Operand}{k:Nat}{kd:IntKind}{m:Int}{b:List UInt8}{c:UInt8} (hx:S.ev x=aZ (Xb b)) (hi:S.ev i= .d (.v (.int kd m))) (hk:m=(k:Nat)) (hc:b[k]? =some c)
  (ht:X6E P t=true) (hd:Nat.blt d S.n=true) (hg:XR ops S gd)
  (h:Walk P ops draw K rest ((l.length,⟨some d,.index t x i,ty,pos,aft,gd⟩,⟨XQ ops gd++[(x,aZ (Xb b)),(i,.d (.v (.int kd m)))],some (d,.d (.v (.int .u8 c.toNat))),[],[],[]⟩)::l) (S.set d (.d (.v (.int .u8 c.toNat))))):
  Walk P ops draw K (⟨some d,.index t x i,ty,pos,aft,gd⟩::rest) l S:=
 Yh ⟨[(x,aZ (Xb b)),(i,.d (.v (.int kd m)))],some (d,.d (.v (.int .u8 c.toNat))),[],[],[]⟩ (U6 rfl fun E S g a w hs hq hl=>by
  refine⟨.int .u8 c.toNat,?_,VB rfl⟩
  subst hk
  have h0:(0:Int)≤(k:Int):=by omega
  have hu:=run_underlying (P:=P) (w:=w) (Xaj ht)
  simp only[execOp,Instr.index,Uc hq.1,Uc hq.2.1,asIntOf,Sem.run_bind,Sem.run_pure,Result.andThen_ok,hu,if_pos h0,Int.toNat_natCast,XpO hc]) hg ⟨⟨hx,hi,trivial⟩,trivial,trivial,hd⟩ h
end
theorem Con.adopt {P:Program}{f:FuncId}{sz:Nat}{args:List AVal}{Lo:List (Nat×AObj)}{res:AVal} (h:Con P f [(0,.row sz [])] (.own 0 0::args) Lo res) (hm:Vs 0 args=false):Con P f [] (ani::args) Lo res:=by
 intro g w vs hi hs
 let g1:Gh:={blk:=g.blk,hd:=fun k=>if k=0 then .slice none 0 0 else g.hd k,ihd:=g.ihd,M:=g.M}
 have hd0:g1.hd 0= .slice none 0 0:=rfl
 have hno:∀γ b,¬XM g1 (Xo .dead [(0,AObj.row sz [])] γ) γ b:=by
  intro γ b hl
  by_cases hγ:γ=0
  ·subst hγ
   rw[Yq] at hl
   obtain⟨a,n,c,e,_⟩:=hl
   rw[hd0] at e;simp at e
  ·rw[Y9 _ _ _ (Ne.symm hγ)] at hl
   exact hl
 have hno0:∀γ b,¬XM g (Xo .dead ([]:List (Nat×AObj)) γ) γ b:=fun γ b hl=>hl
 have hi1:Inv (V5 g1 w [(0,.row sz [])]) (Xo .dead [(0,.row sz [])]) g1 w:=by
  refine⟨fun γ=> ?_,fun γ γ' b hl=>absurd hl (hno γ b),hi.mem,fun γ b hl=>absurd hl (hno γ b),fun γ b hl=>absurd hl (hno γ b),Yj.refl _,fun a v hv=> .inl ⟨v,hv⟩,fun _ _ _=>rfl,Nat.le_refl _,rfl,rfl,fun γ _=>Gh.keeps_refl _ _⟩
  by_cases hγ:γ=0
  ·subst hγ
   rw[Yq]
   exact⟨by simp,.inl ⟨rfl,rfl⟩⟩
  ·rw[Y9 _ _ _ (Ne.symm hγ)]
   trivial
 match vs,hs with
 |[],hs=>simp only[XB] at hs
 |v::vs,hs=>
  simp only[XB] at hs
  have hv:=Uc hs.1
  have hs1:XB g1 (.own 0 0::args) (v::vs):=by
   simp only[XB]
   refine⟨?_,X0r (g:=g) (g':=g1) (Yj.refl _) args vs (fun γ hγ=> ?_) hs.2⟩
   ·simp only[AVal.sat]
    rw[hv]
    exact⟨rfl,none,0,0,rfl,Nat.le_refl _,fun _=>rfl⟩
   ·have hne:γ≠0:=fun e=>by rw[e,hm] at hγ;simp at hγ
    exact Gh.keeps_of rfl (if_neg hne) rfl
  refine(h g1 w (v::vs) hi1 hs1).mono ?_
  rintro e w' ⟨r,g',h1,h2,h3,_⟩
  refine⟨r,g',h1,h2,⟨h3.obj,h3.inj,h3.mem,h3.sep,fun γ b hl=> ?_,h3.ext,fun a v hv=> ?_,fun b hb hA=> ?_,h3.size,h3.os,h3.out,fun γ _=>Gh.keeps_refl _ _⟩,fun γ hγ=>by simp[XS] at hγ⟩
  ·rcases h3.new γ b hl with h4|⟨γ',h4⟩
   ·exact .inl h4
   ·exact absurd h4 (hno γ' b)
  ·rcases h3.lim a v hv with h4|h4|⟨γ',h4⟩
   ·exact .inl h4
   ·exact .inr (.inl h4)
   ·exact absurd h4 (hno γ' _)
  ·exact h3.frame b hb fun⟨γ',h4⟩=>hno γ' _ h4
end Go.Fw
