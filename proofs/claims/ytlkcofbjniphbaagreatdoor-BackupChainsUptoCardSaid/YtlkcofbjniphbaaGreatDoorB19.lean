/- Values put. -/
import Derived.Test.YtlkcofbjniphbaaGreatDoorB18
set_option maxHeartbeats 8000000
namespace Go.Fw
open Go Go.Proofs
set_option maxRecDepth 100000
set_option linter.unusedVariables false
set_option linter.unusedSimpArgs false
theorem X7Z {l:List Val}{i:Nat}{x:Val} (h:l[i]? =some x):YF (l.take (i+1))=YF (l.take i)++Y3 x:=by
 induction l generalizing i with
 |nil=>simp at h
 |cons y l ih=>
  cases i with
  |zero=>simp at h;subst h;simp[YF]
  |succ i=>simp only[List.take_succ_cons,YF];rw[ih (by simpa using h),List.append_assoc]
theorem X7P (l:List Val) (i:Nat):(YF (l.take i)).length≤(YF l).length:=by
 induction l generalizing i with
 |nil=>simp
 |cons y l ih=>
  cases i with
  |zero=>simp[YF]
  |succ i=>simp only[List.take_succ_cons,YF,List.length_append];have:=ih i;omega
def Xce (v:Val):Prop:=∀r:List UInt8,r.length+(Y3 v).length≤140737488355328→
 Con Tryz.prog 157 [(0,.row 1 (r.map Xc))] [.own 0 r.length,Xv v] [(0,.row 1 ((r++Y3 v).map Xc))] (.own 0 (r++Y3 v).length)
theorem Xpy (v:Val) (hv:Xe 8 v=true) (ih:∀x∈v.l,Xce x):Xce v:=by
 obtain⟨k,n,d,s,l⟩:=v
 intro r hr
 have hlen:=X0l l
 simp only[Val.l] at ih
 refine Xg (xs:=[.own 0 (r++Y3 (.mk k n d s l)).length]) Tryz.func157 rfl Tryz.ntmps157 rfl rfl rfl (fun E=> ?_)
 rw[Xe] at hv
 have hbig:∀(x:Int),-1000000000000000≤x∧x≤1000000000000000→ -9223372036854775808≤x∧x≤9223372036854775807:=fun x h=>by omega
 by_cases hk0:k=0
 ·subst hk0
  have hput:Y3 (.mk 0 n d s l)=[UInt8.ofNat 0]:=by rw[Y3];simp
  rw[hput] at hr ⊢
  simp only[List.length_append,List.length_cons,List.length_nil] at hr
  refine Xj ?_;refine Z0 (u:=nj 0) (r:=n8 0) ?_ (hr:=by exact U8 rfl rfl);refine Qwc ?_;refine Qg ?_;refine Qna ?_;refine Qka ?_;refine Qia ?_
  refine X1 ⟨_,Xw 4 (y:= .own 0 (r++UInt8.ofNat 0::[]).length) (AVal.le_of_eq ?_),⟨rfl,trivial⟩,Xn ⟨?_,trivial⟩⟩
  ·refine Qid ?_
   congr 1
   simp only[List.length_append,List.length_map,List.length_cons,List.length_nil]<;>omega
  ·refine Qjd ?_
   simp only[List.map_append,List.map_cons,List.map_nil,List.append_assoc,List.cons_append,List.nil_append];rfl
 by_cases hk1:k=1
 ·subst hk1
  have hput:Y3 (.mk 1 n d s l)=UInt8.ofNat 1::YK n:=by rw[Y3];simp
  have hn: -9223372036854775808≤n∧n≤9223372036854775807:=by simp at hv;omega
  have hpi:=X4h n hn
  rw[hput] at hr ⊢
  generalize YK n=q at*
  simp only[List.length_append,List.length_cons,List.length_nil] at hr
  refine Xj ?_;refine Qkd ?_;refine XD ?_;refine Qea ?_;refine Qld ?_
  refine X1 ⟨_,Xw 4 (y:= .own 0 (r++UInt8.ofNat 1::q).length) (AVal.le_of_eq ?_),⟨rfl,trivial⟩,Xn ⟨?_,trivial⟩⟩
  ·refine Qid ?_
   congr 1
   simp only[List.length_append,List.length_map,List.length_cons,List.length_nil]<;>omega
  ·refine Qmd ?_
   simp only[List.map_append,List.map_cons,List.map_nil,List.append_assoc,List.cons_append,List.nil_append];rfl
 by_cases hk2:k=2
 ·subst hk2
  have hput:Y3 (.mk 2 n d s l)=UInt8.ofNat 2::YK n:=by rw[Y3];simp
  have hn: -9223372036854775808≤n∧n≤9223372036854775807:=by simp at hv;omega
  have hpi:=X4h n hn
  rw[hput] at hr ⊢
  generalize YK n=q at*
  simp only[List.length_append,List.length_cons,List.length_nil] at hr
  refine Xj ?_;refine Qnd ?_;refine Qha ?_;refine Qea ?_;refine Qld ?_
  refine X1 ⟨_,Xw 4 (y:= .own 0 (r++UInt8.ofNat 2::q).length) (AVal.le_of_eq ?_),⟨rfl,trivial⟩,Xn ⟨?_,trivial⟩⟩
  ·refine Qid ?_
   congr 1
   simp only[List.length_append,List.length_map,List.length_cons,List.length_nil]<;>omega
  ·refine Qmd ?_
   simp only[List.map_append,List.map_cons,List.map_nil,List.append_assoc,List.cons_append,List.nil_append];rfl
 by_cases hk3:k=3
 ·subst hk3
  have hput:Y3 (.mk 3 n d s l)=UInt8.ofNat 3::(YK n++YK d):=by rw[Y3];simp
  have hnd:(-9223372036854775808≤n∧n≤9223372036854775807)∧ -9223372036854775808≤d∧d≤9223372036854775807:=by simp[X0z] at hv;omega
  have hpi:=X4h n hnd.1
  have hpd:=X4h d hnd.2
  rw[hput] at hr ⊢
  generalize YK n=q at*
  generalize YK d=q2 at*
  simp only[List.length_append,List.length_cons,List.length_nil] at hr
  refine Xj ?_;refine Qod ?_;refine Qwc ?_;refine Qg ?_;refine Qpd ?_;refine Z3 (hcon:=hpi) ?_;refine W3_ ?_;refine Z3 (hcon:=hpd) ?_;refine W3_ ?_
  refine X1 ⟨_,Xw 4 (y:= .own 0 (r++UInt8.ofNat 3::(q++q2)).length) (AVal.le_of_eq ?_),⟨rfl,trivial⟩,Xn ⟨?_,trivial⟩⟩
  ·refine Qid ?_
   congr 1
   simp only[List.length_append,List.length_map,List.length_cons,List.length_nil]<;>omega
  ·refine Eq.trans (b:=AObj.row 1 (_++_++_++_)) rfl ?_
   simp only[List.map_append,List.map_cons,List.map_nil,List.append_assoc,List.cons_append,List.nil_append];rfl
 by_cases hk4:k=4
 ·subst hk4
  have hput:Y3 (.mk 4 n d s l)=UInt8.ofNat 4::XX s:=by rw[Y3];simp
  have hs:s.length≤65536:=by simp at hv;omega
  have hpi:=X2M s hs
  rw[hput] at hr ⊢
  generalize XX s=q at*
  simp only[List.length_append,List.length_cons,List.length_nil] at hr
  refine Xj ?_;refine Qqd ?_;refine Qwc ?_;refine Qg ?_;refine Qna ?_;refine Qld ?_
  refine X1 ⟨_,Xw 4 (y:= .own 0 (r++UInt8.ofNat 4::q).length) (AVal.le_of_eq ?_),⟨rfl,trivial⟩,Xn ⟨?_,trivial⟩⟩
  ·refine Qid ?_
   congr 1
   simp only[List.length_append,List.length_map,List.length_cons,List.length_nil]<;>omega
  ·refine Qmd ?_
   simp only[List.map_append,List.map_cons,List.map_nil,List.append_assoc,List.cons_append,List.nil_append];rfl
 by_cases hk5:k=5
 ·subst hk5
  have hput:Y3 (.mk 5 n d s l)=UInt8.ofNat 5::YK n:=by rw[Y3];simp
  have hn: -9223372036854775808≤n∧n≤9223372036854775807:=by simp at hv;omega
  have hpi:=X4h n hn
  rw[hput] at hr ⊢
  generalize YK n=q at*
  simp only[List.length_append,List.length_cons,List.length_nil] at hr
  refine Xj ?_;refine Qrd ?_;refine Qwc ?_;refine Qea ?_;refine Qld ?_
  refine X1 ⟨_,Xw 4 (y:= .own 0 (r++UInt8.ofNat 5::q).length) (AVal.le_of_eq ?_),⟨rfl,trivial⟩,Xn ⟨?_,trivial⟩⟩
  ·refine Qid ?_
   congr 1
   simp only[List.length_append,List.length_map,List.length_cons,List.length_nil]<;>omega
  ·refine Qmd ?_
   simp only[List.map_append,List.map_cons,List.map_nil,List.append_assoc,List.cons_append,List.nil_append];rfl
 by_cases hk6:k=6
 ·subst hk6
  have hput:Y3 (.mk 6 n d s l)=UInt8.ofNat 6::YK n:=by rw[Y3];simp
  have hn: -9223372036854775808≤n∧n≤9223372036854775807:=by simp at hv;omega
  have hpi:=X4h n hn
  rw[hput] at hr ⊢
  generalize YK n=q at*
  simp only[List.length_append,List.length_cons,List.length_nil] at hr
  refine Xj ?_;refine Qsd ?_;refine Qwc ?_;refine Qg ?_;refine Qld ?_
  refine X1 ⟨_,Xw 4 (y:= .own 0 (r++UInt8.ofNat 6::q).length) (AVal.le_of_eq ?_),⟨rfl,trivial⟩,Xn ⟨?_,trivial⟩⟩
  ·refine Qid ?_
   congr 1
   simp only[List.length_append,List.length_map,List.length_cons,List.length_nil]<;>omega
  ·refine Qmd ?_
   simp only[List.map_append,List.map_cons,List.map_nil,List.append_assoc,List.cons_append,List.nil_append];rfl
 by_cases hk7:k=7
 ·subst hk7
  have hput:Y3 (.mk 7 n d s l)=UInt8.ofNat 7::(Xm l.length++YF l):=by rw[Y3];simp
  have hll:l.length≤64:=by simp at hv;omega
  have hpu:=X3H (XU l).length (by omega)
  rw[←hlen] at hput
  rw[hput] at hr ⊢
  generalize Xm ((XU l).length:Int)=q at*
  simp only[List.length_append,List.length_cons,List.length_nil] at hr
  refine Xj ?_;refine Qtd ?_;refine Qwc ?_;refine Qg ?_;refine Qna ?_;refine Qka ?_;refine Qb ?_;refine Z3 (hcon:=hpu) ?_;refine Xi ?_
  generalize hbase:r++UInt8.ofNat 7::q=base at*
  have hbl:base.length=r.length+q.length+1:=by rw[←hbase];simp;omega
  have hgoal:r++UInt8.ofNat 7::(q++YF l)=base++YF l:=by rw[←hbase];simp
  rw[hgoal]
  refine XK (fun i:Nat=>i≤l.length) (fun i=>⟨64,[(0,.own 0 (base++YF (l.take i)).length),(53,.d (.sl 5 (XU l))),(54,ai l.length),(55,ai i)],[(0,.row 1 ((base++YF (l.take i)).map Xc))]⟩) (fun i=>l.length-i) 0 (by omega)
   (Xd rfl ⟨(by refine AVal.le_of_eq ?_;refine Eq.trans (b:=AVal.own 0 (_+_)) rfl ?_;congr 1;simp only[List.take_zero,YF,List.append_nil,hbl,List.length_append,List.length_map,List.length_cons,List.length_nil]<;>omega),JL,(by refine AVal.le_of_eq ?_;refine Eq.trans (b:=ai ((XU l).length:Nat)) rfl ?_;rw[hlen]),JL,trivial⟩ ⟨?_,trivial⟩) ?_
  ·refine Qmd ?_
   simp only[List.take_zero,YF,List.append_nil,←hbase,List.map_append,List.map_cons,List.append_assoc,List.cons_append,List.nil_append];rfl
  intro i hi
  by_cases hlt:i<l.length
  ·obtain⟨x,hx⟩:=XI (l:=l) hlt
   have hgx:=X3O hx
   have htk:=X7Z hx
   have hle:=X7P l (i+1)
   have hpx:=ih x (List.mem_of_getElem? hx) (base++YF (l.take i)) (by rw[htk] at hle;simp only[List.length_append] at hle ⊢;omega)
   rw[List.append_assoc,←htk] at hpx
   obtain⟨k',n',d',s',q'⟩:=x
   simp only[Xv] at hpx
   rw[U3] at hgx
   refine Ql ?_;refine Z3 (hcon:=hpx) ?_;refine W6_ ?_;exact⟨i+1,by omega,by omega,Xd rfl ⟨JL,JL,JL,JL,trivial⟩ ⟨rfl,trivial⟩⟩
  obtain rfl:i=l.length:=by omega
  rw[List.take_length]
  exact Qud
 by_cases hk8:k=8
 ·subst hk8
  have hput:Y3 (.mk 8 n d s l)=UInt8.ofNat 8::(Xm l.length++YF l):=by rw[Y3];simp
  have hll:l.length≤64:=by simp at hv;omega
  have hpu:=X3H (XU l).length (by omega)
  rw[←hlen] at hput
  rw[hput] at hr ⊢
  generalize Xm ((XU l).length:Int)=q at*
  simp only[List.length_append,List.length_cons,List.length_nil] at hr
  refine Xj ?_;refine Qvd ?_;refine Qwc ?_;refine Qg ?_;refine Qna ?_;refine Qja ?_;refine Qb ?_;refine Z3 (hcon:=hpu) ?_;refine Xi ?_
  generalize hbase:r++UInt8.ofNat 8::q=base at*
  have hbl:base.length=r.length+q.length+1:=by rw[←hbase];simp;omega
  have hgoal:r++UInt8.ofNat 8::(q++YF l)=base++YF l:=by rw[←hbase];simp
  rw[hgoal]
  refine XK (fun i:Nat=>i≤l.length) (fun i=>⟨64,[(0,.own 0 (base++YF (l.take i)).length),(53,.d (.sl 5 (XU l))),(54,ai l.length),(55,ai i)],[(0,.row 1 ((base++YF (l.take i)).map Xc))]⟩) (fun i=>l.length-i) 0 (by omega)
   (Xd rfl ⟨(by refine AVal.le_of_eq ?_;refine Eq.trans (b:=AVal.own 0 (_+_)) rfl ?_;congr 1;simp only[List.take_zero,YF,List.append_nil,hbl,List.length_append,List.length_map,List.length_cons,List.length_nil]<;>omega),JL,(by refine AVal.le_of_eq ?_;refine Eq.trans (b:=ai ((XU l).length:Nat)) rfl ?_;rw[hlen]),JL,trivial⟩ ⟨?_,trivial⟩) ?_
  ·refine Qmd ?_
   simp only[List.take_zero,YF,List.append_nil,←hbase,List.map_append,List.map_cons,List.append_assoc,List.cons_append,List.nil_append];rfl
  intro i hi
  by_cases hlt:i<l.length
  ·obtain⟨x,hx⟩:=XI (l:=l) hlt
   have hgx:=X3O hx
   have htk:=X7Z hx
   have hle:=X7P l (i+1)
   have hpx:=ih x (List.mem_of_getElem? hx) (base++YF (l.take i)) (by rw[htk] at hle;simp only[List.length_append] at hle ⊢;omega)
   rw[List.append_assoc,←htk] at hpx
   obtain⟨k',n',d',s',q'⟩:=x
   simp only[Xv] at hpx
   rw[U3] at hgx
   refine Ql ?_;refine Z3 (hcon:=hpx) ?_;refine W6_ ?_;exact⟨i+1,by omega,by omega,Xd rfl ⟨JL,JL,JL,JL,trivial⟩ ⟨rfl,trivial⟩⟩
  obtain rfl:i=l.length:=by omega
  rw[List.take_length]
  exact Qud
 simp[*] at hv
theorem X9O {m:Nat}:∀{l:List Val}{x:Val},Vy m l=true→x∈l→Xe m x=true
 |[],x,_,h=>by simp at h
 |v::r,x,h,hx=>by
  rw[Vy,Bool.and_eq_true] at h
  rcases List.mem_cons.1 hx with rfl|hx
  ·exact h.1
  ·exact X9O h.2 hx
theorem Xhn:∀{l:List Val}{i:Nat}{x:Val},Vg i l=true→x∈l→Xe 0 x=true
 |[],_,x,_,h=>by simp at h
 |v::r,i,x,h,hx=>by
  rw[Vg,Bool.and_eq_true,Bool.and_eq_true] at h
  rcases List.mem_cons.1 hx with rfl|hx
  ·exact h.1.2
  ·exact Xhn h.2 hx
theorem Xay {m:Nat}{k n d:Int}{s:List UInt8}{l:List Val} (h:Xe m (.mk k n d s l)=true):∀x∈l,Xe m x=true:=by
 intro x hx
 rw[Xe] at h
 by_cases h7:k=7
 ·subst h7
  simp at h
  exact Xa6 x 0 m (by omega) (Xhn h.2.2 hx)
 ·by_cases h8:k=8
  ·subst h8
   simp at h
   exact Xa6 x (m-1) m (by omega) (X9O h.2.2 hx)
  ·have:l=[]:=by
    simp[h7,h8] at h
    exact h.1.2
   subst this;simp at hx
theorem Xev:∀v:Val,Xe 8 v=true→Xce v
 | .mk k n d s l=>fun hv=>Xpy (.mk k n d s l) hv fun x hx=>Xev x (Xay hv x hx)
termination_by v=>SizeOf.sizeOf v
decreasing_by
 have h1:=List.sizeOf_lt_of_mem (show x∈l from hx)
 simp only[Val.mk.sizeOf_spec]
 omega
theorem Xlc (v:Val) (hv:Xe 8 v=true) (hb:(Y3 v).length≤140737488355328):Con Tryz.prog 157 [] [ani,Xv v] [] (.d (Xk (Y3 v))):=by
 have h:=Xev v hv [] (by simpa using hb)
 have h2:=Con.adopt (sz:=1) (args:=[Xv v]) h (by obtain⟨k,n,d,s,l⟩:=v;rfl)
 exact h2.data (by simp)
theorem Xbl (v:Val) (hb:(Y3 v).length≤140737488355328):Con Tryz.prog 100 [] [Xv v] [] (.d (Xk (YN v))):=by
 refine Xg (xs:=[.d (Xk (YN v))]) Tryz.func100 rfl Tryz.ntmps100 rfl rfl rfl (fun E=> ?_)
 have hval:=X1B v
 cases hv:Xe 8 v with
 |false=>
  rw[hv] at hval
  rw[show YN v=[] by unfold YN;rw[hv];rfl]
  obtain⟨k,n,d,s,l⟩:=v
  simp only[Xv] at hval
  refine W9_ ?_;refine Z3 (hcon:=hval) ?_;exact Qwd
 |true=>
  rw[hv] at hval
  rw[show YN v=Y3 v by unfold YN;rw[hv];rfl]
  have hp:=Xlc v hv hb
  obtain⟨k,n,d,s,l⟩:=v
  simp only[Xv] at hval hp
  generalize Y3 (.mk k n d s l)=q at*
  refine W9_ ?_;refine Z3 (hcon:=hval) ?_;exact Qxd
theorem XmD (n:Int):X1l n=0∨X1l n=1∨X1l n= -1:=by
 unfold X1l
 split
 ·exact .inr (.inr rfl)
 ·split
  ·exact .inr (.inl rfl)
  ·exact .inl rfl
theorem XjG (n d:Int):Con Tryz.prog 192 [] [X4T n d,X4T n d] [] (ai 0):=by
 refine Xg (xs:=[ai 0]) Tryz.func192 rfl Tryz.ntmps192 rfl rfl rfl (fun E=> ?_)
 have hv:=Xdw n d
 cases hb:X0z n d with
 |true=>
  rw[hb] at hv
  simp[X0z] at hb
  obtain⟨D,rfl⟩:∃D:Nat,d=D:=⟨d.toNat,by omega⟩
  have hsz:=Xcf n (by omega)
  have hsg:=XdU n
  have hr:=XmD n
  have ht:=XhD n.natAbs D (by omega) (by omega)
  have hsum:=XhW (X1l n) hr (VQ 14 (n.natAbs*D)) (X9l _ _) (Xcw _ _)
  generalize X1l n=s at*
  generalize VQ 14 (n.natAbs*D)=x at*
  generalize X4w s x=y at*
  generalize n.natAbs=N at*
  have hr1: -1≤s∧s≤1:=by omega
  clear hr hb
  refine Xj ?_;refine Qyd ?_;refine Qzd ?_;refine Qyd ?_;refine Qzd ?_;refine Z3 (hcon:=hsg) ?_;refine W2_ ?_;refine QAd ?_;refine W2_ ?_;refine Z3 (hcon:=hsg) ?_;refine W3_ ?_;refine QAd ?_;refine Z3 (hcon:=hsum) ?_;refine Xi ?_;exact Qp
 |false=>
  rw[hb] at hv
  clear hb
  have hsz:Con Tryz.prog 233 [] [ai 0] [] (ai 0):=Xcf 0 (by omega)
  have hsg:Con Tryz.prog 231 [] [ai 0] [] (ai 0):=XdU 0
  have ht:Con Tryz.prog 232 [] [ai 0,ai 1] [] (.d (X01 (VQ 14 (0*1)))):=XhD 0 1 (by omega) (by omega)
  have hsum:Con Tryz.prog 230 [] [ai 0,.d (X01 (VQ 14 (0*1))),ai 0,.d (X01 (VQ 14 (0*1)))] [] (.tup [ai 0,.d (X01 (X4w 0 (VQ 14 (0*1))))]):=XhW 0 (.inl rfl) (VQ 14 (0*1)) (X9l _ _) (Xcw _ _)
  generalize VQ 14 (0*1)=x at*
  generalize X4w 0 x=y at*
  refine QBd ?_;refine QCd ?_;refine Qyd ?_;refine W2_ ?_;refine QCd ?_;refine Z3 (hcon:=hsg) ?_;refine W2_ ?_;refine QAd ?_;refine W2_ ?_;refine Z3 (hcon:=hsg) ?_;refine W3_ ?_;refine QAd ?_;refine Z3 (hcon:=hsum) ?_;refine Xi ?_;exact Qp
theorem X5Q (n:Int):Con Tryz.prog 189 [] [ai n,ai n] [] (ai 0):=by
 refine Xg (xs:=[ai 0]) Tryz.func189 rfl Tryz.ntmps189 rfl rfl rfl (fun E=> ?_)
 have h:¬n<n:=by omega
 refine Xi ?_;refine QWb ?_;exact QV
theorem Xcy:∀s:List UInt8,Op.bytesLess s s=false
 |[]=>rfl
 |b::s=>by simp[Op.bytesLess,Xcy s]
theorem Xjx {t:TypeId}{x y:Operand}{s:List UInt8} (w:World):(do eqGuard .lss t x y (.string (Xb s)) (.string (Xb s));binOp .lss t (.string (Xb s)) (.string (Xb s)):Sem Value).run Tryz.prog w= .ok (.bool false) w:=by
 simp[go_sem,X2Z,Xcy]
theorem Xo7 {t:TypeId}{x y:Operand}{s:List UInt8} (w:World):(do eqGuard .gtr t x y (.string (Xb s)) (.string (Xb s));binOp .gtr t (.string (Xb s)) (.string (Xb s)):Sem Value).run Tryz.prog w= .ok (.bool false) w:=by
 simp[go_sem,binOp,Op.stringOp,X2Z,Xcy]
theorem XnM (s:List UInt8):Con Tryz.prog 227 [] [XH s,XH s] [] (ai 0):=by
 refine Xg (xs:=[ai 0]) Tryz.func227 rfl Tryz.ntmps227 rfl rfl rfl (fun E=> ?_)
 refine W9_ ?_;refine Z2 (op:= .lss) (r':= .bool false) (u:= .string (Xb s)) (v:= .string (Xb s)) ?_ (hr:=by exact Xjx);refine QFc ?_;refine Z2 (op:= .gtr) (r':= .bool false) (u:= .string (Xb s)) (v:= .string (Xb s)) ?_ (hr:=by exact Xo7);refine W1_ ?_;exact QV
def X0P (k:Int):Int:=if k=0 then 0 else if k=1 then 1 else if k=2∨k=3 then 2 else if k=4 then 3 else if k=5 then 4 else if k=6 then 5 else if k=8 then 6 else 7
theorem XaQ (k:Int):Con Tryz.prog 190 [] [ai k] [] (ai (X0P k)):=by
 refine Xg (xs:=[ai (X0P k)]) Tryz.func190 rfl Tryz.ntmps190 rfl rfl rfl (fun E=> ?_)
 by_cases h0:k=0
 ·subst h0
  refine XA ?_;exact QM
 by_cases h1:k=1
 ·subst h1
  refine QDd ?_;exact QM
 by_cases h2:k=2
 ·subst h2
  refine QDd ?_;refine Qja ?_;exact QM
 by_cases h3:k=3
 ·subst h3
  refine QDd ?_;refine Qka ?_;exact QM
 by_cases h4:k=4
 ·subst h4
  refine QDd ?_;refine Qka ?_;refine Qc ?_;exact QM
 by_cases h5:k=5
 ·subst h5
  refine QDd ?_;refine Qka ?_;refine Qna ?_;exact QM
 by_cases h6:k=6
 ·subst h6
  refine QDd ?_;refine Qka ?_;refine Qna ?_;refine Qc ?_;exact QM
 by_cases h8:k=8
 ·subst h8
  refine QDd ?_;refine Qka ?_;refine Qna ?_;refine Qna ?_;exact QM
 rw[show X0P k=7 by simp[X0P, *]]
 refine QDd ?_;refine Qka ?_;refine Qna ?_;refine Qna ?_;exact QV
theorem Xdi {m:Nat}{k n d:Int}{s:List UInt8}{l:List Val} (h:Xe m (.mk k n d s l)=true) (hk:k=0):n=0∧d=0∧s=[]∧l=[]:=by
 subst hk
 rw[Xe] at h
 simp at h
 exact⟨h.2,h.1.1.1,h.1.1.2,h.1.2⟩
theorem Xct {m:Nat}{k n d:Int}{s:List UInt8}{l:List Val} (h:Xe m (.mk k n d s l)=true):0≤k∧k≤8:=by
 refine Classical.byContradiction fun hn=> ?_
 rw[Xe] at h
 rw[if_neg (by omega),if_neg (by omega),if_neg (by omega),if_neg (by omega),if_neg (by omega),if_neg (by omega),if_neg (by omega),if_neg (by omega)] at h
 simp at h
theorem Xmk (f:FuncId):Con Tryz.prog 203 [] [.d (.sl 5 []),.d (.sl 5 []),.fn f []] [] (ai 0):=by
 refine Xg (xs:=[ai 0]) Tryz.func203 rfl Tryz.ntmps203 rfl rfl rfl (fun E=> ?_)
 refine Xt ?_
 refine XK (fun _:Unit=>True) (fun _=>⟨39,[(0,.d (.sl 5 [])),(1,.d (.sl 5 [])),(12,ai 0),(13,ai 0)],[]⟩) (fun _=>0) () trivial
  (Xd rfl ⟨JL,JL,JL,JL,trivial⟩ trivial) ?_
 intro _ _
 refine W5_ ?_;refine QUc ?_;exact QV
theorem Xjm (k n d:Int) (s:List UInt8) (l:List Val) (h:X0d k≠0):Con Tryz.prog 202 [] [Xv (.mk k n d s l),Xv zV] [] (ai (Yv (X0d k) 0)):=by
 refine Xg (xs:=[ai (Yv (X0d k) 0)]) Tryz.func202 rfl Tryz.ntmps202 rfl rfl rfl (fun E=> ?_)
 have c1:=X9N k n d s l
 have c2:=X9N 0 0 0 [] []
 have c3:=X4m (X0d k) 0
 rw[show X0d 0=0 from rfl] at c2
 have hz:Yv (X0d k) 0≠0:=by
  unfold Yv
  split
  ·omega
  ·split
   ·omega
   ·omega
 generalize Yv (X0d k) 0=z at*
 generalize X0d k=c at*
 simp only[Xv,XU] at c1 c2 ⊢
 refine Xj ?_;refine Z3 (hcon:=c1) ?_;refine W1_ ?_;refine Z3 (hcon:=c2) ?_;refine Z3 (hcon:=c3) ?_;refine W7_ ?_;exact QDa
theorem Xng:Con Tryz.prog 202 [] [Xv zV,Xv zV] [] (ai 0):=by
 refine Xg (xs:=[ai 0]) Tryz.func202 rfl Tryz.ntmps202 rfl rfl rfl (fun E=> ?_)
 have c2:=X9N 0 0 0 [] []
 have c3:=X4m 0 0
 have c4:=XkK []
 have c5:=Xmk 202
 have c6:=XfB [0,0,0] (by decide)
 rw[show X0d 0=0 from rfl] at c2
 rw[show Yv 0 0=0 from rfl] at c3
 rw[show orI [0,0,0]=0 from rfl] at c6
 simp only[Xv,XU,List.map_cons,List.map_nil] at c2 c6 ⊢
 refine Xj ?_;refine Z3 (hcon:=c2) ?_;refine W1_ ?_;refine Z3 (hcon:=c2) ?_;refine Z3 (hcon:=c3) ?_;refine W7_ ?_;refine Qc ?_;refine Z3 (hcon:=c2) ?_;refine W2_ ?_;refine Qma ?_;refine Z3 (hcon:=c4) ?_;refine W4_ ?_;refine Z3 (hcon:=c3) ?_;refine W4_ ?_;refine Z3 (hcon:=c5) ?_;refine W1_ ?_;refine Z3 (hcon:=c6) ?_;exact Qq
def X5k (v:Val):Int:=if Xe 8 v=false then 1 else Yv (X0d v.kind) 0
theorem XjN (v:Val):decide (X5k v=0)=Um v:=by
 unfold X5k Um
 cases h:Xe 8 v with
 |false=>simp
 |true=>
  obtain⟨k,n,d,s,l⟩:=v
  have hk:=Xct h
  simp only[Val.kind,Bool.true_and]
  refine decide_eq_decide.2 ?_
  rw[if_neg (by simp)]
  unfold Yv X0d
  constructor
  ·intro h1
   split at h1
   ·omega
   split at h1
   ·split at h1
    ·omega
    ·split at h1<;>omega
   ·split at h1<;>omega
  ·intro h1
   subst h1
   rfl
theorem Xqz (v:Val):Con Tryz.prog 165 [] [Xv v,Xv zV] [] (ai (X5k v)):=by
 refine Xg (xs:=[ai (X5k v)]) Tryz.func165 rfl Tryz.ntmps165 rfl rfl rfl (fun E=> ?_)
 have hv:=X1B v
 have hz:=X1B zV
 rw[show Xe 8 zV=true by rw[Xe];simp] at hz
 unfold X5k
 cases h:Xe 8 v with
 |false=>
  rw[h] at hv
  rw[if_pos rfl]
  obtain⟨k,n,d,s,l⟩:=v
  simp only[Xv,XU] at hv hz ⊢
  refine W9_ ?_;refine Qyd ?_;refine W1_ ?_;refine Z3 (hcon:=hz) ?_;refine W9_ ?_;refine Qu ?_;refine QF ?_;refine Qna ?_;exact QM
 |true=>
  rw[h] at hv
  rw[if_neg (by simp)]
  obtain⟨k,n,d,s,l⟩:=v
  simp only[Val.kind]
  by_cases hk:X0d k=0
  ·have hk0:k=0:=by
    have:=Xct h
    unfold X0d at hk
    split at hk
    ·omega
    ·split at hk<;>omega
   obtain⟨rfl,rfl,rfl,rfl⟩:=Xdi h hk0
   subst hk0
   have ho:=Xng
   rw[show Yv (X0d 0) 0=0 from rfl]
   simp only[Xv,XU] at hv hz ho ⊢
   refine QEd ?_;refine QFd ?_;refine Z3 (hcon:=ho) ?_;exact Qq
  ·have ho:=Xjm k n d s l hk
   generalize Yv (X0d k) 0=z at*
   simp only[Xv,XU] at hv hz ho ⊢
   refine QGd ?_;refine QFd ?_;refine Z3 (hcon:=ho) ?_;exact Qq
theorem X9G (v:Val):Con Tryz.prog 114 [] [Xv v] [] (ab (Um v)):=by
 refine Xg (xs:=[ab (Um v)]) Tryz.func114 rfl Tryz.ntmps114 rfl rfl rfl (fun E=> ?_)
 have ho:=Xqz v
 rw[←XjN v]
 generalize X5k v=z at*
 obtain⟨k,n,d,s,l⟩:=v
 simp only[Xv,XU] at ho ⊢
 refine W9_ ?_;refine Z3 (hcon:=ho) ?_;exact QHd
def Xd0 (b:Bool) (k n d:Int):Int×Int×Bool:=if b=false then (0,0,false) else if k=2 then (n,1,true) else if k=3 then (n,d,true) else (0,0,false)
def X2B (v:Val):Int×Int×Bool:=Xd0 (Xe 8 v) v.kind v.n v.d
theorem XlL (v:Val) (hok:Yp v):Con Tryz.prog 191 [] [Xv v] [] (.tup [X4T (X2B v).1 (X2B v).2.1,ab (X2B v).2.2]):=by
 have hv:=X4A v hok
 refine Xg (xs:=[X4T (X2B v).1 (X2B v).2.1,ab (X2B v).2.2]) Tryz.func191 rfl Tryz.ntmps191 rfl rfl rfl (fun E=> ?_)
 unfold X2B
 generalize Xe 8 v=bb at*
 obtain⟨k,n,d,s,l⟩:=v
 simp only[Xv,Val.kind,Val.n,Val.d] at hv ⊢
 unfold Xd0
 cases bb with
 |false=>
  rw[if_pos rfl]
  refine QBd ?_;refine Qb ?_;exact QId
 |true=>
  rw[if_neg (by simp)]
  by_cases h2:k=2
  ·rw[if_pos h2]
   refine QBd ?_;refine JF ?_;refine Qi ?_;refine W8_ ?_;exact QId
  rw[if_neg h2]
  by_cases h3:k=3
  ·rw[if_pos h3]
   refine QBd ?_;refine QWb ?_;refine JF ?_;refine QUb ?_;exact QId
  rw[if_neg h3]
  refine QBd ?_;refine QWb ?_;refine QWb ?_;refine Qma ?_;exact QId
def X4S (v:Val):Prop:=Con Tryz.prog 135 [] [Xv v,Xv v] [] (ai 0)
theorem Xlx (l:List Val) (hl:l.length≤9223372036854775807) (ih:∀x∈l,X4S x):Con Tryz.prog 228 [] [.d (.sl 5 (XU l)),.d (.sl 5 (XU l))] [] (ai 0):=by
 refine Xg (xs:=[ai 0]) Tryz.func228 rfl Tryz.ntmps228 rfl rfl rfl (fun E=> ?_)
 have hlen:=X0l l
 have hi:=X5Q (XU l).length
 refine Xj ?_
 refine XK (fun i:Nat=>i≤l.length) (fun i=>⟨36,[(0,.d (.sl 5 (XU l))),(1,.d (.sl 5 (XU l))),(5,ai i)],[]⟩) (fun i=>l.length-i) 0 (by omega)
  (Xd rfl ⟨JL,JL,JL,trivial⟩ trivial) ?_
 intro i hi2
 by_cases hil:i<l.length
 case neg=>
  have hn:¬(i:Int)<(XU l).length:=by omega
  refine W8_ ?_;refine QL ?_;refine QXb ?_;refine Z3 (hcon:=hi) ?_;exact Qq
 obtain⟨x,hx⟩:=XI (l:=l) hil
 have hxc:(XU l)[i]? =some (U3 x):=by rw[X3T];exact Y5 hx
 have hc:=ih x (List.mem_of_getElem? hx)
 unfold X4S at hc
 have hn:(i:Int)<(XU l).length:=by omega
 obtain⟨k,n,d,s,q⟩:=x
 simp only[Xv,U3] at hc hxc
 refine Xt ?_;refine QKc ?_;refine Xr ?_;refine QKd ?_;refine Qia ?_;exact⟨i+1,by omega,by omega,Xd rfl ⟨JL,JL,JL,trivial⟩ trivial⟩
theorem Xo5 (v:Val) (hl:v.l.length≤9223372036854775807) (ih:∀x∈v.l,X4S x):Con Tryz.prog 188 [] [Xv v,Xv v] [] (ai 0):=by
 obtain⟨k,n,d,s,l⟩:=v
 simp only[Val.l] at hl ih
 have hl:=Xlx l hl ih
 have hk:=X5Q k
 have hn:=X5Q n
 have hd:=X5Q d
 have hs:=XnM s
 refine Xg (xs:=[ai 0]) Tryz.func188 rfl Tryz.ntmps188 rfl rfl rfl (fun E=> ?_)
 simp only[Xv]
 refine Xr ?_;refine Z3 (hcon:=hk) ?_;refine W7_ ?_;refine QWb ?_;refine QLd ?_;refine W7_ ?_;refine QWb ?_;refine Z3 (hcon:=hd) ?_;refine W7_ ?_;refine QWb ?_;refine QMd ?_;refine W7_ ?_;refine Qma ?_;refine QR ?_;exact Qq
theorem Xqm (v:Val) (hok:Yp v) (hf:Con Tryz.prog 188 [] [Xv v,Xv v] [] (ai 0)):X4S v:=by
 have hv:=X4A v hok
 have hn:=XlL v hok
 have hcl:=XaQ v.kind
 have hi:=X5Q (X0P v.kind)
 have hcmp:=XjG (X2B v).1 (X2B v).2.1
 refine Xg (xs:=[ai 0]) Tryz.func135 rfl Tryz.ntmps135 rfl rfl rfl (fun E=> ?_)
 generalize X2B v=u at*
 generalize Xe 8 v=bb at*
 obtain⟨k,n,d,s,l⟩:=v
 obtain⟨p,q,is⟩:=u
 simp only[Xv,Val.kind] at hv hn hcl hi hcmp hf ⊢
 generalize X0P k=c at*
 cases bb with
 |false=>
  refine QEd ?_;refine Qma ?_;refine Qe ?_;refine QNd ?_;exact Qq
 |true=>
  cases is with
  |true=>
   refine QEd ?_;refine Qma ?_;refine Qia ?_;refine Z3 (hcon:=hcl) ?_;refine W2_ ?_;refine Z3 (hcon:=hcl) ?_;refine Z3 (hcon:=hi) ?_;refine W7_ ?_;refine Qg ?_;refine QLd ?_;refine Xj ?_;refine QLd ?_;refine Xt ?_;refine Qe ?_;refine Z3 (hcon:=hcmp) ?_;exact Qq
  |false=>
   refine QEd ?_;refine Qma ?_;refine Qia ?_;refine Z3 (hcon:=hcl) ?_;refine W2_ ?_;refine Z3 (hcon:=hcl) ?_;refine Z3 (hcon:=hi) ?_;refine W7_ ?_;refine Qg ?_;refine QLd ?_;refine Xj ?_;refine QLd ?_;refine Xt ?_;refine Qc ?_;refine QNd ?_;exact Qq
theorem X9x:∀v:Val,Yp v→X4S v
 | .mk k n d s l=>fun hok=>Xqm (.mk k n d s l) hok (Xo5 (.mk k n d s l) (by rw[Yp] at hok;exact hok.2.1) fun x hx=>X9x x (X3Z (by rw[Yp] at hok;exact hok.2.2) hx))
termination_by v=>SizeOf.sizeOf v
decreasing_by
 have h1:=List.sizeOf_lt_of_mem (show x∈l from hx)
 simp only[Val.mk.sizeOf_spec]
 omega
theorem XeM (v:Val):Con Tryz.prog 115 [] [Xv v] [] (ab (U5 v)):=by
 refine Xg (xs:=[ab (U5 v)]) Tryz.func115 rfl Tryz.ntmps115 rfl rfl rfl (fun E=> ?_)
 have hv:=X1B v
 unfold U5
 generalize Xe 8 v=b at*
 obtain⟨k,n,d,s,l⟩:=v
 simp only[Xv,Val.kind] at hv ⊢
 unfold X5U
 by_cases h1:k=1
 ·rw[decide_eq_true (by omega),Bool.true_and]
  cases b with
  |true=>
   refine Xi ?_;refine QK ?_;refine QOd ?_;exact QB
  |false=>
   refine Xi ?_;refine QK ?_;refine QOd ?_;exact QPd
 by_cases h2:k=2
 ·rw[decide_eq_true (by omega),Bool.true_and]
  cases b with
  |true=>
   refine XC ?_;refine QP ?_;refine QOd ?_;exact QB
  |false=>
   refine XC ?_;refine QP ?_;refine QOd ?_;exact QPd
 by_cases h4:k=4
 ·rw[decide_eq_true (by omega),Bool.true_and]
  cases b with
  |true=>
   refine XC ?_;refine QQd ?_;refine QF ?_;refine Qyd ?_;exact QB
  |false=>
   refine XC ?_;refine QQd ?_;refine QF ?_;refine Qyd ?_;exact QPd
 rw[decide_eq_false (by omega),Bool.false_and]
 refine XC ?_;refine QQd ?_;refine Qdc ?_;exact QH
end Go.Fw
