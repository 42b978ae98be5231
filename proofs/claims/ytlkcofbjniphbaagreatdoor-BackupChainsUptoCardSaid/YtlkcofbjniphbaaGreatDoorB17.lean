/- The reference's Valid, second part. -/
import Derived.Test.YtlkcofbjniphbaaGreatDoorB16
set_option maxHeartbeats 8000000
namespace Go.Fw
open Go Go.Proofs
set_option maxRecDepth 100000
set_option linter.unusedVariables false
set_option linter.unusedSimpArgs false
theorem Xrd (v:Val) (hok:Yp v) (ih:∀x∈v.l,X5S x):X5S v:=by
 obtain⟨k,n,d,s,l⟩:=v
 intro m hm
 rw[Yp] at hok
 simp only[Val.l] at ih
 refine Xg (xs:=[ab (Xe m (.mk k n d s l))]) Tryz.func194 rfl Tryz.ntmps194 rfl rfl rfl (fun E=> ?_)
 have hlen:=X0l l
 by_cases hk0:k=0
 ·subst hk0
  have hb:=Xrt 0 n d s l
  by_cases hn0:n=0
  case neg=>
   rw[show (decide (n=0)&&decide (d=0)&&decide (s=[])&&decide (l.length=0))=false by simp[*]] at hb
   rw[show Xe m (.mk 0 n d s l)=false by rw[Xe];simp[*]]
   exact Qsc
  by_cases hd0:d=0
  case neg=>
   rw[show (decide (n=0)&&decide (d=0)&&decide (s=[])&&decide (l.length=0))=false by simp[*]] at hb
   rw[show Xe m (.mk 0 n d s l)=false by rw[Xe];simp[*]]
   exact Qsc
  by_cases hs0:s=[]
  case neg=>
   rw[show (decide (n=0)&&decide (d=0)&&decide (s=[])&&decide (l.length=0))=false by simp[*]] at hb
   rw[show Xe m (.mk 0 n d s l)=false by rw[Xe];simp[*]]
   exact Qsc
  by_cases hl0:l.length=0
  case neg=>
   rw[show (decide (n=0)&&decide (d=0)&&decide (s=[])&&decide (l.length=0))=false by simp[*]] at hb
   have hl1:0<l.length:=by omega
   rw[show Xe m (.mk 0 n d s l)=false by rw[Xe];simp[*]]
   exact Qsc
  rw[show (decide (n=0)&&decide (d=0)&&decide (s=[])&&decide (l.length=0))=true by simp[*]] at hb
  rw[show Xe m (.mk 0 n d s l)=true by rw[Xe];simp[*]]
  exact Qsc
 by_cases hk1:k=1
 ·subst hk1
  have hb:=X78 1 n d s l
  by_cases hd0:d=0
  case neg=>
   rw[show (decide (d=0)&&decide (s=[])&&decide (l.length=0))=false by simp[*]] at hb
   rw[show Xe m (.mk 1 n d s l)=false by rw[Xe];simp[*]]
   exact Qvc
  by_cases hs0:s=[]
  case neg=>
   rw[show (decide (d=0)&&decide (s=[])&&decide (l.length=0))=false by simp[*]] at hb
   rw[show Xe m (.mk 1 n d s l)=false by rw[Xe];simp[*]]
   exact Qvc
  by_cases hl0:l.length=0
  case neg=>
   rw[show (decide (d=0)&&decide (s=[])&&decide (l.length=0))=false by simp[*]] at hb
   have hl1:0<l.length:=by omega
   rw[show Xe m (.mk 1 n d s l)=false by rw[Xe];simp[*]]
   exact Qvc
  rw[show (decide (d=0)&&decide (s=[])&&decide (l.length=0))=true by simp[*]] at hb
  by_cases hn:n=0
  ·rw[show Xe m (.mk 1 n d s l)=true by rw[Xe];simp[*]]
   refine Qha ?_;refine Qrc ?_;refine W5_ ?_;refine Qrb ?_;exact QBa
  by_cases hn1:n=1
  ·rw[show Xe m (.mk 1 n d s l)=true by rw[Xe];simp[*]]
   refine Qha ?_;refine Qrc ?_;refine W8_ ?_;refine Qkc ?_;exact Qtb
  ·rw[show Xe m (.mk 1 n d s l)=false by rw[Xe];simp[*]]
   refine Qha ?_;refine Qrc ?_;refine W8_ ?_;refine Qkc ?_;exact Qub
 by_cases hk2:k=2
 ·subst hk2
  have hb:=X78 2 n d s l
  by_cases hd0:d=0
  case neg=>
   rw[show (decide (d=0)&&decide (s=[])&&decide (l.length=0))=false by simp[*]] at hb
   rw[show Xe m (.mk 2 n d s l)=false by rw[Xe];simp[*]]
   exact Qxc
  by_cases hs0:s=[]
  case neg=>
   rw[show (decide (d=0)&&decide (s=[])&&decide (l.length=0))=false by simp[*]] at hb
   rw[show Xe m (.mk 2 n d s l)=false by rw[Xe];simp[*]]
   exact Qxc
  by_cases hl0:l.length=0
  case neg=>
   rw[show (decide (d=0)&&decide (s=[])&&decide (l.length=0))=false by simp[*]] at hb
   have hl1:0<l.length:=by omega
   rw[show Xe m (.mk 2 n d s l)=false by rw[Xe];simp[*]]
   exact Qxc
  rw[show (decide (d=0)&&decide (s=[])&&decide (l.length=0))=true by simp[*]] at hb
  rw[show Xe m (.mk 2 n d s l)=inV n by rw[Xe];simp[inV, *]]
  refine Qwc ?_;refine Qrc ?_;refine W3_ ?_;refine Z3 (hcon:=XjH n) ?_;exact QBa
 by_cases hk3:k=3
 ·subst hk3
  have hb:=Xjk 3 n d s l
  by_cases hs0:s=[]
  case neg=>
   rw[show (decide (s=[])&&decide (l.length=0))=false by simp[*]] at hb
   rw[show Xe m (.mk 3 n d s l)=false by rw[Xe];simp[*]]
   refine Qwc ?_;refine Qc ?_;refine Qtc ?_;refine Qsa ?_;exact Qva
  by_cases hl0:l.length=0
  case neg=>
   rw[show (decide (s=[])&&decide (l.length=0))=false by simp[*]] at hb
   have hl1:0<l.length:=by omega
   rw[show Xe m (.mk 3 n d s l)=false by rw[Xe];simp[*]]
   refine Qwc ?_;refine Qc ?_;refine Qtc ?_;refine Qsa ?_;exact Qva
  rw[show (decide (s=[])&&decide (l.length=0))=true by simp[*]] at hb
  by_cases hd:2≤d
  ·rw[show Xe m (.mk 3 n d s l)=X0z n d by rw[Xe];simp[*]]
   refine Qwc ?_;refine Qc ?_;refine Qrc ?_;refine W4_ ?_;refine Qr ?_;refine W6_ ?_;refine Z3 (hcon:=Xdw n d) ?_;exact QBa
  ·rw[show Xe m (.mk 3 n d s l)=false by rw[Xe];simp[*]]
   refine Qwc ?_;refine Qc ?_;refine Qrc ?_;refine W4_ ?_;refine Qs ?_;exact Qva
 by_cases hk4:k=4
 ·subst hk4
  have hb:=XoA 4 n d s l
  by_cases hn0:n=0
  case neg=>
   rw[show (decide (n=0)&&decide (d=0)&&decide (l.length=0))=false by simp[*]] at hb
   rw[show Xe m (.mk 4 n d s l)=false by rw[Xe];simp[*]]
   exact Qyc
  by_cases hd0:d=0
  case neg=>
   rw[show (decide (n=0)&&decide (d=0)&&decide (l.length=0))=false by simp[*]] at hb
   rw[show Xe m (.mk 4 n d s l)=false by rw[Xe];simp[*]]
   exact Qyc
  by_cases hl0:l.length=0
  case neg=>
   rw[show (decide (n=0)&&decide (d=0)&&decide (l.length=0))=false by simp[*]] at hb
   have hl1:0<l.length:=by omega
   rw[show Xe m (.mk 4 n d s l)=false by rw[Xe];simp[*]]
   exact Qyc
  rw[show (decide (n=0)&&decide (d=0)&&decide (l.length=0))=true by simp[*]] at hb
  rw[show Xe m (.mk 4 n d s l)=(X0q s&&decide (s.length≤100)) by rw[Xe];simp[*,Bool.and_comm]]
  refine Qwc ?_;refine Qna ?_;refine Qrc ?_;refine W3_ ?_;refine Z3 (hcon:=Xqr s hok.1) ?_;exact QBa
 by_cases hk5:k=5
 ·subst hk5
  have hb:=X78 5 n d s l
  by_cases hd0:d=0
  case neg=>
   rw[show (decide (d=0)&&decide (s=[])&&decide (l.length=0))=false by simp[*]] at hb
   rw[show Xe m (.mk 5 n d s l)=false by rw[Xe];simp[*]]
   exact Qzc
  by_cases hs0:s=[]
  case neg=>
   rw[show (decide (d=0)&&decide (s=[])&&decide (l.length=0))=false by simp[*]] at hb
   rw[show Xe m (.mk 5 n d s l)=false by rw[Xe];simp[*]]
   exact Qzc
  by_cases hl0:l.length=0
  case neg=>
   rw[show (decide (d=0)&&decide (s=[])&&decide (l.length=0))=false by simp[*]] at hb
   have hl1:0<l.length:=by omega
   rw[show Xe m (.mk 5 n d s l)=false by rw[Xe];simp[*]]
   exact Qzc
  rw[show (decide (d=0)&&decide (s=[])&&decide (l.length=0))=true by simp[*]] at hb
  by_cases hn:1≤n
  case neg=>
   rw[show Xe m (.mk 5 n d s l)=false by rw[Xe];simp[*]]
   refine Qwc ?_;refine Qna ?_;refine Qja ?_;refine Qrc ?_;refine W4_ ?_;refine Qs ?_;exact Qya
  rw[show Xe m (.mk 5 n d s l)=decide (n≤1000000) by rw[Xe];simp[*]]
  refine Qwc ?_;refine Qna ?_;refine Qja ?_;refine Qrc ?_;refine W4_ ?_;refine QAa ?_;exact QBa
 by_cases hk6:k=6
 ·subst hk6
  have hb:=X78 6 n d s l
  by_cases hd0:d=0
  case neg=>
   rw[show (decide (d=0)&&decide (s=[])&&decide (l.length=0))=false by simp[*]] at hb
   rw[show Xe m (.mk 6 n d s l)=false by rw[Xe];simp[*]]
   exact QBc
  by_cases hs0:s=[]
  case neg=>
   rw[show (decide (d=0)&&decide (s=[])&&decide (l.length=0))=false by simp[*]] at hb
   rw[show Xe m (.mk 6 n d s l)=false by rw[Xe];simp[*]]
   exact QBc
  by_cases hl0:l.length=0
  case neg=>
   rw[show (decide (d=0)&&decide (s=[])&&decide (l.length=0))=false by simp[*]] at hb
   have hl1:0<l.length:=by omega
   rw[show Xe m (.mk 6 n d s l)=false by rw[Xe];simp[*]]
   exact QBc
  rw[show (decide (d=0)&&decide (s=[])&&decide (l.length=0))=true by simp[*]] at hb
  by_cases hn:1≤n
  case neg=>
   rw[show Xe m (.mk 6 n d s l)=false by rw[Xe];simp[*]]
   refine QAc ?_;refine Qrc ?_;refine W4_ ?_;refine Qs ?_;exact Qya
  rw[show Xe m (.mk 6 n d s l)=decide (n≤1000000) by rw[Xe];simp[*]]
  refine QAc ?_;refine Qrc ?_;refine W4_ ?_;refine QAa ?_;exact QBa
 by_cases hk7:k=7
 ·subst hk7
  have hb:=XhZ 7 n d s l
  by_cases hn0:n=0
  case neg=>
   rw[show (decide (n=0)&&decide (d=0)&&decide (s=[]))=false by simp[*]] at hb
   rw[show Xe m (.mk 7 n d s l)=false by rw[Xe];simp[*]]
   exact QCc
  by_cases hd0:d=0
  case neg=>
   rw[show (decide (n=0)&&decide (d=0)&&decide (s=[]))=false by simp[*]] at hb
   rw[show Xe m (.mk 7 n d s l)=false by rw[Xe];simp[*]]
   exact QCc
  by_cases hs0:s=[]
  case neg=>
   rw[show (decide (n=0)&&decide (d=0)&&decide (s=[]))=false by simp[*]] at hb
   rw[show Xe m (.mk 7 n d s l)=false by rw[Xe];simp[*]]
   exact QCc
  rw[show (decide (n=0)&&decide (d=0)&&decide (s=[]))=true by simp[*]] at hb
  rw[show Xe m (.mk 7 n d s l)=VX l by rw[Xe];simp[VX, *]]
  refine QAc ?_;refine Qc ?_;refine Qrc ?_;refine W3_ ?_;refine Z3 (hcon:=XjZ l hok.2.1 ih) ?_;exact QBa
 by_cases hk8:k=8
 ·subst hk8
  have hb:=XhZ 8 n d s l
  by_cases hn0:n=0
  case neg=>
   rw[show (decide (n=0)&&decide (d=0)&&decide (s=[]))=false by simp[*]] at hb
   rw[show Xe m (.mk 8 n d s l)=false by rw[Xe];simp[*]]
   exact QDc
  by_cases hd0:d=0
  case neg=>
   rw[show (decide (n=0)&&decide (d=0)&&decide (s=[]))=false by simp[*]] at hb
   rw[show Xe m (.mk 8 n d s l)=false by rw[Xe];simp[*]]
   exact QDc
  by_cases hs0:s=[]
  case neg=>
   rw[show (decide (n=0)&&decide (d=0)&&decide (s=[]))=false by simp[*]] at hb
   rw[show Xe m (.mk 8 n d s l)=false by rw[Xe];simp[*]]
   exact QDc
  rw[show (decide (n=0)&&decide (d=0)&&decide (s=[]))=true by simp[*]] at hb
  rw[show Xe m (.mk 8 n d s l)=(decide (1≤m∧l.length≤64)&&Vy (m-1) l) by rw[Xe];simp[*,and_comm]]
  refine QAc ?_;refine Qna ?_;refine Qrc ?_;refine W4_ ?_;refine Z3 (hcon:=XmC l m hm hok.2.1 ih) ?_;exact QBa
 rw[show Xe m (.mk k n d s l)=false by rw[Xe];simp[*]]
 refine QAc ?_;refine Qna ?_;exact QV
theorem Xib:∀v:Val,Xma v
 | .mk k n d s l=>fun hok=>Xrd (.mk k n d s l) hok fun x hx=>Xib x (X3Z (by rw[Yp] at hok;exact hok.2.2) hx)
termination_by v=>SizeOf.sizeOf v
decreasing_by
 have h1:=List.sizeOf_lt_of_mem (show x∈l from hx)
 simp only[Val.mk.sizeOf_spec]
 omega
theorem X4A (v:Val) (hok:Yp v):Con Tryz.prog 142 [] [Xv v] [] (ab (Xe 8 v)):=by
 refine Xg (xs:=[ab (Xe 8 v)]) Tryz.func142 rfl Tryz.ntmps142 rfl rfl rfl (fun E=> ?_)
 have h:=Xib v hok 8 (by omega)
 obtain⟨k,n,d,s,l⟩:=v
 simp only[Xv] at h
 refine W8_ ?_;refine Z3 (hcon:=h) ?_;exact Qq
def Yv (x y:Int):Int:=if x<y then-1 else if y<x then 1 else 0
theorem XgO (x:Int):Con Tryz.prog 196 [] [ai x] [] (ab false):=by
 refine Xg (xs:=[ab false]) Tryz.func196 rfl Tryz.ntmps196 rfl rfl rfl (fun E=> ?_)
 refine Xi ?_;exact X1 ⟨_,Xw 2 (y:=ab false) (AVal.le_of_eq (by refine Eq.trans (b:=ab (decide (x≠x))) rfl ?_;exact congrArg ab (by simp))),⟨rfl,trivial⟩,X2 _⟩
theorem X69 (s:List UInt8):Con Tryz.prog 197 [] [.d (.v (.string (Xb s)))] [] (ab false):=by
 refine Xg (xs:=[ab false]) Tryz.func197 rfl Tryz.ntmps197 rfl rfl rfl (fun E=> ?_)
 refine Xi ?_;exact X1 ⟨_,Xw 2 (y:=ab false) (AVal.le_of_eq (by refine Eq.trans (b:=ab (decide (s≠s))) rfl ?_;exact congrArg ab (by simp))),⟨rfl,trivial⟩,X2 _⟩
theorem X4m (x y:Int):Con Tryz.prog 149 [] [ai x,ai y] [] (ai (Yv x y)):=by
 refine Xg (xs:=[ai (Yv x y)]) Tryz.func149 rfl Tryz.ntmps149 rfl rfl rfl (fun E=> ?_)
 have n1:=XgO x
 have n2:=XgO y
 by_cases h1:x<y
 ·rw[show Yv x y= -1 by simp[Yv,h1]]
  refine QEc ?_;exact QM
 by_cases h2:y<x
 ·rw[show Yv x y=1 by simp[Yv,h1,h2]]
  refine QEc ?_;refine QWb ?_;exact QM
 rw[show Yv x y=0 by simp[Yv,h1,h2]]
 refine QEc ?_;refine QWb ?_;exact QV
theorem Xcs:∀s:List UInt8,Op.bytesLess s s=false
 |[]=>rfl
 |b::s=>by simp[Op.bytesLess,Xcs s]
theorem Xk2 {t:TypeId}{x y:Operand}{s:List UInt8} (w:World):(do eqGuard .lss t x y (.string (Xb s)) (.string (Xb s));binOp .lss t (.string (Xb s)) (.string (Xb s)):Sem Value).run Tryz.prog w= .ok (.bool false) w:=by
 simp[go_sem,binOp,Op.stringOp,X2Z,Xcs]
theorem XnA {t:TypeId}{x y:Operand}{s:List UInt8} (w:World):(do eqGuard .gtr t x y (.string (Xb s)) (.string (Xb s));binOp .gtr t (.string (Xb s)) (.string (Xb s)):Sem Value).run Tryz.prog w= .ok (.bool false) w:=by
 simp[go_sem,binOp,Op.stringOp,X2Z,Xcs]
theorem XkK (s:List UInt8):Con Tryz.prog 154 [] [.d (.v (.string (Xb s))),.d (.v (.string (Xb s)))] [] (ai 0):=by
 refine Xg (xs:=[ai 0]) Tryz.func154 rfl Tryz.ntmps154 rfl rfl rfl (fun E=> ?_)
 have n1:=X69 s
 refine W7_ ?_;refine Z3 (hcon:=n1) ?_;refine W5_ ?_;refine Z3 (hcon:=n1) ?_;refine W7_ ?_;refine Qia ?_;refine Qia ?_;refine Z2 (op:= .lss) (r':= .bool false) (u:= .string (Xb s)) (v:= .string (Xb s)) ?_ (hr:=by exact Xk2);refine QFc ?_;refine Z2 (op:= .gtr) (r':= .bool false) (u:= .string (Xb s)) (v:= .string (Xb s)) ?_ (hr:=by exact XnA);refine W1_ ?_;exact QV
abbrev cI (n:Int):List D:=[.v (.int .i64 n)]
def orI:List Int→Int
 |[]=>0
 |x::r=>if x≠0 then x else orI r
theorem Xkl {l:List Int}{i:Nat}{x:Int} (h:l[i]? =some x):orI (l.drop i)=if x≠0 then x else orI (l.drop (i+1)):=by
 rw[List.drop_eq_getElem_cons (List.getElem?_eq_some_iff.1 h).1,(List.getElem?_eq_some_iff.1 h).2,orI]
theorem XfB (l:List Int) (hl:l.length≤1000):Con Tryz.prog 153 [] [.d (.sl 1 (l.map cI))] [] (ai (orI l)):=by
 refine Xg (xs:=[ai (orI l)]) Tryz.func153 rfl Tryz.ntmps153 rfl rfl rfl (fun E=> ?_)
 have hlm:(l.map cI).length=l.length:=by simp
 refine Yc ?_
 generalize hG:orI l=G
 refine XK (fun i:Nat=>i≤l.length∧orI (l.drop i)=G) (fun i=>⟨18,[(3,ai 0),(6,.d (.sl 1 (l.map cI))),(7,ai (l.map cI).length),(8,ai i)],[]⟩) (fun i=>l.length-i) 0 ⟨by omega,hG⟩
  (Xd rfl ⟨JL,JL,JL,JL,trivial⟩ trivial) ?_
 rintro i ⟨hi,hg⟩
 by_cases hil:i<l.length
 case neg=>
  obtain rfl:i=l.length:=by omega
  rw[List.drop_length,orI] at hg
  subst hg
  have hn:¬((l.length:Nat):Int)<(l.map cI).length:=by omega
  refine QGc ?_;exact Qp
 have hn:(i:Int)<(l.map cI).length:=by omega
 obtain⟨x,hx⟩:=XI (l:=l) hil
 have hxm:(l.map cI)[i]? =some (cI x):=Y5 hx
 rw[Xkl hx] at hg
 by_cases h0:x=0
 ·rw[if_neg (by simpa using h0)] at hg
  refine QHc ?_;refine Qc ?_;exact⟨i+1,⟨by omega,hg⟩,by omega,Xd rfl ⟨JL,JL,JL,JL,trivial⟩ trivial⟩
 ·rw[if_pos h0] at hg
  subst hg
  refine QHc ?_;exact QDa
def X0d (k:Int):Int:=if k=3 then 2 else if k=7 then 9 else k
theorem X9N (k n d:Int) (s:List UInt8) (l:List Val):Con Tryz.prog 245 [] [Xv (.mk k n d s l)] [] (ai (X0d k)):=by
 refine Xg (xs:=[ai (X0d k)]) Tryz.func245 rfl Tryz.ntmps245 rfl rfl rfl (fun E=> ?_)
 simp only[Xv]
 by_cases h3:k=3
 ·subst h3
  refine XD ?_;exact QM
 by_cases h7:k=7
 ·subst h7
  refine Qha ?_;exact QM
 rw[show X0d k=k by simp[X0d,h3,h7]]
 refine Qha ?_;refine Qma ?_;exact Qp
open Go
abbrev UM (x:Nat):List D:=[.v (.int .i64 (x:Int))]
abbrev X01 (l:List Nat):D:= .sl 1 (l.map UM)
def X00:List Nat→Nat
 |[]=>0
 |x::r=>x+1000*X00 r
def VQ:Nat→Nat→List Nat
 |0,_=>[]
 |n+1,v=>v%1000::VQ n (v/1000)
def X1C (l:List Nat):Prop:=∀d∈l,d<1000
theorem X74 {l:List Nat} (h:X1C l) {k x:Nat} (hx:l[k]? =some x):x<1000:=h x (List.mem_of_getElem? hx)
theorem Xcw:∀n v,(VQ n v).length=n
 |0,_=>rfl
 |n+1,v=>by rw[VQ,List.length_cons,Xcw n]
theorem X9l:∀n v,X1C (VQ n v)
 |0,_=>fun d h=>by simp[VQ] at h
 |n+1,v=>fun d h=>by
  rw[VQ] at h
  rcases List.mem_cons.1 h with rfl|h
  ·exact Nat.mod_lt _ (by omega)
  ·exact X9l n _ d h
theorem XgX:∀l:List Nat,X1C l→VQ l.length (X00 l)=l
 |[],_=>rfl
 |x::r,h=>by
  have hx:=h x (by simp)
  rw[List.length_cons,VQ,X00,show(x+1000*X00 r)%1000=x by omega,show(x+1000*X00 r)/1000=X00 r by omega,XgX r fun d hd=>h d (by simp[hd])]
theorem XcV:∀(l:List Nat) (k x y:Nat),l[k]? =some x→X00 (l.set k y)+x*1000^k=X00 l+y*1000^k
 |[],k,x,y,h=>by simp at h
 |z::r,0,x,y,h=>by
  simp at h
  subst h
  simp only[List.set_cons_zero,X00,Nat.pow_zero,Nat.mul_one]
  omega
 |z::r,k+1,x,y,h=>by
  have ih:=XcV r k x y (by simpa using h)
  simp only[List.set_cons_succ,X00,Nat.pow_succ,←Nat.mul_assoc]
  omega
theorem Xdu:∀n,X00 (List.replicate n 0)=0
 |0=>rfl
 |n+1=>by rw[List.replicate_succ,X00,Xdu n]
theorem Xa5 (n:Nat):X1C (List.replicate n 0):=fun d h=>by
 have:=(List.mem_replicate.1 h).2
 omega
theorem Xef {l:List Nat} (h:X1C l) (k:Nat) {y:Nat} (hy:y<1000):X1C (l.set k y):=fun d hd=>by
 rcases List.mem_or_eq_of_mem_set hd with h1|rfl
 ·exact h d h1
 ·exact hy
theorem XqH {l:List Nat}{k x V d c carry:Nat} (hV:X00 l+(d*c+carry)*1000^k=V) (hx:l[k]? =some x):
  X00 (l.set k ((carry+x+d*(c%1000))%1000))+(d*(c/1000)+(carry+x+d*(c%1000))/1000)*1000^(k+1)=V:=by
 have h1:=XcV l k x ((carry+x+d*(c%1000))%1000) hx
 have ht:=Nat.mod_add_div (carry+x+d*(c%1000)) 1000
 have e1:d*c=d*(c%1000)+1000*(d*(c/1000)):=by
  have hc:=Nat.mod_add_div c 1000
  calc d*c=d*(c%1000+1000*(c/1000)):=by rw[hc]
   _=_:=by rw[Nat.mul_add,Nat.mul_left_comm]
 rw[e1] at hV
 rw[Nat.pow_succ]
 generalize X00 (l.set k ((carry+x+d*(c%1000))%1000))=A at*
 generalize d*(c%1000)=u at*
 generalize d*(c/1000)=w at*
 generalize (carry+x+u)/1000=q at*
 generalize (carry+x+u)%1000=r at*
 generalize 1000^k=p at*
 have e2:(r+1000*q)*p=(carry+x+u)*p:=by rw[ht]
 have e3:(w+q)*(p*1000)=1000*(w*p)+1000*(q*p):=by rw[←Nat.mul_assoc,Nat.mul_comm,Nat.add_mul,Nat.mul_add]
 rw[e3]
 simp only[Nat.add_mul,Nat.mul_assoc] at*
 omega
theorem Xmp {A A' a b i V:Nat} (hV:A+a*b*1000^i=V) (h:A'=A+a%1000*b*1000^i):A'+a/1000*b*1000^(i+1)=V:=by
 have e1:a*b=a%1000*b+1000*(a/1000*b):=by
  have hc:=Nat.mod_add_div a 1000
  calc a*b=(a%1000+1000*(a/1000))*b:=by rw[hc]
   _=_:=by rw[Nat.add_mul,Nat.mul_assoc]
 rw[e1] at hV
 rw[Nat.pow_succ]
 generalize a%1000*b=u at*
 generalize a/1000*b=w at*
 generalize 1000^i=p at*
 have e3:w*(p*1000)=1000*(w*p):=by rw[←Nat.mul_assoc,Nat.mul_comm]
 rw[e3]
 simp only[Nat.add_mul,Nat.mul_assoc] at*
 omega
theorem Xax {k m:Nat} (h:1000^k≤1000^m):k≤m:=(Nat.pow_le_pow_iff_right (by decide)).1 h
theorem XnR {a i a0:Nat} (h:a*1000^i≤a0) (ha:0<a) (h0:a0≤1000000000000000):i≤5:=by
 refine Xax (Nat.le_trans ?_ (Nat.le_trans h h0))
 exact Nat.le_mul_of_pos_left _ ha
theorem XoH {c k b i:Nat} (h:c*1000^k≤b*1000^i) (hc:0<c) (hb:b≤1000000000000000) (hi:i≤5):k≤10:=by
 have h1:1000^k≤c*1000^k:=Nat.le_mul_of_pos_left _ hc
 have h2:b*1000^i≤1000^5*1000^5:=Nat.mul_le_mul hb (Nat.pow_le_pow_right (by decide) hi)
 exact Xax (Nat.le_trans h1 (Nat.le_trans h h2))
theorem Xlt {A u carry k V W:Nat} (h:A+(u+carry)*1000^k=V) (hV:V≤W) (hW:W≤1000^10) (hc:0<carry):k≤10:=by
 have h1:1000^k≤(u+carry)*1000^k:=Nat.le_mul_of_pos_left _ (by omega)
 exact Xax (Nat.le_trans h1 (by omega))
theorem XhC {c k X:Nat} (h:c*1000^k≤X):c/1000*1000^(k+1)≤X:=by
 refine Nat.le_trans ?_ h
 rw[Nat.pow_succ,Nat.mul_comm (1000^k),←Nat.mul_assoc]
 exact Nat.mul_le_mul_right _ (Nat.div_mul_le_self c 1000)
theorem Xjz {a b a0:Nat} (ha:a≤1000000000000000) (hb:b≤1000000000000000):a*b≤1000^10:=by
 have h:a*b≤1000000000000000*1000000000000000:=Nat.mul_le_mul ha hb
 exact h
theorem Xjj {A a b i V:Nat} (h:A+a*b*1000^i=V):A+a%1000*b*1000^i≤V:=by
 rw[←h]
 exact Nat.add_le_add_left (Nat.mul_le_mul_right _ (Nat.mul_le_mul_right _ (Nat.mod_le _ _))) _
def X0B (x y:List Nat):Nat→List Nat×Nat
 |0=>(List.replicate x.length 0,0)
 |k+1=>let p:=X0B x y k;let t:=p.2+(x[k]?).getD 0+(y[k]?).getD 0;(p.1.set k (t%1000),t/1000)
theorem XhA (x y:List Nat):∀k,(X0B x y k).1.length=x.length
 |0=>by simp[X0B]
 |k+1=>by simp only[X0B,List.length_set];exact XhA x y k
theorem XiU {x y:List Nat} (hx:X1C x) (hy:X1C y):∀k,(X0B x y k).2≤1
 |0=>by simp[X0B]
 |k+1=>by
  have ih:=XiU hx hy k
  have h1:(x[k]?).getD 0<1000:=by
   cases h:x[k]? with
   |none=>simp
   |some a=>exact X74 hx h
  have h2:(y[k]?).getD 0<1000:=by
   cases h:y[k]? with
   |none=>simp
   |some a=>exact X74 hy h
  simp only[X0B]
  omega
def X2e (x y:List Nat):List Nat:=(X0B x y x.length).1
theorem Xdk {l:List Nat}{k y:Nat} (h:k<l.length):List.take k (l.map UM)++[UM y]++List.drop (k+1) (l.map UM)=(l.set k y).map UM:=by
 rw[List.set_eq_take_append_cons_drop,if_pos h];simp
theorem XpK (n:Nat):List.replicate n (UM 0)=(List.replicate n 0).map UM:=by simp
theorem Xe4 (x y:List Nat) (hx:X1C x) (hy:X1C y) (hl:y.length=x.length) (hn:x.length≤1000):Con Tryz.prog 257 [] [.d (X01 x),.d (X01 y)] [] (.d (X01 (X2e x y))):=by
 have hlx:(x.map UM).length=x.length:=by simp
 have own:Con Tryz.prog 257 [] [.d (X01 x),.d (X01 y)] [(130,.row 1 ((X2e x y).map UM))] (.own 130 ((X2e x y).map UM).length):=by
  refine Xg (xs:=[.own 130 ((X2e x y).map UM).length]) Tryz.func257 rfl Tryz.ntmps257 rfl rfl rfl (fun E=> ?_)
  refine W8_ ?_;refine QIc ?_;refine Xt ?_
  refine XK (fun k:Nat=>k≤x.length) (fun k=>⟨36,[(0,.d (X01 x)),(1,.d (X01 y)),(5,.own 130 (x.map UM).length),(6,ai (X0B x y k).2),(7,ai k)],[(130,.row 1 ((X0B x y k).1.map UM))]⟩) (fun k=>x.length-k) 0 (by omega)
   (Xd rfl ⟨JL,JL,JL,JL,JL,trivial⟩ ⟨?_,trivial⟩) ?_
  ·refine congrArg (AObj.row 1) ?_;refine Eq.trans (b:=List.replicate (x.map UM).length (UM 0)) rfl ?_;rw[hlx];exact XpK x.length
  intro k hk
  have hpl:=XhA x y k
  have hpm:((X0B x y k).1.map UM).length=x.length:=by rw[List.length_map,hpl]
  by_cases hkx:k<x.length
  case neg=>
   obtain rfl:k=x.length:=by omega
   refine QJc ?_;exact X1 ⟨_,Xw 4 (y:= .own 130 ((X2e x y).map UM).length) (AVal.le_of_eq (by refine Eq.trans (b:= .own 130 (x.map UM).length) rfl ?_;congr 1;rw[hlx];exact hpm.symm)),⟨rfl,trivial⟩,Xn ⟨rfl,trivial⟩⟩
  obtain⟨a,ha⟩:=XI (l:=x) hkx
  obtain⟨b,hb⟩:=XI (l:=y) (k:=k) (by omega)
  have hc:=XiU hx hy k
  have ha1:=X74 hx ha
  have hb1:=X74 hy hb
  have hsucc:X0B x y (k+1)=((X0B x y k).1.set k (((X0B x y k).2+a+b)%1000),((X0B x y k).2+a+b)/1000):=by
   simp only[X0B,ha,hb,Option.getD_some]
  generalize X0B x y k=p at*
  obtain⟨l,c⟩:=p
  simp only at hpl hpm hc hsucc
  refine QUb ?_;(refine Z2 (op:= .add) (r':=nj (c+a)) (u:=nj c) (v:=nj a) ?_ (hr:=by exact Ym (by rw[XJ];omega)));refine W4_ ?_;(refine Z2 (op:= .add) (r':=nj (c+a+b)) (u:=nj (c+a)) (v:=nj b) ?_ (hr:=by exact Ym (by rw[XJ];omega)));refine W7_ ?_;refine Z2 (op:= .rem) (r':=nj ((c+a+b)%1000)) (u:=nj (c+a+b)) (v:=nj 1000) ?_ (hr:=by exact US (by omega));refine W5_ ?_;(refine Z2 (op:= .quo) (r':=nj ((c+a+b)/1000)) (u:=nj (c+a+b)) (v:=nj 1000) ?_ (hr:=by exact X0b (by omega) (by rw[XJ];omega)));refine W7_ ?_
  refine⟨k+1,by omega,by omega,?_⟩
  dsimp only
  rw[hsucc]
  refine Xd rfl ⟨JL,JL,JL,JL,JL,trivial⟩ ⟨?_,trivial⟩
  exact congrArg (AObj.row 1) (Xdk (by omega))
 exact own.data (by simp)
theorem XhD (a0 b:Nat) (ha0:a0≤1000000000000000) (hb:b≤1000000000000000):Con Tryz.prog 232 [] [ai a0,ai b] [] (.d (X01 (VQ 14 (a0*b)))):=by
 have own:Con Tryz.prog 232 [] [ai a0,ai b] [(130,.row 1 ((VQ 14 (a0*b)).map UM))] (.own 130 ((VQ 14 (a0*b)).map UM).length):=by
  refine Xg (xs:=[.own 130 ((VQ 14 (a0*b)).map UM).length]) Tryz.func232 rfl Tryz.ntmps232 rfl rfl rfl (fun E=> ?_)
  refine W6_ ?_;refine QIc ?_;refine W8_ ?_
  refine XK (ι:=List Nat×Nat×Nat) (fun s=>s.1.length=14∧X1C s.1∧X00 s.1+s.2.1*b*1000^s.2.2=a0*b∧s.2.1*1000^s.2.2≤a0)
   (fun s=>⟨51,[(0,ai s.2.1),(1,ai b),(5,.own 130 14),(6,ai s.2.2)],[(130,.row 1 (s.1.map UM))]⟩) (fun s=>s.2.1) (List.replicate 14 0,a0,0)
   ⟨rfl,Xa5 14,by rw[Xdu];simp,by simp⟩
   (Xd rfl ⟨JL,JL,JL,JL,trivial⟩ ⟨rfl,trivial⟩) ?_
  rintro⟨l,a,i⟩ ⟨hl,hlow,hV,hai⟩
  simp only at hl hlow hV hai
  by_cases ha:0<a
  case neg=>
   obtain rfl:a=0:=by omega
   have hfin:VQ 14 (a0*b)=l:=by
    rw[←hV,Nat.zero_mul,Nat.zero_mul,Nat.add_zero,←hl]
    exact XgX l hlow
   rw[hfin]
   refine W6_ ?_;refine Qia ?_;exact X1 ⟨_,Xw 4 (y:= .own 130 (l.map UM).length) (AVal.le_of_eq (by refine Eq.trans (b:= .own 130 14) rfl ?_;rw[List.length_map,hl])),⟨rfl,trivial⟩,Xn ⟨rfl,trivial⟩⟩
  have hi5:=XnR hai ha ha0
  have haa:a≤1000000000000000:=Nat.le_trans (Nat.le_mul_of_pos_right _ (Nat.pow_pos (by decide))) (Nat.le_trans hai ha0)
  have hVle:=Xjj hV
  have hW:=Xjz (a0:=a0) ha0 hb
  refine W6_ ?_;refine Qb ?_;refine Z2 (op:= .rem) (r':=nj (a%1000)) (u:=nj a) (v:=nj 1000) ?_ (hr:=by exact US (by omega));refine W5_ ?_;(refine Z2 (op:= .quo) (r':=nj (a/1000)) (u:=nj a) (v:=nj 1000) ?_ (hr:=by exact X0b (by omega) (by rw[XJ];omega)));refine XD ?_
  generalize hd:a%1000=dg at*
  have hdg:dg<1000:=by omega
  generalize hV2:X00 l+dg*b*1000^i=V at*
  refine XK (ι:=List Nat×Nat×Nat×Nat) (fun s=>s.1.length=14∧X1C s.1∧X00 s.1+(dg*s.2.1+s.2.2.1)*1000^s.2.2.2=V∧s.2.1*1000^s.2.2.2≤b*1000^i∧s.2.2.1≤999∧s.2.1≤b)
   (fun s=>⟨51,[(0,ai (a/1000:Nat)),(1,ai b),(5,.own 130 14),(6,ai i),(7,ai dg),(8,ai s.2.1),(9,ai s.2.2.1),(10,ai s.2.2.2)],[(130,.row 1 (s.1.map UM))]⟩) (fun s=>20-s.2.2.2) (l,b,0,i)
   ⟨hl,hlow,by simpa using hV2,Nat.le_refl _,by simp,Nat.le_refl _⟩
   (Xd rfl ⟨JL,JL,JL,JL,JL,JL,JL,JL,trivial⟩ ⟨rfl,trivial⟩) ?_
  rintro⟨l2,c,carry,k⟩ ⟨hl2,hlow2,hV3,hck,hcar,hcb⟩
  simp only at hl2 hlow2 hV3 hck hcar hcb
  by_cases hgo:0<c∨0<carry
  case neg=>
   obtain rfl:c=0:=by omega
   obtain rfl:carry=0:=by omega
   have hVe:X00 l2=X00 l+a%1000*b*1000^i:=by
    rw[hd,hV2,←hV3];simp
   have hnew:=Xmp hV hVe
   have hai2:=XhC hai
   refine W8_ ?_;refine QVb ?_;exact⟨(l2,a/1000,i+1),⟨hl2,hlow2,hnew,hai2⟩,by show a/1000<a;omega,Xd rfl ⟨JL,JL,JL,JL,trivial⟩ ⟨rfl,trivial⟩⟩
  have hk:k≤10:=by
   rcases hgo with h|h
   ·exact XoH hck h hb hi5
   ·exact Xlt hV3 hVle hW h
  obtain⟨x,hx⟩:=XI (l:=l2) (k:=k) (by omega)
  have hx1:=X74 hlow2 hx
  have hstep:=XqH hV3 hx
  have hck2:=XhC hck
  have hm:dg*(c%1000)≤998001:=Nat.mul_le_mul (show dg≤999 by omega) (show c%1000≤999 by omega)
  have hxm:(l2.map UM)[k]? =some (UM x):=Y5 hx
  have hs:=Xdk (l:=l2) (k:=k) (y:=(carry+x+dg*(c%1000))%1000) (by omega)
  have hlen:(l2.map UM).length=14:=by rw[List.length_map,hl2]
  by_cases hc0:0<c
  ·refine W6_ ?_;refine Qv ?_;refine QKc ?_;refine Xj ?_;(refine Z2 (op:= .add) (r':=nj (carry+x)) (u:=nj carry) (v:=nj x) ?_ (hr:=by exact Ym (by rw[XJ];omega)));refine W2_ ?_;refine Z2 (op:= .rem) (r':=nj (c%1000)) (u:=nj c) (v:=nj 1000) ?_ (hr:=by exact US (by omega))
   (refine Z2 (op:= .mul) (r':=nj (dg*(c%1000))) (u:=nj dg) (v:=nj (c%1000)) ?_ (hr:=by exact V0 (by rw[XJ];omega)))
   (refine Z2 (op:= .add) (r':=nj (carry+x+dg*(c%1000))) (u:=nj (carry+x)) (v:=nj (dg*(c%1000))) ?_ (hr:=by exact Ym (by rw[XJ];omega)));refine W5_ ?_;(refine Z2 (op:= .quo) (r':=nj (c/1000)) (u:=nj c) (v:=nj 1000) ?_ (hr:=by exact X0b (by omega) (by rw[XJ];omega)));refine W7_ ?_;refine QLc ?_;refine W5_ ?_;(refine Z2 (op:= .quo) (r':=nj ((carry+x+dg*(c%1000))/1000)) (u:=nj (carry+x+dg*(c%1000))) (v:=nj 1000) ?_ (hr:=by exact X0b (by omega) (by rw[XJ];omega)));refine W7_ ?_;exact QMc
  ·have hcar0:0<carry:=by omega
   refine W8_ ?_;refine QP ?_;refine JT ?_;refine Xj ?_;(refine Z2 (op:= .add) (r':=nj (carry+x)) (u:=nj carry) (v:=nj x) ?_ (hr:=by exact Ym (by rw[XJ];omega)));refine W2_ ?_;refine Z2 (op:= .rem) (r':=nj (c%1000)) (u:=nj c) (v:=nj 1000) ?_ (hr:=by exact US (by omega))
   (refine Z2 (op:= .mul) (r':=nj (dg*(c%1000))) (u:=nj dg) (v:=nj (c%1000)) ?_ (hr:=by exact V0 (by rw[XJ];omega)))
   (refine Z2 (op:= .add) (r':=nj (carry+x+dg*(c%1000))) (u:=nj (carry+x)) (v:=nj (dg*(c%1000))) ?_ (hr:=by exact Ym (by rw[XJ];omega)));refine W5_ ?_;(refine Z2 (op:= .quo) (r':=nj (c/1000)) (u:=nj c) (v:=nj 1000) ?_ (hr:=by exact X0b (by omega) (by rw[XJ];omega)));refine W7_ ?_;refine QLc ?_;refine W5_ ?_;(refine Z2 (op:= .quo) (r':=nj ((carry+x+dg*(c%1000))/1000)) (u:=nj (carry+x+dg*(c%1000))) (v:=nj 1000) ?_ (hr:=by exact X0b (by omega) (by rw[XJ];omega)));refine W7_ ?_;exact QMc
 exact own.data (by simp)
def X1l (n:Int):Int:=if n<0 then-1 else if 0<n then 1 else 0
theorem XdU (n:Int):Con Tryz.prog 231 [] [ai n] [] (ai (X1l n)):=by
 refine Xg (xs:=[ai (X1l n)]) Tryz.func231 rfl Tryz.ntmps231 rfl rfl rfl (fun E=> ?_)
 by_cases h1:n<0
 ·rw[show X1l n= -1 by simp[X1l,h1]]
  refine Xj ?_;exact QM
 by_cases h2:0<n
 ·rw[show X1l n=1 by simp[X1l,h1,h2]]
  refine Xj ?_;refine Qma ?_;exact QM
 ·rw[show X1l n=0 by simp[X1l,h1,h2]]
  refine Xj ?_;refine Qma ?_;exact QV
theorem Xlh (x:List Nat) (hx:x.length≤1000):Con Tryz.prog 258 [] [.d (X01 x),.d (X01 x)] [] (ai 0):=by
 refine Xg (xs:=[ai 0]) Tryz.func258 rfl Tryz.ntmps258 rfl rfl rfl (fun E=> ?_)
 have hlx:(x.map UM).length=x.length:=by simp
 refine Xr ?_
 refine XK (fun i:Nat=>i≤x.length) (fun i=>⟨31,[(0,.d (X01 x)),(1,.d (X01 x)),(5,ai ((i:Int)-1))],[]⟩) (fun i=>i) x.length (Nat.le_refl _)
  (Xd rfl ⟨JL,JL,JL,trivial⟩ trivial) ?_
 intro i hi
 cases i with
 |zero=>
  refine W6_ ?_;exact QV
 |succ j=>
  have e:(((j+1:Nat):Int)-1)=(j:Int):=by omega
  rw[e]
  obtain⟨a,ha⟩:=XI (l:=x) (k:=j) (by omega)
  have hxm:(x.map UM)[j]? =some (UM a):=Y5 ha
  refine W6_ ?_;refine QNc ?_;refine JF ?_;refine Xr ?_;refine Qia ?_;exact⟨j,by omega,by omega,Xd rfl ⟨JL,JL,JL,trivial⟩ trivial⟩
abbrev X3Q:List Nat:=List.replicate 14 0
def X4w (s:Int) (x:List Nat):List Nat:=if s=0 then X2e x x else X2e X3Q X3Q
theorem XhW (s:Int) (hs:s=0∨s=1∨s= -1) (x:List Nat) (hx:X1C x) (hl:x.length=14):Con Tryz.prog 230 [] [ai s,.d (X01 x),ai (-s),.d (X01 x)] [] (.tup [ai 0,.d (X01 (X4w s x))]):=by
 refine Xg (xs:=[ai 0,.d (X01 (X4w s x))]) Tryz.func230 rfl Tryz.ntmps230 rfl rfl rfl (fun E=> ?_)
 have hp:=Xe4 x x hx hx rfl (by omega)
 have hz:=Xe4 X3Q X3Q (Xa5 14) (Xa5 14) rfl (by decide)
 have ho:=Xlh x (by omega)
 by_cases h0:s=0
 ·subst h0
  rw[show X4w 0 x=X2e x x from if_pos rfl]
  generalize X2e x x=y at*
  refine Xt ?_;refine Qv ?_;refine Qs ?_;refine QCa ?_;refine Z3 (hcon:=hp) ?_;exact QPc
 have hs2:X4w s x=X2e X3Q X3Q:=if_neg h0
 rw[hs2]
 clear hs2
 generalize X2e X3Q X3Q=y at*
 by_cases h1:s=1
 ·subst h1
  refine XC ?_;refine QXb ?_;refine Qc ?_;refine Z3 (hcon:=ho) ?_;refine W8_ ?_;refine Qe ?_;refine Z3 (hcon:=hz) ?_;exact QPc
 ·obtain rfl:s= -1:=by omega
  refine XC ?_;refine QXb ?_;refine Qc ?_;refine Z3 (hcon:=ho) ?_;refine W8_ ?_;refine Qe ?_;refine Z3 (hcon:=hz) ?_;exact QPc
abbrev X5D (x:AVal) (n e:Int):AVal:= .tup [x,ai n,ai e]
end Go.Fw
