/- The reference's Valid. -/
import Derived.Test.YtpbgjcbkhgfmkaaGreatDoorM08
set_option maxHeartbeats 8000000
namespace Go.Fw
open Go Go.Proofs Tryz List
set_option maxRecDepth 100000
set_option linter.unusedVariables false
set_option linter.unusedSimpArgs false
mutual
def UJ:Val->Prop
 | .mk k n d s l=>s.length<=9223372036854775807/\l.length<=9223372036854775807/\X3G l
def X3G:List Val->Prop
 |[]=>True
 |v::r=>UJ v/\X3G r
end
theorem Xca:∀{l:List Val}{x:Val},X3G l->x∈l->UJ x
 |[],_,_,h=>by simp at h
 |v::r,x,h,hx=>by
  rw[X3G] at h;rcases mem_cons.1 hx with rfl|hx
  ·exact h.1
  ·exact Xca h.2 hx
def Xoq (v:Val):Prop:=UJ v->X9Y v
theorem Xw5 (k n d:Int) (s:List UInt8) (l:List Val):Con prog 355 [] [XC (.mk k n d s l),ab false,ab false,ab false,ab false] [] (ab (decide (n=0)&&decide (d=0)&&decide (s=[])&&decide (l.length=0))):=by
 refine ZC1 func355 ntmps355 fun E=> ?_;have hlen:=X2e l;by_cases hn:n=0
 case neg=>
  rw[show (decide (n=0)&&decide (d=0)&&decide (s=[])&&decide (l.length=0))=false by simp[*]];exact QO
 by_cases hd:d=0
 case neg=>
  rw[show (decide (n=0)&&decide (d=0)&&decide (s=[])&&decide (l.length=0))=false by simp[*]];exact QP
 by_cases hs:s=[]
 case neg=>
  rw[show (decide (n=0)&&decide (d=0)&&decide (s=[])&&decide (l.length=0))=false by simp[*]];exact QQ
 by_cases hl:l.length=0
 case neg=>
  have hl':¬((l.length:Int)=0):=by omega
  rw[show (decide (n=0)&&decide (d=0)&&decide (s=[])&&decide (l.length=0))=false by simp[*]];exact QR
 rw[show (decide (n=0)&&decide (d=0)&&decide (s=[])&&decide (l.length=0))=true by simp[*]];exact QS
theorem Xch (k n d:Int) (s:List UInt8) (l:List Val):Con prog 355 [] [XC (.mk k n d s l),ab true,ab false,ab false,ab false] [] (ab (decide (d=0)&&decide (s=[])&&decide (l.length=0))):=by
 refine ZC1 func355 ntmps355 fun E=> ?_;have hlen:=X2e l;by_cases hd:d=0
 case neg=>
  rw[show (decide (d=0)&&decide (s=[])&&decide (l.length=0))=false by simp[*]];exact QP
 by_cases hs:s=[]
 case neg=>
  rw[show (decide (d=0)&&decide (s=[])&&decide (l.length=0))=false by simp[*]];exact QQ
 by_cases hl:l.length=0
 case neg=>
  have hl':¬((l.length:Int)=0):=by omega
  rw[show (decide (d=0)&&decide (s=[])&&decide (l.length=0))=false by simp[*]];exact QR
 rw[show (decide (d=0)&&decide (s=[])&&decide (l.length=0))=true by simp[*]];exact QS
theorem XtV (k n d:Int) (s:List UInt8) (l:List Val):Con prog 355 [] [XC (.mk k n d s l),ab true,ab true,ab false,ab false] [] (ab (decide (s=[])&&decide (l.length=0))):=by
 refine ZC1 func355 ntmps355 fun E=> ?_;have hlen:=X2e l;by_cases hs:s=[]
 case neg=>
  rw[show (decide (s=[])&&decide (l.length=0))=false by simp[*]];exact QQ
 by_cases hl:l.length=0
 case neg=>
  have hl':¬((l.length:Int)=0):=by omega
  rw[show (decide (s=[])&&decide (l.length=0))=false by simp[*]];exact QR
 rw[show (decide (s=[])&&decide (l.length=0))=true by simp[*]];exact QS
theorem XsG (k n d:Int) (s:List UInt8) (l:List Val):Con prog 355 [] [XC (.mk k n d s l),ab false,ab false,ab true,ab false] [] (ab (decide (n=0)&&decide (d=0)&&decide (l.length=0))):=by
 refine ZC1 func355 ntmps355 fun E=> ?_;have hlen:=X2e l;by_cases hn:n=0
 case neg=>
  rw[show (decide (n=0)&&decide (d=0)&&decide (l.length=0))=false by simp[*]];exact QO
 by_cases hd:d=0
 case neg=>
  rw[show (decide (n=0)&&decide (d=0)&&decide (l.length=0))=false by simp[*]];exact QP
 by_cases hl:l.length=0
 case neg=>
  have hl':¬((l.length:Int)=0):=by omega
  rw[show (decide (n=0)&&decide (d=0)&&decide (l.length=0))=false by simp[*]];exact QR
 rw[show (decide (n=0)&&decide (d=0)&&decide (l.length=0))=true by simp[*]];exact QS
theorem Xnu (k n d:Int) (s:List UInt8) (l:List Val):Con prog 355 [] [XC (.mk k n d s l),ab false,ab false,ab false,ab true] [] (ab (decide (n=0)&&decide (d=0)&&decide (s=[]))):=by
 refine ZC1 func355 ntmps355 fun E=> ?_;have hlen:=X2e l;by_cases hn:n=0
 case neg=>
  rw[show (decide (n=0)&&decide (d=0)&&decide (s=[]))=false by simp[*]];exact QO
 by_cases hd:d=0
 case neg=>
  rw[show (decide (n=0)&&decide (d=0)&&decide (s=[]))=false by simp[*]];exact QP
 by_cases hs:s=[]
 case neg=>
  rw[show (decide (n=0)&&decide (d=0)&&decide (s=[]))=false by simp[*]];exact QQ
 rw[show (decide (n=0)&&decide (d=0)&&decide (s=[]))=true by simp[*]];refine X7 ?_;exact Zr0
theorem Xuq (v:Val) (hok:UJ v) (ih:∀x∈v.l,X9Y x):X9Y v:=by
 obtain⟨k,n,d,s,l⟩:=v;intro m hm;rw[UJ] at hok;simp only[Val.l] at ih;refine ZC1 func319 ntmps319 fun E=> ?_;have hlen:=X2e l;by_cases bY:k=0
 ·subst bY;have hb:=Xw5 0 n d s l;by_cases hn0:n=0
  case neg=>
   rw[show (decide (n=0)&&decide (d=0)&&decide (s=[])&&decide (l.length=0))=false by simp[*]] at hb;rw[show Xk m (.mk 0 n d s l)=false by rw[Xk];simp[*]];exact QT
  by_cases eo:d=0
  case neg=>
   rw[show (decide (n=0)&&decide (d=0)&&decide (s=[])&&decide (l.length=0))=false by simp[*]] at hb;rw[show Xk m (.mk 0 n d s l)=false by rw[Xk];simp[*]];exact QT
  by_cases hs0:s=[]
  case neg=>
   rw[show (decide (n=0)&&decide (d=0)&&decide (s=[])&&decide (l.length=0))=false by simp[*]] at hb;rw[show Xk m (.mk 0 n d s l)=false by rw[Xk];simp[*]];exact QT
  by_cases fq:l.length=0
  case neg=>
   rw[show (decide (n=0)&&decide (d=0)&&decide (s=[])&&decide (l.length=0))=false by simp[*]] at hb;have b7:0<l.length:=by omega
   rw[show Xk m (.mk 0 n d s l)=false by rw[Xk];simp[*]];exact QT
  rw[show (decide (n=0)&&decide (d=0)&&decide (s=[])&&decide (l.length=0))=true by simp[*]] at hb;rw[show Xk m (.mk 0 n d s l)=true by rw[Xk];simp[*]];exact QT
 by_cases ey:k=1
 ·subst ey;have hb:=Xch 1 n d s l;by_cases eo:d=0
  case neg=>
   rw[show (decide (d=0)&&decide (s=[])&&decide (l.length=0))=false by simp[*]] at hb;rw[show Xk m (.mk 1 n d s l)=false by rw[Xk];simp[*]];exact QU
  by_cases hs0:s=[]
  case neg=>
   rw[show (decide (d=0)&&decide (s=[])&&decide (l.length=0))=false by simp[*]] at hb;rw[show Xk m (.mk 1 n d s l)=false by rw[Xk];simp[*]];exact QU
  by_cases fq:l.length=0
  case neg=>
   rw[show (decide (d=0)&&decide (s=[])&&decide (l.length=0))=false by simp[*]] at hb;have b7:0<l.length:=by omega
   rw[show Xk m (.mk 1 n d s l)=false by rw[Xk];simp[*]];exact QU
  rw[show (decide (d=0)&&decide (s=[])&&decide (l.length=0))=true by simp[*]] at hb;by_cases hn:n=0
  ·rw[show Xk m (.mk 1 n d s l)=true by rw[Xk];simp[*]];refine X7 ?_;exact Zr0
  by_cases eC:n=1
  ·rw[show Xk m (.mk 1 n d s l)=true by rw[Xk];simp[*]];refine X7 ?_;exact X2 ⟨_,Xe 4 (y:=ab true) (AVal.le_of_eq (by refine Eq.trans (b:=ab (decide (n=1))) rfl ?_;exact CG ab (DT eC))),⟨rfl,TV⟩,X4 _⟩
  ·rw[show Xk m (.mk 1 n d s l)=false by rw[Xk];simp[*]];refine X7 ?_;exact X2 ⟨_,Xe 4 (y:=ab false) (AVal.le_of_eq (by refine Eq.trans (b:=ab (decide (n=1))) rfl ?_;exact CG ab (DF eC))),⟨rfl,TV⟩,X4 _⟩
 by_cases hk2:k=2
 ·subst hk2;have hb:=Xch 2 n d s l;by_cases eo:d=0
  case neg=>
   rw[show (decide (d=0)&&decide (s=[])&&decide (l.length=0))=false by simp[*]] at hb;rw[show Xk m (.mk 2 n d s l)=false by rw[Xk];simp[*]];refine QV ?_;exact Zr0
  by_cases hs0:s=[]
  case neg=>
   rw[show (decide (d=0)&&decide (s=[])&&decide (l.length=0))=false by simp[*]] at hb;rw[show Xk m (.mk 2 n d s l)=false by rw[Xk];simp[*]];refine QV ?_;exact Zr0
  by_cases fq:l.length=0
  case neg=>
   rw[show (decide (d=0)&&decide (s=[])&&decide (l.length=0))=false by simp[*]] at hb;have b7:0<l.length:=by omega
   rw[show Xk m (.mk 2 n d s l)=false by rw[Xk];simp[*]];refine QV ?_;exact Zr0
  rw[show (decide (d=0)&&decide (s=[])&&decide (l.length=0))=true by simp[*]] at hb;rw[show Xk m (.mk 2 n d s l)=inV n by rw[Xk];simp[inV, *]];refine X0Z ?_;refine Z3 (af:=Xo8 n) ?_;refine W3_ ?_;exact Zr0
 by_cases jo:k=3
 ·subst jo;have hb:=XtV 3 n d s l;by_cases hs0:s=[]
  case neg=>
   rw[show (decide (s=[])&&decide (l.length=0))=false by simp[*]] at hb;rw[show Xk m (.mk 3 n d s l)=false by rw[Xk];simp[*]];refine X7 ?_;exact QW
  by_cases fq:l.length=0
  case neg=>
   rw[show (decide (s=[])&&decide (l.length=0))=false by simp[*]] at hb;have b7:0<l.length:=by omega
   rw[show Xk m (.mk 3 n d s l)=false by rw[Xk];simp[*]];refine X7 ?_;exact QW
  rw[show (decide (s=[])&&decide (l.length=0))=true by simp[*]] at hb;by_cases hd:2<=d
  ·rw[show Xk m (.mk 3 n d s l)=X2p n d by rw[Xk];simp[*]];refine QX ?_;refine Z3 (af:=XlN n d) ?_;refine W3_ ?_;exact Zr0
  ·rw[show Xk m (.mk 3 n d s l)=false by rw[Xk];simp[*]];refine X7 ?_;exact QW
 by_cases jq:k=4
 ·subst jq;have hb:=XsG 4 n d s l;by_cases hn0:n=0
  case neg=>
   rw[show (decide (n=0)&&decide (d=0)&&decide (l.length=0))=false by simp[*]] at hb;rw[show Xk m (.mk 4 n d s l)=false by rw[Xk];simp[*]];refine X7 ?_;exact Qw
  by_cases eo:d=0
  case neg=>
   rw[show (decide (n=0)&&decide (d=0)&&decide (l.length=0))=false by simp[*]] at hb;rw[show Xk m (.mk 4 n d s l)=false by rw[Xk];simp[*]];refine X7 ?_;exact Qw
  by_cases fq:l.length=0
  case neg=>
   rw[show (decide (n=0)&&decide (d=0)&&decide (l.length=0))=false by simp[*]] at hb;have b7:0<l.length:=by omega
   rw[show Xk m (.mk 4 n d s l)=false by rw[Xk];simp[*]];refine X7 ?_;exact Qw
  rw[show (decide (n=0)&&decide (d=0)&&decide (l.length=0))=true by simp[*]] at hb;rw[show Xk m (.mk 4 n d s l)=(X21 s&&decide (s.length<=100)) by rw[Xk];simp[*,Bool.and_comm]];refine QY ?_;refine Z3 (af:=Xra s hok.1) ?_;refine W3_ ?_;exact Zr0
 by_cases jU:k=5
 ·subst jU;have hb:=Xch 5 n d s l;by_cases eo:d=0
  case neg=>
   rw[show (decide (d=0)&&decide (s=[])&&decide (l.length=0))=false by simp[*]] at hb;rw[show Xk m (.mk 5 n d s l)=false by rw[Xk];simp[*]];refine X7 ?_;exact QK
  by_cases hs0:s=[]
  case neg=>
   rw[show (decide (d=0)&&decide (s=[])&&decide (l.length=0))=false by simp[*]] at hb;rw[show Xk m (.mk 5 n d s l)=false by rw[Xk];simp[*]];refine X7 ?_;exact QK
  by_cases fq:l.length=0
  case neg=>
   rw[show (decide (d=0)&&decide (s=[])&&decide (l.length=0))=false by simp[*]] at hb;have b7:0<l.length:=by omega
   rw[show Xk m (.mk 5 n d s l)=false by rw[Xk];simp[*]];refine X7 ?_;exact QK
  rw[show (decide (d=0)&&decide (s=[])&&decide (l.length=0))=true by simp[*]] at hb;by_cases hn:1<=n
  case neg=>
   rw[show Xk m (.mk 5 n d s l)=false by rw[Xk];simp[*]];refine X7 ?_;exact QK
  rw[show Xk m (.mk 5 n d s l)=decide (n<=1000000) by rw[Xk];simp[*]];refine X7 ?_;exact QK
 by_cases jV:k=6
 ·subst jV;have hb:=Xch 6 n d s l;by_cases eo:d=0
  case neg=>
   rw[show (decide (d=0)&&decide (s=[])&&decide (l.length=0))=false by simp[*]] at hb;rw[show Xk m (.mk 6 n d s l)=false by rw[Xk];simp[*]];exact QZ
  by_cases hs0:s=[]
  case neg=>
   rw[show (decide (d=0)&&decide (s=[])&&decide (l.length=0))=false by simp[*]] at hb;rw[show Xk m (.mk 6 n d s l)=false by rw[Xk];simp[*]];exact QZ
  by_cases fq:l.length=0
  case neg=>
   rw[show (decide (d=0)&&decide (s=[])&&decide (l.length=0))=false by simp[*]] at hb;have b7:0<l.length:=by omega
   rw[show Xk m (.mk 6 n d s l)=false by rw[Xk];simp[*]];exact QZ
  rw[show (decide (d=0)&&decide (s=[])&&decide (l.length=0))=true by simp[*]] at hb;by_cases hn:1<=n
  case neg=>
   rw[show Xk m (.mk 6 n d s l)=false by rw[Xk];simp[*]];exact QZ
  rw[show Xk m (.mk 6 n d s l)=decide (n<=1000000) by rw[Xk];simp[*]];exact QZ
 by_cases jW:k=7
 ·subst jW;have hb:=Xnu 7 n d s l;by_cases hn0:n=0
  case neg=>
   rw[show (decide (n=0)&&decide (d=0)&&decide (s=[]))=false by simp[*]] at hb;rw[show Xk m (.mk 7 n d s l)=false by rw[Xk];simp[*]];exact Qaa
  by_cases eo:d=0
  case neg=>
   rw[show (decide (n=0)&&decide (d=0)&&decide (s=[]))=false by simp[*]] at hb;rw[show Xk m (.mk 7 n d s l)=false by rw[Xk];simp[*]];exact Qaa
  by_cases hs0:s=[]
  case neg=>
   rw[show (decide (n=0)&&decide (d=0)&&decide (s=[]))=false by simp[*]] at hb;rw[show Xk m (.mk 7 n d s l)=false by rw[Xk];simp[*]];exact Qaa
  rw[show (decide (n=0)&&decide (d=0)&&decide (s=[]))=true by simp[*]] at hb;rw[show Xk m (.mk 7 n d s l)=X1A l by rw[Xk];simp[X1A, *]];refine X7 ?_;refine U1 ?_;refine Z3 (af:=Xon l hok.2.1 ih) ?_;refine W3_ ?_;exact Zr0
 by_cases gY:k=8
 ·subst gY;have hb:=Xnu 8 n d s l;by_cases hn0:n=0
  case neg=>
   rw[show (decide (n=0)&&decide (d=0)&&decide (s=[]))=false by simp[*]] at hb;rw[show Xk m (.mk 8 n d s l)=false by rw[Xk];simp[*]];refine X7 ?_;refine X1V ?_;exact Zr0
  by_cases eo:d=0
  case neg=>
   rw[show (decide (n=0)&&decide (d=0)&&decide (s=[]))=false by simp[*]] at hb;rw[show Xk m (.mk 8 n d s l)=false by rw[Xk];simp[*]];refine X7 ?_;refine X1V ?_;exact Zr0
  by_cases hs0:s=[]
  case neg=>
   rw[show (decide (n=0)&&decide (d=0)&&decide (s=[]))=false by simp[*]] at hb;rw[show Xk m (.mk 8 n d s l)=false by rw[Xk];simp[*]];refine X7 ?_;refine X1V ?_;exact Zr0
  rw[show (decide (n=0)&&decide (d=0)&&decide (s=[]))=true by simp[*]] at hb;rw[show Xk m (.mk 8 n d s l)=(decide (1<=m/\l.length<=64)&&X0C (m-1) l) by rw[Xk];simp[*,and_comm]];refine X7 ?_;refine X00 ?_;refine Z3 (af:=Xv1 l m hm hok.2.1 ih) ?_;refine W3_ ?_;exact Zr0
 rw[show Xk m (.mk k n d s l)=false by rw[Xk];simp[*]];exact Qaa
theorem XlI:∀v:Val,Xoq v
 | .mk k n d s l=>fun hok=>Xuq (.mk k n d s l) hok fun x hx=>XlI x (Xca (by rw[UJ] at hok;exact hok.2.2) hx)
termination_by v=>SizeOf.sizeOf v
decreasing_by
 have h1:=sizeOf_lt_of_mem (show x∈l from hx);simp only[Val.mk.sizeOf_spec];omega
theorem X7O (v:Val) (hok:UJ v):Con prog 258 [] [XC v] [] (ab (Xk 8 v)):=by
 refine ZC1 func258 ntmps258 fun E=> ?_;have h:=XlI v hok 8 (by omega);obtain⟨k,n,d,s,l⟩:=v;simp only[XC] at h;exact Ql
def YP (x y:Int):Int:=if x<y then-1 else if y<x then 1 else 0
theorem Xiy (x:Int):Con prog 254 [] [ai x] [] (ab false):=by
 refine ZC1 func254 ntmps254 fun E=> ?_;refine XK ?_;exact X2 ⟨_,Xe 2 (y:=ab false) (AVal.le_of_eq (by refine Eq.trans (b:=ab (decide (x≠x))) rfl ?_;exact CG ab (by simp))),⟨rfl,TV⟩,X4 _⟩
theorem X8P (s:List UInt8):Con prog 255 [] [.d (.v (.string (X6 s)))] [] (ab false):=by
 refine ZC1 func255 ntmps255 fun E=> ?_;refine XK ?_;exact X2 ⟨_,Xe 2 (y:=ab false) (AVal.le_of_eq (by refine Eq.trans (b:=ab (decide (s≠s))) rfl ?_;exact CG ab (by simp))),⟨rfl,TV⟩,X4 _⟩
theorem X5A (x y:Int):Con prog 183 [] [ai x,ai y] [] (ai (YP x y)):=by
 refine ZC1 func183 ntmps183 fun E=> ?_;have n1:=Xiy x;have n2:=Xiy y;by_cases h1:x<y
 ·rw[show YP x y= -1 by simp[YP,h1]];refine Qba ?_;refine YY ?_;exact Zr0
 by_cases h2:y<x
 ·rw[show YP x y=1 by simp[YP,h1,h2]];refine Qba ?_;refine X0Z ?_;exact Zr0
 rw[show YP x y=0 by simp[YP,h1,h2]];refine Qba ?_;refine X1V ?_;exact Zr0
theorem XfD:∀s:List UInt8,Op.bytesLess s s=false
 |[]=>rfl
 |b::s=>by simp[Op.bytesLess,XfD s]
variable{s:List UInt8}{x y:Operand}{A V a a0 b c carry i k:Nat}{l:List Nat}
theorem Xqy {t:TypeId} (w:World):(do eqGuard .lss t x y (.string (X6 s)) (.string (X6 s));binOp .lss t (.string (X6 s)) (.string (X6 s)):Sem Value).run prog w= .ok (.bool false) w:=by
 simp[go_sem,binOp,Op.stringOp,X4y,XfD]
theorem Xom {t:TypeId} (w:World):(do eqGuard .gtr t x y (.string (X6 s)) (.string (X6 s));binOp .gtr t (.string (X6 s)) (.string (X6 s)):Sem Value).run prog w= .ok (.bool false) w:=by
 simp[go_sem,binOp,Op.stringOp,X4y,XfD]
theorem Xtv (s:List UInt8):Con prog 184 [] [.d (.v (.string (X6 s))),.d (.v (.string (X6 s)))] [] (ai 0):=by
 refine ZC1 func184 ntmps184 fun E=> ?_;have n1:=X8P s;refine UX ?_;refine Z2 (op:= .lss) (r':= .bool false) (u:= .string (X6 s)) (v:= .string (X6 s)) ?_ (hr:=by exact Xqy);refine W8_ ?_;refine Z2 (op:= .gtr) (r':= .bool false) (u:= .string (X6 s)) (v:= .string (X6 s)) ?_ (hr:=by exact Xom);exact QI
abbrev cI (n:Int):List D:=[.v (.int .i64 n)]
def orI:List Int->Int
 |[]=>0
 |x::r=>if x≠0 then x else orI r
theorem Xxy {l:List Int}{x:Int} (h:l[i]? =some x):orI (l.drop i)=if x≠0 then x else orI (l.drop (i+1)):=by
 rw[drop_eq_getElem_cons (GS.1 h).1,(GS.1 h).2,orI]
theorem Xlx (l:List Int) (hl:l.length<=1000):Con prog 182 [] [.d (.sl 1 (l.map cI))] [] (ai (orI l)):=by
 refine ZC1 func182 ntmps182 fun E=> ?_;have hlm:(l.map cI).length=l.length:=by simp
 refine Yg ?_;generalize hG:orI l=G
 refine Xn (fun i:Nat=>i<=l.length/\orI (l.drop i)=G) (fun i=>⟨18,[(3,ai 0),(6,.d (.sl 1 (l.map cI))),(7,ai (l.map cI).length),(8,ai i)],[]⟩) (fun i=>l.length-i) 0 ⟨by omega,hG⟩
  (Xb rfl ⟨JL,JL,JL,JL,TV⟩ trivial) ?_
 rintro i ⟨hi,hg⟩;by_cases hil:i<l.length
 case neg=>
  obtain rfl:i=l.length:=by omega
  rw[drop_length,orI] at hg;subst hg;have hn:¬((l.length:Nat):Int)<(l.map cI).length:=by omega
  exact Qz
 have hn:(i:Int)<(l.map cI).length:=by omega
 obtain⟨x,hx⟩:=Xu (l:=l) hil;have bw:(l.map cI)[i]? =some (cI x):=XM hx;rw[Xxy hx] at hg;by_cases h0:x=0
 ·rw[NI (by simpa using h0)] at hg;refine U1 ?_;exact⟨i+1,⟨by omega,hg⟩,by omega,Xb rfl ⟨JL,JL,JL,JL,TV⟩ TV⟩
 ·rw[PI h0] at hg;subst hg;exact QK
def X01 (k:Int):Int:=if k=3 then 2 else if k=7 then 9 else k
theorem X9w (k n d:Int) (s:List UInt8) (l:List Val):Con prog 342 [] [XC (.mk k n d s l)] [] (ai (X01 k)):=by
 refine ZC1 func342 ntmps342 fun E=> ?_;simp only[XC];by_cases h3:k=3
 ·subst h3;exact QA
 by_cases h7:k=7
 ·subst h7;refine YY ?_;exact Zr0
 rw[show X01 k=k by simp[X01,h3,h7]];refine UP ?_;exact Zr0
open Go
abbrev VZ (x:Nat):List D:=[.v (.int .i64 (x:Int))]
abbrev X1j (l:List Nat):D:= .sl 1 (l.map VZ)
def X1e:List Nat->Nat
 |[]=>0
 |x::r=>x+1000*X1e r
def X1f:Nat->Nat->List Nat
 |0,_=>[]
 |n+1,v=>v%1000::X1f n (v/1000)
def X2S (l:List Nat):Prop:=∀d∈l,d<1000
theorem X9y (h:X2S l) {k x:Nat} (hx:l[k]? =some x):x<1000:=h x (mem_of_getElem? hx)
theorem XfF:∀n v,(X1f n v).length=n
 |0,_=>rfl
 |n+1,v=>by rw[X1f,LC,XfF n]
theorem Xd8:∀n v,X2S (X1f n v)
 |0,_=>fun d h=>by simp[X1f] at h
 |n+1,v=>fun d h=>by
  rw[X1f] at h;rcases mem_cons.1 h with rfl|h
  ·exact Nat.mod_lt _ (by omega)
  ·exact Xd8 n _ d h
theorem Xmd:∀l:List Nat,X2S l->X1f l.length (X1e l)=l
 |[],_=>rfl
 |x::r,h=>by
  have hx:=h x (by simp);rw[LC,X1f,X1e,show(x+1000*X1e r)%1000=x by omega,show(x+1000*X1e r)/1000=X1e r by omega,Xmd r fun d hd=>h d (by simp[hd])]
theorem XjL:∀(l:List Nat) (k x y:Nat),l[k]? =some x->X1e (l.set k y)+x*1000^k=X1e l+y*1000^k
 |[],k,x,y,h=>by simp at h
 |z::r,0,x,y,h=>by
  simp at h;subst h;simp only[set_cons_zero,X1e,Nat.pow_zero,Nat.mul_one];omega
 |z::r,k+1,x,y,h=>by
  have ih:=XjL r k x y (by simpa using h);simp only[set_cons_succ,X1e,Nat.pow_succ,<-Nat.mul_assoc];omega
theorem Xkb:∀n,X1e (replicate n 0)=0
 |0=>rfl
 |n+1=>by rw[replicate_succ,X1e,Xkb n]
theorem XeB (n:Nat):X2S (replicate n 0):=fun d h=>by
 have:=(mem_replicate.1 h).2;omega
theorem Xkx (h:X2S l) (k:Nat) {y:Nat} (hy:y<1000):X2S (l.set k y):=fun d hd=>by
 rcases mem_or_eq_of_mem_set hd with h1|rfl
 ·exact h d h1
 ·exact hy
theorem Xvs {x d:Nat} (hV:X1e l+(d*c+carry)*1000^k=V) (hx:l[k]? =some x):
  X1e (l.set k ((carry+x+d*(c%1000))%1000))+(d*(c/1000)+(carry+x+d*(c%1000))/1000)*1000^(k+1)=V:=by
 have h1:=XjL l k x ((carry+x+d*(c%1000))%1000) hx;have ht:=Nat.mod_add_div (carry+x+d*(c%1000)) 1000;have e1:d*c=d*(c%1000)+1000*(d*(c/1000)):=by
  have hc:=Nat.mod_add_div c 1000
  calc d*c=d*(c%1000+1000*(c/1000)):=by rw[hc]
   _=_:=by rw[Nat.mul_add,Nat.mul_left_comm]
 rw[e1] at hV;rw[Nat.pow_succ];generalize X1e (l.set k ((carry+x+d*(c%1000))%1000))=A at*;generalize d*(c%1000)=u at*;generalize d*(c/1000)=w at*;generalize (carry+x+u)/1000=q at*;generalize (carry+x+u)%1000=r at*;generalize 1000^k=p at*;have e2:(r+1000*q)*p=(carry+x+u)*p:=by rw[ht]
 have e3:(w+q)*(p*1000)=1000*(w*p)+1000*(q*p):=by rw[<-Nat.mul_assoc,Nat.mul_comm,Nat.add_mul,Nat.mul_add]
 rw[e3];simp only[Nat.add_mul,Nat.mul_assoc] at*;omega
theorem Xus {A':Nat} (hV:A+a*b*1000^i=V) (h:A'=A+a%1000*b*1000^i):A'+a/1000*b*1000^(i+1)=V:=by
 have e1:a*b=a%1000*b+1000*(a/1000*b):=by
  have hc:=Nat.mod_add_div a 1000
  calc a*b=(a%1000+1000*(a/1000))*b:=by rw[hc]
   _=_:=by rw[Nat.add_mul,Nat.mul_assoc]
 rw[e1] at hV;rw[Nat.pow_succ];generalize a%1000*b=u at*;generalize a/1000*b=w at*;generalize 1000^i=p at*;have e3:w*(p*1000)=1000*(w*p):=by rw[<-Nat.mul_assoc,Nat.mul_comm]
 rw[e3];simp only[Nat.add_mul,Nat.mul_assoc] at*;omega
theorem Xf6 {m:Nat} (h:1000^k<=1000^m):k<=m:=(Nat.pow_le_pow_iff_right (by decide)).1 h
theorem XoT (h:a*1000^i<=a0) (ha:0<a) (h0:a0<=1000000000000000):i<=5:=by
 refine Xf6 (Nat.le_trans ?_ (Nat.le_trans h h0));exact Nat.le_mul_of_pos_left _ ha
theorem XqY (h:c*1000^k<=b*1000^i) (hc:0<c) (hb:b<=1000000000000000) (hi:i<=5):k<=10:=by
 have h1:1000^k<=c*1000^k:=Nat.le_mul_of_pos_left _ hc;have h2:b*1000^i<=1000^5*1000^5:=Nat.mul_le_mul hb (Nat.pow_le_pow_right (by decide) hi);exact Xf6 (Nat.le_trans h1 (Nat.le_trans h h2))
theorem Xxr {u W:Nat} (h:A+(u+carry)*1000^k=V) (hV:V<=W) (hW:W<=1000^10) (hc:0<carry):k<=10:=by
 have h1:1000^k<=(u+carry)*1000^k:=Nat.le_mul_of_pos_left _ (by omega);exact Xf6 (Nat.le_trans h1 (by omega))
theorem XhR {X:Nat} (h:c*1000^k<=X):c/1000*1000^(k+1)<=X:=by
 refine Nat.le_trans ?_ h;rw[Nat.pow_succ,Nat.mul_comm (1000^k),<-Nat.mul_assoc];exact Nat.mul_le_mul_right _ (Nat.div_mul_le_self c 1000)
theorem XxL {a0:Nat} (ha:a<=1000000000000000) (hb:b<=1000000000000000):a*b<=1000^10:=by
 have h:a*b<=1000000000000000*1000000000000000:=Nat.mul_le_mul ha hb;exact h
theorem Xuo (h:A+a*b*1000^i=V):A+a%1000*b*1000^i<=V:=by
 rw[<-h];exact Nat.add_le_add_left (Nat.mul_le_mul_right _ (Nat.mul_le_mul_right _ (Nat.mod_le _ _))) _
def X1F (x y:List Nat):Nat->List Nat×Nat
 |0=>(replicate x.length 0,0)
 |k+1=>let p:=X1F x y k;let t:=p.2+(x[k]?).getD 0+(y[k]?).getD 0;(p.1.set k (t%1000),t/1000)
theorem Xld (x y:List Nat):∀k,(X1F x y k).1.length=x.length
 |0=>by simp[X1F]
 |k+1=>by simp only[X1F,length_set];exact Xld x y k
theorem XiN {x y:List Nat} (hx:X2S x) (hy:X2S y):∀k,(X1F x y k).2<=1
 |0=>by simp[X1F]
 |k+1=>by
  have ih:=XiN hx hy k;have h1:(x[k]?).getD 0<1000:=by
   cases h:x[k]? with
   |none=>simp
   |some a=>exact X9y hx h
  have h2:(y[k]?).getD 0<1000:=by
   cases h:y[k]? with
   |none=>simp
   |some a=>exact X9y hy h
  simp only[X1F];omega
def X4I (x y:List Nat):List Nat:=(X1F x y x.length).1
theorem Xl7 {y:Nat} (h:k<l.length):take k (l.map VZ)++[VZ y]++drop (k+1) (l.map VZ)=(l.set k y).map VZ:=by
 rw[set_eq_take_append_cons_drop,PI h];simp
theorem Xpv (n:Nat):replicate n (VZ 0)=(replicate n 0).map VZ:=by simp
theorem XjF (x y:List Nat) (hx:X2S x) (hy:X2S y) (hl:y.length=x.length) (hn:x.length<=1000):Con prog 366 [] [.d (X1j x),.d (X1j y)] [] (.d (X1j (X4I x y))):=by
 have cw:(x.map VZ).length=x.length:=by simp
 have own:Con prog 366 [] [.d (X1j x),.d (X1j y)] [(130,.row 1 ((X4I x y).map VZ))] (.own 130 ((X4I x y).map VZ).length):=by
  refine ZC1 func366 ntmps366 fun E=> ?_;refine W8_ ?_;refine Qca ?_;refine XR ?_
  refine Xn (fun k:Nat=>k<=x.length) (fun k=>⟨36,[(0,.d (X1j x)),(1,.d (X1j y)),(5,.own 130 (x.map VZ).length),(6,ai (X1F x y k).2),(7,ai k)],[(130,.row 1 ((X1F x y k).1.map VZ))]⟩) (fun k=>x.length-k) 0 (by omega)
   (Xb rfl ⟨JL,JL,JL,JL,JL,TV⟩ ⟨?_,TV⟩) ?_
  ·refine CG (AObj.row 1) ?_;refine Eq.trans (b:=replicate (x.map VZ).length (VZ 0)) rfl ?_;rw[cw];exact Xpv x.length
  intro k hk;have bf:=Xld x y k;have iC:((X1F x y k).1.map VZ).length=x.length:=by rw[LM,bf]
  by_cases sN:k<x.length
  case neg=>
   obtain rfl:k=x.length:=by omega
   refine Yx ?_;exact X2 ⟨_,Xe 4 (y:= .own 130 ((X4I x y).map VZ).length) (AVal.le_of_eq (by refine Eq.trans (b:= .own 130 (x.map VZ).length) rfl ?_;congr 1;rw[cw];exact iC.symm)),⟨rfl,TV⟩,Xj ⟨rfl,TV⟩⟩
  obtain⟨a,ha⟩:=Xu (l:=x) sN;obtain⟨b,hb⟩:=Xu (l:=y) (k:=k) (by omega);have hc:=XiN hx hy k;have uL:=X9y hx ha;have ga:=X9y hy hb;have cD:X1F x y (k+1)=((X1F x y k).1.set k (((X1F x y k).2+a+b)%1000),((X1F x y k).2+a+b)/1000):=by
   simp only[X1F,ha,hb,Option.getD_some]
  generalize X1F x y k=p at*;obtain⟨l,c⟩:=p;simp only at bf iC hc cD;refine YR ?_;(refine Z2 (op:= .add) (r':=nj (c+a)) (u:=nj c) (v:=nj a) ?_ (hr:=by exact X1s (by rw[YO];omega)));refine W4_ ?_;(refine Z2 (op:= .add) (r':=nj (c+a+b)) (u:=nj (c+a)) (v:=nj b) ?_ (hr:=by exact X1s (by rw[YO];omega)));refine W7_ ?_;refine Z2 (op:= .rem) (r':=nj ((c+a+b)%1000)) (u:=nj (c+a+b)) (v:=nj 1000) ?_ (hr:=by exact Vh (by omega));refine W5_ ?_;(refine Z2 (op:= .quo) (r':=nj ((c+a+b)/1000)) (u:=nj (c+a+b)) (v:=nj 1000) ?_ (hr:=by exact X2m (by omega) (by rw[YO];omega)));refine W7_ ?_;refine⟨k+1,by omega,by omega,?_⟩;dsimp only;rw[cD];refine Xb rfl ⟨JL,JL,JL,JL,JL,TV⟩ ⟨?_,TV⟩;exact CG (AObj.row 1) (Xl7 (by omega))
 exact own.data (by simp)
end Go.Fw
