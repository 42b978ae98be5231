/- PutUint, PutInt, PutStr. -/
import Derived.Test.YtfmfekakaeafhaaGreatDoorChecked
import Derived.Test.YtfmfekakaeafhaaGreatDoorP09
set_option linter.all false
set_option maxHeartbeats 8000000
namespace Go.Fw
open Go Go.Proofs Tryz List
open List renaming length->J
set_option maxRecDepth 100000
def Xgu (n:Int) (hn:n<=9223372036854775807):Con prog 147 [] [ai n] [(130,.row 1 ((Xq n).map X6))] (.own 130 (J (Xq n))):=by
 refine ZC1 func147 ntmps147 fun E=> ?_;by_cases h:n<0
 ·rw[show Xq n=[] by simp[Xq,h]];refine Ya ?_;refine X8 (Uo 2 130 1 rfl rfl rfl) ?_;exact Qo
 ·obtain⟨m,rfl⟩:∃m:Nat,n=m:=⟨n.toNat,Oa⟩
  rw[show Xq (m:Int)=vS m by unfold Xq;rw[NI h,Int.toNat_natCast]];refine Ya ?_;(refine Z1 (u:=ni m) (r:=n64 m) ?_ (hr:=Om));refine Z5 (ag:=Xh2 m Oa) ?_;exact Qp
def XqJ (n:Int) (hn: -9223372036854775808<=n/\n<=9223372036854775807):Con prog 265 [] [ai n] [(130,.row 1 ((U5 n).map X6))] (.own 130 (J (U5 n))):=by
 refine ZC1 func265 ntmps265 fun E=> ?_;by_cases h:n<0
 ·obtain⟨m,rfl⟩:∃m:Nat,n= -(m:Int)-1:=⟨(-n-1).toNat,Oa⟩
  have ez:zig (-(m:Int)-1)=2*m+1:=by unfold zig;rw[PI Oa];omega
  unfold U5;rw[ez];have ew:IntKind.u64.wrap (-(m:Int)-1)=((18446744073709551615-m:Nat):Int):=by rw[IntKind.wrap_u64];omega
  have es:(18446744073709551615-m)*2^1%2^IntKind.u64.bits=18446744073709551614-2*m:=by
   rw[show 2^IntKind.u64.bits=18446744073709551616 from rfl];omega
  have ec:2^IntKind.u64.bits-1-(18446744073709551614-2*m)=2*m+1:=by
   rw[show 2^IntKind.u64.bits=18446744073709551616 from rfl];omega
  have iX:∀w,(Op.unary .xor (n64 (18446744073709551614-2*m))).run prog w= .ok (n64 (2*m+1)) w:=fun w=>by
   have h:=XiA (P:=prog) (k:= .u64) (a:=18446744073709551614-2*m) rfl (by rw[show 2^IntKind.u64.bits=18446744073709551616 from rfl];omega) w
   rwa [ec] at h
  refine W7_ ?_
  (refine Z1 (u:= .int .i64 (-(m:Int)-1)) (r:=n64 (18446744073709551615-m)) ?_ (hr:=by exact by intro w;show _=Result.ok (Value.int .u64 ((18446744073709551615-m:Nat):Int)) w;rw[<-ew];exact Xd4 rfl rfl w))
  refine Z3 (op:= .shl) (r':=n64 (18446744073709551614-2*m)) (u:=n64 (18446744073709551615-m)) (v:=n64 1) ?_ (hr':=by exact CG n64 es) (hr:=by exact X2p rfl Oi);refine XB ?_;refine Z6 (u:=n64 (18446744073709551614-2*m)) (r:=n64 (2*m+1)) ?_ (hr:=by exact iX);refine W5_ ?_;refine Z5 (ag:=Xh2 (2*m+1) Oa) ?_;exact Qp
 ·obtain⟨m,rfl⟩:∃m:Nat,n=m:=⟨n.toNat,Oa⟩
  have ez:zig (m:Int)=2*m:=by unfold zig;rw[NI Oa];omega
  unfold U5;rw[ez];have es:m*2^1%2^IntKind.u64.bits=2*m:=by
   rw[show 2^IntKind.u64.bits=18446744073709551616 from rfl];omega
  refine W7_ ?_;(refine Z1 (u:=ni m) (r:=n64 m) ?_ (hr:=Om));refine Z3 (op:= .shl) (r':=n64 (2*m)) (u:=n64 m) (v:=n64 1) ?_ (hr':=by exact CG n64 es) (hr:=by exact X2p rfl Oi);refine XK ?_;refine Z5 (ag:=Xh2 (2*m) Oa) ?_;exact Qp
def X3f (n:Int) (hn:n<=9223372036854775807):Con prog 147 [] [ai n] [] (.d (Xc (Xq n))):=(Xgu n hn).data Oc
def X7B (n:Int) (hn: -9223372036854775808<=n/\n<=9223372036854775807):Con prog 265 [] [ai n] [] (.d (Xc (U5 n))):=(XqJ n hn).data Oc
abbrev Xa (l:List UInt8):AVal:= .d (.v (.string (X7 l)))
abbrev Xbm (n:Nat):AVal:= .d (.v (n32 n))
def X0W (b:List UInt8) (i:Nat):Nat:=(b.take i).foldl XaI 4294967295
def Xnm (b:List UInt8) (i:Nat):X0W b i<4294967296:=XlU _ Oi
variable{A V a a0 b c carry i k:Nat}{l:List Nat}{on:Bool}{af:List Wr}{secs:List (List UInt8)}
def Xid {b:List UInt8}{x:UInt8} (h:b[i]? =some x):X0W b (i+1)=XaI (X0W b i) x:=by
 unfold X0W;rw[take_add_one,h,Option.toList_some,foldl_append];rfl
def XnQ (b:List UInt8):X0W b (J b)=X5q b:=by unfold X0W X5q;rw[take_length]
def Xtm (s:List UInt8) (hs:J s<=65536):Con prog 264 [] [Xa s] [(131,.row 1 ((Ys s).map X6))] (.own 131 (J (Ys s))):=by
 refine ZC1 func264 ntmps264 fun E=> ?_;have hl:J (Xq (J s:Int))<=10:=OB
 have hsz:(X7 s).size=J s:=rfl;have hlm:J (map X6 (Xq (J s:Int)))=J (Xq (J s:Int)):=Oc
 generalize cN:Xq (J s:Int)=hd at*;have hput:Ys s=hd++s:=by unfold Ys;rw[cN]
 have aX:=X3f (J s) Oa;rw[cN] at aX;have fm:J hd=min (J (hd.map X6)) (J (replicate (J (hd.map X6)+(X7 s).size) (zD (Value.int IntKind.u8 0).cells.toList))):=Oc
 have hk:J hd<=J ((hd.map X6).take (J hd)++(replicate (J (hd.map X6)+(X7 s).size) (zD (Value.int IntKind.u8 0).cells.toList)).drop (J hd)):=Oc
 have hm2:J s=min (J (s.map X6)) (J ((hd.map X6).take (J hd)++(replicate (J (hd.map X6)+(X7 s).size) (zD (Value.int IntKind.u8 0).cells.toList)).drop (J hd))-J hd):=by simp[hsz]
 refine Yh ?_;refine Qq ?_;refine W7_ ?_;refine Xb4 (m:=J hd) (hg:=JSa) (hx:=JSb) (hL:=JSb) (hn:=JSe) (hy:=JSb) (hT:=JSb) (hd:=JSb) ?_ (hm:=by exact fm);refine X28 (k:=J hd) (hg:=JSa) (hx:=JSb) (hL:=JSb) (hlo:=JSb) (hn:=JSe) (hT:=JSb) (hd:=JSb) ?_ (hk:=Jr);refine W1_ ?_;refine X3u (m:=J s) (hg:=JSa) (hx:=JSb) (hL:=JSb) (hn:=JSe) (hy:=JSb) (hsrc:=JSf) (hT:=JSb) (hd:=JSb) ?_ (hk:=Jr) (hm:=by exact hm2);refine W6_ ?_;refine X3 ⟨_,Xe 2 (y:= .own 131 (J (Ys s))) (ZzQ ?_),⟨rfl,TV⟩,Xm ⟨?_,TV⟩⟩
 ·refine Eq.trans (b:=AVal.own 131 (_+_)) rfl ?_;simp[hput,hsz]
 ·refine Eq.trans (b:=AObj.row 1 (take _ _++_++drop _ _)) rfl ?_;rw[hput];congr 1;rw[take_of_length_le (l:=hd.map X6) Oc,take_left' Oc,take_of_length_le Oc,drop_of_length_le (by simp[hsz]),append_nil,map_append]
def X7V (b:List UInt8):Con prog 74 [] [.d (Xc b)] [] (ai (XP b)):=by
 refine ZC1 func74 ntmps74 fun E=> ?_;refine Yr ?_
 refine Xl (fun i:Nat=>i<=J b) (fun i=>⟨31,[(3,Xbm (X0W b i)),(6,.d (Xc b)),(7,ai (J b)),(8,ai i)],[]⟩) (fun i=>J b-i) 0 Oa
  (X9 rfl ⟨JL,JL,JL,JL,TV⟩ trivial) ?_
 intro i hi;refine Xp4 6 (sz:=1) (xs:=b.map X6) rfl fun bx=> ?_;rw[LM] at bx;have hc:=Xnm b i;by_cases hlt:i<J b
 ·obtain⟨x,hx⟩:=Xn hlt;have r9:=x.toNat_lt;refine YS ?_;(refine Z1 (u:=n8 x.toNat) (r:=n32 x.toNat) ?_ (hr:=by exact Ub rfl rfl OJ));(refine Z4 (op:= .xor) (r':=n32 (X0W b i^^^x.toNat)) (u:=n32 (X0W b i)) (v:=n32 x.toNat) ?_ (hr:=OL));refine W7_ ?_
  refine Xl (fun k:Nat=>k<=8) (fun k=>⟨31,[(6,.d (Xc b)),(7,ai (J b)),(8,ai i),(3,Xbm (X40 k (X0W b i^^^x.toNat))),(16,ai k)],[]⟩) (fun k=>8-k) 0 Oa
   (X9 rfl ⟨JL,JL,JL,JL,JL,TV⟩ trivial) ?_
  intro k hk;have hv:=Xb9 (XfX hc x) k;have ko:X40 (k+1) (X0W b i^^^x.toNat)=X3j (X40 k (X0W b i^^^x.toNat)):=rfl;generalize dR:X40 k (X0W b i^^^x.toNat)=v at*;by_cases gw:k<8
  ·by_cases eK:v%2=1
   ·have hb:X3j v=(v/2)^^^3988292384:=by unfold X3j;rw[PI eK]
    refine XG ?_;(refine Z3 (op:= .and) (r':=n32 (v%2)) (u:=n32 v) (v:=n32 1) ?_ (hr':=by exact CG n32 (Nat.and_one_is_mod v)) (hr:=IN));refine W5_ ?_;refine Z4 (op:= .shr) (r':=n32 (v/2)) (u:=n32 v) (v:=n64 1) ?_ (hr:=Iz);(refine Z4 (op:= .xor) (r':=n32 (v/2^^^3988292384)) (u:=n32 (v/2)) (v:=n32 3988292384) ?_ (hr:=OL));refine W6_ ?_;exact Qr
   ·have hb:X3j v=v/2:=by unfold X3j;rw[NI eK]
    refine XG ?_;(refine Z3 (op:= .and) (r':=n32 (v%2)) (u:=n32 v) (v:=n32 1) ?_ (hr':=by exact CG n32 (Nat.and_one_is_mod v)) (hr:=IN));refine W5_ ?_;refine Z4 (op:= .shr) (r':=n32 (v/2)) (u:=n32 v) (v:=n64 1) ?_ (hr:=Iz);refine W6_ ?_;exact Qr
  obtain rfl:k=8:=Oa
  have hstep:X0W b (i+1)=v:=by rw[Xid hx];exact dR
  refine XB ?_;exact⟨i+1,Oa,Oa,X9 rfl ⟨(by rw[hstep];exact ZzV),JL,JL,JL,TV⟩ TV⟩
 obtain rfl:i=J b:=Oa
 have hall:=XnQ b;rw[hall] at hc;rw[hall];have iX:∀w,(Op.unary .xor (n32 (X5q b))).run prog w= .ok (n32 (XP b)) w:=fun w=>XiA (P:=prog) (k:= .u32) (a:=X5q b) rfl hc w;refine XA ?_;refine Z6 (u:=n32 (X5q b)) (r:=n32 (XP b)) ?_ (hr:=by exact iX);(refine Z1 (u:=n32 (XP b)) (r:=ni (XP b)) ?_ (hr:=IX));refine W2_ ?_;exact Zr0
def X7F (s:List UInt8) (hs:J s<=65536):Con prog 264 [] [Xa s] [] (.d (Xc (Ys s))):=(Xtm s hs).data Oc
open Go
open List renaming length->J
abbrev UC (x:Nat):List D:=[.v (.int .i64 (x:Int))]
abbrev Vt (l:List Nat):D:= .sl 1 (l.map UC)
def X1s:List Nat->Nat
 |[]=>0
 |x::r=>x+1000*X1s r
def X0q:Nat->Nat->List Nat
 |0,_=>[]
 |n+1,v=>v%1000::X0q n (v/1000)
def X1V (l:List Nat):Prop:=∀d∈l,d<1000
def X7y (h:X1V l) {k x:Nat} (hx:l[k]? =some x):x<1000:=h x (mem_of_getElem? hx)
theorem X8w:∀n v,J (X0q n v)=n
 |0,_=>rfl
 |n+1,v=>by rw[X0q,LC,X8w n]
def X9V:∀n v,X1V (X0q n v)
 |0,_=>fun d h=>by simp[X0q] at h
 |n+1,v=>fun d h=>by
  rw[X0q] at h;rcases mem_cons.1 h with rfl|h
  ·exact Nat.mod_lt _ Oa
  ·exact X9V n _ d h
def XmV:∀l:List Nat,X1V l->X0q (J l) (X1s l)=l
 |[],_=>rfl
 |x::r,h=>by
  have hx:=h x Oc;rw[LC,X0q,X1s,show(x+1000*X1s r)%1000=x by omega,show(x+1000*X1s r)/1000=X1s r by omega,XmV r fun d hd=>h d (by simp[hd])]
def XkO:∀(l:List Nat) (k x y:Nat),l[k]? =some x->X1s (l.set k y)+x*1000^k=X1s l+y*1000^k
 |[],k,x,y,h=>OQ
 |z::r,0,x,y,h=>by
  simp at h;subst h;simp only[set_cons_zero,X1s,Nat.pow_zero,Nat.mul_one];omega
 |z::r,k+1,x,y,h=>by
  have ih:=XkO r k x y O2;simp only[set_cons_succ,X1s,Nat.pow_succ,<-Nat.mul_assoc];omega
theorem Xlj:∀n,X1s (replicate n 0)=0
 |0=>rfl
 |n+1=>by rw[replicate_succ,X1s,Xlj n]
def Xa5 (n:Nat):X1V (replicate n 0):=fun d h=>by
 have:=(mem_replicate.1 h).2;omega
def Xkj (h:X1V l) (k:Nat) {y:Nat} (hy:y<1000):X1V (l.set k y):=fun d hd=>by
 rcases mem_or_eq_of_mem_set hd with h1|rfl
 ·exact h d h1
 ·exact hy
def XvU {x d:Nat} (hV:X1s l+(d*c+carry)*1000^k=V) (hx:l[k]? =some x):
  X1s (l.set k ((carry+x+d*(c%1000))%1000))+(d*(c/1000)+(carry+x+d*(c%1000))/1000)*1000^(k+1)=V:=by
 have h1:=XkO l k x ((carry+x+d*(c%1000))%1000) hx;have ht:=Nat.mod_add_div (carry+x+d*(c%1000)) 1000;have e1:d*c=d*(c%1000)+1000*(d*(c/1000)):=by
  have hc:=Nat.mod_add_div c 1000
  calc d*c=d*(c%1000+1000*(c/1000)):=by rw[hc]
   _=_:=by rw[Nat.mul_add,Nat.mul_left_comm]
 rw[e1] at hV;rw[Nat.pow_succ];generalize X1s (l.set k ((carry+x+d*(c%1000))%1000))=A at*;generalize d*(c%1000)=u at*;generalize d*(c/1000)=w at*;generalize (carry+x+u)/1000=q at*;generalize (carry+x+u)%1000=r at*;generalize 1000^k=p at*;have e2:(r+1000*q)*p=(carry+x+u)*p:=by rw[ht]
 have e3:(w+q)*(p*1000)=1000*(w*p)+1000*(q*p):=by rw[<-Nat.mul_assoc,Nat.mul_comm,Nat.add_mul,Nat.mul_add]
 rw[e3];simp only[Nat.add_mul,Nat.mul_assoc] at*;omega
def Xv1 {A':Nat} (hV:A+a*b*1000^i=V) (h:A'=A+a%1000*b*1000^i):A'+a/1000*b*1000^(i+1)=V:=by
 have e1:a*b=a%1000*b+1000*(a/1000*b):=by
  have hc:=Nat.mod_add_div a 1000
  calc a*b=(a%1000+1000*(a/1000))*b:=by rw[hc]
   _=_:=by rw[Nat.add_mul,Nat.mul_assoc]
 rw[e1] at hV;rw[Nat.pow_succ];generalize a%1000*b=u at*;generalize a/1000*b=w at*;generalize 1000^i=p at*;have e3:w*(p*1000)=1000*(w*p):=by rw[<-Nat.mul_assoc,Nat.mul_comm]
 rw[e3];simp only[Nat.add_mul,Nat.mul_assoc] at*;omega
def Xh0 {m:Nat} (h:1000^k<=1000^m):k<=m:=(Nat.pow_le_pow_iff_right Oi).1 h
def Xtt (h:a*1000^i<=a0) (ha:0<a) (h0:a0<=1000000000000000):i<=5:=by
 refine Xh0 (Nat.le_trans ?_ (Nat.le_trans h h0));exact Nat.le_mul_of_pos_left _ ha
def Xte (h:c*1000^k<=b*1000^i) (hc:0<c) (hb:b<=1000000000000000) (hi:i<=5):k<=10:=by
 have h1:1000^k<=c*1000^k:=Nat.le_mul_of_pos_left _ hc;have h2:b*1000^i<=1000^5*1000^5:=Nat.mul_le_mul hb (Nat.pow_le_pow_right Oi hi);exact Xh0 (Nat.le_trans h1 (Nat.le_trans h h2))
def XrZ {u W:Nat} (h:A+(u+carry)*1000^k=V) (hV:V<=W) (hW:W<=1000^10) (hc:0<carry):k<=10:=by
 have h1:1000^k<=(u+carry)*1000^k:=Nat.le_mul_of_pos_left _ Oa;exact Xh0 (Nat.le_trans h1 Oa)
def Xmr {X:Nat} (h:c*1000^k<=X):c/1000*1000^(k+1)<=X:=by
 refine Nat.le_trans ?_ h;rw[Nat.pow_succ,Nat.mul_comm (1000^k),<-Nat.mul_assoc];exact Nat.mul_le_mul_right _ (Nat.div_mul_le_self c 1000)
def XwD {a0:Nat} (ha:a<=1000000000000000) (hb:b<=1000000000000000):a*b<=1000^10:=by
 have h:a*b<=1000000000000000*1000000000000000:=Nat.mul_le_mul ha hb;exact h
def XrA (h:A+a*b*1000^i=V):A+a%1000*b*1000^i<=V:=by
 rw[<-h];exact Nat.add_le_add_left (Nat.mul_le_mul_right _ (Nat.mul_le_mul_right _ (Nat.mod_le _ _))) _
def X20 (x y:List Nat):Nat->List Nat×Nat
 |0=>(replicate (J x) 0,0)
 |k+1=>let p:=X20 x y k;let t:=p.2+(x[k]?).getD 0+(y[k]?).getD 0;(p.1.set k (t%1000),t/1000)
def XiH (x y:List Nat):∀k,J (X20 x y k).1=J x
 |0=>by simp[X20]
 |k+1=>by simp only[X20,length_set];exact XiH x y k
def Xoa {x y:List Nat} (hx:X1V x) (hy:X1V y):∀k,(X20 x y k).2<=1
 |0=>by simp[X20]
 |k+1=>by
  have ih:=Xoa hx hy k;have h1:(x[k]?).getD 0<1000:=by
   cases h:x[k]? with
   |none=>simp
   |some a=>exact X7y hx h
  have h2:(y[k]?).getD 0<1000:=by
   cases h:y[k]? with
   |none=>simp
   |some a=>exact X7y hy h
  simp only[X20];omega
def X2u (x y:List Nat):List Nat:=(X20 x y (J x)).1
abbrev X7E (x:AVal) (n e:Int):AVal:= .tup [x,ai n,ai e]
def Xnd {w:Wr} (hw:af[k]? =some w) (hb:¬(0<=w.at_/\w.at_<J secs/\J w.b=64)):UF ⟨secs,af,on⟩=false:=by
 simp only[UF,decide_eq_false_iff_not];exact fun hf=>hb (hf.2.2.2.2 w (mem_of_getElem? hw))
def Xol {s:List UInt8} (hw:secs[k]? =some s) (hb:J s≠64):UF ⟨secs,af,on⟩=false:=by
 simp only[UF,decide_eq_false_iff_not];exact fun hf=>hb (hf.2.2.2.1 s (mem_of_getElem? hw))
def XaN (d:ak):Con prog 60 [] [XY d] [] (ab (UF d)):=by
 obtain⟨secs,af,on⟩:=d;refine ZC1 func60 ntmps60 fun E=> ?_;by_cases hok:1<=J secs/\J secs<=4096/\(on=true\/J af=0)
 case neg=>
  have hv:UF ⟨secs,af,on⟩=false:=O4
  by_cases h1:J secs<1
  ·refine Us ?_;refine Qv ?_;exact Qw
  by_cases h2:4096<J secs
  ·refine Us ?_;refine Qv ?_;exact Qw
  have h3:0<J af:=by
   exact Yt72
  cases on with
  |true=>exact(hok ⟨Oa,Oa,.inl rfl⟩).elim
  |false=>
   exact Qx
 obtain⟨k1,k2,k3⟩:=hok;refine Xor 0 1 rfl rfl (fun cU=> ?_);simp only[LM] at cU;refine X7Y ?_;refine W3_ ?_;refine JD ?_;refine Xk4 ⟨64,[(1,.ptr 100 0)],[(100,.box [.d (XS secs),.d (XW af),ab on])]⟩ ?_ ?_
 ·cases on with
  |true=>
   exact Qy
  |false=>
   have k4:J af=0:=by simpa using k3
   exact Qy
 refine W9_ ?_
 refine Xl (fun k:Nat=>k<=J secs/\∀(i:Nat) s,i<k->secs[i]? =some s->J s=64) (fun k=>⟨64,[(1,.ptr 100 0),(29,.d (XS secs)),(30,ai (J (secs.map Yd))),(31,ai k)],[(100,.box [.d (XS secs),.d (XW af),ab on])]⟩) (fun k=>J secs-k) 0 ⟨Oa,Oa⟩
  (X9 rfl ⟨JL,JL,JL,JL,TV⟩ ⟨rfl,TV⟩) ?_
 rintro k ⟨hk,hp⟩;refine W5_ ?_;refine X2E rfl (fun h=> ?_) (fun h=> ?_)
 ·have h:=of_decide_eq_true h;simp only[LM] at h;obtain⟨s,hs⟩:=Xn (l:=secs) (k:=k) Oa;by_cases h3:J s≠64
  ·have hv:=Xol (af:=af) (on:=on) hs h3;refine YV ?_;exact Qw
  ·have h3:J s=64:=by simpa using h3
   refine Y5 ?_;refine⟨k+1,⟨Oa,fun i t hi ht=> ?_⟩,Oa,X9 rfl ⟨JL,JL,JL,JL,TV⟩ ⟨rfl,TV⟩⟩;by_cases hik:i=k
   ·subst hik;rw[hs] at ht;cases ht;omega
   ·exact hp i t Oa ht
 have h:=of_decide_eq_false h;simp only[LM] at h;obtain rfl:k=J secs:=Oa
 have ig:∀s∈secs,J s=64:=XbX fun i x hx=>hp i x (GS.1 hx).1 hx;refine XA ?_
 refine Xl (fun k:Nat=>k<=J af/\∀(i:Nat) w,i<k->af[i]? =some w->0<=w.at_/\w.at_<J secs/\J w.b=64) (fun k=>⟨64,[(1,.ptr 100 0),(40,.d (XW af)),(41,ai (J (af.map cWr))),(42,ai k)],[(100,.box [.d (XS secs),.d (XW af),ab on])]⟩) (fun k=>J af-k) 0 ⟨Oa,Oa⟩
  (X9 rfl ⟨JL,JL,JL,JL,TV⟩ ⟨rfl,TV⟩) ?_
 rintro k ⟨hk,hq⟩;refine W5_ ?_;refine X2E rfl (fun h=> ?_) (fun h=> ?_)
 ·have h:=of_decide_eq_true h;simp only[LM] at h;obtain⟨w,hw⟩:=Xn (l:=af) (k:=k) Oa;by_cases hb:0<=w.at_/\w.at_<J secs/\J w.b=64
  ·obtain⟨b1,b2,b3⟩:=hb;refine X04 ?_;refine⟨k+1,⟨Oa,fun i t hi ht=> ?_⟩,Oa,X9 rfl ⟨JL,JL,JL,JL,TV⟩ ⟨rfl,TV⟩⟩;by_cases hik:i=k
   ·subst hik;rw[hw] at ht;cases ht;exact⟨b1,b2,b3⟩
   ·exact hq i t Oa ht
  ·have hv:=Xnd (secs:=secs) (on:=on) hw hb;by_cases c1:w.at_<0
   ·exact Qx
   by_cases c2:(J secs:Int)<=w.at_
   ·exact Qx
   have c3:J w.b≠64:=fun h=>hb ⟨Oa,Oa,h⟩;exact Qx
 have h:=of_decide_eq_false h;simp only[LM] at h;obtain rfl:k=J af:=Oa
 have pJ:∀w∈af,0<=w.at_/\w.at_<J secs/\J w.b=64:=XbX fun i x hx=>hq i x (GS.1 hx).1 hx;have hv:UF ⟨secs,af,on⟩=true:=by
  simp only[UF,decide_eq_true_eq];exact⟨k1,k2,k3,ig,pJ⟩
 refine W5_ ?_;exact Qw
def Vh (d:ak):Int:=if UF d then (if d.on then 0 else 22) else 1
def X3W (d:ak):Con prog 126 [] [XY d] [] (ai (Vh d)):=by
 obtain⟨secs,af,on⟩:=d;refine ZC1 func126 ntmps126 fun E=> ?_;cases hv:UF ⟨secs,af,on⟩ with
 |true=>
  cases on with
  |true=>
   refine XA ?_;refine Z5 (ag:=XaN ⟨secs,af,true⟩) ?_;refine Yb ?_;exact Qz
  |false=>
   refine XA ?_;refine Z5 (ag:=XaN ⟨secs,af,false⟩) ?_;refine Yr ?_;exact Qz
 |false=>
  refine XA ?_;refine Z5 (ag:=XaN ⟨secs,af,on⟩) ?_;refine W8_ ?_;exact Qz
def XiM (xs:List (List D)) (hl:J xs<=140737488355328):Con prog 127 [] [.d (.sl 1 xs)] [(110,.row 1 xs)] (.own 110 (J xs)):=by
 have h:Con prog 127 [] [.d (.sl 1 xs)] [(100,.row 1 xs)] (.own 100 (J xs)):=by
  refine ZC1 func127 ntmps127 fun E=> ?_;refine XA ?_;refine X6i rfl (fun h=> ?_) (fun _=> ?_)
  ·subst h;refine W4_ ?_;refine X3 ?_;exact⟨_,Uo 2 100 1 rfl rfl rfl,⟨rfl,TV⟩,Xm ⟨rfl,TV⟩⟩
  ·refine W8_ ?_;refine X3 ?_;refine⟨_,ZzS,⟨?_,TV⟩,Xm ⟨rfl,TV⟩⟩;simp only[X5s];simp[St.get,St.set,St.own,Xs]
 exact YU 100 110 h
def XbZ {α:Type}{l:List α}{x:α} (h:l[k]? =some x):l.take (k+1)=l.take k++[x]:=by
 rw[take_add_one,h];rfl
abbrev X05 (d:ak):Prop:=J d.aa<=4096/\J d.pending<=4096/\(∀s∈d.aa,J s<=4096)/\∀w∈d.pending,J w.b<=4096
def XmF (d:ak) (hl:X05 d):Con prog 151 [] [XY d] [(120,.row 2 (d.pending.map cWr)),(121,.mat 1 (d.aa.map fun s=>s.map X6))] (.agg [.own 120 (J d.pending),.own 121 (J d.aa),ab d.on]):=by
 obtain⟨secs,af,on⟩:=d;obtain⟨bh,bM,jZ,lI⟩:=hl;simp only at bh bM jZ lI;refine ZC1 func151 ntmps151 fun E=> ?_;refine YJ ?_;refine X8 (X1Y 102 1 121 1 (cs:=[aq,aq,ab on]) rfl rfl rfl rfl rfl) ?_;refine X8 (XrH 121 1 rfl) ?_;refine X8 (X1Y 102 0 120 2 (cs:=[aq,.own 121 0,ab on]) rfl rfl rfl rfl rfl) ?_
 refine Xl (fun k:Nat=>k<=J secs) (fun k=>⟨48,[(1,.ptr 100 0),(2,.ptr 101 0),(3,.ptr 102 0),(12,.d (XS secs)),(13,ai (J (secs.map Yd))),(14,ai k)],[(100,.box [.d (XS secs),.d (XW af),ab on]),(101,.box [aq,aq,ab false]),(102,.box [.own 120 0,.own 121 k,ab on]),(120,.row 2 []),(121,.mat 1 ((secs.take k).map fun s=>s.map X6))]⟩) (fun k=>J secs-k) 0 Oa
  (X9 rfl ⟨JL,JL,JL,JL,JL,JL,TV⟩ ⟨rfl,rfl,rfl,rfl,rfl,TV⟩) ?_
 intro k hk;refine W5_ ?_;refine X2E rfl (fun h=> ?_) (fun h=> ?_)
 ·have h:=of_decide_eq_true h;simp only[LM] at h;obtain⟨s,hs⟩:=Xn (l:=secs) (k:=k) Oa;have aL:J s<=4096:=jZ s (mem_of_getElem? hs);refine XK ?_;(refine Z5 (ag:=XiM (s.map X6) Ou) ?_);refine W9_ ?_;refine⟨k+1,Oa,Oa,X9 rfl ⟨JL,JL,JL,JL,JL,JL,TV⟩ ⟨rfl,rfl,?_,rfl,?_,TV⟩⟩
  ·refine Eq.trans (b:=AObj.box [.own 120 0,.own 121 _,ab on]) rfl ?_;congr 3;simp;omega
  ·refine Eq.trans (b:=AObj.mat 1 (_++[_])) rfl ?_;rw[XbZ hs];simp
 have h:=of_decide_eq_false h;simp only[LM] at h;obtain rfl:k=J secs:=Oa
 refine XA ?_
 refine Xl (fun k:Nat=>k<=J af) (fun k=>⟨48,[(1,.ptr 100 0),(2,.ptr 101 0),(3,.ptr 102 0),(27,.d (XW af)),(28,ai (J (af.map cWr))),(29,ai k)],[(100,.box [.d (XS secs),.d (XW af),ab on]),(101,.box [aq,aq,ab false]),(102,.box [.own 120 k,.own 121 (J secs),ab on]),(120,.row 2 ((af.take k).map cWr)),(121,.mat 1 (secs.map fun s=>s.map X6))]⟩) (fun k=>J af-k) 0 Oa
  (X9 rfl ⟨JL,JL,JL,JL,JL,JL,TV⟩ ⟨rfl,rfl,rfl,rfl,(by refine Eq.trans (b:=AObj.mat 1 _) rfl ?_;simp),TV⟩) ?_
 intro k hk;refine W5_ ?_;refine X2E rfl (fun h=> ?_) (fun h=> ?_)
 ·have h:=of_decide_eq_true h;simp only[LM] at h;obtain⟨w,hw⟩:=Xn (l:=af) (k:=k) Oa;have tG:J w.b<=4096:=lI w (mem_of_getElem? hw);refine Yh ?_;(refine Z5 (ag:=Xl7 (w.b.map X6) Ou) ?_);refine XB ?_;refine⟨k+1,Oa,Oa,X9 rfl ⟨JL,JL,JL,JL,JL,JL,TV⟩ ⟨rfl,rfl,?_,?_,rfl,TV⟩⟩
  ·refine Eq.trans (b:=AObj.box [.own 120 _,.own 121 (J secs),ab on]) rfl ?_;congr 3;simp;omega
  ·refine Eq.trans (b:=AObj.row 2 (_++[_])) rfl ?_;rw[XbZ hw];simp
 have h:=of_decide_eq_false h;simp only[LM] at h;obtain rfl:k=J af:=Oa
 refine W6_ ?_;refine X3 ⟨_,ZzS,⟨⟨101,0,_,rfl,rfl,.inr ⟨3,_,rfl,rfl,rfl,rfl⟩⟩,TV⟩,Xm ⟨?_,rfl,TV⟩⟩;refine Eq.trans (b:=AObj.row 2 _) rfl ?_;simp
def Xnx (d:ak):Con prog 102 [(0,.row 2 (d.pending.map cWr)),(1,.mat 1 (d.aa.map fun s=>s.map X6))] [.agg [.own 0 (J d.pending),.own 1 (J d.aa),ab d.on]] [(0,.froz 2 (d.pending.map cWr)),(1,.froz 1 (d.aa.map Yd))] (XY d):=by
 obtain⟨secs,af,on⟩:=d;refine ZC1 func102 ntmps102 fun E=> ?_;refine Yb ?_;refine X8 (XI 0 rfl) ?_;refine X8 (Xqr 1 rfl) ?_;refine X8 (VR 101 0 1 (cs:=[.own 1 (J secs),.own 0 (J af),ab on]) (sz:=1) (xs:=secs.map Yd) rfl rfl (by refine Eq.trans (b:=AObj.froz 1 _) rfl ?_;simp) Oc) ?_;refine X8 (VR 101 1 0 (cs:=[.d (XS secs),.own 0 (J af),ab on]) (sz:=2) (xs:=af.map cWr) rfl rfl rfl Oc) ?_;refine X3 ⟨_,ZzS,⟨⟨101,0,_,rfl,rfl,.inr ⟨3,_,rfl,rfl,rfl,rfl⟩⟩,TV⟩,Xm ⟨rfl,?_,TV⟩⟩;refine Eq.trans (b:=AObj.froz 1 _) rfl ?_;simp
def XyK (d:ak):Con prog 102 [(120,.row 2 (d.pending.map cWr)),(121,.mat 1 (d.aa.map fun s=>s.map X6))] [.agg [.own 120 (J d.pending),.own 121 (J d.aa),ab d.on]] [(120,.froz 2 (d.pending.map cWr)),(121,.froz 1 (d.aa.map Yd))] (XY d):=by
 have h:=YU 1 121 (YU 0 120 (Xnx d));exact h
end Go.Fw
