/- Values in bytes, in plain Lean: what the program's reader does. -/
import Derived.Test.YtpbgjcbkhgfmkaaGreatDoorChecked
import Derived.Test.YtpbgjcbkhgfmkaaGreatDoorM04
import Derived.Test.YtpbgjcbkhgfmkaaGreatDoorM06
set_option maxHeartbeats 8000000
namespace Go.Fw
open Go List
set_option linter.unusedVariables false
abbrev zV:Val:= .mk 0 0 0 [] []
def Ua (g:Nat->Int->Val×Int×Int) (a:Int):Nat->List Val×Int×Int
 |0=>([],a,0)
 |k+1=>let p:=Ua g a k
  if p.2.2≠0 then p else let r:=g k p.2.1;(p.1++[r.1],r.2.1,r.2.2)
def X2A (k n:Int):Bool:=if k=8 then decide (64<n) else decide (25<n)||decide (n%2=0)
def Vz (gl gp:Nat->Int->Val×Int×Int) (b:List UInt8) (a k:Int):Val×Int×Int:=
 if k=1\/k=2\/k=5\/k=6 then let r:=YX b a;(.mk k r.1 0 [] [],r.2.1,r.2.2)
 else if k=3 then let r:=YX b a
  if r.2.2≠0 then (.mk 3 0 0 [] [],r.2.1,r.2.2) else let q:=YX b r.2.1;(.mk 3 r.1 q.1 [] [],q.2.1,q.2.2)
 else if k=4 then let r:=X0M b a 100;(.mk 4 0 0 r.1 [],r.2.1,r.2.2)
 else if k=7\/k=8 then let c:=XB b a
  if c.2.2≠0 then (.mk k 0 0 [] [],c.2.1,c.2.2) else if X2A k c.1 then (.mk k 0 0 [] [],c.2.1,2) else
   let p:=Ua (if k=8 then gl else gp) c.2.1 c.1.toNat;(.mk k 0 0 [] p.1,p.2.1,p.2.2)
 else (.mk k 0 0 [] [],a,0)
def X0P (gl gp:Nat->Int->Val×Int×Int) (m:Nat) (b:List UInt8) (a want:Int):Val×Int×Int:=
 if a=b.length then (zV,a,3) else
  let k:Int:=((b[a.toNat]?).getD 0).toNat
  if 8<k\/(k=8/\m=0)\/(want≠0/\k≠want) then (zV,a,2) else
   let c:=Vz gl gp b (a+1) k
   if c.2.2=0/\Xk 8 c.1=false then (c.1,c.2.1,2) else c
def noG (_:Nat) (a:Int):Val×Int×Int:=(zV,a,2)
def X7N (b:List UInt8) (a want:Int):Val×Int×Int:=X0P noG noG 0 b a want
def X3L (b:List UInt8) (i:Nat) (a:Int):Val×Int×Int:=X7N b a (5+(i%2:Nat))
def X2X (b:List UInt8):Nat->Int->Val×Int×Int
 |0,a=>X0P noG (X3L b) 0 b a 0
 |m+1,a=>X0P (fun _ e=>X2X b m e) (X3L b) (m+1) b a 0
def X9q (b:List UInt8):Nat->Nat->Int->Val×Int×Int
 |0=>noG
 |m+1=>fun _ e=>X2X b m e
theorem X6q (b:List UInt8) (m:Nat) (a:Int):X2X b m a=X0P (X9q b m) (X3L b) m b a 0:=by
 cases m<;>rfl
def X18 (b:List UInt8) (a:Int):Val×Int×Int:=
 if a<0\/(b.length:Int)<a then (zV,0,1) else let r:=X2X b 8 a;if r.2.2≠0 then (zV,0,r.2.2) else r
theorem XcY:∀(v:Val) (m m':Nat),m<=m'->Xk m v=true->Xk m' v=true:=by
 intro v;induction v using Val.rec (motive_2:=fun l=> ∀(m m':Nat),m<=m'->X0C m l=true->X0C m' l=true) with
 |mk k n d s l ih=>
  intro m m' hm h;rw[Xk] at h |-;by_cases hk:k=8
  ·subst hk;simp at h |-;refine⟨h.1,⟨h.2.1.1,h.2.1.2.1,by omega⟩,ih _ _ (by omega) h.2.2⟩
  ·simp only[hk,if_false] at h |-;exact h
 |nil=>rfl
 |cons v r ih1 ih2=>
  rename_i hm h;rw[X0C] at h |-;simp at h |-;exact⟨ih1 _ _ hm h.1,ih2 _ _ hm h.2⟩
open Go Go.Proofs Tryz
set_option maxRecDepth 100000
set_option linter.unusedSimpArgs false
abbrev X6C (n:Nat):AVal:= .d (.v (.int .u64 n))
abbrev n8 (n:Nat):Value:= .int .u8 n
abbrev n32 (n:Nat):Value:= .int .u32 n
abbrev n64 (n:Nat):Value:= .int .u64 n
abbrev ni (n:Nat):Value:= .int .i64 n
theorem Uf {src dst:TypeId}{k:IntKind}{a:Nat} (hs:(prog.underlying src).isSome=true) (hd:X7V prog dst .u8=true) (w:World):(convert src dst (.int k (a:Int))).run prog w= .ok (n8 (a%256)) w:=
 Xsm hs hd rfl w
theorem Xs8:∀m,m<256->m|||128=m%128+128:=by decide+kernel
variable{i n:Nat}{c:UInt8}{d:Int}{s:List UInt8}
theorem X1Y (h:n<18446744073709551616):(vS n).length<=10:=by
 obtain⟨h1,h2,_⟩:=Xg1 n;exact Xfy 10 h1 (by rw[h2];exact Nat.lt_of_lt_of_le h (by decide)) (by omega)
theorem XiZ (h:128<=n):vS n=UInt8.ofNat (n%128+128)::vS (n/128):=by rw[vS,NI (by omega)]
theorem XfL (n:Nat) (hn:n<18446744073709551616):Con prog 235 [] [aq,X6C n] [(130,.row 1 ((vS n).map X5))] (.own 130 (vS n).length):=by
 refine ZC1 func235 ntmps235 fun E=> ?_;refine W6_ ?_;refine X8 (Uu 0 130 1 rfl rfl rfl) ?_
 refine Xn (ι:=List UInt8×Nat) (fun i=>i.1++vS i.2=vS n/\i.2<=n) (fun i=>⟨20,[(1,X6C i.2),(0,.own 130 i.1.length)],[(130,.row 1 (i.1.map X5))]⟩) (fun i=>i.2) ([],n) ⟨rfl,Nat.le_refl _⟩
  (Xb rfl ⟨JL,JL,TV⟩ ⟨rfl,TV⟩) ?_
 rintro⟨pre,m⟩ ⟨hpre,hm⟩;simp only at hpre hm;have hlen:pre.length<=10:=by
  have h1:=CG length hpre;have h2:=X1Y hn;simp only[LA] at h1;omega
 by_cases h:128<=m
 ·have hv:=XiZ h;have e1:n8 (m%256|||128)=n8 (UInt8.ofNat (m%128+128)).toNat:=by rw[Xs8 _ (by omega),X1k (by omega)];congr 2;omega
  have e2:n64 (m/2^7)=n64 (m/128):=rfl;refine XQ ?_;refine Z0 (u:=n64 m) (r:=n8 (m%256)) ?_ (hr:=by exact Uf rfl rfl);(refine Z1 (op:= .or) (r':=_) (u:=n8 (m%256)) (v:=n8 128) ?_ (hr':=by exact e1) (hr:=by exact X29 (by rw[Vv];omega) (by rw[Vv];omega)));refine W6_ ?_;refine Z1 (op:= .shr) (r':=_) (u:=n64 m) (v:=n64 7) ?_ (hr':=by exact e2) (hr:=by exact X1C (by decide));refine W2_ ?_;refine⟨(pre++[UInt8.ofNat (m%128+128)],m/128),⟨by simp only;rw[<-hpre,hv];simp,by simp only;omega⟩,by simp only;omega,Xb rfl ⟨JL,(by refine AVal.le_of_eq ?_;refine Eq.trans (b:=AVal.own 130 (_+_)) rfl ?_;simp),TV⟩ ⟨?_,TV⟩⟩;refine Eq.trans (b:=AObj.row 1 (_++[[.v (n8 _)]])) rfl ?_;simp
 ·have hv:vS m=[UInt8.ofNat m]:=XmI (by omega);have e3:n8 (m%256)=n8 (UInt8.ofNat m).toNat:=by rw[X1k (by omega)];congr 2;omega
  refine XR ?_;(refine Z0 (u:=n64 m) (r:=n8 (UInt8.ofNat m).toNat) ?_ (hr:=by exact by rw[<-e3];exact Uf rfl rfl));refine W4_ ?_;refine X2 ⟨_,Xe 4 (y:= .own 130 (vS n).length) (AVal.le_of_eq ?_),⟨rfl,TV⟩,Xj ⟨?_,TV⟩⟩
  ·refine Qa ?_;rw[<-hpre,hv];simp
  ·refine Eq.trans (b:=AObj.row 1 (_++[[.v (n8 _)]])) rfl ?_;rw[<-hpre,hv];simp
theorem Xez (n:Int) (hn:n<=9223372036854775807):Con prog 162 [] [ai n] [(130,.row 1 ((Xl n).map X5))] (.own 130 (Xl n).length):=by
 refine ZC1 func162 ntmps162 fun E=> ?_;by_cases h:n<0
 ·rw[show Xl n=[] by simp[Xl,h]];refine Yx ?_;refine X8 (Uu 2 130 1 rfl rfl rfl) ?_;exact Qb
 ·obtain⟨m,rfl⟩:∃m:Nat,n=m:=⟨n.toNat,by omega⟩
  rw[show Xl (m:Int)=vS m by unfold Xl;rw[NI h,Int.toNat_natCast]];refine Yx ?_;(refine Z0 (u:=ni m) (r:=n64 m) ?_ (hr:=by exact Uj rfl rfl (by rw[YG];omega)));refine Z3 (af:=XfL m (by omega)) ?_;exact Qc
theorem XqD (n:Int) (hn: -9223372036854775808<=n/\n<=9223372036854775807):Con prog 291 [] [ai n] [(130,.row 1 ((U5 n).map X5))] (.own 130 (U5 n).length):=by
 refine ZC1 func291 ntmps291 fun E=> ?_;by_cases h:n<0
 ·obtain⟨m,rfl⟩:∃m:Nat,n= -(m:Int)-1:=⟨(-n-1).toNat,by omega⟩
  have ez:zig (-(m:Int)-1)=2*m+1:=by unfold zig;rw[PI (by omega)];omega
  unfold U5;rw[ez];have ew:IntKind.u64.wrap (-(m:Int)-1)=((18446744073709551615-m:Nat):Int):=by rw[IntKind.wrap_u64];omega
  have es:(18446744073709551615-m)*2^1%2^IntKind.u64.bits=18446744073709551614-2*m:=by
   rw[show 2^IntKind.u64.bits=18446744073709551616 from rfl];omega
  have ec:2^IntKind.u64.bits-1-(18446744073709551614-2*m)=2*m+1:=by
   rw[show 2^IntKind.u64.bits=18446744073709551616 from rfl];omega
  have iK:∀w,(Op.unary .xor (n64 (18446744073709551614-2*m))).run prog w= .ok (n64 (2*m+1)) w:=fun w=>by
   have h:=Xh4 (P:=prog) (k:= .u64) (a:=18446744073709551614-2*m) rfl (by rw[show 2^IntKind.u64.bits=18446744073709551616 from rfl];omega) w
   rwa [ec] at h
  refine W7_ ?_
  (refine Z0 (u:= .int .i64 (-(m:Int)-1)) (r:=n64 (18446744073709551615-m)) ?_ (hr:=by exact by intro w;show _=Result.ok (Value.int .u64 ((18446744073709551615-m:Nat):Int)) w;rw[<-ew];exact Xcf rfl rfl w))
  refine Z1 (op:= .shl) (r':=n64 (18446744073709551614-2*m)) (u:=n64 (18446744073709551615-m)) (v:=n64 1) ?_ (hr':=by exact CG n64 es) (hr:=by exact X26 rfl (by decide));refine XK ?_;refine Z4 (u:=n64 (18446744073709551614-2*m)) (r:=n64 (2*m+1)) ?_ (hr:=by exact iK);refine W5_ ?_;refine Z3 (af:=XfL (2*m+1) (by omega)) ?_;exact Qc
 ·obtain⟨m,rfl⟩:∃m:Nat,n=m:=⟨n.toNat,by omega⟩
  have ez:zig (m:Int)=2*m:=by unfold zig;rw[NI (by omega)];omega
  unfold U5;rw[ez];have es:m*2^1%2^IntKind.u64.bits=2*m:=by
   rw[show 2^IntKind.u64.bits=18446744073709551616 from rfl];omega
  refine W7_ ?_;(refine Z0 (u:=ni m) (r:=n64 m) ?_ (hr:=by exact Uj rfl rfl (by rw[YG];omega)));refine Z1 (op:= .shl) (r':=n64 (2*m)) (u:=n64 m) (v:=n64 1) ?_ (hr':=by exact CG n64 es) (hr:=by exact X26 rfl (by decide));refine XQ ?_;refine Z3 (af:=XfL (2*m) (by omega)) ?_;exact Qc
theorem X30 (n:Int) (hn:n<=9223372036854775807):Con prog 162 [] [ai n] [] (.d (Xg (Xl n))):=(Xez n hn).data (by simp)
theorem X75 (n:Int) (hn: -9223372036854775808<=n/\n<=9223372036854775807):Con prog 291 [] [ai n] [] (.d (Xg (U5 n))):=(XqD n hn).data (by simp)
abbrev Xi (l:List UInt8):AVal:= .d (.v (.string (X6 l)))
abbrev XaZ (n:Nat):AVal:= .d (.v (n32 n))
def X0E (b:List UInt8) (i:Nat):Nat:=(b.take i).foldl X96 4294967295
theorem Xib (b:List UInt8) (i:Nat):X0E b i<4294967296:=Xgx _ (by decide)
theorem XiO {b:List UInt8}{x:UInt8} (h:b[i]? =some x):X0E b (i+1)=X96 (X0E b i) x:=by
 unfold X0E;rw[take_add_one,h,Option.toList_some,foldl_append];rfl
theorem XjO (b:List UInt8):X0E b b.length=X5v b:=by unfold X0E X5v;rw[take_length]
theorem Xtm (s:List UInt8) (hs:s.length<=65536):Con prog 290 [] [Xi s] [(131,.row 1 ((Ym s).map X5))] (.own 131 (Ym s).length):=by
 refine ZC1 func290 ntmps290 fun E=> ?_;have hl:(Xl (s.length:Int)).length<=10:=by rw[X2k (by omega)];exact X1Y (by omega)
 have hsz:(X6 s).size=s.length:=rfl;have hlm:(map X5 (Xl (s.length:Int))).length=(Xl (s.length:Int)).length:=by simp
 generalize cG:Xl (s.length:Int)=hd at*;have hput:Ym s=hd++s:=by unfold Ym;rw[cG]
 have aR:=X30 s.length (by omega);rw[cG] at aR;have ej:hd.length=min (hd.map X5).length (replicate ((hd.map X5).length+(X6 s).size) (zD (Value.int IntKind.u8 0).cells.toList)).length:=by simp
 have hk:hd.length<=((hd.map X5).take hd.length++(replicate ((hd.map X5).length+(X6 s).size) (zD (Value.int IntKind.u8 0).cells.toList)).drop hd.length).length:=by simp
 have hm2:s.length=min (s.map X5).length (((hd.map X5).take hd.length++(replicate ((hd.map X5).length+(X6 s).size) (zD (Value.int IntKind.u8 0).cells.toList)).drop hd.length).length-hd.length):=by simp[hsz]
 refine Yf ?_;refine Qd ?_;refine W7_ ?_;refine X9O (m:=hd.length) (hg:=JSa) (hx:=JSb) (hL:=JSb) (hn:=JSe) (hy:=JSb) (hT:=JSb) (hd:=JSb) ?_ (hm:=by exact ej);refine X1H (k:=hd.length) (hg:=JSa) (hx:=JSb) (hL:=JSb) (hlo:=JSb) (hn:=JSe) (hT:=JSb) (hd:=JSb) ?_ (hk:=by exact hk);refine W1_ ?_;refine X3c (m:=s.length) (hg:=JSa) (hx:=JSb) (hL:=JSb) (hn:=JSe) (hy:=JSb) (hsrc:=JSf) (hT:=JSb) (hd:=JSb) ?_ (hk:=by exact hk) (hm:=by exact hm2);refine W6_ ?_;refine X2 ⟨_,Xe 2 (y:= .own 131 (Ym s).length) (AVal.le_of_eq ?_),⟨rfl,TV⟩,Xj ⟨?_,TV⟩⟩
 ·refine Eq.trans (b:=AVal.own 131 (_+_)) rfl ?_;simp[hput,hsz]
 ·refine Eq.trans (b:=AObj.row 1 (take _ _++_++drop _ _)) rfl ?_;rw[hput];congr 1;rw[take_of_length_le (l:=hd.map X5) (by simp),take_left' (by simp),take_of_length_le (by simp),drop_of_length_le (by simp[hsz]),append_nil,map_append]
theorem X8h (b:List UInt8):Con prog 99 [] [.d (Xg b)] [] (ai (XT b)):=by
 refine ZC1 func99 ntmps99 fun E=> ?_;refine Yg ?_
 refine Xn (fun i:Nat=>i<=b.length) (fun i=>⟨31,[(3,XaZ (X0E b i)),(6,.d (Xg b)),(7,ai b.length),(8,ai i)],[]⟩) (fun i=>b.length-i) 0 (by omega)
  (Xb rfl ⟨JL,JL,JL,JL,TV⟩ trivial) ?_
 intro i hi;refine XhD 6 (sz:=1) (xs:=b.map X5) rfl fun bu=> ?_;rw[LM] at bu;have hc:=Xib b i;by_cases hlt:i<b.length
 ·obtain⟨x,hx⟩:=Xu hlt;have sM:=x.toNat_lt;refine YR ?_;(refine Z0 (u:=n8 x.toNat) (r:=n32 x.toNat) ?_ (hr:=by exact Uj rfl rfl (by rw[X1z];omega)));(refine Z2 (op:= .xor) (r':=n32 (X0E b i^^^x.toNat)) (u:=n32 (X0E b i)) (v:=n32 x.toNat) ?_ (hr:=by exact X9W (by rw[X1z];omega) (by rw[X1z];omega)));refine W7_ ?_
  refine Xn (fun k:Nat=>k<=8) (fun k=>⟨31,[(6,.d (Xg b)),(7,ai b.length),(8,ai i),(3,XaZ (X40 k (X0E b i^^^x.toNat))),(16,ai k)],[]⟩) (fun k=>8-k) 0 (by omega)
   (Xb rfl ⟨JL,JL,JL,JL,JL,TV⟩ trivial) ?_
  intro k hk;have hv:=XaT (XcP hc x) k;have ji:X40 (k+1) (X0E b i^^^x.toNat)=X35 (X40 k (X0E b i^^^x.toNat)):=rfl;generalize gB:X40 k (X0E b i^^^x.toNat)=v at*;by_cases gY:k<8
  ·by_cases g7:v%2=1
   ·have hb:X35 v=(v/2)^^^3988292384:=by unfold X35;rw[PI g7]
    refine XR ?_;(refine Z1 (op:= .and) (r':=n32 (v%2)) (u:=n32 v) (v:=n32 1) ?_ (hr':=by exact CG n32 (Nat.and_one_is_mod v)) (hr:=by exact X1B (by rw[X1z];omega) (by rw[X1z];omega)));refine W5_ ?_;refine Z2 (op:= .shr) (r':=n32 (v/2)) (u:=n32 v) (v:=n64 1) ?_ (hr:=by exact X1C (by decide));(refine Z2 (op:= .xor) (r':=n32 (v/2^^^3988292384)) (u:=n32 (v/2)) (v:=n32 3988292384) ?_ (hr:=by exact X9W (by rw[X1z];omega) (by rw[X1z];omega)));refine W6_ ?_;exact Qe
   ·have hb:X35 v=v/2:=by unfold X35;rw[NI g7]
    refine XR ?_;(refine Z1 (op:= .and) (r':=n32 (v%2)) (u:=n32 v) (v:=n32 1) ?_ (hr':=by exact CG n32 (Nat.and_one_is_mod v)) (hr:=by exact X1B (by rw[X1z];omega) (by rw[X1z];omega)));refine W5_ ?_;refine Z2 (op:= .shr) (r':=n32 (v/2)) (u:=n32 v) (v:=n64 1) ?_ (hr:=by exact X1C (by decide));refine W6_ ?_;exact Qe
  obtain rfl:k=8:=by omega
  have hstep:X0E b (i+1)=v:=by rw[XiO hx];exact gB
  refine XK ?_;exact⟨i+1,by omega,by omega,Xb rfl ⟨(by rw[hstep];exact AVal.le_refl _),JL,JL,JL,TV⟩ TV⟩
 obtain rfl:i=b.length:=by omega
 have hall:=XjO b;rw[hall] at hc;rw[hall];have iK:∀w,(Op.unary .xor (n32 (X5v b))).run prog w= .ok (n32 (XT b)) w:=fun w=>Xh4 (P:=prog) (k:= .u32) (a:=X5v b) rfl hc w;refine XA ?_;refine Z4 (u:=n32 (X5v b)) (r:=n32 (XT b)) ?_ (hr:=by exact iK);(refine Z0 (u:=n32 (XT b)) (r:=ni (XT b)) ?_ (hr:=by exact Uj rfl rfl (by rw[YO];have:=X74 b;omega)));refine W2_ ?_;exact Zr0
theorem X76 (s:List UInt8) (hs:s.length<=65536):Con prog 290 [] [Xi s] [] (.d (Xg (Ym s))):=(Xtm s hs).data (by simp)
theorem X6l (h:(97<=c.toNat/\c.toNat<=122)\/(65<=c.toNat/\c.toNat<=90)):X0A c=true:=DT h
theorem X3s (h:¬((97<=c.toNat/\c.toNat<=122)\/(65<=c.toNat/\c.toNat<=90))):X0A c=false:=DF h
theorem XgB (c:UInt8):Con prog 224 [] [au8 c.toNat] [] (ab (X0A c)):=by
 refine ZC1 func224 ntmps224 fun E=> ?_;by_cases h1:97<=c.toNat
 ·by_cases h2:c.toNat<=122
  ·rw[X6l (by omega)];refine Yg ?_;refine Qg ?_;refine W4_ ?_;exact Qh
  ·rw[X3s (by omega)];exact Qj
 by_cases h3:65<=c.toNat
 ·by_cases h4:c.toNat<=90
  ·rw[X6l (by omega)];refine Yw ?_;exact Qh
  ·rw[X3s (by omega)];exact Qj
 rw[X3s (by omega)];exact Qj
theorem Xgf (h:s=[]):Y8 s=false:=by subst h;rfl
theorem XdW (h:20<s.length):Y8 s=false:=by unfold Y8;rw[DF (by omega)];rfl
theorem X8G (hc:s[0]? =some c) (h:X0A c=false):Y8 s=false:=by unfold Y8;rw[hc,Option.getD_some,h];simp
theorem X6f (hc:s[i]? =some c) (h:Ue c=false):Y8 s=false:=by
 unfold Y8;rw[show s.all Ue=false by rw[all_eq_false];exact⟨c,mem_of_getElem? hc,by simp[h]⟩];simp
theorem Xev (hc:s[0]? =some c) (h:X0A c=true) (iL:¬20<s.length) (hall:∀j,j<s.length->∃b,s[j]? =some b/\Ue b=true):Y8 s=true:=by
 have hl:=(GS.1 hc).1;unfold Y8;rw[hc,Option.getD_some,h,DT (by omega)];simp only[Bool.true_and,all_eq_true];intro b hb;obtain⟨j,hj⟩:=getElem?_of_mem hb;obtain⟨b',h1,h2⟩:=hall j (GS.1 hj).1;rw[hj] at h1;obtain rfl:=Option.some.inj h1;exact h2
theorem X3r (hc:s[i]? =some c) (h:Ue c=true) (hall:∀j,j<i->∃b,s[j]? =some b/\Ue b=true):∀j,j<i+1->∃b,s[j]? =some b/\Ue b=true:=fun j hj=>by
 by_cases e:j=i
 ·subst e;exact⟨c,hc,h⟩
 ·exact hall j (by omega)
theorem X6I (s:List UInt8):Con prog 143 [] [.d (.v (.string (X6 s)))] [] (ab (Y8 s)):=by
 refine ZC1 func143 ntmps143 fun E=> ?_;have hsz:(X6 s).size=s.length:=rfl;by_cases h0:s=[]
 ·rw[Xgf h0];subst h0;exact Qk
 by_cases iL:20<s.length
 ·rw[XdW iL];have jn:(20:Int)<(X6 s).size:=by omega
  exact Qk
 have jn:¬(20:Int)<(X6 s).size:=by omega
 obtain⟨c,hc⟩:=Xu (l:=s) (k:=0) (by cases s with|nil=>exact absurd rfl h0|cons=>simp);have hl:=XgB c;cases hlc:X0A c with
 |false=>
  rw[X8G hc hlc];rw[hlc] at hl;exact Qk
 |true=>
  rw[hlc] at hl;refine UP ?_
  refine Xn (fun i:Nat=>i<=s.length/\∀j,j<i->∃b,s[j]? =some b/\Ue b=true) (fun i=>⟨46,[(0,.d (.v (.string (X6 s)))),(18,ai (X6 s).size),(19,ai i)],[]⟩) (fun i=>s.length-i) 0 ⟨by omega,fun j hj=>by omega⟩
   (Xb rfl ⟨JL,JL,JL,TV⟩ trivial) ?_
  rintro i ⟨hi,hall⟩;by_cases hil:i<s.length
  case neg=>
   obtain rfl:i=s.length:=by omega
   rw[Xev hc hlc iL hall];have hn:¬((s.length:Nat):Int)<(X6 s).size:=by omega
   exact Ql
  have hn:(i:Int)<(X6 s).size:=by omega
  clear hl hlc hc;obtain⟨c,hc⟩:=Xu (l:=s) hil;have hl:=XgB c;cases hlc:X0A c with
  |true=>
   rw[hlc] at hl;have eO:=X3r hc (show Ue c=true by unfold Ue;rw[hlc];rfl) hall;refine U1 ?_;refine Qm ?_;refine Yx ?_;exact Qn
  |false=>
   rw[hlc] at hl;by_cases g1:48<=c.toNat
   ·by_cases g2:c.toNat<=57
    ·have eO:=X3r hc (show Ue c=true by unfold Ue;rw[DT (by omega)];simp) hall;refine Qo ?_;exact Qn
    by_cases g3:c.toNat=95
    ·have eO:=X3r hc (show Ue c=true by unfold Ue;rw[DT (by omega)];simp) hall;refine Qo ?_;exact Qn
    ·rw[X6f hc (show Ue c=false by unfold Ue;rw[hlc,DF (by omega)];rfl)];refine Qp ?_;exact Zr0
   ·have g3:¬c.toNat=95:=by omega
    rw[X6f hc (show Ue c=false by unfold Ue;rw[hlc,DF (by omega)];rfl)];refine Qp ?_;exact Zr0
def X4s (op:Int):Bool×Bool×Bool×Bool:=(decide (op=6),YS op,YL op,decide (1<=op/\op<=8))
theorem XpE (op:Int):Con prog 171 [] [ai op] [] (.tup [.agg [ab (X4s op).1,ab (X4s op).2.1,ab (X4s op).2.2.1],ab (X4s op).2.2.2]):=by
 refine ZCt func171 ntmps171 fun E=> ?_;by_cases k1:op=1
 ·subst k1;refine XY ?_;exact Qq
 by_cases k2:op=2
 ·subst k2;refine UV ?_;exact Qq
 by_cases k7:op=7
 ·subst k7;refine UX ?_;exact Qq
 by_cases k3:op=3
 ·subst k3;refine Qr ?_;exact Qq
 by_cases k4:op=4
 ·subst k4;refine X7 ?_;refine W7_ ?_;exact Qq
 by_cases k5:op=5
 ·subst k5;refine X7 ?_;refine Yg ?_;exact Qq
 by_cases k8:op=8
 ·subst k8;refine X7 ?_;refine YR ?_;exact Qq
 by_cases k6:op=6
 ·subst k6;refine X7 ?_;refine Vl ?_;exact Qq
 rw[show X4s op=(false,false,false,false) by unfold X4s YS YL;rw[DF (by omega),DF (by omega),DF (by omega),DF (by omega)]];refine X7 ?_;refine XY ?_;exact Qq
def X2x (k:Int):Bool×Bool×Bool×Bool:=(X24 k,decide (k=3\/k=5\/k=7),decide (k=6),decide (1<=k/\k<=7))
theorem Xvx (op:Int):Con prog 169 [] [ai op] [] (.tup [.agg [ab (X2x op).1,ab (X2x op).2.1,ab (X2x op).2.2.1],ab (X2x op).2.2.2]):=by
 refine ZCt func169 ntmps169 fun E=> ?_;by_cases k1:op=1
 ·subst k1;refine XY ?_;exact Qq
 by_cases k2:op=2
 ·subst k2;refine UV ?_;exact Qq
 by_cases k4:op=4
 ·subst k4;refine UX ?_;exact Qq
 by_cases k3:op=3
 ·subst k3;refine Qr ?_;exact Qq
 by_cases k5:op=5
 ·subst k5;refine X7 ?_;refine W7_ ?_;exact Qq
 by_cases k6:op=6
 ·subst k6;refine X7 ?_;refine XQ ?_;exact Qq
 by_cases k7:op=7
 ·subst k7;refine X7 ?_;refine YR ?_;exact Qq
 rw[show X2x op=(false,false,false,false) by unfold X2x X24;rw[DF (by omega),DF (by omega),DF (by omega),DF (by omega)]];refine X7 ?_;refine U8 ?_;exact Qq
theorem Xfw (n:Int):Con prog 172 [] [ai n] [] (ab (idV n)):=by
 refine ZC1 func172 ntmps172 fun E=> ?_;by_cases h1:1<=n
 ·by_cases h2:n<=1000000
  ·rw[show idV n=true by unfold idV;exact DT ⟨h1,h2⟩];exact Qs
  ·rw[show idV n=false by unfold idV;exact DF (by omega)];exact Qt
 ·rw[show idV n=false by unfold idV;exact DF (by omega)];exact Qt
abbrev nj (n:Nat):Value:= .int .i64 n
def inV (n:Int):Bool:=decide (-1000000000000000<=n/\n<=1000000000000000)
theorem X9V (n:Int):Con prog 345 [] [ai n] [] (ab (inV n)):=by
 refine ZC1 func345 ntmps345 fun E=> ?_;by_cases h1: -1000000000000000<=n
 ·by_cases h2:n<=1000000000000000
  ·rw[show inV n=true by simp[inV,h1,h2]];refine XG ?_;exact Qu
  ·rw[show inV n=false by simp[inV,h2]];refine XG ?_;exact Qv
 ·rw[show inV n=false by simp[inV,h1]];refine XG ?_;exact X2 ⟨_,Xe 2 (y:=ab false) (AVal.le_refl _),⟨rfl,TV⟩,X4 _⟩
theorem Xo8 (n:Int):Con prog 356 [] [ai n] [] (ab (inV n)):=by
 refine ZC1 func356 ntmps356 fun E=> ?_;by_cases h1: -1000000000000000<=n
 ·by_cases h2:n<=1000000000000000
  ·rw[show inV n=true by simp[inV,h1,h2]];refine XG ?_;exact Qu
  ·rw[show inV n=false by simp[inV,h2]];refine XG ?_;exact Qv
 ·rw[show inV n=false by simp[inV,h1]];refine XG ?_;exact X2 ⟨_,Xe 2 (y:=ab false) (AVal.le_refl _),⟨rfl,TV⟩,X4 _⟩
theorem Xnv (n:Int) (h: -1000000000000000<=n/\n<=1000000000000000):Con prog 392 [] [ai n] [] (ai (n.natAbs:Nat)):=by
 refine ZC1 func392 ntmps392 fun E=> ?_;refine XR ?_;exact X2 ⟨_,Xe 2 (y:=ai (n.natAbs:Nat)) (AVal.le_of_eq (by refine Eq.trans (b:=ai (max n (-n))) rfl ?_;congr 3;omega)),⟨rfl,TV⟩,X4 _⟩
theorem XfV (n:Int) (h: -1000000000000000<=n/\n<=1000000000000000):Con prog 335 [] [ai n] [] (ai (n.natAbs:Nat)):=by
 refine ZC1 func335 ntmps335 fun E=> ?_;by_cases h0:n<0
 ·refine Yv ?_;exact X2 ⟨_,Xe 2 (y:=ai (n.natAbs:Nat)) (AVal.le_of_eq (by refine Eq.trans (b:=ai (-n)) rfl ?_;congr 3;omega)),⟨rfl,TV⟩,X4 _⟩
 ·refine Yv ?_;exact X2 ⟨_,Xe 2 (y:=ai (n.natAbs:Nat)) (AVal.le_of_eq (by refine Eq.trans (b:=ai n) rfl ?_;congr 3;omega)),⟨rfl,TV⟩,X4 _⟩
theorem Xv5 (a b:Int) (ha: -1000000000000000<=a/\a<=1000000000000000) (hb: -1000000000000000<=b/\b<=1000000000000000):Con prog 378 [] [ai a,ai b] [] (ai (Nat.gcd a.natAbs b.natAbs:Nat)):=by
 refine ZC1 func378 ntmps378 fun E=> ?_;have h1:Con prog 345 [] [ai a] [] (ab true):=by
  have h:=X9V a
  rwa [show inV a=true by simpa [inV] using ha] at h
 have h2:Con prog 345 [] [ai b] [] (ab true):=by
  have h:=X9V b
  rwa [show inV b=true by simpa [inV] using hb] at h
 refine W8_ ?_;refine Z3 (af:=h1) ?_;refine W3_ ?_;refine Z3 (af:=h2) ?_;refine W8_ ?_;refine Z3 (af:=Xnv a ha) ?_;refine W1_ ?_;refine Z3 (af:=Xnv b hb) ?_;refine W5_ ?_
 refine Xn (ι:=Nat×Nat) (fun i=>Nat.gcd i.1 i.2=Nat.gcd a.natAbs b.natAbs) (fun i=>⟨24,[(0,ai i.1),(1,ai i.2)],[]⟩) (fun i=>i.2) (a.natAbs,b.natAbs) rfl
  (Xb rfl ⟨JL,JL,TV⟩ trivial) ?_
 rintro⟨x,y⟩ hg;simp only at hg;by_cases hy:y=0
 ·subst hy;rw[<-hg,Nat.gcd_zero_right];exact Qw
 ·have hy':¬((y:Int)=0):=by omega
  refine XQ ?_;refine Z2 (op:= .rem) (r':=nj (x%y)) (u:=nj x) (v:=nj y) ?_ (hr:=by exact Vh hy);refine W3_ ?_;exact Qx
theorem Xog (x y:Nat) (hx:x<=1000000000000000) (hy:y<=1000000000000000):Con prog 365 [] [ai x,ai y] [] (ai (Nat.gcd x y:Nat)):=by
 refine ZC1 func365 ntmps365 fun E=> ?_;refine W6_ ?_;generalize hG:Nat.gcd x y=G
 refine Xn (ι:=Nat×Nat) (fun i=>Nat.gcd i.1 i.2=G) (fun i=>⟨12,[(0,ai i.1),(1,ai i.2)],[]⟩) (fun i=>i.2) (x,y) hG
  (Xb rfl ⟨JL,JL,TV⟩ trivial) ?_
 rintro⟨x,y⟩ hg;simp only at hg;by_cases hy:y=0
 ·subst hy;rw[<-hg,Nat.gcd_zero_right];exact Qw
 ·have hy':(0:Int)<y:=by omega
  refine XQ ?_;refine Z2 (op:= .rem) (r':=nj (x%y)) (u:=nj x) (v:=nj y) ?_ (hr:=by exact Vh hy);refine W3_ ?_;exact Qx
abbrev X8E (n d:Int):AVal:= .agg [ai n,ai d]
theorem X6Q {n:Int} (h:¬(1<=d/\d<=1000000000000000/\ -1000000000000000<=n/\n<=1000000000000000)):X2p n d=false:=by simp only[X2p,DF h,Bool.false_and]
theorem Xlb {n:Int} (h:1<=d/\d<=1000000000000000/\ -1000000000000000<=n/\n<=1000000000000000):X2p n d=decide (Nat.gcd n.natAbs d.natAbs=1):=by simp only[X2p,DT h,Bool.true_and]
theorem Xq1 (n d:Int):Con prog 346 [] [X8E n d] [] (ab (X2p n d)):=by
 refine ZC1 func346 ntmps346 fun E=> ?_;by_cases h1:1<=d
 case neg=>
  rw[X6Q (by omega)];refine Vb ?_;exact Zr0
 by_cases h2:d<=1000000000000000
 case neg=>
  rw[X6Q (by omega)];refine Vb ?_;exact Zr0
 by_cases h3: -1000000000000000<=n/\n<=1000000000000000
 case neg=>
  rw[X6Q (by omega)];have hin:Con prog 345 [] [ai n] [] (ab false):=by
   have h:=X9V n
   rwa [show inV n=false by simpa [inV] using h3] at h
  refine Yf ?_;refine Z3 (af:=hin) ?_;exact Ql
 rw[Xlb (by omega)];have hin:Con prog 345 [] [ai n] [] (ab true):=by
  have h:=X9V n
  rwa [show inV n=true by simpa [inV] using h3] at h
 refine Yf ?_;refine Z3 (af:=hin) ?_;refine W6_ ?_;refine Z3 (af:=Xv5 n d h3 (by omega)) ?_;refine W4_ ?_;exact X2 ⟨_,Xe 2 (y:=ab (decide (Nat.gcd n.natAbs d.natAbs=1))) (AVal.le_of_eq (by refine Eq.trans (b:=ab (decide (((Nat.gcd n.natAbs d.natAbs:Nat):Int)=1))) rfl ?_;exact CG ab (decide_eq_decide.2 (by omega)))),⟨rfl,TV⟩,X4 _⟩
theorem XlN (n d:Int):Con prog 331 [] [X8E n d] [] (ab (X2p n d)):=by
 refine ZC1 func331 ntmps331 fun E=> ?_;by_cases h1:1<=d
 case neg=>
  rw[X6Q (by omega)];refine X07 ?_;exact Zr0
 by_cases h2:d<=1000000000000000
 case neg=>
  rw[X6Q (by omega)];refine X07 ?_;exact Zr0
 by_cases h3: -1000000000000000<=n
 case neg=>
  rw[X6Q (by omega)];refine X07 ?_;exact Zr0
 by_cases h4:n<=1000000000000000
 case neg=>
  rw[X6Q (by omega)];refine X07 ?_;exact Zr0
 rw[Xlb (by omega)];obtain⟨e,rfl⟩:∃e:Nat,d=e:=⟨d.toNat,by omega⟩
 refine YY ?_;refine Z3 (af:=XfV n ⟨h3,h4⟩) ?_;refine W2_ ?_;refine Z3 (af:=Xog n.natAbs e (by omega) (by omega)) ?_;refine W4_ ?_;exact X2 ⟨_,Xe 2 (y:=ab (decide (Nat.gcd n.natAbs (e:Int).natAbs=1))) (AVal.le_of_eq (by refine Eq.trans (b:=ab (decide (((Nat.gcd n.natAbs e:Nat):Int)=1))) rfl ?_;exact CG ab (decide_eq_decide.2 (by rw[Int.natAbs_natCast];omega)))),⟨rfl,TV⟩,X4 _⟩
end Go.Fw
