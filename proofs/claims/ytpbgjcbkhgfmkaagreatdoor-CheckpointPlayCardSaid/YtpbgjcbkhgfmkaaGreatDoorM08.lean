/- The letters of a string value. -/
import Derived.Laws.RangeAny
import Derived.Test.YtpbgjcbkhgfmkaaGreatDoorM07
set_option maxHeartbeats 16000000
namespace Go.Fw
open Go Go.Proofs Tryz List
set_option maxRecDepth 100000
set_option linter.unusedVariables false
set_option linter.unusedSimpArgs false
abbrev X15 (l:List UInt8):AVal:= .d (.v (.string (X6 l)))
def okB (b:UInt8):Bool:=decide (32<=b.toNat/\b.toNat<=126)
def X4N (s:List UInt8):Int:=if X21 s then-1 else (s.takeWhile okB).length
variable{s:List UInt8}{c:UInt8}{i m p:Nat}{l:List Val}{x:Val}
theorem Xnc:(X4N s<0)↔X21 s=true:=by
 unfold X4N;cases X21 s<;>simp
theorem Xhl (h:∀j,j<p->∃b,s[j]? =some b/\okB b=true) (hp:p=s.length):X21 s=true:=by
 unfold X21;rw[all_eq_true];intro x hx;obtain⟨i,hi⟩:=getElem?_of_mem hx;obtain⟨b,h1,h2⟩:=h i (by rw[hp];exact(GS.1 hi).1);rw[hi] at h1;cases h1;exact h2
theorem Xq8 (h:∀j,j<p->∃b,s[j]? =some b/\okB b=true) (hc:s[p]? =some c) (hb:okB c=false):X4N s=p:=by
 have h1:X21 s=false:=by
  cases hs:X21 s with
  |false=>rfl
  |true=>
   unfold X21 at hs;rw[all_eq_true] at hs;have:=hs c (mem_of_getElem? hc);unfold okB at hb;rw[hb] at this;simp at this
 unfold X4N;rw[h1,Xbe s p h (fun b hb'=>by rw[hc] at hb';cases hb';exact hb)];simp
theorem XkA (l:List UInt8) {p:Nat}{c:UInt8} (h:l[p]? =some c) (hp:p<(X6 l).size):(X6 l)[p]=c:=by
 have h1:=(GS.1 h).2;exact h1
theorem Xqz (c:Nat) (hc:c<=2147483647):Con prog 348 [] [.d (.v (.int .i32 c))] [] (ab (!decide (32<=c/\c<=126))):=by
 refine ZC1 func348 ntmps348 fun E=> ?_;by_cases h1:c<32
 ·rw[show (!decide (32<=c/\c<=126))=true by simp;omega];exact Qy
 ·by_cases h2:126<c
  ·rw[show (!decide (32<=c/\c<=126))=true by simp;omega];refine XG ?_;exact X2 ⟨_,Xe 2 (y:=ab true) (AVal.le_of_eq (by refine Eq.trans (b:=ab (decide (126<(c:Int)))) rfl ?_;exact CG ab (DT (by omega)))),⟨rfl,TV⟩,X4 _⟩
  ·rw[show (!decide (32<=c/\c<=126))=false by simp;omega];refine XG ?_;exact X2 ⟨_,Xe 2 (y:=ab false) (AVal.le_of_eq (by refine Eq.trans (b:=ab (decide (126<(c:Int)))) rfl ?_;exact CG ab (DF (by omega)))),⟨rfl,TV⟩,X4 _⟩
theorem Xrv (s:List UInt8) (hs:s.length<=9223372036854775807):Con prog 379 [] [X15 s,.fn 348 [],ab true] [] (ai (X4N s)):=by
 refine ZC1 func379 ntmps379 fun E=> ?_;have hsz:(X6 s).size=s.length:=rfl;refine XK ?_
 refine Xn (fun p:Nat=>p<=s.length/\∀j,j<p->∃b,s[j]? =some b/\okB b=true) (fun p=>⟨21,[(1,.fn 348 []),(2,ab true),(10,.ptr 100 0)],[(100,.iter (X6 s) p)]⟩) (fun p=>s.length-p) 0 ⟨by omega,fun j hj=>by omega⟩
  (Xb rfl ⟨JL,JL,JL,TV⟩ ⟨rfl,TV⟩) ?_
 rintro p ⟨hp,hall⟩;by_cases hlt:p<s.length
 ·obtain⟨c,hc⟩:=Xu (l:=s) hlt;have hlt':p<(X6 s).size:=hlt;have fm:=XkA s hc hlt';have hr:=Xqz (Utf8.decode (X6 s) p).1 (decode_le _ _);have go:okB c=true->Utf8.decode (X6 s) p=(c.toNat,1):=fun hok=>decode_ascii _ _ hlt' (by unfold okB at hok;rw[decide_eq_true_eq] at hok;rw[fm];omega)|>.trans (by rw[fm])
  cases hok:okB c with
  |true=>
   have hd:=go hok;rw[show (!decide (32<=(Utf8.decode (X6 s) p).1/\(Utf8.decode (X6 s) p).1<=126))=false by rw[hd];unfold okB at hok;simp only;rw[hok];rfl] at hr;refine U8 ?_;refine Z5 (af:=hr) ?_;refine W5_ ?_;refine⟨p+1,⟨by omega,fun j hj=> ?_⟩,by omega,Xb rfl ⟨JL,JL,JL,TV⟩ ⟨?_,TV⟩⟩
   ·by_cases e:j=p
    ·subst e;exact⟨c,hc,hok⟩
    ·exact hall j (by omega)
   ·refine Eq.trans (b:=AObj.iter (X6 s) (p+(Utf8.decode (X6 s) p).2)) rfl ?_;rw[hd]
  |false=>
   rw[Xq8 hall hc hok];have fo:(!decide (32<=(Utf8.decode (X6 s) p).1/\(Utf8.decode (X6 s) p).1<=126))=true:=by
    by_cases ha:c.toNat<128
    ·rw[decode_ascii _ _ hlt' (by rw[fm];exact ha),fm];unfold okB at hok;simp only;rw[hok];rfl
    ·have:=(decode_high (X6 s) p hlt' (by rw[fm];omega)).1;simp;omega
   rw[fo] at hr;refine U8 ?_;refine Z5 (af:=hr) ?_;refine W9_ ?_;exact Zr0
 ·obtain rfl:p=s.length:=by omega
  rw[show X4N s= -1 by unfold X4N;rw[Xhl hall rfl];rfl];have hge:(X6 s).size<=s.length:=Nat.le_refl _;exact Qz
theorem Xrn (s:List UInt8) (hs:s.length<=9223372036854775807):Con prog 347 [] [X15 s,.fn 348 []] [] (ai (X4N s)):=by
 refine ZC1 func347 ntmps347 fun E=> ?_;refine W8_ ?_;refine Z3 (af:=Xrv s hs) ?_;refine W2_ ?_;exact Zr0
def XC:Val->AVal
 | .mk k n d s l=> .agg [ai k,ai n,ai d,X15 s,.d (.sl 5 (XX l))]
def X1A (l:List Val):Bool:=decide (l.length%2=1/\l.length<=25)&&X0u 0 l
theorem XkO {v:Val} (h:v.kind=5\/v.kind=6) (m m':Nat):Xk m v=Xk m' v:=by
 obtain⟨k,n,d,s,l⟩:=v;have h:k=5\/k=6:=h;rw[Xk,Xk];rcases h with rfl|rfl<;>simp
theorem X2e (l:List Val):(XX l).length=l.length:=by rw[X7h,LM]
theorem X5S (h:l[i]? =some x):(XX l)[i]? =some (UT x):=by rw[X7h];exact XM h
theorem Xdw (h:l[i]? =some x):X0u i (l.drop i)=(decide (x.kind=5+(i%2:Nat))&&Xk 0 x&&X0u (i+1) (l.drop (i+1))):=by
 rw[drop_eq_getElem_cons (GS.1 h).1,(GS.1 h).2,X0u]
theorem XhB (h:l[i]? =some x):X0C m (l.drop i)=(Xk m x&&X0C m (l.drop (i+1))):=by
 rw[drop_eq_getElem_cons (GS.1 h).1,(GS.1 h).2,X0C]
theorem Xb3 (h:l[i]? =some x) (hk:¬x.kind=5+(i%2:Nat)):X0u i (l.drop i)=false:=by
 rw[Xdw h,DF hk];rfl
theorem XbN (h:l[i]? =some x) (hv:Xk 0 x=false):X0u i (l.drop i)=false:=by
 rw[Xdw h,hv,Bool.and_false];rfl
theorem Xay (h:l[i]? =some x) (hk:x.kind=5+(i%2:Nat)) (hv:Xk 0 x=true):X0u i (l.drop i)=X0u (i+1) (l.drop (i+1)):=by
 rw[Xdw h,DT hk,hv];rfl
def Xb5 (v:Val):Prop:=∀m:Nat,m<=8->Con prog 302 [] [XC v,ai (8-m:Nat)] [] (ab (Xk m v))
def Xfl (l:List Val):Prop:=Con prog 349 [] [.d (.sl 5 (XX l))] [] (ab (X1A l))
theorem Xsq (l:List Val) (ih:∀x∈l,Xb5 x):Xfl l:=by
 refine ZC1 func349 ntmps349 fun E=> ?_;have hlen:=X2e l;by_cases h1:l.length%2=0
 ·rw[show X1A l=false by unfold X1A;rw[DF (by omega),Bool.false_and]];exact QA
 by_cases h2:25<l.length
 ·rw[show X1A l=false by unfold X1A;rw[DF (by omega),Bool.false_and]];exact QA
 rw[show X1A l=X0u 0 (l.drop 0) by unfold X1A;rw[DT (by omega),Bool.true_and];rfl];refine U1 ?_
 refine Xn (fun i:Nat=>i<=l.length/\X0u 0 (l.drop 0)=X0u i (l.drop i)) (fun i=>⟨37,[(15,.d (.sl 5 (XX l))),(16,ai l.length),(17,ai i)],[]⟩) (fun i=>l.length-i) 0 ⟨by omega,rfl⟩
  (Xb rfl ⟨JL,(by refine AVal.le_of_eq ?_;refine Eq.trans (b:=ai ((XX l).length:Nat)) rfl ?_;rw[hlen]),JL,TV⟩ trivial) ?_
 rintro i ⟨hi,aD⟩;by_cases hlt:i<l.length
 ·obtain⟨x,hx⟩:=Xu (l:=l) hlt;have eV:=X5S hx;have uf:i<(XX l).length:=by rw[hlen];exact hlt
  have bW:=ih x (mem_of_getElem? hx) 8 (by omega);obtain⟨k,n,d,s,q⟩:=x;simp only[XC,Nat.sub_self] at bW;rw[UT] at eV;rw[aD];by_cases hpar:i%2=0
  case pos=>
   by_cases hk:k=5
   case neg=>
    rw[Xb3 hx (by rw[hpar];show ¬k=_;omega)];refine QB ?_;exact QC
   subst hk;have hfl:=XkO (v:= .mk 5 n d s q) (.inl rfl) 8 0;cases cg:Xk 8 (.mk 5 n d s q) with
   |true=>
    rw[cg] at bW hfl;have cu:=Xay hx (by rw[hpar];rfl) hfl.symm;rw[cu,<-cu,<-aD];refine QB ?_;refine XR ?_;refine Z3 (af:=bW) ?_;refine W9_ ?_;exact⟨i+1,⟨by omega,aD.trans cu⟩,by omega,Xb rfl ⟨JL,JL,JL,TV⟩ TV⟩
   |false=>
    rw[cg] at bW hfl;rw[XbN hx hfl.symm];refine QB ?_;refine XR ?_;exact QE
  case neg=>
   have hpar:i%2=1:=by omega
   by_cases hk:k=6
   case neg=>
    rw[Xb3 hx (by rw[hpar];show ¬k=_;omega)];refine QF ?_;exact QC
   subst hk;have hfl:=XkO (v:= .mk 6 n d s q) (.inr rfl) 8 0;cases cg:Xk 8 (.mk 6 n d s q) with
   |true=>
    rw[cg] at bW hfl;have cu:=Xay hx (by rw[hpar];rfl) hfl.symm;rw[cu,<-cu,<-aD];refine QF ?_;refine XR ?_;refine Z3 (af:=bW) ?_;refine W9_ ?_;exact⟨i+1,⟨by omega,aD.trans cu⟩,by omega,Xb rfl ⟨JL,JL,JL,TV⟩ TV⟩
   |false=>
    rw[cg] at bW hfl;rw[XbN hx hfl.symm];refine QF ?_;refine XR ?_;exact QE
 obtain rfl:i=l.length:=by omega
 rw[aD,drop_length,X0u];exact Ql
def X3y (k d:Int) (s:List UInt8) (n:Nat):Bool:=(decide (k≠3)&&decide (d≠0))||((decide (k≠4)&&decide (s≠[]))||(decide (k≠8)&&(decide (k≠7)&&decide ((0:Int)<(n:Nat)))))
def UG (m:Nat) (k n d:Int) (s:List UInt8) (l:List Val):Bool:=
 if k=0 then decide (n=0) else if k=1 then decide (n=0)||decide (n=1) else if k=2 then inV n
 else if k=3 then decide (2<=d)&&X2p n d else if k=4 then decide (n=0)&&(decide (((X6 s).size:Int)<=100)&&decide (X4N s<0))
 else if k=5 then decide (1<=n)&&decide (n<=1000000) else if k=6 then decide (1<=n)&&decide (n<=1000000)
 else if k=8 then !decide (n≠0)&&(!decide ((64:Int)<(XX l).length)&&(!decide ((8:Int)<=(8-m:Nat))&&X0C (m-1) l))
 else if k=7 then decide (n=0)&&X1A l else false
theorem Xvr (hm:m<=8) (k n d:Int) (s:List UInt8) (l:List Val):Xk m (.mk k n d s l)=(!X3y k d s (XX l).length&&UG m k n d s l):=by
 have hs:decide (X4N s<0)=X21 s:=by
  cases hv:X21 s with
  |true=>exact DT (Xnc.2 hv)
  |false=>exact DF (fun h=>by rw[Xnc.1 h] at hv;simp at hv)
 have hz:(X6 s).size=s.length:=rfl;have h8:(8:Int)<=(8-m:Nat)↔¬1<=m:=by omega
 have oH:(64:Int)<(l.length:Nat)↔¬l.length<=64:=by omega
 have h0:(0:Int)<(l.length:Nat)↔¬l=[]:=by
  cases l with
  |nil=>simp
  |cons a b=>simp<;>omega
 have gA:(s.length:Int)<=100↔s.length<=100:=by omega
 rw[Xk];unfold X3y UG X1A inV;rw[hs,hz,X2e];simp only[h8,oH,h0,gA,show ∀a b:Int,(a==b)=decide (a=b) from fun _ _=>rfl];have hk:k=0\/k=1\/k=2\/k=3\/k=4\/k=5\/k=6\/k=7\/k=8\/(k≠0/\k≠1/\k≠2/\k≠3/\k≠4/\k≠5/\k≠6/\k≠7/\k≠8):=by omega
 rcases hk with rfl|rfl|rfl|rfl|rfl|rfl|rfl|rfl|rfl|⟨q0,q1,q2,q3,q4,q5,q6,q7,q8⟩
 all_goals first|(simp[*,Bool.and_assoc];done)|(clear h8 oH h0 gA;by_cases a:l.length<=64<;>by_cases b:1<=m<;>simp[a,b,Bool.and_assoc])
theorem XrK (v:Val) (ih:∀x∈v.l,Xb5 x):Xb5 v:=by
 obtain⟨k,n,d,s,l⟩:=v;intro m hm;refine ZC1 func302 ntmps302 fun E=> ?_;rw[Xvr hm];have hlen:=X2e l;have hsz:(X6 s).size=s.length:=rfl;have hp:Xfl l:=Xsq l ih;unfold Xfl at hp;simp only[Val.l] at ih;simp only[XC];refine W7_ ?_;refine X6x ⟨142,[(1,ai (8-m:Nat)),(2,.ptr 100 0),(4,ab false),(40,ab (X3y k d s (XX l).length))],[(100,.box [ai k,ai n,ai d,.d (.v (.string (X6 s))),.d (.sl 5 (XX l))])]⟩ ?_ ?_
 ·clear ih hp;refine W5_ ?_;refine Yb rfl rfl (fun hq=> ?_) (fun hq=> ?_);refine W5_ ?_;refine Yb rfl rfl (fun hq=> ?_) (fun hq=> ?_);refine QH ?_;refine W7_ ?_;refine QG ?_;refine W2_ ?_;refine Qm ?_;refine W3_ ?_;(exact Xb rfl ⟨AVal.le_refl _,AVal.le_refl _,AVal.le_refl _,AVal.le_of_eq (CG ab (by clear hlen hsz;(try simp only[ne_eq,Classical.not_not] at*);simp[X3y, *])),TV⟩ ⟨rfl,TV⟩);refine W4_ ?_;refine Yb rfl rfl (fun hq=> ?_) (fun hq=> ?_);refine W6_ ?_;refine Yb rfl rfl (fun hq=> ?_) (fun hq=> ?_);refine QH ?_;refine W2_ ?_;refine Qm ?_;refine W3_ ?_;(exact Xb rfl ⟨AVal.le_refl _,AVal.le_refl _,AVal.le_refl _,AVal.le_of_eq (CG ab (by clear hlen hsz;(try simp only[ne_eq,Classical.not_not] at*);simp[X3y, *])),TV⟩ ⟨rfl,TV⟩);refine W4_ ?_;refine Yb rfl rfl (fun hq=> ?_) (fun hq=> ?_);refine W5_ ?_;refine Yb rfl rfl (fun hq=> ?_) (fun hq=> ?_);refine W7_ ?_;(exact Xb rfl ⟨AVal.le_refl _,AVal.le_refl _,AVal.le_refl _,AVal.le_of_eq (CG ab (by clear hlen hsz;(try simp only[ne_eq,Classical.not_not] at*);simp[X3y, *])),TV⟩ ⟨rfl,TV⟩);refine W7_ ?_;(exact Xb rfl ⟨AVal.le_refl _,AVal.le_refl _,AVal.le_refl _,AVal.le_of_eq (CG ab (by clear hlen hsz;(try simp only[ne_eq,Classical.not_not] at*);simp[X3y, *])),TV⟩ ⟨rfl,TV⟩);refine XR ?_;(exact Xb rfl ⟨AVal.le_refl _,AVal.le_refl _,AVal.le_refl _,AVal.le_of_eq (CG ab (by clear hlen hsz;(try simp only[ne_eq,Classical.not_not] at*);simp[X3y, *])),TV⟩ ⟨rfl,TV⟩);refine Yw ?_;(exact Xb rfl ⟨AVal.le_refl _,AVal.le_refl _,AVal.le_refl _,AVal.le_of_eq (CG ab (by clear hlen hsz;(try simp only[ne_eq,Classical.not_not] at*);simp[X3y, *])),TV⟩ ⟨rfl,TV⟩);refine Yx ?_;refine Yb rfl rfl (fun hq=> ?_) (fun hq=> ?_);refine QH ?_;refine W2_ ?_;refine Qm ?_;refine W3_ ?_;(exact Xb rfl ⟨AVal.le_refl _,AVal.le_refl _,AVal.le_refl _,AVal.le_of_eq (CG ab (by clear hlen hsz;(try simp only[ne_eq,Classical.not_not] at*);simp[X3y, *])),TV⟩ ⟨rfl,TV⟩);refine Yg ?_
  (exact Xb rfl ⟨AVal.le_refl _,AVal.le_refl _,AVal.le_refl _,AVal.le_of_eq (CG ab (by clear hlen hsz;(try simp only[ne_eq,Classical.not_not] at*);simp[X3y, *])),TV⟩ ⟨rfl,TV⟩)
 generalize X3y k d s (XX l).length=b;cases b with
 |true=>
  rw[Bool.not_true,Bool.false_and];refine W5_ ?_;exact Zr0
 |false=>
  rw[Bool.not_false,Bool.true_and];by_cases hk:k=8
  case neg=>
   refine XG ?_;refine Vt rfl (fun hq=> ?_) (fun hq=> ?_);refine W7_ ?_
   (exact X2 ⟨_,Xe 4 (y:=ab (UG m k n d s l)) (AVal.le_of_eq (CG ab (by clear hlen hsz hp;(try simp only[ne_eq,Classical.not_not] at*);simp[UG, *]))),⟨rfl,TV⟩,X4 _⟩)
   refine W5_ ?_;refine Vt rfl (fun hq=> ?_) (fun hq=> ?_);refine W6_ ?_;refine Yb rfl rfl (fun hq=> ?_) (fun hq=> ?_);refine W6_ ?_
   (exact X2 ⟨_,Xe 4 (y:=ab (UG m k n d s l)) (AVal.le_of_eq (CG ab (by clear hlen hsz hp;(try simp only[ne_eq,Classical.not_not] at*);simp[UG, *]))),⟨rfl,TV⟩,X4 _⟩)
   refine W6_ ?_
   (exact X2 ⟨_,Xe 4 (y:=ab (UG m k n d s l)) (AVal.le_of_eq (CG ab (by clear hlen hsz hp;(try simp only[ne_eq,Classical.not_not] at*);simp[UG, *]))),⟨rfl,TV⟩,X4 _⟩)
   refine W5_ ?_;refine Vt rfl (fun hq=> ?_) (fun hq=> ?_);refine W4_ ?_;refine Z3 (af:=X9V n) ?_;refine W2_ ?_
   (exact X2 ⟨_,Xe 4 (y:=ab (UG m k n d s l)) (AVal.le_of_eq (CG ab (by clear hlen hsz hp;(try simp only[ne_eq,Classical.not_not] at*);simp[UG, *]))),⟨rfl,TV⟩,X4 _⟩)
   refine W5_ ?_;refine Vt rfl (fun hq=> ?_) (fun hq=> ?_);refine W6_ ?_;refine Yb rfl rfl (fun hq=> ?_) (fun hq=> ?_);refine W5_ ?_;refine Z3 (af:=Xq1 n d) ?_;refine W3_ ?_
   (exact X2 ⟨_,Xe 4 (y:=ab (UG m k n d s l)) (AVal.le_of_eq (CG ab (by clear hlen hsz hp;(try simp only[ne_eq,Classical.not_not] at*);simp[UG, *]))),⟨rfl,TV⟩,X4 _⟩)
   refine W9_ ?_
   (exact X2 ⟨_,Xe 4 (y:=ab (UG m k n d s l)) (AVal.le_of_eq (CG ab (by clear hlen hsz hp;(try simp only[ne_eq,Classical.not_not] at*);simp[UG, *]))),⟨rfl,TV⟩,X4 _⟩)
   refine W5_ ?_;refine Vt rfl (fun hq=> ?_) (fun hq=> ?_);refine W6_ ?_;refine Yb rfl rfl (fun hq=> ?_) (fun hq=> ?_);refine W6_ ?_;refine Yb rfl rfl (fun hq=> ?_) (fun hq=> ?_);refine W2_ ?_;refine Z3 (af:=Xrn s (by omega)) ?_;refine W4_ ?_
   (exact X2 ⟨_,Xe 4 (y:=ab (UG m k n d s l)) (AVal.le_of_eq (CG ab (by clear hlen hsz hp;(try simp only[ne_eq,Classical.not_not] at*);simp[UG, *]))),⟨rfl,TV⟩,X4 _⟩)
   refine W7_ ?_
   (exact X2 ⟨_,Xe 4 (y:=ab (UG m k n d s l)) (AVal.le_of_eq (CG ab (by clear hlen hsz hp;(try simp only[ne_eq,Classical.not_not] at*);simp[UG, *]))),⟨rfl,TV⟩,X4 _⟩)
   refine XQ ?_
   (exact X2 ⟨_,Xe 4 (y:=ab (UG m k n d s l)) (AVal.le_of_eq (CG ab (by clear hlen hsz hp;(try simp only[ne_eq,Classical.not_not] at*);simp[UG, *]))),⟨rfl,TV⟩,X4 _⟩)
   refine W6_ ?_;refine Vt rfl (fun hq=> ?_) (fun hq=> ?_);refine W8_ ?_;refine Yb rfl rfl (fun hq=> ?_) (fun hq=> ?_);refine W6_ ?_
   (exact X2 ⟨_,Xe 4 (y:=ab (UG m k n d s l)) (AVal.le_of_eq (CG ab (by clear hlen hsz hp;(try simp only[ne_eq,Classical.not_not] at*);simp[UG, *]))),⟨rfl,TV⟩,X4 _⟩)
   refine W6_ ?_
   (exact X2 ⟨_,Xe 4 (y:=ab (UG m k n d s l)) (AVal.le_of_eq (CG ab (by clear hlen hsz hp;(try simp only[ne_eq,Classical.not_not] at*);simp[UG, *]))),⟨rfl,TV⟩,X4 _⟩)
   refine W4_ ?_;refine Vt rfl (fun hq=> ?_) (fun hq=> ?_);refine W6_ ?_;refine Yb rfl rfl (fun hq=> ?_) (fun hq=> ?_);refine W6_ ?_
   (exact X2 ⟨_,Xe 4 (y:=ab (UG m k n d s l)) (AVal.le_of_eq (CG ab (by clear hlen hsz hp;(try simp only[ne_eq,Classical.not_not] at*);simp[UG, *]))),⟨rfl,TV⟩,X4 _⟩)
   refine W6_ ?_
   (exact X2 ⟨_,Xe 4 (y:=ab (UG m k n d s l)) (AVal.le_of_eq (CG ab (by clear hlen hsz hp;(try simp only[ne_eq,Classical.not_not] at*);simp[UG, *]))),⟨rfl,TV⟩,X4 _⟩)
   refine XK ?_;refine Vt rfl (fun hq=> ?_) (fun hq=> ?_);refine W6_ ?_;refine Yb rfl rfl (fun hq=> ?_) (fun hq=> ?_);refine W2_ ?_;refine Z3 (af:=hp) ?_;refine W3_ ?_
   (exact X2 ⟨_,Xe 4 (y:=ab (UG m k n d s l)) (AVal.le_of_eq (CG ab (by clear hlen hsz hp;(try simp only[ne_eq,Classical.not_not] at*);simp[UG, *]))),⟨rfl,TV⟩,X4 _⟩)
   refine W6_ ?_
   (exact X2 ⟨_,Xe 4 (y:=ab (UG m k n d s l)) (AVal.le_of_eq (CG ab (by clear hlen hsz hp;(try simp only[ne_eq,Classical.not_not] at*);simp[UG, *]))),⟨rfl,TV⟩,X4 _⟩)
   refine W5_ ?_
   (exact X2 ⟨_,Xe 4 (y:=ab (UG m k n d s l)) (AVal.le_of_eq (CG ab (by clear hlen hsz hp;(try simp only[ne_eq,Classical.not_not] at*);simp[UG, *]))),⟨rfl,TV⟩,X4 _⟩)
  refine X7 ?_;refine Yq ?_;refine Yb rfl rfl (fun hq=> ?_) (fun hq=> ?_);refine Yx ?_
  (exact X2 ⟨_,Xe 4 (y:=ab (UG m k n d s l)) (AVal.le_of_eq (CG ab (by clear hlen hsz hp;(try simp only[ne_eq,Classical.not_not] at*);simp[UG, *]))),⟨rfl,TV⟩,X4 _⟩)
  refine W6_ ?_;refine Yb rfl rfl (fun hq=> ?_) (fun hq=> ?_);refine W9_ ?_
  (exact X2 ⟨_,Xe 4 (y:=ab (UG m k n d s l)) (AVal.le_of_eq (CG ab (by clear hlen hsz hp;(try simp only[ne_eq,Classical.not_not] at*);simp[UG, *]))),⟨rfl,TV⟩,X4 _⟩)
  refine W4_ ?_;refine Vt rfl (fun hq=> ?_) (fun hq=> ?_);refine W4_ ?_
  (exact X2 ⟨_,Xe 4 (y:=ab (UG m k n d s l)) (AVal.le_of_eq (CG ab (by clear hlen hsz hp;(try simp only[ne_eq,Classical.not_not] at*);simp[UG, *]))),⟨rfl,TV⟩,X4 _⟩)
  refine XA ?_;have hT:UG m k n d s l=X0C (m-1) (l.drop 0):=by clear hlen hsz hp;simp only[ne_eq,Classical.not_not] at*;simp[UG, *]
  have ej:1<=m:=by omega
  rw[hT];clear hT
  refine Xn (fun i:Nat=>i<=l.length/\X0C (m-1) (l.drop 0)=X0C (m-1) (l.drop i)) (fun i=>⟨142,[(1,ai (8-m:Nat)),(120,.d (.sl 5 (XX l))),(121,ai l.length),(122,ai i)],[]⟩) (fun i=>l.length-i) 0 ⟨by omega,rfl⟩
   (Xb rfl ⟨JL,JL,(by refine AVal.le_of_eq ?_;refine Eq.trans (b:=ai ((XX l).length:Nat)) rfl ?_;rw[hlen]),JL,TV⟩ trivial) ?_
  rintro i ⟨hi,aD⟩;by_cases hlt:i<l.length
  ·obtain⟨x,hx⟩:=Xu (l:=l) hlt;have eV:=X5S hx;have bW:=ih x (mem_of_getElem? hx) (m-1) (by omega);have hst:=XhB (m:=m-1) hx;have e8:nj (8-m+1)=nj (8-(m-1)):=CG nj (by omega);obtain⟨k',n',d',s',q'⟩:=x;simp only[XC] at bW;rw[UT] at eV;cases cg:Xk (m-1) (.mk k' n' d' s' q') with
   |true=>
    rw[cg] at bW;rw[cg,Bool.true_and] at hst;refine U8 ?_;(refine Z1 (op:= .add) (r':=nj (8-(m-1))) (u:=nj (8-m)) (v:=nj 1) ?_ (hr':=by exact e8) (hr:=by exact X1s (by rw[YO];omega)));refine Z3 (af:=bW) ?_;refine W8_ ?_;exact⟨i+1,⟨by omega,aD.trans hst⟩,by omega,Xb rfl ⟨JL,JL,JL,JL,TV⟩ TV⟩
   |false=>
    rw[cg] at bW;rw[cg,Bool.false_and] at hst;rw[aD,hst];refine U8 ?_;(refine Z1 (op:= .add) (r':=nj (8-(m-1))) (u:=nj (8-m)) (v:=nj 1) ?_ (hr':=by exact e8) (hr:=by exact X1s (by rw[YO];omega)));refine Z3 (af:=bW) ?_;exact QI
  obtain rfl:i=l.length:=by omega
  rw[aD,drop_length,X0C];exact Ql
theorem XiL:∀v:Val,Xb5 v
 | .mk k n d s l=>XrK (.mk k n d s l) fun x hx=>XiL x
termination_by v=>SizeOf.sizeOf v
decreasing_by
 have h1:=sizeOf_lt_of_mem (show x∈l from hx);simp only[Val.mk.sizeOf_spec];omega
theorem X2w (v:Val):Con prog 242 [] [XC v] [] (ab (Xk 8 v)):=by
 refine ZC1 func242 ntmps242 fun E=> ?_;have h:=XiL v 8 (by omega);obtain⟨k,n,d,s,l⟩:=v;simp only[XC,Nat.sub_self] at h;exact Ql
def X9Y (v:Val):Prop:=∀m:Nat,m<=8->Con prog 319 [] [XC v,ai m] [] (ab (Xk m v))
theorem Xhe (hc:s[p]? =some c) (hb:okB c=false):X21 s=false:=by
 cases hs:X21 s with
 |false=>rfl
 |true=>
  unfold X21 at hs;rw[all_eq_true] at hs;have:=hs c (mem_of_getElem? hc);unfold okB at hb;rw[hb] at this;simp at this
theorem Xra (s:List UInt8) (hs:s.length<=9223372036854775807):Con prog 357 [] [X15 s] [] (ab (X21 s&&decide (s.length<=100))):=by
 refine ZC1 func357 ntmps357 fun E=> ?_;have hsz:(X6 s).size=s.length:=rfl;refine XA ?_
 refine Xn (fun p:Nat=>p<=s.length/\∀j,j<p->∃b,s[j]? =some b/\okB b=true) (fun p=>⟨23,[(0,X15 s),(3,ai p)],[]⟩) (fun p=>s.length-p) 0 ⟨by omega,fun j hj=>by omega⟩
  (Xb rfl ⟨JL,JL,TV⟩ trivial) ?_
 rintro p ⟨hp,hall⟩;by_cases hlt:p<s.length
 ·obtain⟨c,hc⟩:=Xu (l:=s) hlt;have hlt':p<(X6 s).size:=hlt;have fm:=XkA s hc hlt';by_cases h1:c.toNat<32
  ·rw[Xhe hc (show okB c=false by unfold okB;exact DF (by omega)),Bool.false_and];refine Vb ?_;exact Zr0
  by_cases h2:126<c.toNat
  ·rw[Xhe hc (show okB c=false by unfold okB;exact DF (by omega)),Bool.false_and];refine Vb ?_;exact Zr0
  have hok:okB c=true:=by unfold okB;exact DT (by omega)
  refine UV ?_;refine⟨p+1,⟨by omega,fun j hj=> ?_⟩,by omega,Xb rfl ⟨JL,JL,TV⟩ TV⟩;by_cases e:j=p
  ·subst e;exact⟨c,hc,hok⟩
  ·exact hall j (by omega)
 obtain rfl:p=s.length:=by omega
 rw[Xhl hall rfl,Bool.true_and];refine Yv ?_;exact X2 ⟨_,Xe 2 (y:=ab (decide (s.length<=100))) (AVal.le_of_eq (by refine Eq.trans (b:=ab (decide (((X6 s).size:Int)<=100))) rfl ?_;exact CG ab (decide_eq_decide.2 (by omega)))),⟨rfl,TV⟩,X4 _⟩
theorem Xon (l:List Val) (hl:l.length<=9223372036854775807) (ih:∀x∈l,X9Y x):Con prog 358 [] [.d (.sl 5 (XX l))] [] (ab (X1A l)):=by
 refine ZC1 func358 ntmps358 fun E=> ?_;have hlen:=X2e l;by_cases h1:l.length%2=0
 ·rw[show X1A l=false by unfold X1A;rw[DF (by omega),Bool.false_and]];exact QA
 by_cases h2:25<l.length
 ·rw[show X1A l=false by unfold X1A;rw[DF (by omega),Bool.false_and]];exact QA
 rw[show X1A l=X0u 0 (l.drop 0) by unfold X1A;rw[DT (by omega),Bool.true_and];rfl];refine Vl ?_
 refine Xn (fun i:Nat=>i<=l.length/\X0u 0 (l.drop 0)=X0u i (l.drop i)) (fun i=>⟨38,[(0,.d (.sl 5 (XX l))),(3,ai i)],[]⟩) (fun i=>l.length-i) 0 ⟨by omega,rfl⟩
  (Xb rfl ⟨JL,JL,TV⟩ trivial) ?_
 rintro i ⟨hi,aD⟩;by_cases hlt:i<l.length
 ·obtain⟨x,hx⟩:=Xu (l:=l) hlt;have eV:=X5S hx;have bW:=ih x (mem_of_getElem? hx) 0 (by omega);obtain⟨k,n,d,s,q⟩:=x;simp only[XC] at bW;rw[UT] at eV;rw[aD];by_cases hpar:i%2=0
  case pos=>
   by_cases hk:k=5
   case neg=>
    rw[Xb3 hx (by rw[hpar];show ¬k=_;omega)];refine QJ ?_;exact QK
   subst hk;cases cg:Xk 0 (.mk 5 n d s q) with
   |true=>
    rw[cg] at bW;have cu:=Xay hx (by rw[hpar];rfl) cg;rw[<-aD];refine QJ ?_;refine Yf ?_;refine Z3 (af:=bW) ?_;refine XA ?_;exact⟨i+1,⟨by omega,aD.trans cu⟩,by omega,Xb rfl ⟨JL,JL,TV⟩ TV⟩
   |false=>
    rw[cg] at bW;rw[XbN hx cg];refine QJ ?_;refine Yf ?_;exact QE
  case neg=>
   have hpar:i%2=1:=by omega
   by_cases hk:k=6
   case neg=>
    rw[Xb3 hx (by rw[hpar];show ¬k=_;omega)];refine QL ?_;refine YT ?_;exact Zr0
   subst hk;cases cg:Xk 0 (.mk 6 n d s q) with
   |true=>
    rw[cg] at bW;have cu:=Xay hx (by rw[hpar];rfl) cg;rw[<-aD];refine QL ?_;refine U8 ?_;refine Z3 (af:=bW) ?_;refine XA ?_;exact⟨i+1,⟨by omega,aD.trans cu⟩,by omega,Xb rfl ⟨JL,JL,TV⟩ TV⟩
   |false=>
    rw[cg] at bW;rw[XbN hx cg];refine QL ?_;refine U8 ?_;exact QE
 obtain rfl:i=l.length:=by omega
 rw[aD,drop_length,X0u];exact Qy
theorem Xv1 (l:List Val) (m:Nat) (hm:m<=8) (hl:l.length<=9223372036854775807) (ih:∀x∈l,X9Y x):Con prog 359 [] [.d (.sl 5 (XX l)),ai m] [] (ab (decide (1<=m/\l.length<=64)&&X0C (m-1) l)):=by
 refine ZC1 func359 ntmps359 fun E=> ?_;have hlen:=X2e l;by_cases h1:m<1
 ·rw[DF (by omega),Bool.false_and];exact QM
 by_cases h2:64<l.length
 ·rw[DF (by omega),Bool.false_and];exact QM
 rw[show (decide (1<=m/\l.length<=64)&&X0C (m-1) l)=X0C (m-1) (l.drop 0) by rw[DT (by omega),Bool.true_and];rfl];refine UU ?_
 refine Xn (fun i:Nat=>i<=l.length/\X0C (m-1) (l.drop 0)=X0C (m-1) (l.drop i)) (fun i=>⟨27,[(0,.d (.sl 5 (XX l))),(1,ai m),(5,ai i)],[]⟩) (fun i=>l.length-i) 0 ⟨by omega,rfl⟩
  (Xb rfl ⟨JL,JL,JL,TV⟩ trivial) ?_
 rintro i ⟨hi,aD⟩;by_cases hlt:i<l.length
 ·obtain⟨x,hx⟩:=Xu (l:=l) hlt;have eV:=X5S hx;have bW:=ih x (mem_of_getElem? hx) (m-1) (by omega);have hst:=XhB (m:=m-1) hx;have e8:Value.int .i64 ((m:Int)-1)=nj (m-1):=by show Value.int .i64 _=Value.int .i64 _;congr 1;omega
  obtain⟨k',n',d',s',q'⟩:=x;simp only[XC] at bW;rw[UT] at eV;cases cg:Xk (m-1) (.mk k' n' d' s' q') with
  |true=>
   rw[cg] at bW;rw[cg,Bool.true_and] at hst;refine YR ?_;(refine Z1 (op:= .sub) (r':=nj (m-1)) (u:=nj m) (v:=nj 1) ?_ (hr':=by exact e8) (hr:=by exact X71 (by unfold X2i;omega)));refine Z3 (af:=bW) ?_;refine W9_ ?_;exact⟨i+1,⟨by omega,aD.trans hst⟩,by omega,Xb rfl ⟨JL,JL,JL,TV⟩ TV⟩
  |false=>
   rw[cg] at bW;rw[cg,Bool.false_and] at hst;rw[aD,hst];refine YR ?_;(refine Z1 (op:= .sub) (r':=nj (m-1)) (u:=nj m) (v:=nj 1) ?_ (hr':=by exact e8) (hr:=by exact X71 (by unfold X2i;omega)));refine Z3 (af:=bW) ?_;exact QI
 obtain rfl:i=l.length:=by omega
 rw[aD,drop_length,X0C];exact Qy
end Go.Fw
