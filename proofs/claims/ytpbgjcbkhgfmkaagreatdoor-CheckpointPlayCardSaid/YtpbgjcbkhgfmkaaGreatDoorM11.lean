/- Uint, Int, Str, the program's and the reference's. -/
import Derived.Test.YtpbgjcbkhgfmkaaGreatDoorM10
set_option maxHeartbeats 8000000
namespace Go.Fw
open Go Go.Proofs Tryz List
set_option maxRecDepth 100000
set_option linter.unusedVariables false
set_option linter.unusedSimpArgs false
variable{a:Int}{b s:List UInt8}{i m:Nat}{l:List Val}{x y:Operand}
theorem Xk8 (h:(UE b a).2.2=0):∃k:Nat,a=k/\k<=b.length/\V2 (b.drop k)<(b.drop k).length/\V2 (b.drop k)<10/\(UE b a).2.1=((k+V2 (b.drop k)+1:Nat):Int):=by
 unfold UE at h |-;split at h
 ·simp at h
 rename_i ha;have hm:V2 (b.drop a.toNat)<=10:=by
  unfold V2;have:=(takeWhile_sublist (l:=(b.drop a.toNat).take 10) (fun b=>decide (128<=b.toNat))).length_le;simp at this |-;omega
 simp only at h |-;split at h
 ·simp at h
 rename_i h10;split at h
 ·simp at h
 rename_i hle;split at h
 ·simp at h
 rename_i h9;have gX:¬(a<0)/\¬((b.length:Int)<a):=by simpa using ha
 refine⟨a.toNat,by omega,by omega,by omega,by omega,?_⟩;rw[NI ha,NI h10,NI hle,NI h9];simp only;omega
theorem XpX:(UE b a).1<18446744073709551616:=by
 by_cases h:(UE b a).2.2=0
 ·by_cases hp:X1u b a=false
  ·exact(XeV (b:=b) (a:=a) (e:=(UE b a).2.1) (u:=(UE b a).1) (by rw[<-h]) hp).2.2.2.2
  ·obtain⟨k,rfl,hk,h1,h2,_⟩:=Xk8 h;have hp:X1u b (k:Int)=true:=by simpa using hp
   unfold X1u at hp;simp only[Int.toNat_natCast,Bool.and_eq_true,decide_eq_true_eq] at hp;obtain⟨c,hc⟩:=Xu (l:=b.drop k) h1;rw[hc] at hp;simp only[Option.getD_some] at hp;have hc0:c.toNat=0:=by rw[hp.2];rfl
   unfold UE;rw[NI (by omega)];simp only[Int.toNat_natCast];rw[NI (by omega),NI (by omega)];split
   ·simp
   ·simp only;rw[X89 _ _ c hc,hc0];have h3:=XcD (b.drop k) (V2 (b.drop k));have h4:(2:Nat)^(7*V2 (b.drop k))<=2^63:=Nat.pow_le_pow_right (by omega) (by omega);omega
 ·unfold UE at h |-;split at h
  ·rename_i h1;rw[PI h1];simp
  rename_i h1;rw[NI h1];simp only at h |-;split at h
  ·rename_i h2;rw[PI h2];simp
  rename_i h2;rw[NI h2];split at h
  ·rename_i h3;rw[PI h3];simp
  rename_i h3;rw[NI h3];split at h
  ·rename_i h4;rw[PI h4];simp
  ·simp at h
theorem XkR:(Uq b a).1<18446744073709551616:=by
 unfold Uq;simp only;split
 ·simp
 ·split<;>exact XpX
theorem Xbc:XB b a=if 9223372036854775807<(Uq b a).1 then (0,0,4) else if (Uq b a).2.2≠0 then (0,0,(Uq b a).2.2) else (((Uq b a).1:Int),(Uq b a).2.1,0):=by
 unfold XB Uq;simp only;by_cases h:(UE b a).2.2=0
 ·simp only[h,ne_eq,not_true_eq_false,if_false];cases hp:X1u b a with
  |true=>simp only[if_true];simp
  |false=>simp only[Bool.false_eq_true,if_false,h];simp
 ·simp[h]
theorem XrB:YX b a=if (Uq b a).2.2≠0 then (0,0,(Uq b a).2.2) else (zag (Uq b a).1,(Uq b a).2.1,0):=by
 unfold YX Uq;simp only;by_cases h:(UE b a).2.2=0
 ·simp only[h,ne_eq,not_true_eq_false,if_false];cases hp:X1u b a with
  |true=>simp
  |false=>simp[h]
 ·simp[h]
abbrev aN3 (r:Int×Int×Int):AVal:= .tup [ai r.1,ai r.2.1,ai r.2.2]
theorem X6r (b:List UInt8) (a:Int) (hb:b.length<=281474976710656):Con prog 160 [] [.d (Xg b),ai a] [] (aN3 (XB b a)):=by
 refine ZCt func160 ntmps160 fun E=> ?_;have hr:=Xmy b a hb;have hlt:=XkR (b:=b) (a:=a);rw[Xbc];generalize Uq b a=r at*;obtain⟨u,e,err⟩:=r;simp only at hlt |-;by_cases h1:9223372036854775807<u
 ·rw[PI h1];refine X00 ?_;exact Qga
 rw[NI h1];by_cases h2:err=0
 ·rw[NI (by simpa using h2)];refine X17 ?_;(refine Z0 (u:=n64 u) (r:=ni u) ?_ (hr:=by exact Uj rfl rfl (by rw[YO];omega)));refine W5_ ?_;exact Qga
 ·rw[PI h2];refine Qma ?_;exact Qga
theorem XlC (b:List UInt8) (a:Int) (hb:b.length<=281474976710656):Con prog 287 [] [.d (Xg b),ai a] [] (aN3 (YX b a)):=by
 refine ZCt func287 ntmps287 fun E=> ?_;have hr:=Xmy b a hb;have hlt:=XkR (b:=b) (a:=a);rw[XrB];generalize Uq b a=r at*;obtain⟨u,e,err⟩:=r;simp only at hlt |-;by_cases h2:err=0
 ·rw[NI (by simpa using h2)];have hx:∀w,(Op.unary .xor (ni (u/2))).run prog w= .ok (.int .i64 (-((u/2:Nat):Int)-1)) w:=fun w=>Xxn (P:=prog) (by omega) w;by_cases g7:u%2=1
  ·rw[show zag u= -((u/2:Nat):Int)-1 by unfold zag;rw[PI g7]];refine Vb ?_;refine Z2 (op:= .shr) (r':=n64 (u/2)) (u:=n64 u) (v:=n64 1) ?_ (hr:=by exact X1C (by decide));(refine Z0 (u:=n64 (u/2)) (r:=ni (u/2)) ?_ (hr:=by exact Uj rfl rfl (by rw[YO];omega)));refine W6_ ?_;(refine Z1 (op:= .and) (r':=n64 (u%2)) (u:=n64 u) (v:=n64 1) ?_ (hr':=by exact CG n64 (Nat.and_one_is_mod u)) (hr:=by exact X1B (by rw[YG];omega) (by rw[YG];omega)));refine W5_ ?_;refine Z4 (u:=ni (u/2)) (r:= .int .i64 (-((u/2:Nat):Int)-1)) ?_ (hr:=by exact hx);refine XA ?_;exact Qga
  ·rw[show zag u=((u/2:Nat):Int) by unfold zag;rw[NI g7]];refine Vb ?_;refine Z2 (op:= .shr) (r':=n64 (u/2)) (u:=n64 u) (v:=n64 1) ?_ (hr:=by exact X1C (by decide));(refine Z0 (u:=n64 (u/2)) (r:=ni (u/2)) ?_ (hr:=by exact Uj rfl rfl (by rw[YO];omega)));refine W6_ ?_;(refine Z1 (op:= .and) (r':=n64 (u%2)) (u:=n64 u) (v:=n64 1) ?_ (hr':=by exact CG n64 (Nat.and_one_is_mod u)) (hr:=by exact X1B (by rw[YG];omega) (by rw[YG];omega)));refine XR ?_;exact Qga
 ·rw[PI h2];refine UD ?_;exact Qga
theorem XoA {most:Int}:X0M b a most=if (XB b a).2.2≠0 then ([],0,(XB b a).2.2) else if most<(XB b a).1 then ([],0,4) else if (b.length:Int)-(XB b a).2.1<(XB b a).1 then ([],0,3) else
  ((b.drop (XB b a).2.1.toNat).take (XB b a).1.toNat,(XB b a).2.1+(XB b a).1,0):=rfl
theorem Xj5:(XB b a).2.2=0->∃n f:Nat,(XB b a).1=n/\(XB b a).2.1=f/\f<=b.length/\(n:Int)<=9223372036854775807:=by
 intro h;obtain⟨⟨k1,k2,k3,k4⟩,k5,k6,k7⟩:=X4M (b:=b) (a:=a) (n:=(XB b a).1) (e:=(XB b a).2.1) (by rw[<-h]);exact⟨(XB b a).1.toNat,(XB b a).2.1.toNat,by omega,by omega,by omega,by omega⟩
theorem Xjt (b:List UInt8) (a most:Int) (hb:b.length<=281474976710656):Con prog 336 [] [.d (Xg b),ai a,ai most] [] (XbE (Xi (X0M b a most).1) (X0M b a most).2.1 (X0M b a most).2.2):=by
 refine ZCt func336 ntmps336 fun E=> ?_;have hr:=X6r b a hb;have hf:=Xj5 (b:=b) (a:=a);rw[XoA];generalize XB b a=r at*;obtain⟨n,f,err⟩:=r;simp only at hf |-;by_cases h2:err=0
 ·obtain⟨n,f,rfl,rfl,qJ,qK⟩:=hf h2;rw[NI (by simpa using h2)];by_cases h3:most<(n:Int)
  ·rw[PI h3];refine Qma ?_;exact Qga
  rw[NI h3];by_cases h4:(b.length:Int)-f<n
  ·rw[PI h4];refine X7 ?_;refine XQ ?_;exact Qga
  rw[NI h4];have aK:((b.map X5).take (f+n)).drop f=((b.drop f).take n).map X5:=by rw[map_take,map_drop,drop_take,Nat.add_sub_cancel_left]
  refine X7 ?_;refine XG ?_;refine ZBA f n ?_;refine Z6 (lb:=f) (hb:=f+n) (ys:=((b.drop f).take n).map X5) ?_ (hys:=by exact aK);refine W3_ ?_;refine ZBA f n ?_;refine W4_ ?_;exact Qga
 ·rw[PI h2];refine UX ?_;exact Qga
abbrev zB:List D:=[.v (.int .u8 0)]
theorem Xv9 (hi:i<4):∃y,(X0p b)[i]? =some y/\n8 (XT b/2^(8*i)%256)=n8 y.toNat:=by
 have hs:=X74 b;rcases i with _|_|_|_|i
 ·exact⟨_,rfl,by rw[X1k (by omega)];simp⟩
 ·exact⟨_,rfl,by rw[X1k (by omega)]⟩
 ·exact⟨_,rfl,by rw[X1k (by omega)]⟩
 ·exact⟨_,rfl,by rw[X1k (by omega)];show n8 (XT b/16777216%256)=_;rw[Nat.mod_eq_of_lt (by omega)]⟩
 ·omega
theorem XhZ (b:List UInt8) (hb:b.length<=65536):Con prog 166 [] [.d (Xg b)] [] (.d (Xg (Yn b))):=by
 refine ZC1 func166 ntmps166 fun E=> ?_;have hl:(Xl (b.length:Int)).length<=10:=by rw[X2k (by omega)];exact X1Y (by omega)
 have aR:=X30 b.length (by omega);have hput:Yn b=Xl (b.length:Int)++b++X0p b:=rfl;generalize Xl (b.length:Int)=hd at*;have hlb:(map X5 b).length=b.length:=by simp
 have hlm:(map X5 hd).length=hd.length:=by simp
 have ej:hd.length=min (hd.map X5).length (replicate ((hd.map X5).length+(b.map X5).length+4) (zD (Value.int IntKind.u8 0).cells.toList)).length:=by simp;omega
 have hk:hd.length<=((hd.map X5).take hd.length++(replicate ((hd.map X5).length+(b.map X5).length+4) (zD (Value.int IntKind.u8 0).cells.toList)).drop hd.length).length:=by simp
 have hm2:b.length=min (b.map X5).length (((hd.map X5).take hd.length++(replicate ((hd.map X5).length+(b.map X5).length+4) (zD (Value.int IntKind.u8 0).cells.toList)).drop hd.length).length-hd.length):=by simp;omega
 refine YR ?_;refine Qd ?_;refine W6_ ?_;refine X9O (m:=hd.length) (hg:=JSa) (hx:=JSb) (hL:=JSb) (hn:=JSe) (hy:=JSb) (hT:=JSb) (hd:=JSb) ?_ (hm:=by exact ej);refine W7_ ?_;refine X1H (k:=hd.length) (hg:=JSa) (hx:=JSb) (hL:=JSb) (hlo:=JSb) (hn:=JSe) (hT:=JSb) (hd:=JSb) ?_ (hk:=by exact hk);refine W1_ ?_;refine X3c (m:=b.length) (hg:=JSa) (hx:=JSb) (hL:=JSb) (hn:=JSe) (hy:=JSb) (hsrc:=JSf) (hT:=JSb) (hd:=JSb) ?_ (hk:=by exact hk) (hm:=by exact hm2);refine ZBA (hd.length) (b.length) ?_;refine W5_ ?_;refine Z3 (af:=X8h b) ?_;refine W8_ ?_
 refine Xn (fun i:Nat=>i<=4) (fun i=>⟨45,[(4,.own 131 (hd.length+b.length+4)),(5,ai (hd.length+b.length:Nat)),(6,ai (XT b)),(30,ai i)],[(131,.row 1 ((hd++b++(X0p b).take i).map X5++replicate (4-i) zB))]⟩) (fun i=>4-i) 0 (by omega)
  (Xb rfl ⟨(by refine AVal.le_of_eq ?_;refine Eq.trans (b:=AVal.own 131 ((hd.map X5).length+(b.map X5).length+4)) rfl ?_;rw[hlb,hlm]),JL,JL,JL,TV⟩ ⟨?_,TV⟩) ?_
 ·refine Eq.trans (b:=AObj.row 1 (take _ _++_++drop _ _)) rfl ?_;congr 1;rw[take_of_length_le (l:=hd.map X5) (by simp),take_left' (by simp),take_of_length_le (by simp),drop_append,drop_of_length_le (by simp),nil_append,drop_drop,drop_replicate];simp only[take_zero,append_nil,map_append,Nat.sub_zero];congr 1;rw[show (map X5 hd).length+(map X5 b).length+4-(hd.length+(hd.length+b.length-(map X5 hd).length))=4 by rw[hlb,hlm];omega];rfl
 intro i hi;by_cases h4:i<4
 ·obtain⟨y,hy,sR⟩:=Xv9 (b:=b) h4;have hs:=X74 b;have h8:8*i<=64:=by omega
  have hrl:((hd++b++(X0p b).take i).map X5++replicate (4-i) zB).length=hd.length+b.length+4:=by
   have:=X3Q b;simp only[LA,LM,LT,length_replicate];omega
  have ug:=hrl.symm;have uh:hd.length+b.length+i<((hd++b++(X0p b).take i).map X5++replicate (4-i) zB).length:=by rw[hrl];omega
  have aK:(hd++b++(X0p b).take i).length=hd.length+b.length+i:=by
   have:=X3Q b;simp only[LA,LT];omega
  refine Yf ?_;refine ZBA (hd.length+b.length) i ?_;refine W2_ ?_;refine ZBM 8 i ?_;refine Z2 (op:= .shr) (r':=ni (XT b/2^(8*i))) (u:=ni (XT b)) (v:=ni (8*i)) ?_ (hr:=by exact X1C h8);(refine Z0 (u:=ni (XT b/2^(8*i))) (r:=n8 y.toNat) ?_ (hr:=by exact by rw[<-sR];exact Uf rfl rfl));refine W7_ ?_;refine⟨i+1,by omega,by omega,Xb rfl ⟨JL,JL,JL,JL,TV⟩ ⟨?_,TV⟩⟩;refine Eq.trans (b:=AObj.row 1 (take _ _++[X5 y]++drop _ _)) rfl ?_;congr 1;rw[take_left' (by rw[LM,aK]),drop_append,drop_of_length_le (by rw[LM,aK];omega),nil_append,LM,aK,drop_replicate,take_add_one,hy];simp only[Option.toList_some,map_append,map_cons,map_nil,AS];rw[show 4-i-(hd.length+b.length+i+1-(hd.length+b.length+i))=4-(i+1) by omega]
 obtain rfl:i=4:=by omega
 have bG:(hd++b++(X0p b).take 4).map X5++replicate (4-4) zB=(Yn b).map X5:=by
  rw[hput,take_of_length_le (by rw[X3Q];omega)];simp
 rw[bG];refine X8 (XP 131 rfl) ?_;refine X8 (Y7 4 131 rfl rfl (by rw[LM,hput];simp only[LA,X3Q])) ?_;exact Qz
def X3u (b:List UInt8) (k:Nat):Nat->Nat
 |0=>0
 |i+1=>X3u b k i+2^(8*i)*((b[k+i]?).getD 0).toNat
theorem Xki (b:List UInt8) (k:Nat):∀i,X3u b k i<2^(8*i)
 |0=>by simp[X3u]
 |i+1=>by
  have h1:=Xki b k i;have h2:=((b[k+i]?).getD 0).toNat_lt;simp only[X3u];rw[show 8*(i+1)=8*i+8 by omega,Nat.pow_add];have:2^(8*i)*((b[k+i]?).getD 0).toNat<=2^(8*i)*255:=Nat.mul_le_mul_left _ (by omega);omega
theorem XoE (b:List UInt8) (k:Nat):X3u b k 4=X3M b k:=by
 simp[X3u,X3M]
theorem XvQ:cj b a=if (XB b a).2.2≠0 then ([],0,(XB b a).2.2) else if (b.length:Int)-(XB b a).2.1<4\/(b.length:Int)-(XB b a).2.1-4<(XB b a).1 then ([],0,3) else
  if X3M b ((XB b a).2.1+(XB b a).1).toNat≠XT ((b.drop (XB b a).2.1.toNat).take (XB b a).1.toNat) then ([],0,21) else ((b.drop (XB b a).2.1.toNat).take (XB b a).1.toNat,(XB b a).2.1+(XB b a).1+4,0):=rfl
theorem XkE (b:List UInt8) (a:Int) (hb:b.length<=140737488355328):Con prog 152 [] [.d (Xg b),ai a] [] (XbE (.d (Xg (cj b a).1)) (cj b a).2.1 (cj b a).2.2):=by
 refine ZCt func152 ntmps152 fun E=> ?_;have hr:=X6r b a (by omega);have hf:=Xj5 (b:=b) (a:=a);rw[XvQ];generalize XB b a=r at*;obtain⟨n,f,err⟩:=r;simp only at hf |-;by_cases h2:err=0
 ·obtain⟨n,f,rfl,rfl,qJ,qK⟩:=hf h2;rw[NI (by simpa using h2)];by_cases h3:(b.length:Int)-f<4
  ·rw[PI (.inl h3)];refine Qla ?_;exact Qna
  by_cases h4:(b.length:Int)-f-4<n
  ·rw[PI (.inr h4)];refine Qla ?_;exact Qna
  rw[NI (by omega)];have aK:((b.map X5).take (f+n)).drop f=((b.drop f).take n).map X5:=by rw[map_take,map_drop,drop_take,Nat.add_sub_cancel_left]
  have bu:((b.drop f).take n).length=n:=by simp;omega
  refine X7 ?_;refine XQ ?_;refine ZBA f n ?_;refine W2_ ?_;refine ZBA f n ?_;refine Z7 (lb:=f) (hb:=f+n) (ys:=((b.drop f).take n).map X5) ?_ (hys:=by exact aK);refine XR ?_
  refine Xn (fun i:Nat=>i<=4) (fun i=>⟨79,[(0,.d (Xg b)),(7,ai n),(8,ai f),(10,.d (Xg ((b.drop f).take n))),(11,ai (X3u b (f+n) i)),(47,ai i)],[]⟩) (fun i=>4-i) 0 (by omega)
   (Xb rfl ⟨JL,JL,JL,JL,JL,JL,TV⟩ trivial) ?_
  intro i hi;have hsp:=Xki b (f+n) i;by_cases hi4:i<4
  ·obtain⟨y,hy⟩:=Xu (l:=b) (k:=f+n+i) (by omega);have uN:=y.toNat_lt;have mT:(2:Nat)^(8*i)<=2^24:=Nat.pow_le_pow_right (by omega) (by omega);have hyp:y.toNat*2^(8*i)<=255*2^24:=Nat.mul_le_mul (by omega) mT;have hst:X3u b (f+n) i|||y.toNat*2^(8*i)=X3u b (f+n) (i+1):=by simp only[X3u,hy,Option.getD_some];exact Xfa hsp
   have sS:8*i<=64:=by omega
   refine YR ?_;refine ZBA f n ?_;refine W1_ ?_;refine ZBA (f+n) i ?_;refine W4_ ?_;refine ZBM 8 i ?_
   (refine Z2 (op:= .shl) (r':=ni (y.toNat*2^(8*i))) (u:=ni y.toNat) (v:=ni (8*i)) ?_ (hr:=by exact Xoo sS (by rw[YO];omega)))
   (refine Z1 (op:= .or) (r':=ni (X3u b (f+n) (i+1))) (u:=ni (X3u b (f+n) i)) (v:=ni (y.toNat*2^(8*i))) ?_ (hr':=by exact CG ni hst) (hr:=by exact X29 (by rw[YO];omega) (by rw[YO];omega)))
   refine W6_ ?_;exact⟨i+1,by omega,by omega,Xb rfl ⟨JL,JL,JL,JL,JL,JL,TV⟩ TV⟩
  obtain rfl:i=4:=by omega
  have ha:=XoE b (f+n);rw[ha];have et:((f:Int)+(n:Int)).toNat=f+n:=by omega
  rw[et,Int.toNat_natCast,Int.toNat_natCast];generalize (b.drop f).take n=body at*;by_cases hs:X3M b (f+n)=XT body
  ·rw[NI (by simpa using hs)];have ej:min (body.map X5).length (replicate n (zD (Value.int IntKind.u8 0).cells.toList)).length=n:=by simp[bu]
   refine XK ?_;refine Z3 (af:=X8h body) ?_;refine W8_ ?_;refine Qd ?_;refine W6_ ?_;refine X9O (m:=n) (hg:=JSa) (hx:=JSb) (hL:=JSb) (hn:=JSe) (hy:=JSb) (hT:=JSb) (hd:=JSb) ?_ (hm:=by exact ej.symm);refine W6_ ?_;refine ZBA f n ?_;refine W5_ ?_;refine X8 (XP 131 rfl) ?_;refine X8 (Y7 4 131 rfl rfl (by simp[bu])) ?_;exact X2 ⟨_,St.le_trans (Xe 4 (y:= .d (Xg body)) (AVal.le_of_eq (by refine Eq.trans (b:=AVal.d (.sl 1 (take n _++drop n _))) rfl ?_;rw[take_of_length_le (by simp[bu]),drop_of_length_le (by simp),append_nil]))) (Xe 5 (y:=ai ((f:Int)+n+4)) (AVal.le_of_eq (by refine Eq.trans (b:=ai _) rfl ?_;simp))),⟨rfl,rfl,rfl,TV⟩,X4 _⟩
  ·rw[PI hs];have hs':¬(XT body=X3M b (f+n)):=fun h=>hs h.symm;refine XK ?_;refine Z3 (af:=X8h body) ?_;refine XA ?_;exact Qna
 ·rw[PI h2];refine UD ?_;exact Qna
theorem Xc8 {x:Val} (h:l[i]? =some x):U4 (l.take (i+1))=U4 (l.take i)++Yh x:=by
 induction l generalizing i with
 |nil=>simp at h
 |cons y l ih=>
  cases i with
  |zero=>simp at h;subst h;simp[U4]
  |succ i=>simp only[take_succ_cons,U4];rw[ih (by simpa using h),AS]
theorem Xbh (l:List Val) (i:Nat):(U4 (l.take i)).length<=(U4 l).length:=by
 induction l generalizing i with
 |nil=>simp
 |cons y l ih=>
  cases i with
  |zero=>simp[U4]
  |succ i=>simp only[take_succ_cons,U4,LA];have:=ih i;omega
def XcO (v:Val):Prop:=∀r:List UInt8,r.length+(Yh v).length<=140737488355328->
 Con prog 341 [(0,.row 1 (r.map X5))] [.own 0 r.length,XC v] [(0,.row 1 ((r++Yh v).map X5))] (.own 0 (r++Yh v).length)
theorem XrF (v:Val) (hv:Xk 8 v=true) (ih:∀x∈v.l,XcO x):XcO v:=by
 obtain⟨k,n,d,s,l⟩:=v;intro r hr;have hlen:=X2e l;simp only[Val.l] at ih;refine ZC1 func341 ntmps341 fun E=> ?_;rw[Xk] at hv;have eG:∀(x:Int),-1000000000000000<=x/\x<=1000000000000000-> -9223372036854775808<=x/\x<=9223372036854775807:=fun x h=>by omega
 by_cases bY:k=0
 ·subst bY;have hput:Yh (.mk 0 n d s l)=[UInt8.ofNat 0]:=by rw[Yh];simp
  rw[hput] at hr |-;simp only[LA,LC,length_nil] at hr;refine XA ?_;refine Z0 (u:=nj 0) (r:=n8 0) ?_ (hr:=by exact Uf rfl rfl);refine X7 ?_;refine Vl ?_;refine X2 ⟨_,Xe 4 (y:= .own 0 (r++UInt8.ofNat 0::[]).length) (AVal.le_of_eq ?_),⟨rfl,TV⟩,Xj ⟨?_,TV⟩⟩
  ·refine Qoa ?_;congr 1;simp only[LA,LM,LC,length_nil]<;>omega
  ·refine Qpa ?_;simp only[map_append,map_cons,map_nil,AS,cons_append,nil_append];rfl
 by_cases ey:k=1
 ·subst ey;have hput:Yh (.mk 1 n d s l)=UInt8.ofNat 1::U5 n:=by rw[Yh];simp
  have hn: -9223372036854775808<=n/\n<=9223372036854775807:=by simp at hv;omega
  have dH:=X75 n hn;rw[hput] at hr |-;generalize U5 n=q at*;simp only[LA,LC,length_nil] at hr;refine XA ?_;refine Z0 (u:=nj 1) (r:=n8 1) ?_ (hr:=by exact Uf rfl rfl);refine Vl ?_;refine Qqa ?_;refine X2 ⟨_,Xe 4 (y:= .own 0 (r++UInt8.ofNat 1::q).length) (AVal.le_of_eq ?_),⟨rfl,TV⟩,Xj ⟨?_,TV⟩⟩
  ·refine Qoa ?_;congr 1;simp only[LA,LM,LC,length_nil]<;>omega
  ·refine Qra ?_;simp only[map_append,map_cons,map_nil,AS,cons_append,nil_append];rfl
 by_cases hk2:k=2
 ·subst hk2;have hput:Yh (.mk 2 n d s l)=UInt8.ofNat 2::U5 n:=by rw[Yh];simp
  have hn: -9223372036854775808<=n/\n<=9223372036854775807:=by simp at hv;omega
  have dH:=X75 n hn;rw[hput] at hr |-;generalize U5 n=q at*;simp only[LA,LC,length_nil] at hr;refine XA ?_;refine Z0 (u:=nj 2) (r:=n8 2) ?_ (hr:=by exact Uf rfl rfl);refine UP ?_;refine Qqa ?_;refine X2 ⟨_,Xe 4 (y:= .own 0 (r++UInt8.ofNat 2::q).length) (AVal.le_of_eq ?_),⟨rfl,TV⟩,Xj ⟨?_,TV⟩⟩
  ·refine Qoa ?_;congr 1;simp only[LA,LM,LC,length_nil]<;>omega
  ·refine Qra ?_;simp only[map_append,map_cons,map_nil,AS,cons_append,nil_append];rfl
 by_cases jo:k=3
 ·subst jo;have hput:Yh (.mk 3 n d s l)=UInt8.ofNat 3::(U5 n++U5 d):=by rw[Yh];simp
  have dP:(-9223372036854775808<=n/\n<=9223372036854775807)/\ -9223372036854775808<=d/\d<=9223372036854775807:=by simp[X2p] at hv;omega
  have dH:=X75 n dP.1;have jZ:=X75 d dP.2;rw[hput] at hr |-;generalize U5 n=q at*;generalize U5 d=q2 at*;simp only[LA,LC,length_nil] at hr;refine XA ?_;refine Z0 (u:=nj 3) (r:=n8 3) ?_ (hr:=by exact Uf rfl rfl);refine Qo ?_;refine Qqa ?_;refine Z3 (af:=jZ) ?_;refine W3_ ?_;refine X2 ⟨_,Xe 4 (y:= .own 0 (r++UInt8.ofNat 3::(q++q2)).length) (AVal.le_of_eq ?_),⟨rfl,TV⟩,Xj ⟨?_,TV⟩⟩
  ·refine Qoa ?_;congr 1;simp only[LA,LM,LC,length_nil]<;>omega
  ·refine Eq.trans (b:=AObj.row 1 (_++_++_++_)) rfl ?_;simp only[map_append,map_cons,map_nil,AS,cons_append,nil_append];rfl
 by_cases jq:k=4
 ·subst jq;have hput:Yh (.mk 4 n d s l)=UInt8.ofNat 4::Ym s:=by rw[Yh];simp
  have hs:s.length<=65536:=by simp at hv;omega
  have dH:=X76 s hs;rw[hput] at hr |-;generalize Ym s=q at*;simp only[LA,LC,length_nil] at hr;refine XA ?_;refine Qsa ?_;refine Qla ?_;refine Qqa ?_;refine X2 ⟨_,Xe 4 (y:= .own 0 (r++UInt8.ofNat 4::q).length) (AVal.le_of_eq ?_),⟨rfl,TV⟩,Xj ⟨?_,TV⟩⟩
  ·refine Qoa ?_;congr 1;simp only[LA,LM,LC,length_nil]<;>omega
  ·refine Qra ?_;simp only[map_append,map_cons,map_nil,AS,cons_append,nil_append];rfl
 by_cases jU:k=5
 ·subst jU;have hput:Yh (.mk 5 n d s l)=UInt8.ofNat 5::U5 n:=by rw[Yh];simp
  have hn: -9223372036854775808<=n/\n<=9223372036854775807:=by simp at hv;omega
  have dH:=X75 n hn;rw[hput] at hr |-;generalize U5 n=q at*;simp only[LA,LC,length_nil] at hr;refine XA ?_;refine Qta ?_;refine X0Z ?_;refine Qqa ?_;refine X2 ⟨_,Xe 4 (y:= .own 0 (r++UInt8.ofNat 5::q).length) (AVal.le_of_eq ?_),⟨rfl,TV⟩,Xj ⟨?_,TV⟩⟩
  ·refine Qoa ?_;congr 1;simp only[LA,LM,LC,length_nil]<;>omega
  ·refine Qra ?_;simp only[map_append,map_cons,map_nil,AS,cons_append,nil_append];rfl
 by_cases jV:k=6
 ·subst jV;have hput:Yh (.mk 6 n d s l)=UInt8.ofNat 6::U5 n:=by rw[Yh];simp
  have hn: -9223372036854775808<=n/\n<=9223372036854775807:=by simp at hv;omega
  have dH:=X75 n hn;rw[hput] at hr |-;generalize U5 n=q at*;simp only[LA,LC,length_nil] at hr;refine XA ?_;refine Qua ?_;refine X7 ?_;refine Qqa ?_;refine X2 ⟨_,Xe 4 (y:= .own 0 (r++UInt8.ofNat 6::q).length) (AVal.le_of_eq ?_),⟨rfl,TV⟩,Xj ⟨?_,TV⟩⟩
  ·refine Qoa ?_;congr 1;simp only[LA,LM,LC,length_nil]<;>omega
  ·refine Qra ?_;simp only[map_append,map_cons,map_nil,AS,cons_append,nil_append];rfl
 by_cases jW:k=7
 ·subst jW;have hput:Yh (.mk 7 n d s l)=UInt8.ofNat 7::(Xl l.length++U4 l):=by rw[Yh];simp
  have bF:l.length<=64:=by simp at hv;omega
  have jR:=X30 (XX l).length (by omega);rw[<-hlen] at hput;rw[hput] at hr |-;generalize Xl ((XX l).length:Int)=q at*;simp only[LA,LC,length_nil] at hr;refine XA ?_;refine Qva ?_;refine X7 ?_;refine X0Z ?_;generalize hbase:r++UInt8.ofNat 7::q=base at*;have bu:base.length=r.length+q.length+1:=by rw[<-hbase];simp;omega
  have hgoal:r++UInt8.ofNat 7::(q++U4 l)=base++U4 l:=by rw[<-hbase];simp
  rw[hgoal]
  refine Xn (fun i:Nat=>i<=l.length) (fun i=>⟨64,[(0,.own 0 (base++U4 (l.take i)).length),(53,.d (.sl 5 (XX l))),(54,ai l.length),(55,ai i)],[(0,.row 1 ((base++U4 (l.take i)).map X5))]⟩) (fun i=>l.length-i) 0 (by omega)
   (Xb rfl ⟨(by refine AVal.le_of_eq ?_;refine Eq.trans (b:=AVal.own 0 (_+_)) rfl ?_;congr 1;simp only[take_zero,U4,append_nil,bu,LA,LM,LC,length_nil]<;>omega),JL,(by refine AVal.le_of_eq ?_;refine Eq.trans (b:=ai ((XX l).length:Nat)) rfl ?_;rw[hlen]),JL,TV⟩ ⟨?_,TV⟩) ?_
  ·refine Qra ?_;simp only[take_zero,U4,append_nil,<-hbase,map_append,map_cons,AS,cons_append,nil_append];rfl
  intro i hi;by_cases hlt:i<l.length
  ·obtain⟨x,hx⟩:=Xu (l:=l) hlt;have eV:=X5S hx;have bO:=Xc8 hx;have hle:=Xbh l (i+1);have hpx:=ih x (mem_of_getElem? hx) (base++U4 (l.take i)) (by rw[bO] at hle;simp only[LA] at hle |-;omega);rw[AS,<-bO] at hpx;obtain⟨k',n',d',s',q'⟩:=x;simp only[XC] at hpx;rw[UT] at eV;refine YR ?_;refine Z3 (af:=hpx) ?_;refine W6_ ?_;exact⟨i+1,by omega,by omega,Xb rfl ⟨JL,JL,JL,JL,TV⟩ ⟨rfl,TV⟩⟩
  obtain rfl:i=l.length:=by omega
  rw[take_length];refine XR ?_;exact Qb
 by_cases gY:k=8
 ·subst gY;have hput:Yh (.mk 8 n d s l)=UInt8.ofNat 8::(Xl l.length++U4 l):=by rw[Yh];simp
  have bF:l.length<=64:=by simp at hv;omega
  have jR:=X30 (XX l).length (by omega);rw[<-hlen] at hput;rw[hput] at hr |-;generalize Xl ((XX l).length:Int)=q at*;simp only[LA,LC,length_nil] at hr;refine XA ?_;refine Qwa ?_;refine X7 ?_;refine X00 ?_;generalize hbase:r++UInt8.ofNat 8::q=base at*;have bu:base.length=r.length+q.length+1:=by rw[<-hbase];simp;omega
  have hgoal:r++UInt8.ofNat 8::(q++U4 l)=base++U4 l:=by rw[<-hbase];simp
  rw[hgoal]
  refine Xn (fun i:Nat=>i<=l.length) (fun i=>⟨64,[(0,.own 0 (base++U4 (l.take i)).length),(53,.d (.sl 5 (XX l))),(54,ai l.length),(55,ai i)],[(0,.row 1 ((base++U4 (l.take i)).map X5))]⟩) (fun i=>l.length-i) 0 (by omega)
   (Xb rfl ⟨(by refine AVal.le_of_eq ?_;refine Eq.trans (b:=AVal.own 0 (_+_)) rfl ?_;congr 1;simp only[take_zero,U4,append_nil,bu,LA,LM,LC,length_nil]<;>omega),JL,(by refine AVal.le_of_eq ?_;refine Eq.trans (b:=ai ((XX l).length:Nat)) rfl ?_;rw[hlen]),JL,TV⟩ ⟨?_,TV⟩) ?_
  ·refine Qra ?_;simp only[take_zero,U4,append_nil,<-hbase,map_append,map_cons,AS,cons_append,nil_append];rfl
  intro i hi;by_cases hlt:i<l.length
  ·obtain⟨x,hx⟩:=Xu (l:=l) hlt;have eV:=X5S hx;have bO:=Xc8 hx;have hle:=Xbh l (i+1);have hpx:=ih x (mem_of_getElem? hx) (base++U4 (l.take i)) (by rw[bO] at hle;simp only[LA] at hle |-;omega);rw[AS,<-bO] at hpx;obtain⟨k',n',d',s',q'⟩:=x;simp only[XC] at hpx;rw[UT] at eV;refine YR ?_;refine Z3 (af:=hpx) ?_;refine W6_ ?_;exact⟨i+1,by omega,by omega,Xb rfl ⟨JL,JL,JL,JL,TV⟩ ⟨rfl,TV⟩⟩
  obtain rfl:i=l.length:=by omega
  rw[take_length];refine XR ?_;exact Qb
 simp[*] at hv
theorem XeW:∀{l:List Val}{x:Val},X0C m l=true->x∈l->Xk m x=true
 |[],x,_,h=>by simp at h
 |v::r,x,h,hx=>by
  rw[X0C,Bool.and_eq_true] at h;rcases mem_cons.1 hx with rfl|hx
  ·exact h.1
  ·exact XeW h.2 hx
theorem XlD:∀{l:List Val}{i:Nat}{x:Val},X0u i l=true->x∈l->Xk 0 x=true
 |[],_,x,_,h=>by simp at h
 |v::r,i,x,h,hx=>by
  rw[X0u,Bool.and_eq_true,Bool.and_eq_true] at h;rcases mem_cons.1 hx with rfl|hx
  ·exact h.1.2
  ·exact XlD h.2 hx
theorem Xdl {k n d:Int} (h:Xk m (.mk k n d s l)=true):∀x∈l,Xk m x=true:=by
 intro x hx;rw[Xk] at h;by_cases h7:k=7
 ·subst h7;simp at h;exact XcY x 0 m (by omega) (XlD h.2.2 hx)
 ·by_cases h8:k=8
  ·subst h8;simp at h;exact XcY x (m-1) m (by omega) (XeW h.2.2 hx)
  ·have:l=[]:=by
    simp[h7,h8] at h;exact h.1.2
   subst this;simp at hx
theorem XmT:∀v:Val,Xk 8 v=true->XcO v
 | .mk k n d s l=>fun hv=>XrF (.mk k n d s l) hv fun x hx=>XmT x (Xdl hv x hx)
termination_by v=>SizeOf.sizeOf v
decreasing_by
 have h1:=sizeOf_lt_of_mem (show x∈l from hx);simp only[Val.mk.sizeOf_spec];omega
theorem Xwb (v:Val) (hv:Xk 8 v=true) (hb:(Yh v).length<=140737488355328):Con prog 341 [] [aq,XC v] [] (.d (Xg (Yh v))):=by
 have h:=XmT v hv [] (by simpa using hb);have h2:=Con.adopt (sz:=1) (args:=[XC v]) h (by obtain⟨k,n,d,s,l⟩:=v;rfl);exact h2.data (by simp)
theorem XhA (v:Val) (hb:(Yh v).length<=140737488355328):Con prog 299 [] [XC v] [] (.d (Xg (UB v))):=by
 refine ZC1 func299 ntmps299 fun E=> ?_;have hval:=X2w v;cases hv:Xk 8 v with
 |false=>
  rw[hv] at hval;rw[show UB v=[] by unfold UB;rw[hv];rfl];obtain⟨k,n,d,s,l⟩:=v;simp only[XC] at hval;exact Qxa
 |true=>
  rw[hv] at hval;rw[show UB v=Yh v by unfold UB;rw[hv];rfl];have hp:=Xwb v hv hb;obtain⟨k,n,d,s,l⟩:=v;simp only[XC] at hval hp;generalize Yh (.mk k n d s l)=q at*;exact QM
theorem XpQ (n:Int):X3b n=0\/X3b n=1\/X3b n= -1:=by
 unfold X3b;split
 ·exact .inr (.inr rfl)
 ·split
  ·exact .inr (.inl rfl)
  ·exact .inl rfl
theorem XoW (n d:Int):Con prog 285 [] [X8E n d,X8E n d] [] (ai 0):=by
 refine ZC1 func285 ntmps285 fun E=> ?_;have hv:=XlN n d;cases hb:X2p n d with
 |true=>
  rw[hb] at hv;simp[X2p] at hb;obtain⟨D,rfl⟩:∃D:Nat,d=D:=⟨d.toNat,by omega⟩
  have hsz:=XfV n (by omega);have sU:=Xix n;have hr:=XpQ n;have ht:=Xho n.natAbs D (by omega) (by omega);have hsum:=XiT (X3b n) hr (X1f 14 (n.natAbs*D)) (Xd8 _ _) (XfF _ _);generalize X3b n=s at*;generalize X1f 14 (n.natAbs*D)=x at*;generalize X81 s x=y at*;generalize n.natAbs=N at*;have fL: -1<=s/\s<=1:=by omega
  clear hr hb;refine Qya ?_;exact Zr0
 |false=>
  rw[hb] at hv;clear hb;have hsz:Con prog 335 [] [ai 0] [] (ai 0):=XfV 0 (by omega);have sU:Con prog 333 [] [ai 0] [] (ai 0):=Xix 0;have ht:Con prog 334 [] [ai 0,ai 1] [] (.d (X1j (X1f 14 (0*1)))):=Xho 0 1 (by omega) (by omega);have hsum:Con prog 332 [] [ai 0,.d (X1j (X1f 14 (0*1))),ai 0,.d (X1j (X1f 14 (0*1)))] [] (.tup [ai 0,.d (X1j (X81 0 (X1f 14 (0*1))))]):=XiT 0 (.inl rfl) (X1f 14 (0*1)) (Xd8 _ _) (XfF _ _);generalize X1f 14 (0*1)=x at*;generalize X81 0 x=y at*;refine X7 ?_;refine UU ?_;exact Zr0
theorem X8F (n:Int):Con prog 282 [] [ai n,ai n] [] (ai 0):=by
 refine ZC1 func282 ntmps282 fun E=> ?_;have h:¬n<n:=by omega
 exact Qk
theorem Xem:∀s:List UInt8,Op.bytesLess s s=false
 |[]=>rfl
 |b::s=>by simp[Op.bytesLess,Xem s]
theorem XtI {t:TypeId} (w:World):(do eqGuard .lss t x y (.string (X6 s)) (.string (X6 s));binOp .lss t (.string (X6 s)) (.string (X6 s)):Sem Value).run prog w= .ok (.bool false) w:=by
 simp[go_sem,X4y,Xem]
theorem XqZ {t:TypeId} (w:World):(do eqGuard .gtr t x y (.string (X6 s)) (.string (X6 s));binOp .gtr t (.string (X6 s)) (.string (X6 s)):Sem Value).run prog w= .ok (.bool false) w:=by
 simp[go_sem,binOp,Op.stringOp,X4y,Xem]
theorem XuN (s:List UInt8):Con prog 329 [] [Xi s,Xi s] [] (ai 0):=by
 refine ZC1 func329 ntmps329 fun E=> ?_;refine W9_ ?_;refine Z2 (op:= .lss) (r':= .bool false) (u:= .string (X6 s)) (v:= .string (X6 s)) ?_ (hr:=by exact XtI);refine W8_ ?_;refine Z2 (op:= .gtr) (r':= .bool false) (u:= .string (X6 s)) (v:= .string (X6 s)) ?_ (hr:=by exact XqZ);exact QI
def X2O (k:Int):Int:=if k=0 then 0 else if k=1 then 1 else if k=2\/k=3 then 2 else if k=4 then 3 else if k=5 then 4 else if k=6 then 5 else if k=8 then 6 else 7
theorem XcH (k:Int):Con prog 283 [] [ai k] [] (ai (X2O k)):=by
 refine ZC1 func283 ntmps283 fun E=> ?_;by_cases h0:k=0
 ·subst h0;exact QM
 by_cases h1:k=1
 ·subst h1;exact Qk
 by_cases h2:k=2
 ·subst h2;refine UX ?_;exact Zr0
 by_cases h3:k=3
 ·subst h3;refine X1V ?_;exact Zr0
 by_cases h4:k=4
 ·subst h4;refine Qr ?_;exact Zr0
 by_cases h5:k=5
 ·subst h5;refine X7 ?_;refine XA ?_;exact Zr0
 by_cases h6:k=6
 ·subst h6;refine X7 ?_;refine Yg ?_;exact Zr0
 by_cases h8:k=8
 ·subst h8;refine X7 ?_;exact QA
 rw[show X2O k=7 by simp[X2O, *]];refine X7 ?_;refine UU ?_;exact Zr0
end Go.Fw
