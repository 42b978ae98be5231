/- The program's read. -/
import Derived.Test.YtfmfekakaeafhaaGreatDoorP10
import Derived.Test.YtfmfekakaeafhaaGreatDoorP11
set_option linter.all false
set_option maxHeartbeats 8000000
namespace Go.Fw
open Go Go.Proofs Tryz List
open List renaming length->J
set_option maxRecDepth 100000
def X2X (c:Nat):c&&&127=c%128:=Nat.and_two_pow_sub_one_eq_mod c 7
def XhG (b:List UInt8) (a:Int) (hb:J b<=281474976710656):Con prog 197 [] [.d (Xc b),ai a] [] (X7E (X52 (Uw b a).1) (Uw b a).2.1 (Uw b a).2.2):=by
 refine ZCt func197 ntmps197 fun E=> ?_;by_cases h1:a<0
 ·rw[show Uw b a=(0,0,1) by simp[Uw,YM,h1]];exact QN
 by_cases h2:(J b:Int)<a
 ·rw[show Uw b a=(0,0,1) by simp[Uw,YM,h2]];exact QN
 obtain⟨k,rfl⟩:∃k:Nat,a=k:=⟨a.toNat,Oa⟩
 have dD:YM b k=(let l:=b.drop k;let n:=UG l;if n=10 then (0,0,4) else if J l<=n then (0,0,3) else if n=9/\1<((l[n]?).getD 0).toNat then (0,0,4) else (Yv (l.take (n+1)),(k:Int)+n+1,0)):=by
  unfold YM;rw[NI Oa,Int.toNat_natCast]
 have cB:X0B b k=(decide (0<UG (b.drop k))&&decide (((b.drop k)[UG (b.drop k)]?).getD 0=0)):=by unfold X0B;rw[Int.toNat_natCast]
 have bz:J (b.drop k)=J b-k:=LD;have hmap:J (((b.map X6).take (J (b.map X6))).drop k)=J b-k:=Oc
 have hlb:10<J b-k->10<=J (((b.map X6).take (J (b.map X6))).drop k):=fun h=>by rw[hmap];omega
 have pK:(((((b.map X6).take (J (b.map X6))).drop k).take 10).drop 0)=((b.drop k).take 10).map X6:=by
  rw[take_length,drop_zero,<-map_drop,<-map_take]
 have pL:¬(10<J b-k)->(((b.map X6).take (J (b.map X6))).drop k)=((b.drop k).take 10).map X6:=fun h=>by
  rw[take_length,<-map_drop,take_of_length_le Ou]
 generalize hl:b.drop k=l at*;by_cases cR:10<J b-k
 ·refine QO ?_;refine XyV (hb:=10) (mb:=10) (hg:=JSa) (hx:=JSb) (hhi:=JSb) (cU:=JSb) (hT:=JSb) (hd:=JSb) ?_ (hh:=by exact Nat.le_refl 10) (hm:=by exact hlb cR);refine XD ?_
  refine Xl (fun i:Nat=>big l i/\i<=10/\i<=J l) (fun i=>⟨72,[(1,ai k),(7,.d (Xc (l.take 10))),(8,X52 (Uq l i)),(31,.d (Xc (l.take 10))),(32,ai (J (l.take 10))),(33,ai i)],[]⟩) (fun i=>10-i) 0 ⟨fun j hj=>Oa,Oa,Oa⟩
   (X9 rfl ⟨JL,OI,JL,OI,(by refine ZzQ ?_;refine Eq.trans (b:=ai (J ((((((b.map X6).take (J (b.map X6))).drop k).take 10).drop 0)):Nat)) rfl ?_;rw[pK,LM]),JL,TV⟩ trivial) ?_
  rintro i ⟨hbg,hi10,hil⟩;by_cases lF:i=J (l.take 10)
  ·have hmm:i=min 10 (J l):=by rw[lF];simp
   have hm:UG l=i:=XcQ hbg hmm;by_cases jC:J (l.take 10)=10
   ·have hv:YM b k=(0,0,4):=by rw[dD];simp only[hm];rw[PI Oa]
    rw[show Uw b k=(0,0,4) by unfold Uw;rw[hv];rfl];refine Y5 ?_;exact QM
   ·exact absurd Oz jC
  exact Yt1
 ·refine QU ?_
  refine Xl (fun i:Nat=>big l i/\i<=10/\i<=J l) (fun i=>⟨72,[(1,ai k),(7,.d (Xc (l.take 10))),(8,X52 (Uq l i)),(31,.d (Xc (l.take 10))),(32,ai (J (l.take 10))),(33,ai i)],[]⟩) (fun i=>10-i) 0 ⟨fun j hj=>Oa,Oa,Oa⟩
   (X9 rfl ⟨JL,OP,JL,OP,(by refine ZzQ ?_;refine Eq.trans (b:=ai (J ((((b.map X6).take (J (b.map X6))).drop k)):Nat)) rfl ?_;rw[pL cR,LM]),JL,TV⟩ trivial) ?_
  rintro i ⟨hbg,hi10,hil⟩;by_cases lF:i=J (l.take 10)
  ·have hmm:i=min 10 (J l):=by rw[lF];simp
   have hm:UG l=i:=XcQ hbg hmm;by_cases jC:J (l.take 10)=10
   ·have hv:YM b k=(0,0,4):=by rw[dD];simp only[hm];rw[PI Oa]
    rw[show Uw b k=(0,0,4) by unfold Uw;rw[hv];rfl];refine Y5 ?_;exact QM
   ·have hne:¬(i=10):=by rw[lF];exact jC
    have hv:YM b k=(0,0,3):=by rw[dD];simp only[hm];rw[NI hne,PI Oa]
    rw[show Uw b k=(0,0,3) by unfold Uw;rw[hv];rfl];refine YJ ?_;exact QM
  exact Yt1
variable{a n:Int}{b:List UInt8}{c:Chg}{g:Gra}{gl gp:Nat->Int->Val×Int×Int}{k:Nat}{l:List Nod}
def Xg0 (h:(YM b a).2.2=0):∃k:Nat,a=k/\k<=J b/\UG (b.drop k)<J (b.drop k)/\UG (b.drop k)<10/\(YM b a).2.1=((k+UG (b.drop k)+1:Nat):Int):=by
 unfold YM at h |-;split at h
 ·simp at h
 rename_i ha;have hm:UG (b.drop a.toNat)<=10:=by
  unfold UG;have:=(takeWhile_sublist (l:=(b.drop a.toNat).take 10) (fun b=>decide (128<=b.toNat))).length_le;simp at this |-;omega
 simp only at h |-;split at h
 ·simp at h
 rename_i h10;split at h
 ·simp at h
 rename_i hle;split at h
 ·simp at h
 rename_i h9;have gJ:¬(a<0)/\¬((J b:Int)<a):=by simpa using ha
 refine⟨a.toNat,Oa,Oa,Oa,Oa,?_⟩;rw[NI ha,NI h10,NI hle,NI h9];simp only;omega
def XfK:(YM b a).1<18446744073709551616:=by
 by_cases h:(YM b a).2.2=0
 ·by_cases hp:X0B b a=false
  ·exact(XdV (b:=b) (a:=a) (e:=(YM b a).2.1) (u:=(YM b a).1) (by rw[<-h]) hp).2.2.2.2
  ·obtain⟨k,rfl,hk,h1,h2,_⟩:=Xg0 h;have hp:X0B b (k:Int)=true:=by simpa using hp
   unfold X0B at hp;simp only[Int.toNat_natCast,Bool.and_eq_true,decide_eq_true_eq] at hp;obtain⟨c,hc⟩:=Xn (l:=b.drop k) h1;rw[hc] at hp;simp only[Option.getD_some] at hp;have hc0:c.toNat=0:=by rw[hp.2];rfl
   unfold YM;rw[NI Oa];simp only[Int.toNat_natCast];rw[NI Oa,NI Oa];split
   ·simp
   ·simp only;rw[X74 _ _ c hc,hc0];have h3:=X9s (b.drop k) (UG (b.drop k));have h4:(2:Nat)^(7*UG (b.drop k))<=2^63:=Nat.pow_le_pow_right Oa Oa;omega
 ·unfold YM at h |-;split at h
  ·rename_i h1;rw[PI h1];simp
  rename_i h1;rw[NI h1];simp only at h |-;split at h
  ·rename_i h2;rw[PI h2];simp
  rename_i h2;rw[NI h2];split at h
  ·rename_i h3;rw[PI h3];simp
  rename_i h3;rw[NI h3];split at h
  ·rename_i h4;rw[PI h4];simp
  ·simp at h
def Xjt:(Uw b a).1<18446744073709551616:=by
 unfold Uw;simp only;split
 ·simp
 ·split<;>exact XfK
theorem XbA:Xd b a=if 9223372036854775807<(Uw b a).1 then (0,0,4) else if (Uw b a).2.2≠0 then (0,0,(Uw b a).2.2) else (((Uw b a).1:Int),(Uw b a).2.1,0):=by
 unfold Xd Uw;simp only;by_cases h:(YM b a).2.2=0
 ·simp only[h,ne_eq,not_true_eq_false,if_false];cases hp:X0B b a with
  |true=>simp only[if_true];simp
  |false=>simp only[Bool.false_eq_true,if_false,h];simp
 ·simp[h]
theorem Xvh:Y9 b a=if (Uw b a).2.2≠0 then (0,0,(Uw b a).2.2) else (zag (Uw b a).1,(Uw b a).2.1,0):=by
 unfold Y9 Uw;simp only;by_cases h:(YM b a).2.2=0
 ·simp only[h,ne_eq,not_true_eq_false,if_false];cases hp:X0B b a with
  |true=>simp
  |false=>simp[h]
 ·simp[h]
abbrev aN3 (r:Int×Int×Int):AVal:= .tup [ai r.1,ai r.2.1,ai r.2.2]
def X7h (b:List UInt8) (a:Int) (hb:J b<=281474976710656):Con prog 136 [] [.d (Xc b),ai a] [] (aN3 (Xd b a)):=by
 refine ZCt func136 ntmps136 fun E=> ?_;have hr:=XhG b a hb;have hlt:=Xjt (b:=b) (a:=a);rw[XbA];generalize Uw b a=r at*;obtain⟨u,e,err⟩:=r;simp only at hlt |-;by_cases h1:9223372036854775807<u
 ·rw[PI h1];refine VM ?_;exact QM
 rw[NI h1];by_cases h2:err=0
 ·rw[NI OK];refine X0r ?_;(refine Z1 (u:=n64 u) (r:=ni u) ?_ (hr:=Ok));exact QV
 ·rw[PI h2];refine QW ?_;exact QM
def XiX (b:List UInt8) (a:Int) (hb:J b<=281474976710656):Con prog 258 [] [.d (Xc b),ai a] [] (aN3 (Y9 b a)):=by
 refine ZCt func258 ntmps258 fun E=> ?_;have hr:=XhG b a hb;have hlt:=Xjt (b:=b) (a:=a);rw[Xvh];generalize Uw b a=r at*;obtain⟨u,e,err⟩:=r;simp only at hlt |-;by_cases h2:err=0
 ·rw[NI OK];have hx:∀w,(Op.unary .xor (ni (u/2))).run prog w= .ok (.int .i64 (-((u/2:Nat):Int)-1)) w:=fun w=>XvG (P:=prog) Oa w;by_cases eK:u%2=1
  ·rw[show zag u= -((u/2:Nat):Int)-1 by unfold zag;rw[PI eK]];refine UI ?_;refine Z4 (op:= .shr) (r':=n64 (u/2)) (u:=n64 u) (v:=n64 1) ?_ (hr:=Iz);(refine Z1 (u:=n64 (u/2)) (r:=ni (u/2)) ?_ (hr:=Ok));refine W6_ ?_;(refine Z3 (op:= .and) (r':=n64 (u%2)) (u:=n64 u) (v:=n64 1) ?_ (hr':=by exact CG n64 (Nat.and_one_is_mod u)) (hr:=I0));refine W5_ ?_;refine Z6 (u:=ni (u/2)) (r:= .int .i64 (-((u/2:Nat):Int)-1)) ?_ (hr:=by exact hx);refine XA ?_;exact QM
  ·rw[show zag u=((u/2:Nat):Int) by unfold zag;rw[NI eK]];refine UI ?_;refine Z4 (op:= .shr) (r':=n64 (u/2)) (u:=n64 u) (v:=n64 1) ?_ (hr:=Iz);(refine Z1 (u:=n64 (u/2)) (r:=ni (u/2)) ?_ (hr:=Ok));refine W6_ ?_;(refine Z3 (op:= .and) (r':=n64 (u%2)) (u:=n64 u) (v:=n64 1) ?_ (hr':=by exact CG n64 (Nat.and_one_is_mod u)) (hr:=I0));refine XG ?_;exact QM
 ·rw[PI h2];exact QX
theorem XlZ {most:Int}:VZ b a most=if (Xd b a).2.2≠0 then ([],0,(Xd b a).2.2) else if most<(Xd b a).1 then ([],0,4) else if (J b:Int)-(Xd b a).2.1<(Xd b a).1 then ([],0,3) else
  ((b.drop (Xd b a).2.1.toNat).take (Xd b a).1.toNat,(Xd b a).2.1+(Xd b a).1,0):=rfl
def XbE:(Xd b a).2.2=0->∃n f:Nat,(Xd b a).1=n/\(Xd b a).2.1=f/\f<=J b/\(n:Int)<=9223372036854775807:=by
 intro h;obtain⟨⟨k1,k2,k3,k4⟩,k5,k6,k7⟩:=X43 (b:=b) (a:=a) (n:=(Xd b a).1) (e:=(Xd b a).2.1) (by rw[<-h]);exact⟨(Xd b a).1.toNat,(Xd b a).2.1.toNat,Oa,Oa,Oa,Oa⟩
def XiB (b:List UInt8) (a most:Int) (hb:J b<=281474976710656):Con prog 305 [] [.d (Xc b),ai a,ai most] [] (X7E (Xa (VZ b a most).1) (VZ b a most).2.1 (VZ b a most).2.2):=by
 refine ZCt func305 ntmps305 fun E=> ?_;have hr:=X7h b a hb;have hf:=XbE (b:=b) (a:=a);rw[XlZ];generalize Xd b a=r at*;obtain⟨n,f,err⟩:=r;simp only at hf |-;by_cases h2:err=0
 ·obtain⟨n,f,rfl,rfl,pM,pN⟩:=hf h2;rw[NI OK];by_cases h3:most<(n:Int)
  ·rw[PI h3];refine QW ?_;exact QM
  exact Yt27
 ·rw[PI h2];refine UR ?_;exact QM
abbrev zB:List D:=[.v (.int .u8 0)]
def Xzg {i:Nat} (hi:i<4):∃y,(X0J b)[i]? =some y/\n8 (XP b/2^(8*i)%256)=n8 y.toNat:=by
 have hs:=X5C b;rcases i with _|_|_|_|i
 ·exact⟨_,rfl,by rw[X1R Oa];simp⟩
 ·exact⟨_,rfl,by rw[X1R Oa]⟩
 ·exact⟨_,rfl,by rw[X1R Oa]⟩
 ·exact⟨_,rfl,by rw[X1R Oa];show n8 (XP b/16777216%256)=_;rw[Nat.mod_eq_of_lt Oa]⟩
 ·omega
def XhS (b:List UInt8) (hb:J b<=65536):Con prog 154 [] [.d (Xc b)] [] (.d (Xc (Yx b))):=by
 refine ZC1 func154 ntmps154 fun E=> ?_;have hl:J (Xq (J b:Int))<=10:=OB
 have aX:=X3f (J b) Oa;have hput:Yx b=Xq (J b:Int)++b++X0J b:=rfl;generalize Xq (J b:Int)=hd at*;have hlb:J (map X6 b)=J b:=Oc
 have hlm:J (map X6 hd)=J hd:=Oc
 have fm:J hd=min (J (hd.map X6)) (J (replicate (J (hd.map X6)+J (b.map X6)+4) (zD (Value.int IntKind.u8 0).cells.toList))):=Ou
 have hk:J hd<=J ((hd.map X6).take (J hd)++(replicate (J (hd.map X6)+J (b.map X6)+4) (zD (Value.int IntKind.u8 0).cells.toList)).drop (J hd)):=Oc
 have hm2:J b=min (J (b.map X6)) (J ((hd.map X6).take (J hd)++(replicate (J (hd.map X6)+J (b.map X6)+4) (zD (Value.int IntKind.u8 0).cells.toList)).drop (J hd))-J hd):=Ou
 refine YS ?_;refine Qq ?_;refine W6_ ?_;refine Xb4 (m:=J hd) (hg:=JSa) (hx:=JSb) (hL:=JSb) (hn:=JSe) (hy:=JSb) (hT:=JSb) (hd:=JSb) ?_ (hm:=by exact fm);refine W7_ ?_;refine X28 (k:=J hd) (hg:=JSa) (hx:=JSb) (hL:=JSb) (hlo:=JSb) (hn:=JSe) (hT:=JSb) (hd:=JSb) ?_ (hk:=Jr);refine W1_ ?_;refine X3u (m:=J b) (hg:=JSa) (hx:=JSb) (hL:=JSb) (hn:=JSe) (hy:=JSb) (hsrc:=JSf) (hT:=JSb) (hd:=JSb) ?_ (hk:=Jr) (hm:=by exact hm2);refine ZBA (J hd) (J b) ?_;refine W5_ ?_;refine Z5 (ag:=X7V b) ?_;refine W8_ ?_
 refine Xl (fun i:Nat=>i<=4) (fun i=>⟨45,[(4,.own 131 (J hd+J b+4)),(5,ai (J hd+J b:Nat)),(6,ai (XP b)),(30,ai i)],[(131,.row 1 ((hd++b++(X0J b).take i).map X6++replicate (4-i) zB))]⟩) (fun i=>4-i) 0 Oa
  (X9 rfl ⟨(by refine ZzQ ?_;refine Eq.trans (b:=AVal.own 131 (J (hd.map X6)+J (b.map X6)+4)) rfl ?_;rw[hlb,hlm]),JL,JL,JL,TV⟩ ⟨?_,TV⟩) ?_
 ·refine Eq.trans (b:=AObj.row 1 (take _ _++_++drop _ _)) rfl ?_;congr 1;rw[take_of_length_le (l:=hd.map X6) Oc,take_left' Oc,take_of_length_le Oc,drop_append,drop_of_length_le Oc,nil_append,drop_drop,drop_replicate];simp only[take_zero,append_nil,map_append,Nat.sub_zero];congr 1;rw[show J (map X6 hd)+J (map X6 b)+4-(J hd+(J hd+J b-J (map X6 hd)))=4 by rw[hlb,hlm];omega];rfl
 intro i hi;by_cases h4:i<4
 ·obtain⟨y,hy,tH⟩:=Xzg (b:=b) h4;have hs:=X5C b;have h8:8*i<=64:=by omega
  have hrl:J ((hd++b++(X0J b).take i).map X6++replicate (4-i) zB)=J hd+J b+4:=by
   have:=X4m b;simp only[LA,LM,LT,length_replicate];omega
  have uU:=hrl.symm;have uV:J hd+J b+i<J ((hd++b++(X0J b).take i).map X6++replicate (4-i) zB):=by rw[hrl];omega
  have aL:J (hd++b++(X0J b).take i)=J hd+J b+i:=by
   have:=X4m b;simp only[LA,LT];omega
  refine Yh ?_;refine ZBA (J hd+J b) i ?_;refine W2_ ?_;refine ZBM 8 i ?_;refine Z4 (op:= .shr) (r':=ni (XP b/2^(8*i))) (u:=ni (XP b)) (v:=ni (8*i)) ?_ (hr:=by exact X1H h8);(refine Z1 (u:=ni (XP b/2^(8*i))) (r:=n8 y.toNat) ?_ (hr:=by exact by rw[<-tH];exact Ui rfl rfl));refine W7_ ?_;refine⟨i+1,Oa,Oa,X9 rfl ⟨JL,JL,JL,JL,TV⟩ ⟨?_,TV⟩⟩;refine Eq.trans (b:=AObj.row 1 (take _ _++[X6 y]++drop _ _)) rfl ?_;congr 1;rw[take_left' (by rw[LM,aL]),drop_append,drop_of_length_le (by rw[LM,aL];omega),nil_append,LM,aL,drop_replicate,take_add_one,hy];simp only[Option.toList_some,map_append,map_cons,map_nil,AS];rw[show 4-i-(J hd+J b+i+1-(J hd+J b+i))=4-(i+1) by omega]
 obtain rfl:i=4:=Oa
 have bI:(hd++b++(X0J b).take 4).map X6++replicate (4-4) zB=(Yx b).map X6:=by
  rw[hput,take_of_length_le (by rw[X4m];omega)];simp
 rw[bI];refine X8 (XI 131 rfl) ?_;refine X8 (XX 4 131 rfl rfl (by rw[LM,hput];simp only[LA,X4m])) ?_;exact Qi
def X3M (b:List UInt8) (k:Nat):Nat->Nat
 |0=>0
 |i+1=>X3M b k i+2^(8*i)*((b[k+i]?).getD 0).toNat
def XjF (b:List UInt8) (k:Nat):∀i,X3M b k i<2^(8*i)
 |0=>by simp[X3M]
 |i+1=>by
  have h1:=XjF b k i;have h2:=((b[k+i]?).getD 0).toNat_lt;simp only[X3M];rw[show 8*(i+1)=8*i+8 by omega,Nat.pow_add];have:2^(8*i)*((b[k+i]?).getD 0).toNat<=2^(8*i)*255:=Nat.mul_le_mul_left _ Oa;omega
def XrM (b:List UInt8) (k:Nat):X3M b k 4=X3n b k:=by
 simp[X3M,X3n]
theorem XlB:Y8 b a=if (Xd b a).2.2≠0 then ([],0,(Xd b a).2.2) else if (J b:Int)-(Xd b a).2.1<4\/(J b:Int)-(Xd b a).2.1-4<(Xd b a).1 then ([],0,3) else
  if X3n b ((Xd b a).2.1+(Xd b a).1).toNat≠XP ((b.drop (Xd b a).2.1.toNat).take (Xd b a).1.toNat) then ([],0,21) else ((b.drop (Xd b a).2.1.toNat).take (Xd b a).1.toNat,(Xd b a).2.1+(Xd b a).1+4,0):=rfl
def Xhy (b:List UInt8) (a:Int) (hb:J b<=140737488355328):Con prog 128 [] [.d (Xc b),ai a] [] (X7E (.d (Xc (Y8 b a).1)) (Y8 b a).2.1 (Y8 b a).2.2):=by
 refine ZCt func128 ntmps128 fun E=> ?_;have hr:=X7h b a Oa;have hf:=XbE (b:=b) (a:=a);rw[XlB];generalize Xd b a=r at*;obtain⟨n,f,err⟩:=r;simp only at hf |-;by_cases h2:err=0
 ·obtain⟨n,f,rfl,rfl,pM,pN⟩:=hf h2;rw[NI OK];by_cases h3:(J b:Int)-f<4
  ·rw[PI (.inl h3)];exact Qca
  by_cases h4:(J b:Int)-f-4<n
  ·rw[PI (.inr h4)];exact Qca
  rw[NI Oa];have aL:((b.map X6).take (f+n)).drop f=((b.drop f).take n).map X6:=Iw
  have bx:J ((b.drop f).take n)=n:=Ou
  refine QY ?_;refine ZBA f n ?_;refine W2_ ?_;refine ZBA f n ?_;refine Z9 (lb:=f) (hb:=f+n) (ys:=((b.drop f).take n).map X6) ?_ (hys:=by exact aL);refine XG ?_
  refine Xl (fun i:Nat=>i<=4) (fun i=>⟨79,[(0,.d (Xc b)),(7,ai n),(8,ai f),(10,.d (Xc ((b.drop f).take n))),(11,ai (X3M b (f+n) i)),(47,ai i)],[]⟩) (fun i=>4-i) 0 Oa
   (X9 rfl ⟨JL,JL,JL,JL,JL,JL,TV⟩ trivial) ?_
  intro i hi;have hsp:=XjF b (f+n) i;by_cases hi4:i<4
  ·obtain⟨y,hy⟩:=Xn (l:=b) (k:=f+n+i) Oa;have vt:=y.toNat_lt;have mg:(2:Nat)^(8*i)<=2^24:=Nat.pow_le_pow_right Oa Oa;have hyp:y.toNat*2^(8*i)<=255*2^24:=Nat.mul_le_mul Oa mg;have hst:X3M b (f+n) i|||y.toNat*2^(8*i)=X3M b (f+n) (i+1):=by simp only[X3M,hy,Option.getD_some];exact Xgn hsp
   have tI:8*i<=64:=Oa
   refine YS ?_;refine ZBA f n ?_;refine W1_ ?_;refine ZBA (f+n) i ?_;refine W4_ ?_;refine ZBM 8 i ?_
   (refine Z4 (op:= .shl) (r':=ni (y.toNat*2^(8*i))) (u:=ni y.toNat) (v:=ni (8*i)) ?_ (hr:=by exact XrY tI Oq))
   (refine Z3 (op:= .or) (r':=ni (X3M b (f+n) (i+1))) (u:=ni (X3M b (f+n) i)) (v:=ni (y.toNat*2^(8*i))) ?_ (hr':=by exact CG ni hst) (hr:=by exact X2h Oq Oq))
   refine W6_ ?_;exact⟨i+1,Oa,Oa,X9 rfl ⟨JL,JL,JL,JL,JL,JL,TV⟩ TV⟩
  obtain rfl:i=4:=Oa
  have ha:=XrM b (f+n);rw[ha];have et:((f:Int)+(n:Int)).toNat=f+n:=Oa
  rw[et,Int.toNat_natCast,Int.toNat_natCast];generalize (b.drop f).take n=body at*;by_cases hs:X3n b (f+n)=XP body
  ·rw[NI IC];have fm:min (J (body.map X6)) (J (replicate n (zD (Value.int IntKind.u8 0).cells.toList)))=n:=by simp[bx]
   refine XB ?_;refine Z5 (ag:=X7V body) ?_;refine W8_ ?_;refine Qq ?_;refine W6_ ?_;refine Xb4 (m:=n) (hg:=JSa) (hx:=JSb) (hL:=JSb) (hn:=JSe) (hy:=JSb) (hT:=JSb) (hd:=JSb) ?_ (hm:=by exact fm.symm);refine W6_ ?_;refine ZBA f n ?_;refine W5_ ?_;refine X8 (XI 131 rfl) ?_;refine X8 (XX 4 131 rfl rfl (by simp[bx])) ?_;exact X3 ⟨_,St.le_trans (Xe 4 (y:= .d (Xc body)) (ZzQ (by refine Eq.trans (b:=AVal.d (.sl 1 (take n _++drop n _))) rfl ?_;rw[take_of_length_le (by simp[bx]),drop_of_length_le Oc,append_nil]))) (Xe 5 (y:=ai ((f:Int)+n+4)) (ZzQ (by refine Eq.trans (b:=ai _) rfl ?_;simp))),⟨rfl,rfl,rfl,TV⟩,X5 _⟩
  ·rw[PI hs];have hs':¬(XP body=X3n b (f+n)):=fun h=>hs h.symm;refine XB ?_;refine Z5 (ag:=X7V body) ?_;refine XA ?_;exact Qba
 ·rw[PI h2];refine UA ?_;exact Qba
open Go
open List renaming length->J
def X18 (b:List UInt8) (e:Int×Int):Prop:=e.2=0->∃q:Nat,e.1=(q:Int)/\q<=J b
def XhX (b:List UInt8) (a:Int):X18 b (YM b a).2:=by
 intro h;obtain⟨k,rfl,hk,h1,h2,he⟩:=Xg0 h;refine⟨_,he,?_⟩;simp only[LD] at h1;omega
def X4Y (b:List UInt8) (a:Int):X18 b (Xd b a).2:=by
 intro h;unfold Xd at h |-;simp only at h |-;split
 ·rename_i h1;rw[PI h1] at h;exact absurd h h1
 rename_i h1;rw[NI h1] at h;split
 ·rename_i h2;rw[PI h2] at h;simp at h
 rename_i h2;rw[NI h2] at h;split
 ·rename_i h3;rw[PI h3] at h;simp at h
 exact XhX b a (Classical.not_not.1 h1)
def X91 (b:List UInt8) (a:Int):∃n:Nat,(Xd b a).1=n:=by
 unfold Xd;simp only;split
 ·exact⟨0,rfl⟩
 split
 ·exact⟨0,rfl⟩
 split
 ·exact⟨0,rfl⟩
 exact⟨_,rfl⟩
def Xh1 (h:(Xd b a).2.2≠0):(Xd b a).1=0:=by
 unfold Xd at h |-;simp only at h |-;split
 ·rfl
 rename_i h1;rw[NI h1] at h;split
 ·rfl
 rename_i h2;rw[NI h2] at h;split
 ·rfl
 rename_i h3;rw[NI h3] at h;simp at h
def XbF (b:List UInt8) (a:Int):X18 b (Y9 b a).2:=by
 intro h;unfold Y9 at h |-;simp only at h |-;split
 ·rename_i h1;rw[PI h1] at h;exact absurd h h1
 rename_i h1;rw[NI h1] at h;split
 ·rename_i h3;rw[PI h3] at h;simp at h
 exact XhX b a (Classical.not_not.1 h1)
def XwX {b:List UInt8}{a:Int} (h:(Y9 b a).2.2≠0):(Y9 b a).1=0:=by
 unfold Y9 at h |-;simp only at h |-;split
 ·rfl
 rename_i h1;rw[NI h1] at h;split
 ·rfl
 rename_i h3;rw[NI h3] at h;simp at h
def Xzx (b:List UInt8) (a most:Int):X18 b (VZ b a most).2:=by
 intro h;have hu:=X4Y b a;obtain⟨n,hn⟩:=X91 b a;unfold VZ at h |-;simp only at h |-;split
 ·rename_i h1;rw[PI h1] at h;exact absurd h h1
 rename_i h1;rw[NI h1] at h;split
 ·rename_i h2;rw[PI h2] at h;simp at h
 rename_i h2;rw[NI h2] at h;split
 ·rename_i h3;rw[PI h3] at h;simp at h
 rename_i h3;obtain⟨q,hq,nG⟩:=hu (Classical.not_not.1 h1);rw[hn] at h3 |-;rw[hq] at h3 |-;exact⟨q+n,Oc,Oa⟩
section
variable {g:Nat->Int->Val×Int×Int}{a:Int}
def X4p (h:(Yn g a k).2.2=0):Yn g a (k+1)=((Yn g a k).1++[(g k (Yn g a k).2.1).1],(g k (Yn g a k).2.1).2.1,(g k (Yn g a k).2.1).2.2):=by
 rw[Yn];simp[h]
def X5m (h:(Yn g a k).2.2≠0):∀j,k<=j->Yn g a j=Yn g a k
 |0,hj=>by obtain rfl:k=0:=by omega
           rfl
 |j+1,hj=>by
  by_cases e:k=j+1
  ·rw[e]
  ·have:=X5m h j Oa;rw[Yn,this];simp[h]
def Xky (h:(Yn g a k).2.2=0):J (Yn g a k).1=k:=by
 induction k with
 |zero=>rfl
 |succ k ih=>
  by_cases e:(Yn g a k).2.2=0
  ·rw[X4p e];simp[ih e]
  ·rw[X5m e (k+1) Oa] at h;exact absurd h e
def X71 (hg:∀i q:Nat,q<=J b->X18 b (g i q).2) (h0:∃q:Nat,a=(q:Int)/\q<=J b):∀k,X18 b (Yn g a k).2
 |0=>fun _=>h0
 |k+1=>by
  by_cases e:(Yn g a k).2.2=0
  ·rw[X4p e];obtain⟨q,h1,h2⟩:=X71 hg h0 k e;intro h;rw[h1] at h |-;exact hg k q h2 h
  ·intro h;rw[X5m e (k+1) Oa] at h;exact absurd h e
def Xbz (h:(Yn g a k).2.2=0):J (Yn g a (k+1)).1=k+1:=by
 rw[X4p h];simp[Xky h]
end
def Xv7 (eN:∀i q:Nat,q<=J b->X18 b (gl i q).2) (dN:∀i q:Nat,q<=J b->X18 b (gp i q).2) (a:Nat) (ha:a<=J b) (k:Int):X18 b (Ut gl gp b a k).2:=by
 unfold Ut;split
 ·exact XbF b a
 split
 ·simp only;split
  ·exact XbF b a
  ·exact XbF b _
 split
 ·exact Xzx b a 100
 split
 ·simp only;split
  ·exact X4Y b a
  rename_i h1;split
  ·intro h;simp at h
  ·have h0:=X4Y b a (Classical.not_not.1 h1);split
   ·exact X71 eN h0 _
   ·exact X71 dN h0 _
 ·exact fun _=>⟨a,rfl,ha⟩
def XgW (eN:∀i q:Nat,q<=J b->X18 b (gl i q).2) (dN:∀i q:Nat,q<=J b->X18 b (gp i q).2) (m a:Nat) (ha:a<=J b) (want:Int):X18 b (X0K gl gp m b a want).2:=by
 unfold X0K;split
 ·intro h;simp at h
 simp only;split
 ·intro h;simp at h
 ·rename_i h1 h2;have:=Xv7 eN dN (a+1) Oa ((((b[(a:Int).toNat]?).getD 0).toNat:Nat):Int);rw[Int.natCast_add] at this;split
  ·intro h;simp at h
  ·exact this
def X8v (i q:Nat):X18 b (noG i q).2:=fun h=>by simp[noG] at h
def X92 (i q:Nat) (h:q<=J b):X18 b (X1d b i q).2:=
 XgW (fun i q _=>X8v i q) (fun i q _=>X8v i q) 0 q h _
def XdT:∀(m q:Nat),q<=J b->X18 b (X25 b m q).2
 |0,q,h=>XgW (fun i q _=>X8v i q) (fun i q h=>X92 i q h) 0 q h _
 |m+1,q,h=>XgW (fun i q h=>XdT m q h) (fun i q h=>X92 i q h) (m+1) q h _
def Uh (l:List Prp) (k:List UInt8) (v:Val):List Prp:=UY aC Prp.key l k (if Vf v=true then [] else [⟨k,v⟩])
def X2b (es:List Edg) (n:Int):Bool:=es.any fun e=>decide (e.src=n\/e.dst=n)
def VT (l:List Nod) (n:Int):Option Nod:=l.find? fun x=>decide (x.id=n)
def X0I (l:List Edg) (n:Int):Option Edg:=l.find? fun x=>decide (x.id=n)
def VB (g:Gra) (n:Nod):Gra:={g with nodes:=UY ltI Nod.id g.nodes n.id [n],nn:=max g.nn (n.id+1)}
def X1v (g:Gra) (e:Edg):Gra:={g with aj:=UY ltI Edg.id g.aj e.id [e],ne:=max g.ne (e.id+1)}
def X4N (g:Gra) (c:Chg) (n:Nod):Gra×Int:=
 if c.op=2 then (if X2b g.aj c.id=true then (VS,12) else ({g with nodes:=UX Nod.id g.nodes c.id},0))
 else if c.op=3 then (if XF Yp n.labels c.name=true then (VS,7) else if 8<=J n.labels then (VS,20) else (VB g ⟨n.id,UY aC Yp n.labels c.name [c.name],n.props⟩,0))
 else if c.op=4 then (if XF Yp n.labels c.name=false then (VS,23) else (VB g ⟨n.id,UX Yp n.labels c.name,n.props⟩,0))
 else if 16<J (Uh n.props c.name c.v) then (VS,20) else (VB g ⟨n.id,n.labels,Uh n.props c.name c.v⟩,0)
def X5P (g:Gra) (c:Chg) (e:Edg):Gra×Int:=
 if c.op=8 then (if 16<J (Uh e.props c.name c.v) then (VS,20) else (X1v g ⟨e.id,e.src,e.dst,e.typ,Uh e.props c.name c.v⟩,0))
 else ({g with aj:=UX Edg.id g.aj c.id},0)
def X0j (g:Gra) (c:Chg):Gra×Int:=
 if c.op=1 then (if XF Nod.id g.nodes c.id=true then (VS,7) else if 2000<=J g.nodes then (VS,20) else (VB g ⟨c.id,[],[]⟩,0))
 else if c.op=6 then (if XF Edg.id g.aj c.id=true then (VS,7) else if XF Nod.id g.nodes c.src=false\/XF Nod.id g.nodes c.dst=false then (VS,10) else if 4000<=J g.aj then (VS,20) else (X1v g ⟨c.id,c.src,c.dst,c.name,[]⟩,0))
 else if c.op=7\/c.op=8 then (match X0I g.aj c.id with|none=>(VS,11)|some e=>X5P g c e)
 else (match VT g.nodes c.id with|none=>(VS,10)|some n=>X4N g c n)
def YR (g:Gra) (c:Chg):Gra×Int:=if YE c≠0 then (VS,YE c) else X0j g c
def VY:Gra->Nat->List Chg->Gra×Nat×Int
 |g,k,[]=>(g,k,0)
 |g,k,c::r=>if (YR g c).2≠0 then (VS,k,(YR g c).2) else VY (YR g c).1 (k+1) r
def UW (g:Gra) (l:List Chg):Gra×Nat×Int:=if X0w g≠0 then (VS,0,X0w g) else VY g 0 l
def XkZ {α κ:Type} [DecidableEq κ] {lt:κ->κ->Bool}{key:α->κ} (ho:KOrd lt) {l:List α}{k:κ} (hs:YP lt key l):l.find? (fun x=>decide (key x=k))=(l[Xr lt key l k]?).bind fun x=>if key x=k then some x else none:=by
 have hh:=X1f (k:=k) ho hs;cases hf:l.find? (fun x=>decide (key x=k)) with
 |none=>
  have h0:XF key l k=false:=by
   unfold XF;rw[any_eq_false];exact find?_eq_none.1 hf
  rw[h0] at hh;have hh:=(decide_eq_false_iff_not.1 hh.symm)
  cases hx:l[Xr lt key l k]? with
  |none=>rfl
  |some x=>
   simp only[Option.bind_some];rw[NI (fun e=>hh ⟨x,hx,e⟩)]
 |some x=>
  have hx:=mem_of_find?_eq_some hf;have he:key x=k:=by have:=find?_some hf;simpa using this
  have h0:XF key l k=true:=by
   unfold XF;rw[any_eq_true];exact⟨x,hx,Jo⟩
  rw[h0] at hh;obtain⟨y,hy,e⟩:=decide_eq_true_iff.1 hh.symm;rw[hy,Option.bind_some,PI e];obtain⟨i,hi⟩:=getElem?_of_mem hx;have kg:i<J l:=(GS.1 hi).1;have pO:Xr lt key l k<J l:=(GS.1 hy).1;have iY:l[i]=x:=by rw[getElem?_eq_getElem kg] at hi;simpa using hi
  have pP:l[Xr lt key l k]=y:=by rw[getElem?_eq_getElem pO] at hy;simpa using hy
  rcases Nat.lt_trichotomy i (Xr lt key l k) with q|q|q
  ·have:=(pairwise_iff_getElem.1 hs) i (Xr lt key l k) kg pO q;rw[iY,pP,he,e,ho.irr] at this;cases this
  ·subst q;rw[<-iY,pP]
  ·have:=(pairwise_iff_getElem.1 hs) (Xr lt key l k) i pO kg q;rw[iY,pP,he,e,ho.irr] at this;cases this
def X7d (h:GV g) (n:Int):VT g.nodes n=(g.nodes[Xr ltI Nod.id g.nodes n]?).bind fun x=>if x.id=n then some x else none:=XkZ Vp h.ns
def Xig (h:GV g) (n:Int):X0I g.aj n=(g.aj[Xr ltI Edg.id g.aj n]?).bind fun x=>if x.id=n then some x else none:=XkZ Vp h.es
def X5B {x:Nod} (h:VT l n=some x):x∈l/\x.id=n:=⟨mem_of_find?_eq_some h,by have:=find?_some h;simpa using this⟩
def Xd6 {l:List Edg}{x:Edg} (h:X0I l n=some x):x∈l/\x.id=n:=⟨mem_of_find?_eq_some h,by have:=find?_some h;simpa using this⟩
def X6G {α κ:Type} [DecidableEq κ] {lt:κ->κ->Bool}{key:α->κ}{l:List α}{k:κ}{ns:List α}:J (UY lt key l k ns)<=J l+J ns:=by
 unfold UY;rw[LA,LA];have h1:=length_filter_le (fun x=> !decide (key x=k)) (l.dropWhile fun x=>lt (key x) k);have h2:J (l.takeWhile fun x=>lt (key x) k)+J (l.dropWhile fun x=>lt (key x) k)=J l:=by rw[<-LA,takeWhile_append_dropWhile]
 omega
def XgG {α κ:Type} [DecidableEq κ] {lt:κ->κ->Bool}{key:α->κ}{l:List α}{k:κ}{n:α} (ho:KOrd lt) (hs:YP lt key l) (hh:XF key l k=true):J (UY lt key l k [n])=J l:=by
 rw[X1f ho hs] at hh;obtain⟨x,hx,e⟩:=decide_eq_true_iff.1 hh;have hlt:Xr lt key l k<J l:=(GS.1 hx).1;rw[X8M ho hs hx e,LA,LA,LT,LD,length_singleton];omega
def XiY {n:Nod}{k:Int} (h:XF Nod.id l k=true):XF Nod.id (UY ltI Nod.id l n.id [n]) k=true:=by
 unfold XF at h |-;rw[any_eq_true] at h |-;obtain⟨x,hx,e⟩:=h;have e:x.id=k:=Ix
 by_cases q:n.id=k
 ·exact⟨n,by unfold UY;simp,IK⟩
 ·refine⟨x,?_,Ix⟩;unfold UY;rw[<-takeWhile_append_dropWhile (p:=fun x=>ltI (Nod.id x) n.id) (l:=l)] at hx;rcases mem_append.1 hx with hx|hx
  ·exact mem_append_left _ (mem_append_left _ hx)
  ·refine mem_append_right _ (mem_filter.2 ⟨hx,?_⟩);simp only[Bool.not_eq_true',decide_eq_false_iff_not];omega
def Xdu {n:Nod} (h:GV g) (h1:1<=n.id/\n.id<=1000000) (hp:PV n.labels n.props) (hl:J (UY ltI Nod.id g.nodes n.id [n])<=2000):GV (VB g n):=by
 have h3:=h.nn;refine⟨hl,h.el,⟨?_,?_⟩,h.ne,fun x hx=> ?_,Xb1 Vp h.ns (.inr ⟨n,rfl,rfl⟩),fun e he=> ?_,h.es⟩
 ·show 1<=max g.nn (n.id+1);omega
 ·show max g.nn (n.id+1)<=1000001;omega
 ·show 1<=x.id/\x.id<max g.nn (n.id+1)/\_;rcases X9N hx with hx|hx
  ·obtain rfl:=mem_singleton.1 hx;exact⟨h1.1,Oa,hp⟩
  ·obtain⟨q1,q2,q3⟩:=h.nodes x hx;exact⟨q1,Oa,q3⟩
 ·obtain⟨q1,q2,q3,q4,q5⟩:=h.aj e he;exact⟨q1,q2,XiY q3,XiY q4,q5⟩
def XhT {e:Edg} (h:GV g) (h1:1<=e.id/\e.id<=1000000) (hs:XF Nod.id g.nodes e.src=true) (hd:XF Nod.id g.nodes e.dst=true) (ht:Yc e.typ=true) (hp:PV [] e.props) (hl:J (UY ltI Edg.id g.aj e.id [e])<=4000):GV (X1v g e):=by
 have h3:=h.ne;refine⟨h.nl,hl,h.nn,⟨?_,?_⟩,h.nodes,h.ns,fun x hx=> ?_,Xb1 Vp h.es (.inr ⟨e,rfl,rfl⟩)⟩
 ·show 1<=max g.ne (e.id+1);omega
 ·show max g.ne (e.id+1)<=1000001;omega
 ·show 1<=x.id/\x.id<max g.ne (e.id+1)/\_;rcases X9N hx with hx|hx
  ·obtain rfl:=mem_singleton.1 hx;exact⟨h1.1,Oa,hs,hd,ht,hp⟩
  ·obtain⟨q1,q2,q3⟩:=h.aj x hx;exact⟨q1,Oa,q3⟩
def XmM {ls:List (List UInt8)}{ps:List Prp}{k:List UInt8}{v:Val} (h:PV ls ps) (hk:Yc k=true) (hv:Vf v=true\/U9 v=true) (hl:J (Uh ps k v)<=16):PV ls (Uh ps k v):=by
 have hm:∀p∈Uh ps k v,p∈ps\/(p=⟨k,v⟩/\Vf v=false):=by
  intro p hp;rcases X9N hp with hp|hp
  ·by_cases q:Vf v=true
   ·rw[PI q] at hp;simp at hp
   ·rw[NI q] at hp;exact .inr ⟨mem_singleton.1 hp,IK⟩
  ·exact .inl hp
 refine⟨h.ll,hl,h.ln,fun p hp=> ?_,h.lr,Xb1 X2a h.pr ?_,fun p hp=> ?_⟩
 ·rcases hm p hp with hp|⟨rfl,_⟩
  ·exact h.pn p hp
  ·exact hk
 ·by_cases q:Vf v=true
  ·rw[PI q];exact .inl rfl
  ·rw[NI q];exact .inr ⟨_,rfl,rfl⟩
 ·rcases hm p hp with hp|⟨rfl,q⟩
  ·exact h.pv p hp
  ·rcases hv with hv|hv
   ·rw[hv] at q;cases q
   ·exact hv
def XdG (h:YE c=0):(1<=c.op/\c.op<=8)/\(1<=c.id/\c.id<=1000000)/\(YO c.op=true->Yc c.name=true)/\(YL c.op=true->Vf c.v=true\/U9 c.v=true):=by
 unfold YE at h;by_cases c1:decide (1<=c.op/\c.op<=8)=false\/idV c.id=false
 ·rw[PI c1] at h;simp at h
 rw[NI c1] at h;by_cases c2:(c.op=6/\(idV c.src=false\/idV c.dst=false))\/(c.op≠6/\(c.src≠0\/c.dst≠0))
 ·rw[PI c2] at h;simp at h
 rw[NI c2] at h;by_cases c3:(YO c.op=false/\c.name≠[])\/(YL c.op=false/\Vf c.v=false)
 ·rw[PI c3] at h;simp at h
 rw[NI c3] at h;by_cases c4:YO c.op=true/\Yc c.name=false
 ·rw[PI c4] at h;simp at h
 rw[NI c4] at h;by_cases c5:YL c.op=true/\Vf c.v=false/\U9 c.v=false
 ·rw[PI c5] at h;simp at h
 simp only[not_or,Bool.not_eq_false,decide_eq_true_eq,idV] at c1;refine⟨c1.1,c1.2,fun q=> ?_,fun q=> ?_⟩
 ·by_cases r:Yc c.name=true
  ·exact r
  ·exact absurd ⟨q,by simpa using r⟩ c4
 ·by_cases r:Vf c.v=true
  ·exact .inl r
  ·by_cases r2:U9 c.v=true
   ·exact .inr r2
   ·exact absurd ⟨q,by simpa using r,by simpa using r2⟩ c5
def XdS (h:GV g) (hs:(YR g c).2=0):GV (YR g c).1:=by
 unfold YR at hs |-;by_cases hc:YE c≠0
 ·rw[PI hc] at hs;exact absurd hs hc
 rw[NI hc] at hs |-;obtain⟨o1,o2,o3,o4⟩:=XdG I5;unfold X0j at hs |-;by_cases p1:c.op=1
 ·rw[PI p1] at hs |-;by_cases q1:XF Nod.id g.nodes c.id=true
  ·rw[PI q1] at hs;simp at hs
  rw[NI q1] at hs |-;by_cases q2:2000<=J g.nodes
  ·rw[PI q2] at hs;simp at hs
  rw[NI q2];refine Xdu h o2 ⟨Oc,Oc,Oc,Oc,Pairwise.nil,Pairwise.nil,Oc⟩ ?_;have:=X6G (lt:=ltI) (key:=Nod.id) (l:=g.nodes) (k:=c.id) (ns:=[⟨c.id,[],[]⟩]);simp only[length_singleton] at this;exact Nat.le_trans this Oa
 rw[NI p1] at hs |-;by_cases p6:c.op=6
 ·rw[PI p6] at hs |-;by_cases q1:XF Edg.id g.aj c.id=true
  ·rw[PI q1] at hs;simp at hs
  rw[NI q1] at hs |-;by_cases q2:XF Nod.id g.nodes c.src=false\/XF Nod.id g.nodes c.dst=false
  ·rw[PI q2] at hs;simp at hs
  rw[NI q2] at hs |-;by_cases q3:4000<=J g.aj
  ·rw[PI q3] at hs;simp at hs
  rw[NI q3];simp only[not_or,Bool.not_eq_false] at q2;refine XhT h o2 q2.1 q2.2 (o3 (by rw[p6];rfl)) ⟨Oc,Oc,Oc,Oc,Pairwise.nil,Pairwise.nil,Oc⟩ ?_;have:=X6G (lt:=ltI) (key:=Edg.id) (l:=g.aj) (k:=c.id) (ns:=[⟨c.id,c.src,c.dst,c.name,[]⟩]);simp only[length_singleton] at this;exact Nat.le_trans this Oa
 rw[NI p6] at hs |-;by_cases p7:c.op=7\/c.op=8
 ·rw[PI p7] at hs |-;cases he:X0I g.aj c.id with
  |none=>rw[he] at hs;simp at hs
  |some e=>
   rw[he] at hs;simp only at hs |-;obtain⟨em,ei⟩:=Xd6 he;obtain⟨e1,e2,e3,e4,e5,e6⟩:=h.aj e em;unfold X5P at hs |-;by_cases p8:c.op=8
   ·rw[PI p8] at hs |-;by_cases q1:16<J (Uh e.props c.name c.v)
    ·rw[PI q1] at hs;simp at hs
    rw[NI q1];have hne:=h.ne;refine XhT h ⟨e1,by show e.id<=_;omega⟩ e3 e4 e5 (XmM e6 (o3 (by rw[p8];rfl)) (o4 (by rw[p8];rfl)) Oa) ?_;have hh:XF Edg.id g.aj e.id=true:=by unfold XF;rw[any_eq_true];exact⟨e,em,Oc⟩
    show J (UY ltI Edg.id g.aj e.id _)<=4000;rw[XgG Vp h.es hh];exact h.el
   ·rw[NI p8];refine⟨h.nl,Nat.le_trans (length_filter_le _ _) h.el,h.nn,h.ne,h.nodes,h.ns,fun x hx=>h.aj x (Xbq hx).1,Xcj h.es⟩
 rw[NI p7] at hs |-;cases hn:VT g.nodes c.id with
 |none=>rw[hn] at hs;simp at hs
 |some n=>
  rw[hn] at hs;simp only at hs |-;obtain⟨nm,ni⟩:=X5B hn;obtain⟨n1,n2,n3⟩:=h.nodes n nm;have dB:=h.nn;have hh:XF Nod.id g.nodes n.id=true:=by unfold XF;rw[any_eq_true];exact⟨n,nm,Oc⟩
  have hlen:∀m:Nod,J (UY ltI Nod.id g.nodes n.id [m])<=2000:=fun m=>by rw[XgG Vp h.ns hh];exact h.nl
  unfold X4N at hs |-;by_cases p2:c.op=2
  ·rw[PI p2] at hs |-;by_cases q1:X2b g.aj c.id=true
   ·rw[PI q1] at hs;simp at hs
   rw[NI q1];refine⟨Nat.le_trans (length_filter_le _ _) h.nl,h.el,h.nn,h.ne,fun x hx=>h.nodes x (Xbq hx).1,Xcj h.ns,fun e he=> ?_,h.es⟩;obtain⟨e1,e2,e3,e4,e5,e6⟩:=h.aj e he;have dF:X2b g.aj c.id=false:=ID
   unfold X2b at dF;have hu:=(any_eq_false.1 dF) e he;have hu:¬(e.src=c.id\/e.dst=c.id):=by simpa using hu
   have keep:∀k,k≠c.id->Vd g.nodes k=true->Vd (UX Nod.id g.nodes c.id) k=true:=by
    intro k hk hh;unfold Vd at hh |-;rw[any_eq_true] at hh |-;obtain⟨x,hx,e⟩:=hh;have e:x.id=k:=Ix
    exact⟨x,mem_filter.2 ⟨hx,by simp only[Bool.not_eq_true',decide_eq_false_iff_not];omega⟩,Ix⟩
   exact⟨e1,e2,keep _ (fun q=>hu (.inl q)) e3,keep _ (fun q=>hu (.inr q)) e4,e5,e6⟩
  rw[NI p2] at hs |-;by_cases p3:c.op=3
  ·rw[PI p3] at hs |-;by_cases q1:XF Yp n.labels c.name=true
   ·rw[PI q1] at hs;simp at hs
   rw[NI q1] at hs |-;by_cases q2:8<=J n.labels
   ·rw[PI q2] at hs;simp at hs
   rw[NI q2];refine Xdu h ⟨n1,by show n.id<=_;omega⟩ ⟨?_,n3.pl,fun s hs=> ?_,n3.pn,Xb1 X2a n3.lr (.inr ⟨_,rfl,rfl⟩),n3.pr,n3.pv⟩ (hlen _)
   ·have:=X6G (lt:=aC) (key:=Yp) (l:=n.labels) (k:=c.name) (ns:=[c.name]);simp only[length_singleton] at this;exact Nat.le_trans this Oa
   ·rcases X9N hs with hs|hs
    ·rw[mem_singleton.1 hs];exact o3 (by rw[p3];rfl)
    ·exact n3.ln s hs
  rw[NI p3] at hs |-;by_cases p4:c.op=4
  ·rw[PI p4] at hs |-;by_cases q1:XF Yp n.labels c.name=false
   ·rw[PI q1] at hs;simp at hs
   rw[NI q1];exact Xdu h ⟨n1,by show n.id<=_;omega⟩ ⟨Nat.le_trans (length_filter_le _ _) n3.ll,n3.pl,fun s hs=>n3.ln s (Xbq hs).1,n3.pn,Xcj n3.lr,n3.pr,n3.pv⟩ (hlen _)
  rw[NI p4] at hs |-;by_cases q1:16<J (Uh n.props c.name c.v)
  ·rw[PI q1] at hs;simp at hs
  rw[NI q1];have p5:c.op=5:=Oa
  exact Xdu h ⟨n1,by show n.id<=_;omega⟩ (XmM n3 (o3 (by rw[p5];rfl)) (o4 (by rw[p5];rfl)) Oa) (hlen _)
def XkJ:∀(l:List Chg) (g:Gra) (k:Nat),GV g->(VY g k l).2.2=0->GV (VY g k l).1
 |[],g,k,h,_=>h
 |c::r,g,k,h,hs=>by
  rw[VY] at hs |-;by_cases q:(YR g c).2≠0
  ·rw[PI q] at hs;exact absurd hs q
  ·rw[NI q] at hs |-;exact XkJ r _ _ (XdS h IK) hs
def Xmu {l:List Chg} (h:(UW g l).2.2=0):GV (UW g l).1:=by
 unfold UW at h |-;by_cases q:X0w g≠0
 ·rw[PI q] at h;exact absurd h q
 ·rw[NI q] at h |-;exact XkJ l g 0 (X6Q.1 IK) h
section
variable {α κ:Type}{lt:κ->κ->Bool}{key:α->κ}
def Xir (ho:KOrd lt) {l:List α}{k:κ}{i:Nat} (h:i<=J l) (h1:∀x∈l.take i,lt (key x) k=true) (h2:∀x,l[i]? =some x->lt (key x) k=false):Xr lt key l k=i:=by
 unfold Xr;exact Xbg h (fun j x hj hx=>h1 x (by rw[mem_take_iff_getElem];obtain⟨hl,rfl⟩:=GS.1 hx;exact⟨j,Oa,rfl⟩)) (fun x hx=>h2 x hx)
end
theorem Xn7:∀(a b:List Chg) (g:Gra) (k:Nat),VY g k (a++b)=if (VY g k a).2.2≠0 then VY g k a else VY (VY g k a).1 (k+J a) b
 |[],b,g,k=>by simp[VY]
 |c::r,b,g,k=>by
  rw[cons_append,VY,VY];by_cases q:(YR g c).2≠0
  ·rw[PI q,PI q,PI q]
  ·rw[NI q,NI q,Xn7 r b];have e:k+1+J r=k+J (c::r):=by rw[LC];omega
   rw[e]
end Go.Fw
