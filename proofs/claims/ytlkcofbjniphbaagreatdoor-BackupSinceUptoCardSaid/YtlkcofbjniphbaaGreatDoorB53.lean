/- varint, the program's and the reference's. -/
import Derived.Test.YtlkcofbjniphbaaGreatDoorChecked
import Derived.Test.YtlkcofbjniphbaaGreatDoorB43
import Derived.Test.YtlkcofbjniphbaaGreatDoorB45
set_option maxHeartbeats 16000000
namespace Go.Fw
open Go Go.Proofs
set_option maxRecDepth 100000
set_option linter.unusedVariables false
set_option linter.unusedSimpArgs false
theorem Xan (n:Nat) (hn:n<18446744073709551616):Con Tryz.prog 87 [] [X21 n] [(130,.row 1 ((vS n).map Xc))] (.own 130 (vS n).length):=by
 refine Xg (xs:=[.own 130 (vS n).length]) Tryz.func87 rfl Tryz.ntmps87 rfl rfl rfl (fun E=> ?_)
 refine Xj ?_;refine Xq (V3 3 130 1 rfl rfl rfl) ?_
 refine XK (ι:=List UInt8×Nat) (fun i=>i.1++vS i.2=vS n∧i.2≤n) (fun i=>⟨20,[(0,X21 i.2),(3,.own 130 i.1.length)],[(130,.row 1 (i.1.map Xc))]⟩) (fun i=>i.2) ([],n) ⟨rfl,Nat.le_refl _⟩
  (Xd rfl ⟨JL,JL,trivial⟩ ⟨rfl,trivial⟩) ?_
 rintro⟨pre,m⟩ ⟨hpre,hm⟩
 simp only at hpre hm
 have hlen:pre.length≤10:=by
  have h1:=congrArg List.length hpre
  have h2:=X0Q hn
  simp only[List.length_append] at h1;omega
 by_cases h:128≤m
 ·have hv:=Xdt h
  have e1:n8 ((m%128+128)%256)=n8 (UInt8.ofNat (m%128+128)).toNat:=by rw[X0k (by omega)];congr 2;omega
  refine W6_ ?_;refine Qb ?_;refine Z2 (op:= .rem) (r':=n64 (m%128)) (u:=n64 m) (v:=n64 128) ?_ (hr:=by exact US (by omega))
  (refine Z2 (op:= .add) (r':=n64 (m%128+128)) (u:=n64 (m%128)) (v:=n64 128) ?_ (hr:=by exact Ym (by rw[Yf];omega)))
  (refine Z0 (u:=n64 (m%128+128)) (r:=n8 (UInt8.ofNat (m%128+128)).toNat) ?_ (hr:=by exact by rw[←e1];exact U8 rfl rfl));refine W6_ ?_;(refine Z2 (op:= .quo) (r':=n64 (m/128)) (u:=n64 m) (v:=n64 128) ?_ (hr:=by exact X0b (by omega) (by rw[Yf];omega)));refine W2_ ?_
  refine⟨(pre++[UInt8.ofNat (m%128+128)],m/128),⟨by simp only;rw[←hpre,hv];simp,by simp only;omega⟩,by simp only;omega,Xd rfl ⟨JL,(by refine AVal.le_of_eq ?_;refine Eq.trans (b:=AVal.own 130 (_+_)) rfl ?_;simp),trivial⟩ ⟨?_,trivial⟩⟩
  refine Eq.trans (b:=AObj.row 1 (_++[[.v (n8 _)]])) rfl ?_
  simp
 ·have hv:vS m=[UInt8.ofNat m]:=XgK (by omega)
  have e3:n8 (m%256)=n8 (UInt8.ofNat m).toNat:=by rw[X0k (by omega)];congr 2;omega
  refine W6_ ?_;refine Qc ?_;(refine Z0 (u:=n64 m) (r:=n8 (UInt8.ofNat m).toNat) ?_ (hr:=by exact by rw[←e3];exact U8 rfl rfl));refine W4_ ?_
  refine X1 ⟨_,Xw 2 (y:= .own 130 (vS n).length) (AVal.le_of_eq ?_),⟨rfl,trivial⟩,Xn ⟨?_,trivial⟩⟩
  ·refine Qd ?_
   rw[←hpre,hv];simp
  ·refine Eq.trans (b:=AObj.row 1 (_++[[.v (n8 _)]])) rfl ?_
   rw[←hpre,hv];simp
theorem X7u (n:Int) (hn:n≤9223372036854775807):Con Tryz.prog 47 [] [ai n] [(130,.row 1 ((Xm n).map Xc))] (.own 130 (Xm n).length):=by
 refine Xg (xs:=[.own 130 (Xm n).length]) Tryz.func47 rfl Tryz.ntmps47 rfl rfl rfl (fun E=> ?_)
 by_cases h:n<0
 ·rw[show Xm n=[] by simp[Xm,h]]
  refine Xj ?_;refine Qe ?_;refine Xq (V3 2 130 1 rfl rfl rfl) ?_;exact Qf
 ·obtain⟨m,rfl⟩:∃m:Nat,n=m:=⟨n.toNat,by omega⟩
  rw[show Xm (m:Int)=vS m by unfold Xm;rw[if_neg h,Int.toNat_natCast]]
  refine Xj ?_;refine Qg ?_;(refine Z0 (u:=ni m) (r:=n64 m) ?_ (hr:=by exact YQ rfl rfl (by rw[Yf];omega)));refine Z3 (hcon:=Xan m (by omega)) ?_;exact Qh
theorem Xol (n:Int) (hn: -9223372036854775808≤n∧n≤9223372036854775807):Con Tryz.prog 143 [] [ai n] [(130,.row 1 ((YK n).map Xc))] (.own 130 (YK n).length):=by
 refine Xg (xs:=[.own 130 (YK n).length]) Tryz.func143 rfl Tryz.ntmps143 rfl rfl rfl (fun E=> ?_)
 by_cases h:n<0
 ·obtain⟨m,hm⟩:∃m:Nat,-(n+1)=(m:Int):=⟨(-(n+1)).toNat,by omega⟩
  have ez:zig n=2*m+1:=by unfold zig;rw[if_pos h,hm,Int.toNat_natCast]
  unfold YK;rw[ez]
  have hneg:∀w,(Op.unary .neg (.int .i64 (n+1))).run Tryz.prog w= .ok (ni m) w:=fun w=>by
   have h:=Xbo (P:=Tryz.prog) (n:=n+1) (by omega) w
   rwa [hm] at h
  refine Xj ?_;refine Qe ?_;refine Z4 (u:= .int .i64 (n+1)) (r:=ni m) ?_ (hr:=by exact hneg);(refine Z0 (u:=ni m) (r:=n64 m) ?_ (hr:=by exact YQ rfl rfl (by rw[Yf];omega)))
  (refine Z2 (op:= .mul) (r':=n64 (2*m)) (u:=n64 2) (v:=n64 m) ?_ (hr:=by exact V0 (by rw[Yf];omega)))
  (refine Z2 (op:= .add) (r':=n64 (2*m+1)) (u:=n64 (2*m)) (v:=n64 1) ?_ (hr:=by exact Ym (by rw[Yf];omega)));refine Z3 (hcon:=Xan (2*m+1) (by omega)) ?_;exact Qh
 ·obtain⟨m,rfl⟩:∃m:Nat,n=m:=⟨n.toNat,by omega⟩
  have ez:zig (m:Int)=2*m:=by unfold zig;rw[if_neg (by omega)];omega
  unfold YK;rw[ez]
  refine Xj ?_;refine Qg ?_;(refine Z0 (u:=ni m) (r:=n64 m) ?_ (hr:=by exact YQ rfl rfl (by rw[Yf];omega)));(refine Z2 (op:= .mul) (r':=n64 (2*m)) (u:=n64 2) (v:=n64 m) ?_ (hr:=by exact V0 (by rw[Yf];omega)));refine Z3 (hcon:=Xan (2*m) (by omega)) ?_;exact Qh
theorem X58 (n:Int) (hn:n≤9223372036854775807):Con Tryz.prog 47 [] [ai n] [] (.d (Xk (Xm n))):=(X7u n hn).data (by simp)
theorem X4Y (n:Int) (hn: -9223372036854775808≤n∧n≤9223372036854775807):Con Tryz.prog 143 [] [ai n] [] (.d (Xk (YK n))):=(Xol n hn).data (by simp)
theorem Xrh (s:List UInt8) (hs:s.length≤65536):Con Tryz.prog 90 [] [XH s] [(130,.row 1 ((XX s).map Xc))] (.own 130 (XX s).length):=by
 refine Xg (xs:=[.own 130 (XX s).length]) Tryz.func90 rfl Tryz.ntmps90 rfl rfl rfl (fun E=> ?_)
 have hl:(Xm (s.length:Int)).length≤10:=by rw[X1j (by omega)];exact X0Q (by omega)
 have hsz:(Xb s).size=s.length:=rfl
 refine W8_ ?_;refine Z3 (hcon:=X7u s.length (by omega)) ?_;refine W5_ ?_
 refine X1 ⟨_,Xw 2 (y:= .own 130 (XX s).length) (AVal.le_of_eq ?_),⟨rfl,trivial⟩,Xn ⟨?_,trivial⟩⟩
 ·refine Qd ?_
  simp[XX]
 ·refine Qjd ?_
  simp[XX]
theorem X5s (s:List UInt8) (hs:s.length≤65536):Con Tryz.prog 90 [] [XH s] [] (.d (Xk (XX s))):=(Xrh s hs).data (by simp)
theorem Xr6 (b:List UInt8) (hb:b.length≤65536):Con Tryz.prog 84 [] [.d (Xk b)] [] (.d (Xk (YM b))):=by
 refine Xg (xs:=[.d (Xk (YM b))]) Tryz.func84 rfl Tryz.ntmps84 rfl rfl rfl (fun E=> ?_)
 have hl:(Xm (b.length:Int)).length≤10:=by rw[X1j (by omega)];exact X0Q (by omega)
 have hpc:=X7u b.length (by omega)
 have hput:YM b=Xm (b.length:Int)++b++Vq b:=rfl
 generalize Xm (b.length:Int)=hd at*
 have hlb:(List.map Xc b).length=b.length:=by simp
 have hs:=X49 b
 have hb0:n8 (YE b%256%256)=n8 (UInt8.ofNat (YE b%256)).toNat:=by rw[X0k (by omega),Nat.mod_mod]
 have hb1:n8 (YE b/256%256%256)=n8 (UInt8.ofNat (YE b/256%256)).toNat:=by rw[X0k (by omega),Nat.mod_mod]
 have hb2:n8 (YE b/65536%256%256)=n8 (UInt8.ofNat (YE b/65536%256)).toNat:=by rw[X0k (by omega),Nat.mod_mod]
 have hb3:n8 (YE b/16777216%256)=n8 (UInt8.ofNat (YE b/16777216)).toNat:=by rw[X0k (by omega),Nat.mod_eq_of_lt (by omega)]
 refine W8_ ?_;refine Z3 (hcon:=hpc) ?_;refine W7_ ?_;refine Z3 (hcon:=Xbj b) ?_;refine W6_ ?_;refine Z2 (op:= .rem) (r':=ni (YE b%256)) (u:=ni (YE b)) (v:=ni 256) ?_ (hr:=by exact US (by omega));(refine Z0 (u:=ni (YE b%256)) (r:=n8 (UInt8.ofNat (YE b%256)).toNat) ?_ (hr:=by exact by rw[←hb0];exact U8 rfl rfl));refine W1_ ?_
 (refine Z2 (op:= .quo) (r':=ni (YE b/256)) (u:=ni (YE b)) (v:=ni 256) ?_ (hr:=by exact X0b (by omega) (by rw[XJ];omega)))
 refine Z2 (op:= .rem) (r':=ni (YE b/256%256)) (u:=ni (YE b/256)) (v:=ni 256) ?_ (hr:=by exact US (by omega));(refine Z0 (u:=ni (YE b/256%256)) (r:=n8 (UInt8.ofNat (YE b/256%256)).toNat) ?_ (hr:=by exact by rw[←hb1];exact U8 rfl rfl));refine W1_ ?_
 (refine Z2 (op:= .quo) (r':=ni (YE b/65536)) (u:=ni (YE b)) (v:=ni 65536) ?_ (hr:=by exact X0b (by omega) (by rw[XJ];omega)))
 refine Z2 (op:= .rem) (r':=ni (YE b/65536%256)) (u:=ni (YE b/65536)) (v:=ni 256) ?_ (hr:=by exact US (by omega));(refine Z0 (u:=ni (YE b/65536%256)) (r:=n8 (UInt8.ofNat (YE b/65536%256)).toNat) ?_ (hr:=by exact by rw[←hb2];exact U8 rfl rfl));refine W1_ ?_
 (refine Z2 (op:= .quo) (r':=ni (YE b/16777216)) (u:=ni (YE b)) (v:=ni 16777216) ?_ (hr:=by exact X0b (by omega) (by rw[XJ];omega)))
 (refine Z0 (u:=ni (YE b/16777216)) (r:=n8 (UInt8.ofNat (YE b/16777216)).toNat) ?_ (hr:=by exact by rw[←hb3];exact U8 rfl rfl));refine W4_ ?_;refine Qof ?_;refine Xq (Yx 2 130 rfl rfl (by simp;omega)) ?_;exact X1 ⟨_,Xw 2 (y:= .d (Xk (YM b))) (AVal.le_of_eq (by refine Eq.trans (b:=AVal.d (.sl 1 (_++_++_))) rfl ?_;rw[hput];show _=AVal.d (.sl 1 ((hd++b++Vq b).map Xc));rw[List.map_append,List.map_append];rfl)),⟨rfl,trivial⟩,X2 _⟩
theorem XiT:∀{l:List Val}{x:Val},x∈l→(Y3 x).length≤(YF l).length
 |[],x,h=>by simp at h
 |v::r,x,h=>by
  simp only[YF,List.length_append]
  rcases List.mem_cons.1 h with rfl|h
  ·omega
  ·have:=XiT h;omega
def X4L (v:Val):Prop:=Con Tryz.prog 92 [] [Xv v] [] (.d (Xk (YN v)))
theorem Xks (v:Val) (hok:Yp v) (hb:(Y3 v).length≤140737488355328) (ih:Xe 8 v=true→∀x∈v.l,X4L x):X4L v:=by
 have hval:=X4A v hok
 refine Xg (xs:=[.d (Xk (YN v))]) Tryz.func92 rfl Tryz.ntmps92 rfl rfl rfl (fun E=> ?_)
 obtain⟨k,n,d,s,l⟩:=v
 simp only[Xv] at hval
 have hlen:=X0l l
 simp only[Val.l] at ih
 cases hv:Xe 8 (.mk k n d s l) with
 |false=>
  rw[hv] at hval
  rw[show YN (.mk k n d s l)=[] by unfold YN;rw[hv];rfl]
  refine W9_ ?_;refine Z3 (hcon:=hval) ?_;exact Qwd
 |true=>
  have hel:=Xay hv
  have ihv:=ih hv
  rw[hv] at hval
  rw[show YN (.mk k n d s l)=Y3 (.mk k n d s l) by unfold YN;rw[hv];rfl]
  rw[Xe] at hv
  by_cases hk0:k=0
  ·subst hk0
   have hput:Y3 (.mk 0 n d s l)=[UInt8.ofNat 0]:=by rw[Y3];simp
   rw[hput] at hb ⊢
   refine QKi ?_;refine Z0 (u:=nj 0) (r:=n8 0) ?_ (hr:=by exact U8 rfl rfl);refine QLi ?_;refine QBe ?_;refine Qna ?_;refine Qka ?_;refine Qia ?_;refine QMi ?_;exact X1 ⟨_,Xw 2 (y:= .d (Xk (UInt8.ofNat 0::[]))) (AVal.le_of_eq (by refine Eq.trans (b:=AVal.d (.sl 1 (_))) rfl ?_;show _=AVal.d (.sl 1 ((UInt8.ofNat 0::[]).map Xc));simp only[List.map_append,List.map_cons,List.map_nil,List.append_assoc,List.cons_append,List.nil_append];rfl)),⟨rfl,trivial⟩,X2 _⟩
  by_cases hk1:k=1
  ·subst hk1
   have hput:Y3 (.mk 1 n d s l)=UInt8.ofNat 1::YK n:=by rw[Y3];simp
   have hn: -9223372036854775808≤n∧n≤9223372036854775807:=by simp at hv;omega
   have hpi:=X4Y n hn
   rw[hput] at hb ⊢
   generalize YK n=q at*
   simp only[List.length_cons] at hb
   refine QKi ?_;refine Qkd ?_;refine QLi ?_;refine Qea ?_;refine Qld ?_;refine QMi ?_;exact X1 ⟨_,Xw 2 (y:= .d (Xk (UInt8.ofNat 1::q))) (AVal.le_of_eq (by refine Eq.trans (b:=AVal.d (.sl 1 (_++_))) rfl ?_;show _=AVal.d (.sl 1 ((UInt8.ofNat 1::q).map Xc));simp only[List.map_append,List.map_cons,List.map_nil,List.append_assoc,List.cons_append,List.nil_append];rfl)),⟨rfl,trivial⟩,X2 _⟩
  by_cases hk2:k=2
  ·subst hk2
   have hput:Y3 (.mk 2 n d s l)=UInt8.ofNat 2::YK n:=by rw[Y3];simp
   have hn: -9223372036854775808≤n∧n≤9223372036854775807:=by simp at hv;omega
   have hpi:=X4Y n hn
   rw[hput] at hb ⊢
   generalize YK n=q at*
   simp only[List.length_cons] at hb
   refine QKi ?_;refine Qnd ?_;refine Z9 (γ:=130) ?_;refine QDd ?_;refine Qea ?_;refine Qld ?_;refine QMi ?_;exact X1 ⟨_,Xw 2 (y:= .d (Xk (UInt8.ofNat 2::q))) (AVal.le_of_eq (by refine Eq.trans (b:=AVal.d (.sl 1 (_++_))) rfl ?_;show _=AVal.d (.sl 1 ((UInt8.ofNat 2::q).map Xc));simp only[List.map_append,List.map_cons,List.map_nil,List.append_assoc,List.cons_append,List.nil_append];rfl)),⟨rfl,trivial⟩,X2 _⟩
  by_cases hk3:k=3
  ·subst hk3
   have hput:Y3 (.mk 3 n d s l)=UInt8.ofNat 3::(YK n++YK d):=by rw[Y3];simp
   have hnd:(-9223372036854775808≤n∧n≤9223372036854775807)∧ -9223372036854775808≤d∧d≤9223372036854775807:=by simp[X0z] at hv;omega
   have hpi:=X4Y n hnd.1
   have hpd:=X4Y d hnd.2
   rw[hput] at hb ⊢
   generalize YK n=q at*
   generalize YK d=q2 at*
   simp only[List.length_append,List.length_cons] at hb
   refine QKi ?_;refine Qod ?_;refine QLi ?_;refine QBe ?_;refine Qpd ?_;refine Z3 (hcon:=hpi) ?_;refine W8_ ?_;refine Z3 (hcon:=hpd) ?_;refine W3_ ?_;refine QMi ?_;exact X1 ⟨_,Xw 2 (y:= .d (Xk (UInt8.ofNat 3::(q++q2)))) (AVal.le_of_eq (by refine Eq.trans (b:=AVal.d (.sl 1 (_++_++_))) rfl ?_;show _=AVal.d (.sl 1 ((UInt8.ofNat 3::(q++q2)).map Xc));simp only[List.map_append,List.map_cons,List.map_nil,List.append_assoc,List.cons_append,List.nil_append];rfl)),⟨rfl,trivial⟩,X2 _⟩
  by_cases hk4:k=4
  ·subst hk4
   have hput:Y3 (.mk 4 n d s l)=UInt8.ofNat 4::XX s:=by rw[Y3];simp
   have hs:s.length≤65536:=by simp at hv;omega
   have hpi:=X5s s hs
   rw[hput] at hb ⊢
   generalize XX s=q at*
   simp only[List.length_cons] at hb
   refine QKi ?_;refine Qqd ?_;refine QLi ?_;refine QBe ?_;refine Qna ?_;refine Qld ?_;refine QMi ?_;exact X1 ⟨_,Xw 2 (y:= .d (Xk (UInt8.ofNat 4::q))) (AVal.le_of_eq (by refine Eq.trans (b:=AVal.d (.sl 1 (_++_))) rfl ?_;show _=AVal.d (.sl 1 ((UInt8.ofNat 4::q).map Xc));simp only[List.map_append,List.map_cons,List.map_nil,List.append_assoc,List.cons_append,List.nil_append];rfl)),⟨rfl,trivial⟩,X2 _⟩
  by_cases hk5:k=5
  ·subst hk5
   have hput:Y3 (.mk 5 n d s l)=UInt8.ofNat 5::YK n:=by rw[Y3];simp
   have hn: -9223372036854775808≤n∧n≤9223372036854775807:=by simp at hv;omega
   have hpi:=X4Y n hn
   rw[hput] at hb ⊢
   generalize YK n=q at*
   simp only[List.length_cons] at hb
   refine QKi ?_;refine Qrd ?_;refine QLi ?_;refine Qna ?_;refine Qea ?_;refine Qld ?_;refine QMi ?_;exact X1 ⟨_,Xw 2 (y:= .d (Xk (UInt8.ofNat 5::q))) (AVal.le_of_eq (by refine Eq.trans (b:=AVal.d (.sl 1 (_++_))) rfl ?_;show _=AVal.d (.sl 1 ((UInt8.ofNat 5::q).map Xc));simp only[List.map_append,List.map_cons,List.map_nil,List.append_assoc,List.cons_append,List.nil_append];rfl)),⟨rfl,trivial⟩,X2 _⟩
  by_cases hk6:k=6
  ·subst hk6
   have hput:Y3 (.mk 6 n d s l)=UInt8.ofNat 6::YK n:=by rw[Y3];simp
   have hn: -9223372036854775808≤n∧n≤9223372036854775807:=by simp at hv;omega
   have hpi:=X4Y n hn
   rw[hput] at hb ⊢
   generalize YK n=q at*
   simp only[List.length_cons] at hb
   refine QKi ?_;refine Qsd ?_;refine QLi ?_;refine QBe ?_;refine Qld ?_;refine QMi ?_;exact X1 ⟨_,Xw 2 (y:= .d (Xk (UInt8.ofNat 6::q))) (AVal.le_of_eq (by refine Eq.trans (b:=AVal.d (.sl 1 (_++_))) rfl ?_;show _=AVal.d (.sl 1 ((UInt8.ofNat 6::q).map Xc));simp only[List.map_append,List.map_cons,List.map_nil,List.append_assoc,List.cons_append,List.nil_append];rfl)),⟨rfl,trivial⟩,X2 _⟩
  by_cases hk7:k=7
  ·subst hk7
   have hput:Y3 (.mk 7 n d s l)=UInt8.ofNat 7::(Xm l.length++YF l):=by rw[Y3];simp
   have hll:l.length≤64:=by simp at hv;omega
   have hpu:=X58 (XU l).length (by omega)
   rw[←hlen] at hput
   rw[hput] at hb ⊢
   generalize Xm ((XU l).length:Int)=q at*
   simp only[List.length_append,List.length_cons] at hb
   refine QKi ?_;refine Qtd ?_;refine QLi ?_;refine QBe ?_;refine Qna ?_;refine Qka ?_;refine Qb ?_;refine Z3 (hcon:=hpu) ?_;refine W8_ ?_
   refine XK (fun i:Nat=>i≤l.length) (fun i=>⟨68,[(1,.ptr 100 0),(3,.own 130 (UInt8.ofNat 7::(q++YF (l.take i))).length),(4,ai i)],[(100,.box [ai 7,ai n,ai d,VY s,.d (.sl 5 (XU l))]),(130,.row 1 ((UInt8.ofNat 7::(q++YF (l.take i))).map Xc))]⟩) (fun i=>l.length-i) 0 (by omega)
    (Xd rfl ⟨JL,(by refine AVal.le_of_eq ?_;refine Eq.trans (b:=AVal.own 130 (_+_)) rfl ?_;congr 1;simp only[List.take_zero,YF,List.append_nil,List.length_map,List.length_cons,List.length_nil]<;>omega),JL,trivial⟩ ⟨rfl,?_,trivial⟩) ?_
   ·refine Qjd ?_
    simp only[List.take_zero,YF,List.append_nil,List.map_cons,List.cons_append,List.nil_append];rfl
   intro i hi
   by_cases hlt:i<l.length
   ·obtain⟨x,hx⟩:=XI (l:=l) hlt
    have hgx:=X3O hx
    have htk:=X7Z hx
    have hle:=X7P l (i+1)
    have hpx:=ihv x (List.mem_of_getElem? hx)
    unfold X4L at hpx
    rw[show YN x=Y3 x by unfold YN;rw[hel x (List.mem_of_getElem? hx)];rfl] at hpx
    rw[htk] at hle
    simp only[List.length_append] at hle
    generalize YF (l.take i)=pre at*
    generalize Y3 x=px at*
    obtain⟨k',n',d',s',q'⟩:=x
    simp only[Xv] at hpx
    rw[U3] at hgx
    refine QRf ?_;refine Xj ?_;refine Z3 (hcon:=hpx) ?_;refine W8_ ?_
    refine⟨i+1,by omega,by omega,Xd rfl ⟨JL,(by refine AVal.le_of_eq ?_;refine Eq.trans (b:=AVal.own 130 (_+_)) rfl ?_;congr 1;rw[htk];simp only[List.length_append,List.length_map,List.length_cons]<;>omega),JL,trivial⟩ ⟨rfl,?_,trivial⟩⟩
    refine Qjd ?_
    rw[htk]
    simp only[List.map_append,List.map_cons,List.cons_append,List.append_assoc]
   obtain rfl:i=l.length:=by omega
   rw[List.take_length]
   refine Qof ?_;refine Xq (Yx 3 130 rfl rfl (by simp)) ?_;refine W9_ ?_;refine Qia ?_;exact Qp
  by_cases hk8:k=8
  ·subst hk8
   have hput:Y3 (.mk 8 n d s l)=UInt8.ofNat 8::(Xm l.length++YF l):=by rw[Y3];simp
   have hll:l.length≤64:=by simp at hv;omega
   have hpu:=X58 (XU l).length (by omega)
   rw[←hlen] at hput
   rw[hput] at hb ⊢
   generalize Xm ((XU l).length:Int)=q at*
   simp only[List.length_append,List.length_cons] at hb
   refine QKi ?_;refine Qvd ?_;refine QLi ?_;refine QBe ?_;refine Qna ?_;refine Qja ?_;refine Qb ?_;refine Z3 (hcon:=hpu) ?_;refine W8_ ?_
   refine XK (fun i:Nat=>i≤l.length) (fun i=>⟨68,[(1,.ptr 100 0),(3,.own 130 (UInt8.ofNat 8::(q++YF (l.take i))).length),(4,ai i)],[(100,.box [ai 8,ai n,ai d,VY s,.d (.sl 5 (XU l))]),(130,.row 1 ((UInt8.ofNat 8::(q++YF (l.take i))).map Xc))]⟩) (fun i=>l.length-i) 0 (by omega)
    (Xd rfl ⟨JL,(by refine AVal.le_of_eq ?_;refine Eq.trans (b:=AVal.own 130 (_+_)) rfl ?_;congr 1;simp only[List.take_zero,YF,List.append_nil,List.length_map,List.length_cons,List.length_nil]<;>omega),JL,trivial⟩ ⟨rfl,?_,trivial⟩) ?_
   ·refine Qjd ?_
    simp only[List.take_zero,YF,List.append_nil,List.map_cons,List.cons_append,List.nil_append];rfl
   intro i hi
   by_cases hlt:i<l.length
   ·obtain⟨x,hx⟩:=XI (l:=l) hlt
    have hgx:=X3O hx
    have htk:=X7Z hx
    have hle:=X7P l (i+1)
    have hpx:=ihv x (List.mem_of_getElem? hx)
    unfold X4L at hpx
    rw[show YN x=Y3 x by unfold YN;rw[hel x (List.mem_of_getElem? hx)];rfl] at hpx
    rw[htk] at hle
    simp only[List.length_append] at hle
    generalize YF (l.take i)=pre at*
    generalize Y3 x=px at*
    obtain⟨k',n',d',s',q'⟩:=x
    simp only[Xv] at hpx
    rw[U3] at hgx
    refine QRf ?_;refine Xj ?_;refine Z3 (hcon:=hpx) ?_;refine W8_ ?_
    refine⟨i+1,by omega,by omega,Xd rfl ⟨JL,(by refine AVal.le_of_eq ?_;refine Eq.trans (b:=AVal.own 130 (_+_)) rfl ?_;congr 1;rw[htk];simp only[List.length_append,List.length_map,List.length_cons]<;>omega),JL,trivial⟩ ⟨rfl,?_,trivial⟩⟩
    refine Qjd ?_
    rw[htk]
    simp only[List.map_append,List.map_cons,List.cons_append,List.append_assoc]
   obtain rfl:i=l.length:=by omega
   rw[List.take_length]
   refine Qof ?_;refine Xq (Yx 3 130 rfl rfl (by simp)) ?_;refine W9_ ?_;refine Qia ?_;exact Qp
  simp[*] at hv
theorem XpQ {k n d:Int}{s:List UInt8}{l:List Val} (hv:Xe 8 (.mk k n d s l)=true):∀x∈l,(Y3 x).length≤(Y3 (.mk k n d s l)).length:=by
 intro x hx
 have hm:=XiT hx
 by_cases h7:k=7
 ·subst h7
  rw[show Y3 (.mk 7 n d s l)=UInt8.ofNat 7::(Xm l.length++YF l) by rw[Y3];simp]
  simp only[List.length_cons,List.length_append];omega
 ·by_cases h8:k=8
  ·subst h8
   rw[show Y3 (.mk 8 n d s l)=UInt8.ofNat 8::(Xm l.length++YF l) by rw[Y3];simp]
   simp only[List.length_cons,List.length_append];omega
  ·have:l=[]:=by
    rw[Xe] at hv
    simp[h7,h8] at hv
    exact hv.1.2
   subst this;simp at hx
theorem X9H:∀v:Val,Yp v→(Y3 v).length≤140737488355328→X4L v
 | .mk k n d s l=>fun hok hb=>Xks (.mk k n d s l) hok hb fun hv x hx=>X9H x (X3Z (by rw[Yp] at hok;exact hok.2.2) hx) (Nat.le_trans (XpQ hv x hx) hb)
termination_by v=>SizeOf.sizeOf v
decreasing_by
 have h1:=List.sizeOf_lt_of_mem (show x∈l from hx)
 simp only[Val.mk.sizeOf_spec]
 omega
theorem Xjs (c:Chg) (hok:Yp c.v):Con Tryz.prog 48 [] [Xx c] [] (.d (Xk (Up c))):=by
 have hc:=Xbt c hok
 unfold Up
 by_cases h:YJ c=0
 case neg=>
  rw[if_neg h]
  refine Xg (xs:=[.d (Xk [])]) Tryz.func48 rfl Tryz.ntmps48 rfl rfl rfl (fun E=> ?_)
  generalize YJ c=e at*
  obtain⟨op,id,src,dst,name,⟨k,n,d,s,l⟩⟩:=c
  simp only[Xx] at*
  refine Qhe ?_;exact Qwd
 rw[if_pos h]
 rw[h] at hc
 obtain⟨⟨hop1,hop2⟩,hid,hsd,hnm,hvl⟩:=X7X h
 obtain⟨op,id,src,dst,name,v⟩:=c
 simp only at hop1 hop2 hid hsd hnm hvl hok
 have hpi:=X58 id (by omega)
 have hli:(Xm id).length≤10:=by rw[X1j (by omega)];exact X0Q (by omega)
 have hf:=XhO op
 have hw:=XiK op
 clear h
 by_cases k1:op=1
 ·subst k1
  rw[show Yo 1=false from rfl] at hf
  rw[show Yi 1=false from rfl] at hw
  clear hop1 hop2
  have hput:YP ⟨1,id,src,dst,name,v⟩=UInt8.ofNat 1::(Xm id):=by unfold YP;simp[Yo,Yi]
  rw[hput]
  clear hput hok
  generalize Xm id=w0 at*
  obtain⟨vk,vn,vd,vs,vl⟩:=v
  simp only[Xx,Xv] at*
  refine Xg (xs:=[.d (Xk (UInt8.ofNat 1::(w0)))]) Tryz.func48 rfl Tryz.ntmps48 rfl rfl rfl (fun E=> ?_)
  refine QNi ?_;refine Qkd ?_;refine QOi ?_;refine QFc ?_;refine QQi ?_;exact X1 ⟨_,Xw 2 (y:= .d (Xk (UInt8.ofNat 1::(w0)))) (AVal.le_of_eq (by refine Eq.trans (b:=AVal.d (.sl 1 (_))) rfl ?_;show _=AVal.d (.sl 1 ((UInt8.ofNat 1::(w0)).map Xc));simp only[List.map_append,List.map_cons,List.map_nil,List.append_assoc,List.cons_append,List.nil_append]<;>rfl)),⟨rfl,trivial⟩,X2 _⟩
 by_cases k2:op=2
 ·subst k2
  rw[show Yo 2=false from rfl] at hf
  rw[show Yi 2=false from rfl] at hw
  clear hop1 hop2
  have hput:YP ⟨2,id,src,dst,name,v⟩=UInt8.ofNat 2::(Xm id):=by unfold YP;simp[Yo,Yi]
  rw[hput]
  clear hput hok
  generalize Xm id=w0 at*
  obtain⟨vk,vn,vd,vs,vl⟩:=v
  simp only[Xx,Xv] at*
  refine Xg (xs:=[.d (Xk (UInt8.ofNat 2::(w0)))]) Tryz.func48 rfl Tryz.ntmps48 rfl rfl rfl (fun E=> ?_)
  refine QNi ?_;refine Qnd ?_;refine QOi ?_;refine QFc ?_;refine QQi ?_;exact X1 ⟨_,Xw 2 (y:= .d (Xk (UInt8.ofNat 2::(w0)))) (AVal.le_of_eq (by refine Eq.trans (b:=AVal.d (.sl 1 (_))) rfl ?_;show _=AVal.d (.sl 1 ((UInt8.ofNat 2::(w0)).map Xc));simp only[List.map_append,List.map_cons,List.map_nil,List.append_assoc,List.cons_append,List.nil_append]<;>rfl)),⟨rfl,trivial⟩,X2 _⟩
 by_cases k3:op=3
 ·subst k3
  rw[show Yo 3=true from rfl] at hf
  rw[show Yi 3=false from rfl] at hw
  clear hop1 hop2
  have hnm:=hnm rfl
  have hpn:=X5s name (by omega)
  have hln:=VV hnm
  have hput:YP ⟨3,id,src,dst,name,v⟩=UInt8.ofNat 3::(Xm id++XX name):=by unfold YP;simp[Yo,Yi]
  rw[hput]
  clear hput hok
  generalize Xm id=w0 at*
  generalize XX name=w1 at*
  obtain⟨vk,vn,vd,vs,vl⟩:=v
  simp only[Xx,Xv] at*
  refine Xg (xs:=[.d (Xk (UInt8.ofNat 3::(w0++w1)))]) Tryz.func48 rfl Tryz.ntmps48 rfl rfl rfl (fun E=> ?_)
  refine QNi ?_;refine Qod ?_;refine QRi ?_;refine QQi ?_;exact X1 ⟨_,Xw 2 (y:= .d (Xk (UInt8.ofNat 3::(w0++w1)))) (AVal.le_of_eq (by refine Eq.trans (b:=AVal.d (.sl 1 (_))) rfl ?_;show _=AVal.d (.sl 1 ((UInt8.ofNat 3::(w0++w1)).map Xc));simp only[List.map_append,List.map_cons,List.map_nil,List.append_assoc,List.cons_append,List.nil_append]<;>rfl)),⟨rfl,trivial⟩,X2 _⟩
 by_cases k4:op=4
 ·subst k4
  rw[show Yo 4=true from rfl] at hf
  rw[show Yi 4=false from rfl] at hw
  clear hop1 hop2
  have hnm:=hnm rfl
  have hpn:=X5s name (by omega)
  have hln:=VV hnm
  have hput:YP ⟨4,id,src,dst,name,v⟩=UInt8.ofNat 4::(Xm id++XX name):=by unfold YP;simp[Yo,Yi]
  rw[hput]
  clear hput hok
  generalize Xm id=w0 at*
  generalize XX name=w1 at*
  obtain⟨vk,vn,vd,vs,vl⟩:=v
  simp only[Xx,Xv] at*
  refine Xg (xs:=[.d (Xk (UInt8.ofNat 4::(w0++w1)))]) Tryz.func48 rfl Tryz.ntmps48 rfl rfl rfl (fun E=> ?_)
  refine QNi ?_;refine Qqd ?_;refine QRi ?_;refine QQi ?_;exact X1 ⟨_,Xw 2 (y:= .d (Xk (UInt8.ofNat 4::(w0++w1)))) (AVal.le_of_eq (by refine Eq.trans (b:=AVal.d (.sl 1 (_))) rfl ?_;show _=AVal.d (.sl 1 ((UInt8.ofNat 4::(w0++w1)).map Xc));simp only[List.map_append,List.map_cons,List.map_nil,List.append_assoc,List.cons_append,List.nil_append]<;>rfl)),⟨rfl,trivial⟩,X2 _⟩
 by_cases k5:op=5
 ·subst k5
  rw[show Yo 5=true from rfl] at hf
  rw[show Yi 5=true from rfl] at hw
  clear hop1 hop2
  have hnm:=hnm rfl
  have hpn:=X5s name (by omega)
  have hln:=VV hnm
  have hvl:=hvl rfl
  have hpv:=X9H v hok (by omega)
  unfold X4L at hpv
  have hlv:(YN v).length≤111:=by
   unfold YN
   rw[if_pos hvl.1]
   exact hvl.2
  have hput:YP ⟨5,id,src,dst,name,v⟩=UInt8.ofNat 5::(Xm id++XX name++YN v):=by unfold YP;simp[Yo,Yi]
  rw[hput]
  clear hput hok
  generalize Xm id=w0 at*
  generalize XX name=w1 at*
  generalize YN v=w2 at*
  obtain⟨vk,vn,vd,vs,vl⟩:=v
  simp only[Xx,Xv] at*
  refine Xg (xs:=[.d (Xk (UInt8.ofNat 5::(w0++w1++w2)))]) Tryz.func48 rfl Tryz.ntmps48 rfl rfl rfl (fun E=> ?_)
  refine QNi ?_;refine Qrd ?_;refine QRi ?_;refine Z3 (hcon:=hw) ?_;refine Qce ?_;refine Z3 (hcon:=hpv) ?_;refine W8_ ?_;refine QPi ?_;exact X1 ⟨_,Xw 2 (y:= .d (Xk (UInt8.ofNat 5::(w0++w1++w2)))) (AVal.le_of_eq (by refine Eq.trans (b:=AVal.d (.sl 1 (_))) rfl ?_;show _=AVal.d (.sl 1 ((UInt8.ofNat 5::(w0++w1++w2)).map Xc));simp only[List.map_append,List.map_cons,List.map_nil,List.append_assoc,List.cons_append,List.nil_append]<;>rfl)),⟨rfl,trivial⟩,X2 _⟩
 by_cases k6:op=6
 ·subst k6
  rw[show Yo 6=true from rfl] at hf
  rw[show Yi 6=false from rfl] at hw
  clear hop1 hop2
  have hsd:=hsd rfl
  have hps:=X58 src (by omega)
  have hpd:=X58 dst (by omega)
  have hls:(Xm src).length≤10:=by rw[X1j (by omega)];exact X0Q (by omega)
  have hld:(Xm dst).length≤10:=by rw[X1j (by omega)];exact X0Q (by omega)
  have hnm:=hnm rfl
  have hpn:=X5s name (by omega)
  have hln:=VV hnm
  have hput:YP ⟨6,id,src,dst,name,v⟩=UInt8.ofNat 6::(Xm id++Xm src++Xm dst++XX name):=by unfold YP;simp[Yo,Yi]
  rw[hput]
  clear hput hok
  generalize Xm id=w0 at*
  generalize Xm src=w1 at*
  generalize Xm dst=w2 at*
  generalize XX name=w3 at*
  obtain⟨vk,vn,vd,vs,vl⟩:=v
  simp only[Xx,Xv] at*
  refine Xg (xs:=[.d (Xk (UInt8.ofNat 6::(w0++w1++w2++w3)))]) Tryz.func48 rfl Tryz.ntmps48 rfl rfl rfl (fun E=> ?_)
  refine QNi ?_;refine Qsd ?_;refine Z9 (γ:=130) ?_;refine W7_ ?_;refine Z3 (hcon:=hpi) ?_;refine Xj ?_;refine QCa ?_;refine Z3 (hcon:=hps) ?_;refine W7_ ?_;refine Z3 (hcon:=hpd) ?_;refine W8_ ?_;refine QNd ?_;refine Qce ?_;refine Z3 (hcon:=hpn) ?_;refine W8_ ?_;refine QQi ?_;exact X1 ⟨_,Xw 2 (y:= .d (Xk (UInt8.ofNat 6::(w0++w1++w2++w3)))) (AVal.le_of_eq (by refine Eq.trans (b:=AVal.d (.sl 1 (_))) rfl ?_;show _=AVal.d (.sl 1 ((UInt8.ofNat 6::(w0++w1++w2++w3)).map Xc));simp only[List.map_append,List.map_cons,List.map_nil,List.append_assoc,List.cons_append,List.nil_append]<;>rfl)),⟨rfl,trivial⟩,X2 _⟩
 by_cases k7:op=7
 ·subst k7
  rw[show Yo 7=false from rfl] at hf
  rw[show Yi 7=false from rfl] at hw
  clear hop1 hop2
  have hput:YP ⟨7,id,src,dst,name,v⟩=UInt8.ofNat 7::(Xm id):=by unfold YP;simp[Yo,Yi]
  rw[hput]
  clear hput hok
  generalize Xm id=w0 at*
  obtain⟨vk,vn,vd,vs,vl⟩:=v
  simp only[Xx,Xv] at*
  refine Xg (xs:=[.d (Xk (UInt8.ofNat 7::(w0)))]) Tryz.func48 rfl Tryz.ntmps48 rfl rfl rfl (fun E=> ?_)
  refine QNi ?_;refine Qtd ?_;refine QOi ?_;refine QFc ?_;refine QQi ?_;exact X1 ⟨_,Xw 2 (y:= .d (Xk (UInt8.ofNat 7::(w0)))) (AVal.le_of_eq (by refine Eq.trans (b:=AVal.d (.sl 1 (_))) rfl ?_;show _=AVal.d (.sl 1 ((UInt8.ofNat 7::(w0)).map Xc));simp only[List.map_append,List.map_cons,List.map_nil,List.append_assoc,List.cons_append,List.nil_append]<;>rfl)),⟨rfl,trivial⟩,X2 _⟩
 by_cases k8:op=8
 ·subst k8
  rw[show Yo 8=true from rfl] at hf
  rw[show Yi 8=true from rfl] at hw
  clear hop1 hop2
  have hnm:=hnm rfl
  have hpn:=X5s name (by omega)
  have hln:=VV hnm
  have hvl:=hvl rfl
  have hpv:=X9H v hok (by omega)
  unfold X4L at hpv
  have hlv:(YN v).length≤111:=by
   unfold YN
   rw[if_pos hvl.1]
   exact hvl.2
  have hput:YP ⟨8,id,src,dst,name,v⟩=UInt8.ofNat 8::(Xm id++XX name++YN v):=by unfold YP;simp[Yo,Yi]
  rw[hput]
  clear hput hok
  generalize Xm id=w0 at*
  generalize XX name=w1 at*
  generalize YN v=w2 at*
  obtain⟨vk,vn,vd,vs,vl⟩:=v
  simp only[Xx,Xv] at*
  refine Xg (xs:=[.d (Xk (UInt8.ofNat 8::(w0++w1++w2)))]) Tryz.func48 rfl Tryz.ntmps48 rfl rfl rfl (fun E=> ?_)
  refine QNi ?_;refine Qvd ?_;refine QRi ?_;refine Z3 (hcon:=hw) ?_;refine Qce ?_;refine Z3 (hcon:=hpv) ?_;refine W8_ ?_;refine QPi ?_;exact X1 ⟨_,Xw 2 (y:= .d (Xk (UInt8.ofNat 8::(w0++w1++w2)))) (AVal.le_of_eq (by refine Eq.trans (b:=AVal.d (.sl 1 (_))) rfl ?_;show _=AVal.d (.sl 1 ((UInt8.ofNat 8::(w0++w1++w2)).map Xc));simp only[List.map_append,List.map_cons,List.map_nil,List.append_assoc,List.cons_append,List.nil_append]<;>rfl)),⟨rfl,trivial⟩,X2 _⟩
 omega
theorem XjP (x y:List UInt8):Con Tryz.prog 14 [] [.d (Xk x),.d (Xk y)] [] (ab (decide (x=y))):=by
 refine Xg (xs:=[ab (decide (x=y))]) Tryz.func14 rfl Tryz.ntmps14 rfl rfl rfl (fun E=> ?_)
 refine Xr ?_;exact Qp
theorem XlM (l:List Int) (hl:l.length≤1000) (hx:∀x∈l,x≤9223372036854775807):Con Tryz.prog 45 [] [.d (.sl 1 (l.map cI))] [(130,.row 1 ((Ul l).map Xc))] (.own 130 ((Ul l).map Xc).length):=by
 refine Xg (xs:=[.own 130 ((Ul l).map Xc).length]) Tryz.func45 rfl Tryz.ntmps45 rfl rfl rfl (fun E=> ?_)
 have hlm:(l.map cI).length=l.length:=by simp
 refine XC ?_;refine Xq (V3 3 130 1 rfl rfl rfl) ?_
 refine XK (fun i:Nat=>i≤l.length) (fun i=>⟨19,[(0,.d (.sl 1 (l.map cI))),(3,.own 130 ((Ul (l.take i)).map Xc).length),(4,ai i)],[(130,.row 1 ((Ul (l.take i)).map Xc))]⟩) (fun i=>l.length-i) 0 (Nat.zero_le _)
  (Xd rfl JM ⟨rfl,trivial⟩) ?_
 intro i hi
 by_cases hil:i<l.length
 case neg=>
  obtain rfl:i=l.length:=by omega
  have hn:¬((l.length:Nat):Int)<(l.map cI).length:=by omega
  rw[List.take_length]
  refine QJc ?_;exact Qf
 have hn:(i:Int)<(l.map cI).length:=by omega
 obtain⟨x,hxx⟩:=XI (l:=l) hil
 have hxc:(l.map cI)[i]? =some (cI x):=Y5 hxx
 have hc:=X58 x (hx x (List.mem_of_getElem? hxx))
 have hlen:=X5X (l:=l.take i) fun y hy=>hx y (List.mem_of_mem_take hy)
 have hlen2:=X04 (hx x (List.mem_of_getElem? hxx))
 have hlt:(l.take i).length≤1000:=by simp;omega
 have hroom:((Ul (l.take i)).map Xc).length≤10000:=by rw[List.length_map];omega
 have hroom2:((Xm x).map Xc).length≤10:=by rw[List.length_map];omega
 have hsn:=Xga hxx
 generalize Ul (l.take i)=u at*
 generalize Xm x=v at*
 refine Qi ?_;refine Qhe ?_;refine W8_ ?_
 refine⟨i+1,hil,by omega,?_⟩
 rw[hsn]
 exact Qsh
theorem XjA (mg:List UInt8) (hmg:mg.length=4):Con Tryz.prog 44 [] [XH mg] [(130,.wrow 1 (mg.map Xc))] (.own 130 (mg.map Xc).length):=by
 refine Xg (xs:=[.own 130 (mg.map Xc).length]) Tryz.func44 rfl Tryz.ntmps44 rfl rfl rfl (fun E=> ?_)
 refine W7_ ?_;refine XhQ (γ:=130) (hg:=JSa) (hx:=JSb) (hb:=JSs) (ht:=JSb) (hdead:=JSb) (hf:=JSb) (hd:=JSb) ?_;exact Qh
theorem XkT (u b:List UInt8) (hb:b.length≤65536) (hu:u.length≤1000000000):Con Tryz.prog 43 [(0,.wrow 1 (u.map Xc))] [.own 0 (u.map Xc).length,.d (Xk b)] [(0,.wrow 1 ((u++YM b).map Xc))] (.own 0 ((u++YM b).map Xc).length):=by
 refine Xg (xs:=[.own 0 ((u++YM b).map Xc).length]) Tryz.func43 rfl Tryz.ntmps43 rfl rfl rfl (fun E=> ?_)
 have hc:=Xr6 b hb
 have hfl:=XbB hb
 have hr1:(u.map Xc).length≤1000000000:=by rw[List.length_map];omega
 have hr2:((YM b).map Xc).length≤65600:=by rw[List.length_map];omega
 rw[List.map_append]
 generalize YM b=v at*
 refine W8_ ?_;refine QJd ?_;refine XhY (hg:=JSa) (hx:=JSb) (hL:=JSb) (hy:=JSb) (hn:=JSe) (hB:=JSc) (hT:=JSb) (hT2:=JSb) (hb0:=JSb) (hroom:=JSd) (hd:=JSb) ?_;refine W2_ ?_;exact X1 ⟨_,Xw 4 (y:= .own 0 (List.map Xc u++List.map Xc v).length) (AVal.le_of_eq (by refine Eq.trans (b:=AVal.own 0 (_+_)) rfl ?_;simp only[List.length_append])),⟨rfl,trivial⟩,Xn ⟨rfl,trivial⟩⟩
theorem XhM (u b:List UInt8) (hb:b.length≤65536) (hu:u.length≤1000000000):Con Tryz.prog 43 [(130,.wrow 1 (u.map Xc))] [.own 130 (u.map Xc).length,.d (Xk b)] [(130,.wrow 1 ((u++YM b).map Xc))] (.own 130 ((u++YM b).map Xc).length):=
 U0 0 130 (XkT u b hb hu)
theorem XpY (L:List (List UInt8)) (x:List UInt8):Yz (L++[x])=Yz L++YM x:=by simp[Yz]
theorem XqP {ts base:Int}{i:Nat} (h1: -9223372036854775808≤ts∧ts≤9223372036854775807) (hb:0≤base∧base≤1000000000000000) (hi:i≤1000):IntKind.i64.wrap (ts-(i:Int))=base+1↔ts=base+1+(i:Int):=by
 rw[IntKind.wrap_i64];omega
theorem Xg2 (h:Hist) (hf:HistHold h):Con Tryz.prog 85 [] [YS h] [] (ai (Vr h)):=by
 refine Xg (xs:=[ai (Vr h)]) Tryz.func85 rfl Tryz.ntmps85 rfl rfl rfl (fun E=> ?_)
 obtain⟨base,g,cs⟩:=h
 have hgc:=Xen g hf.g
 have hl:=hf.cl
 have hcok:=hf.cs
 have hgh:=hf.g
 simp only at hgc hl hcok hgh
 have hlm:=X1E cs
 unfold Vr
 simp only
 clear hf
 obtain⟨ns,es,nn,ne⟩:=g
 simp only[YS,XG] at*
 by_cases c1:base<0∨1000000000000000<base
 ·rw[if_pos c1]
  by_cases c0:base<0
  ·refine Xt ?_;refine Qw ?_;refine Qs ?_;refine Qe ?_
   (show AWP Tryz.prog E _ _ _;refine X1 ?_;exact(show Xy _ _ _ _ _ from⟨_,St.le_refl _,⟨rfl,trivial⟩,X2 _⟩))
  ·have c0':1000000000000000<base:=by omega
   refine XA ?_;refine QP ?_;refine Qe ?_
   (show AWP Tryz.prog E _ _ _;refine X1 ?_;exact(show Xy _ _ _ _ _ from⟨_,St.le_refl _,⟨rfl,trivial⟩,X2 _⟩))
 rw[if_neg c1]
 have c2:¬base<0:=by omega
 have c3:¬1000000000000000<base:=by omega
 by_cases c4:YH ⟨ns,es,nn,ne⟩≠0
 ·rw[if_pos c4]
  generalize YH ⟨ns,es,nn,ne⟩=e at*
  refine Qji ?_;refine QCa ?_
  (show AWP Tryz.prog E _ _ _;refine X1 ?_;exact(show Xy _ _ _ _ _ from⟨_,St.le_refl _,⟨rfl,trivial⟩,X2 _⟩))
 rw[if_neg c4]
 have c4:YH ⟨ns,es,nn,ne⟩=0:=by simpa using c4
 rw[c4] at hgc
 clear c4
 by_cases c5:1000<cs.length
 ·rw[if_pos c5]
  have c5':(1000:Int)<(cs.map XV).length:=by omega
  refine Qji ?_;refine Qed ?_;refine Qe ?_
  (show AWP Tryz.prog E _ _ _;refine X1 ?_;exact(show Xy _ _ _ _ _ from⟨_,St.le_refl _,⟨rfl,trivial⟩,X2 _⟩))
 rw[if_neg c5]
 have c5':¬(1000:Int)<(cs.map XV).length:=by omega
 generalize hB:tsV (base+1) cs=B
 generalize hR:YV ⟨ns,es,nn,ne⟩ cs=R
 refine Qji ?_;refine Qed ?_;refine Qma ?_
 clear hgc
 refine XK (fun i:Nat=>i≤cs.length∧tsV (base+1+(i:Nat)) (cs.drop i)=B) (fun i=>⟨72,[(1,.ptr 100 0),(4,ai i)],[(100,.box [ai base,.d (.sl 3 (ns.map Xp)),.d (.sl 5 (es.map Xs)),ai nn,ai ne,.d (.sl 2 (cs.map XV))])]⟩) (fun i=>cs.length-i) 0 ⟨Nat.zero_le _,by simpa using hB⟩
  (Xd rfl JM ⟨rfl,trivial⟩) ?_
 rintro i ⟨hi,hg⟩
 clear hB
 by_cases hil:i<cs.length
 case pos=>
  have hn:(i:Int)<(cs.map XV).length:=by omega
  obtain⟨x,hx⟩:=XI (l:=cs) hil
  have hxc:(cs.map XV)[i]? =some (XV x):=Y5 hx
  have hxk:=(hcok x (List.mem_of_getElem? hx)).2
  rw[Xhp hx] at hg
  obtain⟨ts,l⟩:=x
  simp only[XV] at hxc hg hxk
  have hwc:=XqP (i:=i) hxk (show 0≤base∧base≤1000000000000000 by omega) (by omega)
  clear hx hcok hgh hR hxk
  generalize hW:IntKind.i64.wrap (ts-(i:Int))=W at*
  by_cases hq:ts=base+1+(i:Int)
  ·rw[decide_eq_true hq,Bool.true_and] at hg
   have hw:=hwc.2 hq
   clear hwc hq
   refine QRf ?_;refine Xt ?_;refine QSi ?_;refine QGc ?_;exact QCh
  ·rw[decide_eq_false hq,Bool.false_and] at hg
   subst hg
   rw[if_pos rfl]
   have hw:¬W=base+1:=fun h=>hq (hwc.1 h)
   clear hwc hq
   refine QRf ?_;refine Xt ?_;refine QSi ?_;refine W5_ ?_;refine Qe ?_
   (show AWP Tryz.prog E _ _ _;refine X1 ?_;exact(show Xy _ _ _ _ _ from⟨_,St.le_refl _,⟨rfl,trivial⟩,X2 _⟩))
 have hn:¬(i:Int)<(cs.map XV).length:=by omega
 rw[List.drop_of_length_le (by omega)] at hg
 have hg:true=B:=hg
 subst hg
 rw[if_neg (by simp)]
 refine Qag ?_;refine XC ?_
 clear hi hil hn
 refine XK (ι:=Nat×Gra) (fun q=>q.1≤cs.length∧GraHold q.2∧YV q.2 (cs.drop q.1)=R) (fun q=>⟨72,[(1,.ptr 100 0),(5,.ptr 101 0),(6,ai q.1)],[(100,.box [ai base,.d (.sl 3 (ns.map Xp)),.d (.sl 5 (es.map Xs)),ai nn,ai ne,.d (.sl 2 (cs.map XV))]),(101,.box [.d (.sl 3 (q.2.nodes.map Xp)),.d (.sl 5 (q.2.edges.map Xs)),ai q.2.nn,ai q.2.ne])]⟩) (fun q=>cs.length-q.1) (0,⟨ns,es,nn,ne⟩) ⟨Nat.zero_le _,hgh,by simpa using hR⟩
  (Xd rfl JM ⟨rfl,rfl,trivial⟩) ?_
 rintro⟨i,g⟩ ⟨hi,hg,hr⟩
 simp only at hi hg hr
 clear hR hgh
 by_cases hil:i<cs.length
 case neg=>
  have hn:¬(i:Int)<(cs.map XV).length:=by omega
  rw[List.drop_of_length_le (by omega)] at hr
  have hr:(g,0)=R:=hr
  subst hr
  obtain⟨ns',es',nn',ne'⟩:=g
  simp only
  refine W9_ ?_;refine Qc ?_
  (show AWP Tryz.prog E _ _ _;refine X1 ?_;exact(show Xy _ _ _ _ _ from⟨_,St.le_refl _,⟨rfl,trivial⟩,X2 _⟩))
 have hn:(i:Int)<(cs.map XV).length:=by omega
 obtain⟨x,hx⟩:=XI (l:=cs) hil
 have hxc:(cs.map XV)[i]? =some (XV x):=Y5 hx
 have hxk:=(hcok x (List.mem_of_getElem? hx)).1
 have hs:=Xet g x.l hg hxk.2 hxk.1
 have hg':=XcM g x.l
 rw[Xex hx] at hr
 clear hx hcok hg hxk
 generalize (Yd g x.l).1=g' at*
 generalize (Yd g x.l).2.1=m at*
 generalize (Yd g x.l).2.2=e at*
 obtain⟨ts,l⟩:=x
 obtain⟨ns1,es1,nn1,ne1⟩:=g
 obtain⟨ns',es',nn',ne'⟩:=g'
 simp only[XG,XV] at hs hxc
 by_cases hq:e≠0
 ·rw[if_pos hq] at hr
  subst hr
  refine QRf ?_;refine Xt ?_;refine QMd ?_;refine XA ?_;refine QCa ?_
  (show AWP Tryz.prog E _ _ _;refine X1 ?_;exact(show Xy _ _ _ _ _ from⟨_,St.le_refl _,⟨rfl,trivial⟩,X2 _⟩))
 rw[if_neg hq] at hr
 obtain rfl:e=0:=by simpa using hq
 refine QRf ?_;refine Xt ?_;refine QMd ?_;refine XA ?_;refine QUc ?_;exact QRh
theorem Xe6 (h:Hist) (hb:0≤h.base∧h.base≤1000000000000000) (hl:h.cs.length≤1000):Con Tryz.prog 86 [] [YS h] [] (ai (Yy h)):=by
 refine Xg (xs:=[ai (Yy h)]) Tryz.func86 rfl Tryz.ntmps86 rfl rfl rfl (fun E=> ?_)
 obtain⟨base,⟨ns,es,nn,ne⟩,cs⟩:=h
 simp only[YS,Yy] at*
 have hlm:=X1E cs
 rw[←hlm]
 refine XA ?_
 (show AWP Tryz.prog E _ _ _;refine X1 ?_;exact(show Xy _ _ _ _ _ from⟨_,St.le_refl _,⟨rfl,trivial⟩,X2 _⟩))
theorem XjQ (h:Hist) (ts:Int) (hf:HistHold h):Con Tryz.prog 83 [] [YS h,ai ts] [] (ai (YZ h ts)):=by
 refine Xg (xs:=[ai (YZ h ts)]) Tryz.func83 rfl Tryz.ntmps83 rfl rfl rfl (fun E=> ?_)
 have hk:=Xg2 h hf
 have hv:=X4p (h:=h)
 unfold YZ
 by_cases c:Vr h≠0
 ·rw[if_pos c]
  clear hv hf
  generalize Vr h=e at*
  obtain⟨base,⟨ns,es,nn,ne⟩,cs⟩:=h
  simp only[YS] at*
  refine Qki ?_;refine QCa ?_
  (show AWP Tryz.prog E _ _ _;refine X1 ?_;exact(show Xy _ _ _ _ _ from⟨_,St.le_refl _,⟨rfl,trivial⟩,X2 _⟩))
 rw[if_neg c]
 have c:Vr h=0:=by simpa using c
 have hv:=hv.1 c
 rw[c] at hk
 have hl:=Xe6 h hv.b hv.cl
 clear hv hf c
 generalize Yy h=z at*
 obtain⟨base,⟨ns,es,nn,ne⟩,cs⟩:=h
 simp only[YS] at*
 by_cases c1:ts<base
 ·rw[if_pos (.inl c1)]
  refine Qki ?_;refine Qed ?_;refine QL ?_;refine Qs ?_;refine Qe ?_
  (show AWP Tryz.prog E _ _ _;refine X1 ?_;exact(show Xy _ _ _ _ _ from⟨_,St.le_refl _,⟨rfl,trivial⟩,X2 _⟩))
 by_cases c2:z<ts
 ·rw[if_pos (.inr c2)]
  refine Qli ?_;refine QP ?_;refine Qe ?_
  (show AWP Tryz.prog E _ _ _;refine X1 ?_;exact(show Xy _ _ _ _ _ from⟨_,St.le_refl _,⟨rfl,trivial⟩,X2 _⟩))
 rw[if_neg (by omega)]
 refine Qli ?_;refine QZ ?_
 (show AWP Tryz.prog E _ _ _;refine X1 ?_;exact(show Xy _ _ _ _ _ from⟨_,St.le_refl _,⟨rfl,trivial⟩,X2 _⟩))
theorem Xqo (h:Hist) (hf:HistHold h):Con Tryz.prog 46 [] [YS h] [] (ai (X42 h)):=by
 refine Xg (xs:=[ai (X42 h)]) Tryz.func46 rfl Tryz.ntmps46 rfl rfl rfl (fun E=> ?_)
 have hk:=Xg2 h hf
 have hv:=X4p (h:=h)
 unfold X42
 by_cases c:Vr h≠0
 ·rw[if_pos c]
  clear hv hf
  generalize Vr h=e at*
  obtain⟨base,⟨ns,es,nn,ne⟩,cs⟩:=h
  simp only[YS] at*
  refine Qze ?_;refine W2_ ?_;refine Qe ?_
  (show AWP Tryz.prog E _ _ _;refine X1 ?_;exact(show Xy _ _ _ _ _ from⟨_,St.le_refl _,⟨rfl,trivial⟩,X2 _⟩))
 rw[if_neg c]
 have c:Vr h=0:=by simpa using c
 have hv:=hv.1 c
 rw[c] at hk
 have hl:=Xe6 h hv.b hv.cl
 clear hv hf c
 generalize Yy h=z at*
 obtain⟨base,⟨ns,es,nn,ne⟩,cs⟩:=h
 simp only[YS] at*
 refine Qze ?_;refine W2_ ?_;refine Qg ?_;refine QR ?_;refine W2_ ?_
 (show AWP Tryz.prog E _ _ _;refine X1 ?_;exact(show Xy _ _ _ _ _ from⟨_,St.le_refl _,⟨rfl,trivial⟩,X2 _⟩))
end Go.Fw
