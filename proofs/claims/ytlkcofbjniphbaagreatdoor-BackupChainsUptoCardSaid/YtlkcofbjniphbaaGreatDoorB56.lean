/- Plain laws: numbers read back, and their only encodings. -/
import Derived.Test.YtlkcofbjniphbaaGreatDoorB44
import Derived.Test.YtlkcofbjniphbaaGreatDoorB46
set_option maxHeartbeats 32000000
namespace Go.Fw
open Go
set_option linter.unusedVariables false
theorem Xcm:∀{m:List UInt8},X1r m→big m (m.length-1)∧∃c,m[m.length-1]? =some c∧c.toNat<128∧(1<m.length→c≠0)
 |[c],h=>⟨fun j hj=>by simp at hj,c,rfl,h,fun h=>by simp at h⟩
 |b::c::m,h=>by
  obtain⟨h1,x,h2,h3,h4⟩:=Xcm h.2.1
  refine⟨fun j hj=> ?_,x,by simpa using h2,h3,fun _ e=> ?_⟩
  ·cases j with
   |zero=>exact⟨b,rfl,h.1⟩
   |succ j=>simpa using h1 j (by simp at hj ⊢;omega)
  ·by_cases hm:m=[]
   ·subst hm;simp at h2;subst h2;subst e;exact h.2.2 rfl
   ·refine h4 (by cases m with|nil=>exact absurd rfl hm|cons _ _=>simp) e
theorem XpI {m:List UInt8}{c:UInt8} (h:X1r m) (hl:m.length=10) (hn:Yb m<18446744073709551616) (hc:m[9]? =some c):c.toNat≤1:=by
 obtain⟨_,x,hx,h128,_⟩:=Xcm h
 rw[hl,hc] at hx;cases hx
 have:=X4z m 9 c hc
 rw[List.take_of_length_le (by omega)] at this
 have h9:(2:Nat)^(7*9)=9223372036854775808:=rfl
 rw[this,h9] at hn
 omega
theorem Xgu {m back:List UInt8} (h:X1r m) (hn:Yb m<18446744073709551616) (front:List UInt8):
  Ye (front++m++back) front.length=(Yb m,(front.length:Int)+m.length,0)∧V1 (front++m++back) front.length=false:=by
 obtain⟨hb,c,hc,h128,h0⟩:=Xcm h
 have hlen:=Xbq 10 h (Nat.lt_of_lt_of_le hn (by decide)) (by omega)
 have hpos:0<m.length:=by cases m with|nil=>exact h.elim|cons _ _=>simp
 have hd:(front++m++back).drop (front.length:Int).toNat=m++back:=by rw[Int.toNat_natCast,List.append_assoc,List.drop_left]
 have hc':(m++back)[m.length-1]? =some c:=by rw[List.getElem?_append_left (by omega)];exact hc
 have hm:YY (m++back)=m.length-1:=X8r (fun j hj=>by
  obtain⟨b,h1,h2⟩:=hb j hj
  exact⟨b,by rw[List.getElem?_append_left (by omega)];exact h1,h2⟩) hc' h128 (by omega)
 constructor
 ·unfold Ye
  rw[if_neg (by simp;omega)]
  simp only[hd,hm]
  rw[if_neg (by omega),if_neg (by simp;omega),if_neg (by
   rintro⟨e,h1⟩
   rw[hc'] at h1
   have:=XpI h (by omega) hn (c:=c) (by rw[←e];exact hc)
   simp at h1;omega)]
  rw[show m.length-1+1=m.length by omega,List.take_left]
  refine Prod.ext rfl (Prod.ext ?_ rfl)
  simp only;omega
 ·unfold V1
  simp only[hd,hm,hc',Option.getD_some]
  by_cases h1:m.length=1
  ·simp[h1]
  ·have:=h0 (by omega)
   simp[this]
theorem X8y {n:Int} (h:0≤n∧n≤9223372036854775807) (front back:List UInt8):
  Xz (front++Xm n++back) front.length=(n,(front.length:Int)+(Xm n).length,0):=by
 obtain⟨h1,h2,_⟩:=XcG n.toNat
 rw[X1j h.1]
 obtain⟨h3,h4⟩:=Xgu (m:=vS n.toNat) (back:=back) h1 (by omega) front
 unfold Xz
 rw[h3,h4,h2]
 simp only[ne_eq,not_true_eq_false,if_false,Bool.false_eq_true]
 rw[if_neg (by omega)]
 refine Prod.ext ?_ rfl
 simp only;omega
theorem XqX {n:Int}:zag (zig n)=n:=by
 unfold zig zag
 split<;>split<;>omega
theorem Xbf {n:Int} (h: -9223372036854775808≤n∧n≤9223372036854775807) (front back:List UInt8):
  XW (front++YK n++back) front.length=(n,(front.length:Int)+(YK n).length,0):=by
 obtain⟨h1,h2,_⟩:=XcG (zig n)
 obtain⟨h3,h4⟩:=Xgu (m:=vS (zig n)) (back:=back) h1 (by rw[h2];exact XgS h) front
 unfold XW YK
 rw[h3,h4,h2]
 simp[XqX]
theorem XfX {s:List UInt8}{most:Int} (hs:(s.length:Int)≤9223372036854775807) (hm:(s.length:Int)≤most) (front back:List UInt8):
  U2 (front++XX s++back) front.length most=(s,(front.length:Int)+(XX s).length,0):=by
 have h1:=X8y (n:=s.length) ⟨by omega,hs⟩ front (s++back)
 have e:front++XX s++back=front++Xm s.length++(s++back):=by simp[XX]
 unfold U2
 rw[e,h1]
 simp only[ne_eq,not_true_eq_false,if_false]
 rw[if_neg (by omega),if_neg (by simp only[List.length_append];omega)]
 have e2:((front.length:Int)+((Xm (s.length:Int)).length:Int)).toNat=(front++Xm s.length).length:=by simp only[List.length_append];omega
 refine Prod.ext ?_ (Prod.ext ?_ rfl)
 ·simp only[e2,List.drop_left,Int.toNat_natCast,List.take_left]
 ·simp only[XX,List.length_append];omega
theorem Xn9 {s:List UInt8} (hs:(s.length:Int)≤9223372036854775807) (front back:List UInt8):
  UZ (front++YM s++back) front.length=(s,(front.length:Int)+(YM s).length,0):=by
 have h1:=X8y (n:=s.length) ⟨by omega,hs⟩ front (s++Vq s++back)
 have e:front++YM s++back=front++Xm s.length++(s++Vq s++back):=by simp[YM]
 have h4:=X2W s
 unfold UZ
 rw[e,h1]
 simp only[ne_eq,not_true_eq_false,if_false]
 rw[if_neg (by simp only[List.length_append];omega)]
 have e2:((front.length:Int)+((Xm (s.length:Int)).length:Int)).toNat=(front++Xm s.length).length:=by simp only[List.length_append];omega
 have e3:((front.length:Int)+((Xm (s.length:Int)).length:Int)+(s.length:Int)).toNat=(front++Xm s.length++s).length:=by simp only[List.length_append];omega
 have e4:(List.drop (front++Xm (s.length:Int)).length (front++Xm (s.length:Int)++(s++Vq s++back))).take s.length=s:=by rw[List.drop_left,List.append_assoc,List.take_left]
 have e5:X0s (front++Xm (s.length:Int)++(s++Vq s++back)) (front++Xm s.length++s).length=YE s:=by
  have:=XhN (p:=front++Xm s.length++s) (q:=back) s
  rwa [show front++Xm (s.length:Int)++s++Vq s++back=front++Xm (s.length:Int)++(s++Vq s++back) by simp] at this
 rw[e2,e3,Int.toNat_natCast,e4,e5]
 simp only[not_true_eq_false,if_false]
 refine Prod.ext rfl (Prod.ext ?_ rfl)
 simp only[YM,List.length_append,h4];omega
theorem XeT {m:Nat}{n d:Int}{s:List UInt8}{l:List Val} (h:Xe m (.mk 8 n d s l)=true):l.length≤64∧1≤m∧Vy (m-1) l=true:=by
 rw[Xe] at h
 simp at h
 exact⟨h.2.1.2.1,by omega,h.2.2⟩
def X3I (b:List UInt8) (g:Int→Val×Int×Int) (x:Val):Prop:=
 ∀front back:List UInt8,front++Y3 x++back=b→g front.length=(x,(front.length:Int)+(Y3 x).length,0)
theorem Xey {g:Nat→Int→Val×Int×Int}{b front back:List UInt8}{l:List Val} (hb:front++YF l++back=b) (hg:∀(j:Nat) (x:Val),l[j]? =some x→X3I b (g j) x):
  ∀j,j≤l.length→Y8 g front.length j=(l.take j,(front.length:Int)+(YF (l.take j)).length,0)
 |0,_=>by simp[Y8,YF]
 |j+1,hj=>by
  have ih:=Xey hb hg j (by omega)
  obtain⟨x,hx⟩:=XI (l:=l) (k:=j) (by omega)
  have hsp:l=l.take j++x::l.drop (j+1):=by
   rw[←(List.getElem?_eq_some_iff.1 hx).2,←List.drop_eq_getElem_cons,List.take_append_drop]
  have hbk:=hg j x hx (front++YF (l.take j)) (YF (l.drop (j+1))++back) (by
   rw[←hb]
   conv=>rhs;rw[hsp,X8f,YF]
   simp only[List.append_assoc])
  rw[X30 (by rw[ih]),ih]
  simp only
  rw[List.length_append,Int.natCast_add] at hbk
  rw[hbk]
  have ht:l.take (j+1)=l.take j++[x]:=by rw[List.take_add_one,hx];rfl
  rw[ht,X8f]
  simp only[YF,List.append_nil,List.length_append,Int.natCast_add]
  rw[Int.add_assoc]
theorem Xnl {k:Int} (h:0≤k∧k≤8):(((UInt8.ofNat k.toNat).toNat:Nat):Int)=k:=by
 rw[X0k (by omega)];omega
theorem XgC {m:Nat}{k n d:Int}{s:List UInt8}{l:List Val} (h:Xe m (.mk k n d s l)=true):0≤k∧k≤8:=by
 rw[Xe] at h
 by_cases h0:k=0
 ·omega
 by_cases h1:k=1
 ·omega
 by_cases h2:k=2
 ·omega
 by_cases h3:k=3
 ·omega
 by_cases h4:k=4
 ·omega
 by_cases h5:k=5∨k=6
 ·omega
 by_cases h7:k=7
 ·omega
 by_cases h8:k=8
 ·omega
 simp[h0,h1,h2,h3,h4,h5,h7,h8] at h
theorem XkQ {m:Nat}{k n d:Int}{s:List UInt8}{l:List Val} (hv:Xe m (.mk k n d s l)=true) {b front back:List UInt8}{gl gp:Nat→Int→Val×Int×Int}
  (hb:front++Y3 (.mk k n d s l)++back=b) (hgl:k=8→∀(j:Nat) (x:Val),l[j]? =some x→X3I b (gl j) x) (hgp:k=7→∀(j:Nat) (x:Val),l[j]? =some x→X3I b (gp j) x):
  YU gl gp b ((front.length:Int)+1) k=(.mk k n d s l,(front.length:Int)+(Y3 (.mk k n d s l)).length,0):=by
 have hk:=XgC hv
 rw[Y3] at hb ⊢
 have hfl:((front.length:Int)+1)=((front++[UInt8.ofNat k.toNat]).length:Nat):=by simp
 rw[hfl]
 have hb':∀w,front++UInt8.ofNat k.toNat::w++back=(front++[UInt8.ofNat k.toNat])++w++back:=fun w=>by simp
 rw[hb'] at hb
 have hlen:∀w:List UInt8,((front.length:Int)+((UInt8.ofNat k.toNat::w).length:Nat))=(((front++[UInt8.ofNat k.toNat]).length:Nat):Int)+w.length:=fun w=>by simp;omega
 rw[hlen]
 generalize front++[UInt8.ofNat k.toNat]=F at*
 clear hfl hb' hlen
 rw[Xe] at hv
 unfold YU
 by_cases h1:k=1∨k=2∨k=5∨k=6
 ·rw[if_pos h1] at hb ⊢
  have hz:d=0∧s=[]∧l=[]∧ -9223372036854775808≤n∧n≤9223372036854775807:=by
   rcases h1 with rfl|rfl|rfl|rfl<;>simp at hv<;>refine⟨hv.1.1.1,hv.1.1.2,hv.1.2,?_⟩<;>omega
  obtain⟨rfl,rfl,rfl,hn⟩:=hz
  have:=Xbf hn F back
  rw[hb] at this
  rw[if_pos h1,this]
 rw[if_neg h1] at hb ⊢
 rw[if_neg h1]
 by_cases h3:k=3
 ·subst h3
  rw[if_pos rfl] at hb ⊢
  rw[if_pos rfl]
  have hz:(s=[]∧l=[])∧(-9223372036854775808≤n∧n≤9223372036854775807)∧ -9223372036854775808≤d∧d≤9223372036854775807:=by simp[X0z] at hv;exact⟨⟨hv.1.1,hv.1.2⟩,by omega,by omega⟩
  obtain⟨⟨rfl,rfl⟩,hn,hd⟩:=hz
  have e1:=Xbf hn F (YK d++back)
  have e2:=Xbf hd (F++YK n) back
  rw[show F++YK n++(YK d++back)=b by rw[←hb];simp] at e1
  rw[show F++YK n++YK d++back=b by rw[←hb];simp,List.length_append,Int.natCast_add] at e2
  rw[e1]
  simp only
  rw[if_neg (by simp),e2]
  simp only[List.length_append,Int.natCast_add,Int.add_assoc]
 rw[if_neg h3] at hb ⊢
 rw[if_neg h3]
 by_cases h4:k=4
 ·subst h4
  rw[if_pos rfl] at hb ⊢
  rw[if_pos rfl]
  have hz:n=0∧d=0∧l=[]∧s.length≤100:=by simp at hv;exact⟨hv.2.1.1,hv.1.1,hv.1.2,hv.2.1.2⟩
  obtain⟨rfl,rfl,rfl,hs⟩:=hz
  have:=XfX (s:=s) (most:=100) (by omega) (by omega) F back
  rw[hb] at this
  rw[this]
 rw[if_neg h4] at hb ⊢
 rw[if_neg h4]
 by_cases h7:k=7∨k=8
 ·rw[if_pos h7] at hb ⊢
  rw[if_pos h7]
  have hz:n=0∧d=0∧s=[]∧Vv k l.length=false∧l.length≤64:=by
   rcases h7 with rfl|rfl
   ·simp at hv
    exact⟨hv.2.1.1,hv.1.1,hv.1.2,by simp[Vv];omega,by omega⟩
   ·simp at hv
    exact⟨hv.2.1.1,hv.1.1,hv.1.2,by simp[Vv];omega,by omega⟩
  obtain⟨rfl,rfl,rfl,hcb,hl⟩:=hz
  have e1:=X8y (n:=l.length) ⟨by omega,by omega⟩ F (YF l++back)
  rw[show F++Xm l.length++(YF l++back)=b by rw[←hb];simp] at e1
  rw[e1]
  simp only
  rw[if_neg (by simp),hcb,if_neg (by simp),Int.toNat_natCast]
  have hall:∀(j:Nat) (x:Val),l[j]? =some x→X3I b ((if k=8 then gl else gp) j) x:=by
   intro j x hx
   by_cases h8:k=8
   ·rw[if_pos h8];exact hgl h8 j x hx
   ·rw[if_neg h8];exact hgp (by omega) j x hx
  have e2:=Xey (g:=if k=8 then gl else gp) (b:=b) (front:=F++Xm l.length) (back:=back) (l:=l) (by rw[←hb];simp) hall l.length (Nat.le_refl _)
  rw[List.take_length,List.length_append,Int.natCast_add] at e2
  rw[e2]
  simp only[List.length_append,Int.natCast_add,Int.add_assoc]
 rw[if_neg h7] at hb ⊢
 rw[if_neg h7]
 have h0:k=0:=by omega
 subst h0
 simp at hv
 obtain⟨⟨⟨rfl,rfl⟩,rfl⟩,rfl⟩:=hv
 simp
theorem XgN {m:Nat}{k n d:Int}{s:List UInt8}{l:List Val} (hv:Xe m (.mk k n d s l)=true) (hm:m≤8) {want:Int} (hw:want=0∨want=k) {b front back:List UInt8}{gl gp:Nat→Int→Val×Int×Int}
  (hb:front++Y3 (.mk k n d s l)++back=b) (hgl:k=8→∀(j:Nat) (x:Val),l[j]? =some x→X3I b (gl j) x) (hgp:k=7→∀(j:Nat) (x:Val),l[j]? =some x→X3I b (gp j) x):
  Vm gl gp m b front.length want=(.mk k n d s l,(front.length:Int)+(Y3 (.mk k n d s l)).length,0):=by
 have hk:=XgC hv
 have hc:=XkQ hv hb hgl hgp
 have hv8:=Xa6 _ m 8 hm hv
 have hget:b[front.length]? =some (UInt8.ofNat k.toNat):=by rw[←hb,Y3];simp
 have hlt:front.length<b.length:=(List.getElem?_eq_some_iff.1 hget).1
 have hm8:k=8→m≠0:=by
  rintro rfl rfl
  have:=(XeT hv).2.1
  omega
 unfold Vm
 rw[if_neg (by omega),Int.toNat_natCast,hget,Option.getD_some]
 simp only
 rw[Xnl hk,if_neg (by omega),hc]
 simp only
 rw[if_neg (fun h=>by rw[hv8] at h;exact absurd h.2 (by decide))]
theorem XkG {b:List UInt8}{i:Nat}{x:Val} (hv:Xe 0 x=true) (hk:x.kind=5+(i%2:Nat)):X3I b (VK b i) x:=by
 obtain⟨k,n,d,s,l⟩:=x
 simp only[Val.kind] at hk
 intro front back hb
 unfold VK X53
 exact XgN hv (by omega) (.inr hk.symm) hb (fun h=>by omega) (fun h=>by omega)
theorem XhJ:∀{l:List Val}{i j:Nat}{x:Val},Vg i l=true→l[j]? =some x→x.kind=5+((i+j)%2:Nat)∧Xe 0 x=true
 |[],_,_,_,_,h=>by simp at h
 |v::r,i,0,x,hp,h=>by
  rw[Vg,Bool.and_eq_true,Bool.and_eq_true] at hp
  simp at h
  subst h
  exact⟨of_decide_eq_true hp.1.1,hp.1.2⟩
 |v::r,i,j+1,x,hp,h=>by
  rw[Vg,Bool.and_eq_true,Bool.and_eq_true] at hp
  have:=XhJ hp.2 (j:=j) (x:=x) (by simpa using h)
  rwa [show i+1+j=i+(j+1) by omega] at this
theorem Xrw {m:Nat}{n d:Int}{s:List UInt8}{l:List Val} (h:Xe m (.mk 7 n d s l)=true):Vg 0 l=true:=by
 rw[Xe] at h
 simp at h
 exact h.2.2
theorem XhU {b:List UInt8}:∀(v:Val) (m:Nat),Xe m v=true→m≤8→X3I b (X0t b m) v
 | .mk k n d s l,m,hv,hm=>by
  intro front back hb
  rw[X2I]
  refine XgN hv hm (.inl rfl) hb (fun h8 j x hx=> ?_) (fun h7 j x hx=> ?_)
  ·subst h8
   obtain⟨_,hm1,hl⟩:=XeT hv
   cases m with
   |zero=>omega
   |succ m'=>exact XhU x m' (X9O hl (List.mem_of_getElem? hx)) (by omega)
  ·subst h7
   have hp:=XhJ (Xrw hv) hx
   rw[Nat.zero_add] at hp
   exact XkG hp.2 hp.1
termination_by v=>SizeOf.sizeOf v
decreasing_by
 have h1:=List.sizeOf_lt_of_mem (List.mem_of_getElem? hx)
 simp only[Val.mk.sizeOf_spec]
 omega
theorem Xm3 {v:Val} (hv:Xe 8 v=true) (front back:List UInt8):Ug (front++YN v++back) front.length=(v,(front.length:Int)+(YN v).length,0):=by
 rw[show YN v=Y3 v by unfold YN;rw[hv];rfl]
 have h:=XhU (b:=front++Y3 v++back) v 8 hv (by omega) front back rfl
 unfold Ug
 rw[if_neg (by simp;omega),h]
 rfl
set_option linter.unusedSimpArgs false
theorem Xpw {b:List UInt8}{q:Nat}{k limit:Int}{w:List UInt8} (h:At b q (UInt8.ofNat k.toNat::w)) (hk:1≤k∧k≤limit∧k≤255):rkI b q 0 limit=(k,((q+1:Nat):Int),0):=by
 obtain⟨h1,h2⟩:=h.cons
 have hlt:=(List.getElem?_eq_some_iff.1 h1).1
 unfold rkI rkS
 rw[if_neg (by simp),if_neg (by simp),Int.toNat_natCast,if_neg (by omega),h1,Option.getD_some,X0k (by omega),if_neg (by omega)]
 simp only[Prod.mk.injEq,and_true]
 constructor
 ·omega
 ·omega
theorem X9b {b:List UInt8}{q:Nat}{n:Int}{w:List UInt8} (h:At b q (Xm n++w)) (hn:0≤n∧n≤9223372036854775807):rnS b q 0=(n,((q+(Xm n).length:Nat):Int),0):=by
 obtain⟨h1,h2⟩:=h.split
 have:=X8y hn (b.take q) w
 rw[X7o]
 rw[←h1,h2] at this
 rw[this]
 simp
theorem Xfv {b:List UInt8}{q:Nat}{s:List UInt8}{w:List UInt8} (h:At b q (XX s++w)) (hn:s.length≤20):rsS b q 0=(s,((q+(XX s).length:Nat):Int),0):=by
 obtain⟨h1,h2⟩:=h.split
 have:=XfX (s:=s) (most:=20) (by omega) (by omega) (b.take q) w
 rw[Xb0]
 rw[←h1,h2] at this
 rw[this]
 simp
theorem Xru {b:List UInt8}{q:Nat}{v:Val}{w:List UInt8} (h:At b q (YN v++w)) (hv:Xe 8 v=true):rvS b q 0=(v,((q+(YN v).length:Nat):Int),0):=by
 obtain⟨h1,h2⟩:=h.split
 have:=Xm3 hv (b.take q) w
 rw[Xai]
 rw[←h1,h2] at this
 rw[this]
 simp
theorem XnN {v:Val} (h:Um v=true):v=zV:=by
 obtain⟨k,n,d,s,l⟩:=v
 unfold Um at h
 rw[Bool.and_eq_true] at h
 obtain⟨h1,h0⟩:=h
 obtain rfl:k=0:=of_decide_eq_true h0
 rw[Xe] at h1
 simp at h1
 obtain⟨⟨⟨h2,h3⟩,h4⟩,h5⟩:=h1
 subst h2;subst h3;subst h4;subst h5
 rfl
theorem XoG {c:Chg} (h:YJ c=0):(c.op≠6→c.src=0∧c.dst=0)∧(Yo c.op=false→c.name=[])∧(Yi c.op=false→c.v=zV):=by
 unfold YJ at h
 split at h
 ·omega
 rename_i h1
 split at h
 ·omega
 rename_i h2
 split at h
 ·omega
 rename_i h3
 refine⟨fun hk=>⟨?_,?_⟩,fun hn=> ?_,fun hv=> ?_⟩
 ·by_cases he:c.src=0
  ·exact he
  ·exact absurd (.inr ⟨hk,.inl he⟩) h2
 ·by_cases he:c.dst=0
  ·exact he
  ·exact absurd (.inr ⟨hk,.inr he⟩) h2
 ·by_cases he:c.name=[]
  ·exact he
  ·exact absurd (.inl ⟨hn,he⟩) h3
 ·refine XnN ?_
  cases hz:Um c.v with
  |true=>rfl
  |false=>exact absurd (.inr ⟨hv,hz⟩) h3
theorem XkI {b:List UInt8}{q:Nat}{c:Chg}{w:List UInt8} (hc:YJ c=0) (h:At b q (YP c++w)):UP b q 0=(c,((q+(YP c).length:Nat):Int),0)∧At b (q+(YP c).length) w:=by
 refine⟨?_,h.step⟩
 obtain⟨o1,o2,o3,o4,o5⟩:=X7X hc
 obtain⟨z1,z2,z3⟩:=XoG hc
 obtain⟨op,id,src,dst,name,v⟩:=c
 simp only at o1 o2 o3 o4 o5 z1 z2 z3
 have hput:YP ⟨op,id,src,dst,name,v⟩=UInt8.ofNat op.toNat::(Xm id++((if op=6 then Xm src++Xm dst else [])++((if Yo op=true then XX name else [])++(if Yi op=true then YN v else [])))):=by
  unfold YP;simp only[List.append_assoc]
 rw[hput] at h ⊢
 rw[List.cons_append] at h
 have k1:=Xpw h (limit:=8) (by omega)
 have h1:=h.cons.2
 rw[List.append_assoc] at h1
 have k2:=X9b h1 (by omega)
 have h2:=h1.step
 unfold UP
 rw[k1]
 simp only
 rw[k2]
 simp only
 by_cases h6:op=6
 ·subst h6
  have s3:=o3 rfl
  have hn:=o4 rfl
  have hv:=z3 rfl
  subst hv
  simp only[if_true,show Yo 6=true by decide,show Yi 6=false by decide,Bool.false_eq_true,if_false,List.append_nil] at h2 ⊢
  rw[List.append_assoc,List.append_assoc] at h2
  have k3:=X9b h2 (by omega)
  have h3:=h2.step
  have k4:=X9b h3 (by omega)
  have h4:=h3.step
  have k5:=Xfv h4 hn
  rw[k3]
  simp only
  rw[k4]
  simp only
  rw[k5]
  simp only[Prod.mk.injEq,true_and,and_true,List.length_cons,List.length_append]
  omega
 ·have z1:=z1 h6
  obtain⟨rfl,rfl⟩:=z1
  simp only[if_neg h6,List.nil_append] at h2 ⊢
  by_cases hn:Yo op=true
  ·simp only[if_pos hn] at h2 ⊢
   rw[List.append_assoc] at h2
   have k5:=Xfv h2 (o4 hn)
   have h3:=h2.step
   rw[k5]
   simp only
   by_cases hv:Yi op=true
   ·simp only[if_pos hv] at h3 ⊢
    have k6:=Xru h3 (o5 hv).1
    rw[k6]
    simp only[Prod.mk.injEq,true_and,and_true,List.length_cons,List.length_append]
    omega
   ·simp only[if_neg hv,List.append_nil] at h3 ⊢
    have:=z3 (by simpa using hv)
    subst this
    simp only[Prod.mk.injEq,true_and,and_true,List.length_cons,List.length_append]
    omega
  ·have hv:¬Yi op=true:=by revert hn;unfold Yo Yi;simp;omega
   simp only[if_neg hn,if_neg hv,List.append_nil,List.nil_append] at h2 ⊢
   have e1:=z2 (by simpa using hn)
   have e2:=z3 (by simpa using hv)
   subst e1
   subst e2
   simp only[Prod.mk.injEq,true_and,and_true,List.length_cons,List.length_append]
   omega
def X1s {α:Type} (ok:α→Prop) (w:α→List UInt8) (f:Rd→α×Rd):Prop:=
 ∀(s:Rd) (q:Nat) (x:α) (t:List UInt8),ok x→s.e=0→s.a=q→At s.c q (w x++t)→f s=(x,⟨s.k,s.c,((q+(w x).length:Nat):Int),0⟩)
theorem XiC {α:Type}{z:α}{f:List UInt8→Int→α×Int×Int}{ok:α→Prop}{w:α→List UInt8}
  (h:∀(c:List UInt8) (q:Nat) (x:α) (t:List UInt8),ok x→At c q (w x++t)→f c q=(x,((q+(w x).length:Nat):Int),0)):X1s ok w (Vc z f):=by
 intro s q x t hx he ha hat
 unfold Vc
 rw[if_neg (by simp[he]),ha,h s.c q x t hx hat]
 rfl
theorem XhX {α:Type}{f:Rd→α×Rd}{ok:α→Prop}{w:α→List UInt8} (hf:X1s ok w f):∀(l:List α) (s:Rd) (q:Nat) (t:List UInt8),(∀x∈l,ok x)→s.e=0→s.a=q→
  At s.c q ((l.map w).flatten++t)→Y2 f l.length s=(l,⟨s.k,s.c,((q+(l.map w).flatten.length:Nat):Int),0⟩)
 |[],s,q,t,_,he,ha,hat=>by
  obtain⟨k,c,a,e⟩:=s
  simp only at he ha
  subst he ha
  rfl
 |x::r,s,q,t,hx,he,ha,hat=>by
  have hat':At s.c q (w x++((r.map w).flatten++t)):=by simpa using hat
  have h1:=hf s q x _ (hx x (by simp)) he ha hat'
  have h2:=XhX hf r ⟨s.k,s.c,((q+(w x).length:Nat):Int),0⟩ (q+(w x).length) t (fun y hy=>hx y (by simp[hy])) rfl rfl hat'.step
  rw[List.length_cons,Y2,if_neg (by simp[he]),h1]
  simp only
  rw[h2]
  simp only[List.map_cons,List.flatten_cons,List.length_append,Nat.add_assoc]
theorem XrE {α β:Type}{f:Rd→α×Rd}{g:α→Rd→β×Rd}{ok:α→Prop}{ok':α→β→Prop}{w:α→List UInt8}{w':β→List UInt8} (hf:X1s ok w f) (hg:∀x,X1s (ok' x) w' (g x)):
  X1s (fun p:α×β=>ok p.1∧ok' p.1 p.2) (fun p=>w p.1++w' p.2) (X1z f g):=by
 rintro s q ⟨x,y⟩ t ⟨hx,hy⟩ he ha hat
 rw[List.append_assoc] at hat
 have h1:=hf s q x _ hx he ha hat
 unfold X1z
 rw[h1]
 simp only
 rw[hg x ⟨s.k,s.c,((q+(w x).length:Nat):Int),0⟩ (q+(w x).length) y t hy rfl rfl hat.step]
 simp only[List.length_append,Nat.add_assoc]
theorem XaH:X1s okN Xm XL:=XiC fun c q x t hx h=>by have:=X9b h hx;rwa [X7o] at this
theorem Xrm {α:Type}{f:Rd→α×Rd}{ok:α→Prop}{w:α→List UInt8} (hf:X1s ok w f):X1s (fun l=>(∀x∈l,ok x)∧l.length≤9223372036854775807) (Vw w) (YG f):=by
 rintro s q l t ⟨hx,hl⟩ he ha hat
 unfold Vw at hat ⊢
 rw[List.append_assoc] at hat
 have h1:=XaH s q (l.length:Nat) _ ⟨by omega,by omega⟩ he ha hat
 unfold YG
 rw[h1]
 simp only[Int.toNat_natCast]
 rw[XhX hf l ⟨s.k,s.c,((q+(Xm l.length).length:Nat):Int),0⟩ (q+(Xm l.length).length) t hx rfl rfl hat.step]
 simp only[List.length_append,Nat.add_assoc]
theorem Xm7 {b t c:List UInt8}{s:Rd} (he:s.e=0) (h:b.drop s.k=YM c++t) (hc:(c.length:Int)≤9223372036854775807):Yu b s=⟨s.k+(YM c).length,c,0,0⟩:=by
 have:=Xn9 hc [] t
 simp only[List.nil_append,List.length_nil] at this
 unfold Yu
 rw[if_neg (by simp[he]),h]
 have h0:((0:Nat):Int)=0:=rfl
 rw[h0] at this
 simp only[this,if_true]
 congr 1
 omega
theorem Xgt {α:Type}{f:Rd→α×Rd}{ok:α→Prop}{w:α→List UInt8} (hf:X1s ok w f) {b t:List UInt8}{s:Rd}{x:α} (hx:ok x) (hl:((w x).length:Int)≤9223372036854775807) (he:s.e=0) (h:b.drop s.k=YM (w x)++t):
  Ys b f s=(x,⟨s.k+(YM (w x)).length,w x,(w x).length,0⟩):=by
 unfold Ys
 rw[Xm7 he h hl]
 have:=hf ⟨s.k+(YM (w x)).length,w x,0,0⟩ 0 x [] hx rfl rfl ⟨by simp,by simp⟩
 simp only[this]
 unfold UJ
 rw[if_neg (by simp)]
 simp
theorem Xio {α:Type}{f:Rd→α×Rd}{ok:α→Prop}{w:α→List UInt8} (hf:X1s ok w f) {b:List UInt8}:∀(l:List α) (t:List UInt8) (s:Rd),(∀x∈l,ok x∧((w x).length:Int)≤9223372036854775807)→s.e=0→s.k≤b.length→b.drop s.k=Yz (l.map w)++t→
  ∃s',Y2 (Ys b f) l.length s=(l,s')∧s'.e=0∧s'.k≤b.length∧b.drop s'.k=t
 |[],t,s,_,he,hk,h=>⟨s,rfl,he,hk,by simpa [Yz] using h⟩
 |x::r,t,s,hx,he,hk,h=>by
  have h':b.drop s.k=YM (w x)++(Yz (r.map w)++t):=by simpa [Yz] using h
  have h1:=Xgt hf (hx x (by simp)).1 (hx x (by simp)).2 he h'
  have hd:b.drop (s.k+(YM (w x)).length)=Yz (r.map w)++t:=by rw[←List.drop_drop,h',List.drop_left]
  have hlen:s.k+(YM (w x)).length≤b.length:=by
   have:=congrArg List.length h'
   simp only[List.length_drop,List.length_append] at this
   omega
  obtain⟨s',h2,h3,h4,h5⟩:=Xio hf r t ⟨s.k+(YM (w x)).length,w x,(w x).length,0⟩ (fun y hy=>hx y (by simp[hy])) rfl hlen hd
  refine⟨s',?_,h3,h4,h5⟩
  rw[List.length_cons,Y2,if_neg (by simp[he]),h1]
  simp only
  rw[h2]
def atG (h:Hist) (ts:Int):Gra:=(YV h.g (h.cs.take (ts-h.base).toNat)).1
def atS (h:Hist) (ts:Int):Gra:=if YZ h ts≠0 then YL else atG h ts
theorem XcK:∀(a b:List Cmt) (g:Gra),YV g (a++b)=if (YV g a).2≠0 then (YL,(YV g a).2) else YV (YV g a).1 b
 |[],b,g=>by simp[YV]
 |c::r,b,g=>by
  rw[List.cons_append,YV,YV]
  by_cases q:(Yd g c.l).2.2≠0
  ·rw[if_pos q,if_pos q,if_pos q]
  ·rw[if_neg q,if_neg q,XcK r b]
theorem Xaf {l:List Cmt}{g:Gra} (h:(YV g l).2=0) (n:Nat):(YV g (l.take n)).2=0:=by
 have e:=XcK (l.take n) (l.drop n) g
 rw[List.take_append_drop] at e
 by_cases q:(YV g (l.take n)).2=0
 ·exact q
 ·rw[if_pos q] at e;rw[e] at h;exact absurd h q
theorem Xje {l:List Cmt}{g:Gra} (h:(YV g l).2=0) (n:Nat):YV (YV g (l.take n)).1 (l.drop n)=YV g l:=by
 have e:=XcK (l.take n) (l.drop n) g
 rw[List.take_append_drop,if_neg (by simp[Xaf h n])] at e
 exact e.symm
theorem Xc0:∀(l:List Cmt) (g:Gra),GV g→(YV g l).2=0→GV (YV g l).1
 |[],g,h,_=>h
 |c::r,g,h,hs=>by
  rw[YV] at hs ⊢
  by_cases q:(Yd g c.l).2.2≠0
  ·rw[if_pos q] at hs;exact absurd hs q
  ·rw[if_neg q] at hs ⊢
   exact Xc0 r _ (X8O (by simpa using q)) hs
theorem XiP:∀(a b:List Chg) (g:Gra) (k:Nat),Ur g k (a++b)=if (Ur g k a).2.2≠0 then Ur g k a else Ur (Ur g k a).1 (k+a.length) b
 |[],b,g,k=>by simp[Ur]
 |c::r,b,g,k=>by
  rw[List.cons_append,Ur,Ur]
  by_cases q:(YD g c).2≠0
  ·rw[if_pos q,if_pos q,if_pos q]
  ·rw[if_neg q,if_neg q,XiP r b]
   have e:k+1+r.length=k+(c::r).length:=by rw[List.length_cons];omega
   rw[e]
theorem Xau:∀(l:List Chg) (g:Gra) (k:Nat),(Ur g k l).1=(Ur g 0 l).1∧(Ur g k l).2.2=(Ur g 0 l).2.2
 |[],g,k=>⟨rfl,rfl⟩
 |c::r,g,k=>by
  rw[Ur,Ur]
  by_cases q:(YD g c).2≠0
  ·rw[if_pos q,if_pos q];exact⟨rfl,rfl⟩
  ·rw[if_neg q,if_neg q]
   have h1:=Xau r (YD g c).1 (k+1)
   have h2:=Xau r (YD g c).1 (0+1)
   exact⟨h1.1.trans h2.1.symm,h1.2.trans h2.2.symm⟩
theorem Xel {g:Gra} (h:YH g=0):Yd g []=(g,0,0):=by
 unfold Yd;rw[if_neg (by simp[h])];rfl
theorem Xnh {g:Gra}{a b:List Chg} (hg:GV g) (h:(Yd g a).2.2=0):(Yd g (a++b)).1=(Yd (Yd g a).1 b).1∧(Yd g (a++b)).2.2=(Yd (Yd g a).1 b).2.2:=by
 have h':=X8O h
 have e0:=X6l hg
 have e1:=X6l h'
 have eA:∀l,Yd g l=Ur g 0 l:=fun l=>by unfold Yd;rw[if_neg (by simp[e0])]
 have eB:∀l,Yd (Yd g a).1 l=Ur (Yd g a).1 0 l:=fun l=>by unfold Yd;rw[if_neg (by rw[←Yd,e1];simp),←Yd]
 rw[eB,eA,eA,XiP]
 rw[eA] at h
 rw[if_neg (by simp[h])]
 exact Xau b _ _
theorem XcN:∀(l:List Cmt) (g:Gra),GV g→(YV g l).2=0→(Yd g (l.map Cmt.l).flatten).1=(YV g l).1∧(Yd g (l.map Cmt.l).flatten).2.2=0
 |[],g,hg,_=>by
  have:=Xel (X6l hg)
  exact⟨by simp[this,YV],by simp[this]⟩
 |c::r,g,hg,h=>by
  rw[YV] at h ⊢
  by_cases q:(Yd g c.l).2.2≠0
  ·rw[if_pos q] at h;exact absurd h q
  ·rw[if_neg q] at h ⊢
   have q':(Yd g c.l).2.2=0:=by simpa using q
   have ih:=XcN r _ (X8O q') h
   have ha:=Xnh (b:=(r.map Cmt.l).flatten) hg q'
   rw[List.map_cons,List.flatten_cons]
   exact⟨ha.1.trans ih.1,ha.2.trans ih.2⟩
theorem XlE {h:Hist}{ts:Int} (v:HV h):YZ h ts=if ts<h.base∨Yy h<ts then 23 else 0:=by
 unfold YZ
 rw[if_neg (by simp[X4p.2 v])]
theorem Xj7 {h:Hist}{ts:Int} (e:YZ h ts=0):atS h ts=atG h ts:=by unfold atS;rw[if_neg (by simp[e])]
theorem Xc7 {h:Hist}{ts:Int} (e:YZ h ts=0):GV (atG h ts):=by
 have v:=(X1Y e).1
 exact Xc0 _ _ v.g (Xaf v.ok _)
theorem XfT {h:Hist} (v:HV h):YZ h (Yy h)=0∧atS h (Yy h)=(YV h.g h.cs).1:=by
 have e:=XlE (ts:=Yy h) v
 rw[if_neg (by unfold Yy;omega)] at e
 refine⟨e,?_⟩
 rw[Xj7 e]
 unfold atG
 rw[List.take_of_length_le (by unfold Yy;omega)]
theorem Xm2:X1s (fun c=>YJ c=0) Up Yr:=XiC fun c q x t hx h=>by
 have hp:Up x=YP x:=if_pos hx
 rw[hp] at h ⊢
 have h1:=(XkI hx h).1
 have hq:=h.le
 unfold Va
 rw[if_neg (by omega)]
 simp only[h1,hx,if_true,ne_eq,not_true_eq_false,if_false]
theorem Xmf:X1s (fun l=>(∀x∈l,YJ x=0)∧l.length≤9223372036854775807) Vf (YG Yr):=Xrm Xm2
theorem XfV {ts:Int}:∀(l:List Cmt) (b:Int),tsV (b+1) l=true→(l.filter fun c=>decide (ts<c.ts))=l.drop (ts-b).toNat
 |[],b,_=>by simp
 |c::r,b,h=>by
  rw[tsV,Bool.and_eq_true,decide_eq_true_eq] at h
  have ih:=XfV (ts:=ts) r (b+1) h.2
  rw[List.filter_cons]
  by_cases q:ts<c.ts
  ·have e1:(ts-b).toNat=0:=by omega
   have e2:(ts-(b+1)).toNat=0:=by omega
   rw[if_pos (by simpa using q),ih,e1,e2,List.drop_zero,List.drop_zero]
  ·have e1:(ts-b).toNat=(ts-(b+1)).toNat+1:=by omega
   rw[if_neg (by simpa using q),ih,e1,List.drop_succ_cons]
theorem XaA {h:Hist}{ts:Int} (v:HV h):X2b h ts=h.cs.drop (ts-h.base).toNat:=XfV h.cs h.base v.ts
theorem Xgb:∀(l:List Cmt) (n:Nat),Ud (l.drop n)≤Ud l
 |[],n=>by simp
 |c::r,0=>by simp
 |c::r,n+1=>by have:=Xgb r n;rw[List.drop_succ_cons,Ud];omega
theorem Xf6:∀(l:List Cmt),(∀c∈l,∀x∈c.l,YJ x=0)→(∀c∈l,c.l.length≤1000000000)→(Yz (l.map fun c=>Vf c.l)).length≤224*Ud l
 |[],_,_=>by simp[Yz]
 |c::r,h,hl=>by
  have ih:=Xf6 r (fun y hy=>h y (by simp[hy])) fun y hy=>hl y (by simp[hy])
  have h1:=X5P (h c (by simp)) (hl c (by simp))
  have h2:=X04 (n:=((Vf c.l).length:Nat)) (by have:=hl c (by simp);omega)
  have h3:=X2W (Vf c.l)
  have e:Yz ((c::r).map fun c=>Vf c.l)=YM (Vf c.l)++Yz (r.map fun c=>Vf c.l):=by simp[Yz]
  rw[e,Ud]
  unfold YM
  simp only[List.length_append]
  omega
theorem Xpk {h:Hist}{ts:Int} (v:HV h) (h0:0≤ts) (h1:ts≤Yy h) (hl:∀c∈h.cs,c.l.length≤1000000000):(X1d h ts).length≤100+224*Ud h.cs:=by
 have hb:=v.b
 have hc:=v.cl
 have hd:=XaA (ts:=ts) v
 have hf:=Xf6 (X2b h ts) (fun c hc=>by rw[hd] at hc;exact X6Z _ _ v.ok c (List.mem_of_mem_drop hc)) fun c hc=>by rw[hd] at hc;exact hl c (List.mem_of_mem_drop hc)
 have ht:Ud (X2b h ts)≤Ud h.cs:=by rw[hd];exact Xgb _ _
 have l0:Yy h≤1000000000001000:=by unfold Yy;omega
 have u0:=X04 (n:=ts) (by omega)
 have u1:=X04 (n:=Yy h) (by unfold Yy;omega)
 have e:X1d h ts=Yn++(YM (Ul [ts,Yy h])++Yz ((X2b h ts).map fun c=>Vf c.l)):=by simp[X1d,X2f,Yz]
 have e2:Ul [ts,Yy h]=Xm ts++Xm (Yy h):=by simp[Ul]
 have h2:=X04 (n:=((Xm ts++Xm (Yy h)).length:Nat)) (by simp only[List.length_append];omega)
 have h3:=X2W (Xm ts++Xm (Yy h))
 have h4:Yn.length=4:=rfl
 rw[e,e2]
 unfold YM
 simp only[List.length_append] at*
 omega
theorem Xkn:X1s (fun p:Int×Int=>okN p.1∧okN p.2) (fun p=>Xm p.1++Xm p.2) (X1z XL fun _=>XL):=XrE XaH fun _=>XaH
theorem Xs4 {h:Hist}{ts:Int} (v:HV h) (h1:h.base≤ts) (h2:ts≤Yy h) (hl:∀c∈h.cs,c.l.length≤1000000000):
  ∃s,X22 (Yz (X2f h ts)) ⟨0,[],0,0⟩=((ts,Yy h,(X2b h ts).map Cmt.l),s)∧s.e=0:=by
 have hb:=v.b
 have hc:=v.cl
 have hd:=XaA (ts:=ts) v
 have l0:Yy h≤1000000000001000:=by unfold Yy;omega
 have hLl:((X2b h ts).map Cmt.l).length=(Yy h-ts).toNat:=by
  rw[List.length_map,hd,List.length_drop]
  unfold Yy at*
  omega
 have hck:∀x∈(X2b h ts).map Cmt.l,((∀c∈x,YJ c=0)∧x.length≤9223372036854775807)∧((Vf x).length:Int)≤9223372036854775807:=by
  intro x hx
  obtain⟨c,hc,rfl⟩:=List.mem_map.1 hx
  rw[hd] at hc
  have hm:=List.mem_of_mem_drop hc
  have hz:=X6Z _ _ v.ok c hm
  have hq:=hl c hm
  have:=X5P hz hq
  exact⟨⟨hz,by omega⟩,by omega⟩
 have hI:Yz (X2f h ts)=YM (Xm ts++Xm (Yy h))++(Yz (((X2b h ts).map Cmt.l).map Vf)++[]):=by
  simp[X2f,Yz,Ul,Function.comp_def]
 generalize (X2b h ts).map Cmt.l=L at*
 generalize Yz (X2f h ts)=b at*
 have u0:=X1H (n:=ts) (by omega)
 have u1:=X1H (n:=Yy h) (by omega)
 have i0:=Xgt Xkn (b:=b) (s:=⟨0,[],0,0⟩) (x:=(ts,Yy h)) (t:=Yz (L.map Vf)++[]) ⟨⟨by simp only;omega,by simp only;omega⟩,⟨by simp only;omega,by simp only;omega⟩⟩ (by simp only[List.length_append];omega) rfl (by rw[List.drop_zero];exact hI)
 have i0:X4U b ⟨0,[],0,0⟩=_:=i0
 unfold X22
 rw[i0]
 simp only
 generalize hW:Xm ts++Xm (Yy h)=W at*
 have k1:0+(YM W).length≤b.length:=by
  have:=congrArg List.length hI
  simp only[List.length_append] at this
  omega
 have d1:b.drop (0+(YM W).length)=Yz (L.map Vf)++[]:=by rw[Nat.zero_add,hI,List.drop_left]
 generalize hs1:(Rd.mk (0+(YM W).length) W (W.length:Nat) 0)=s1
 have e1:s1.e=0:=by rw[←hs1]
 have k1:s1.k≤b.length:=by rw[←hs1];exact k1
 have d1:b.drop s1.k=Yz (L.map Vf)++[]:=by rw[←hs1];exact d1
 have ho:X0h ((ts,Yy h),s1)=s1:=by unfold X0h;rw[if_neg (fun q=>by have:=q.2;simp only at this;omega)]
 obtain⟨s2,r2,e2,k2,d2⟩:=Xio Xmf L [] s1 hck e1 k1 d1
 rw[ho,←hLl,r2]
 refine⟨_,rfl,?_⟩
 simp only
 unfold VU
 have hl:=congrArg List.length d2
 simp only[List.length_drop,List.length_nil] at hl
 rw[if_neg (by omega)]
 exact e2
theorem Xgw {h:Hist}{ts:Int} (e:YZ h ts=0) (hl:∀c∈h.cs,c.l.length≤1000000000) (g:Gra) (t:Int):Vz g t (X1d h ts)=X1T g t (ts,Yy h,(X2b h ts).map Cmt.l) 0:=by
 obtain⟨v,h1,h2⟩:=X1Y e
 obtain⟨s,hs,he⟩:=Xs4 v h1 h2 hl
 have d4:(X1d h ts).drop 4=Yz (X2f h ts):=rfl
 have t4:(X1d h ts).take 4=Yn:=rfl
 rw[Xcx,d4]
 unfold Vi
 rw[t4,if_pos rfl,hs]
 simp only[he]
theorem XlI {h:Hist}{ts t:Int} (e:YZ h ts=0) (hl:∀c∈h.cs,c.l.length≤1000000000) (g:Gra) (ht:t≠ts):Vz g t (X1d h ts)=(YL,0,26):=by
 rw[Xgw e hl,Xc9 (Ne.symm ht)]
theorem Xo6 {h:Hist}{ts:Int} (e:YZ h ts=0) (hl:∀c∈h.cs,c.l.length≤1000000000):Vz (atG h ts) ts (X1d h ts)=((YV h.g h.cs).1,Yy h,0):=by
 obtain⟨v,h1,h2⟩:=X1Y e
 have hr:YV (atG h ts) (h.cs.drop (ts-h.base).toNat)=YV h.g h.cs:=Xje v.ok _
 have ha:=XcN (h.cs.drop (ts-h.base).toNat) (atG h ts) (Xc7 e) (by rw[hr];exact v.ok)
 have hd:=XaA (ts:=ts) v
 rw[Xgw e hl,X9U (by rw[hd];exact ha.2),hd,ha.1,hr]
open Go Go.Proofs
set_option maxRecDepth 100000
theorem XkX (xs:List (List D)) (hl:xs.length≤2000000):Con Tryz.prog 93 [] [.d (.sl 10 xs)] [] (.d (.sl 10 xs)):=by
 refine Xg (xs:=[.d (.sl 10 xs)]) Tryz.func93 rfl Tryz.ntmps93 rfl rfl rfl (fun E=> ?_)
 refine Xj ?_
 refine X6e rfl (fun h=> ?_) (fun _=> ?_)
 ·subst h
  refine W4_ ?_;refine X1 ?_;exact⟨_,Xw 2 (AVal.le_nil 10),⟨rfl,trivial⟩,X2 _⟩
 ·refine W8_ ?_;refine X1 ?_;exact⟨_,St.le_trans (Yg 100 rfl) (Yx 2 100 rfl rfl (by simp)),⟨rfl,trivial⟩,X2 _⟩
theorem XpL (h:Hist) (hv:HV h) (hf:HistFit h):Con Tryz.prog 50 [] [YS h] [] (YS h):=by
 refine Xg (xs:=[YS h]) Tryz.func50 rfl Tryz.ntmps50 rfl rfl rfl (fun E=> ?_)
 have hap:=Xa3 h.g [] hf.hold.g (by simp)
 rw[Xel (X6l hv.g)] at hap
 have hlen:=hf.len
 have hcl:=hv.cl
 obtain⟨base,⟨ns,es,nn,ne⟩,cs⟩:=h
 have hlm:=X1E cs
 simp only[YS,XG,List.map_nil] at*
 clear hv hf
 refine W9_ ?_;refine Z3 (hcon:=hap) ?_;refine X1g ?_
 clear hap
 refine Xq (X3S 103 5 130 2 rfl rfl rfl rfl rfl) ?_
 refine XK (fun i:Nat=>i≤cs.length) (fun i=>⟨40,[(1,.ptr 100 0),(2,.ptr 101 0),(6,.ptr 103 0),(21,.d (.sl 2 (cs.map XV))),(22,ai (cs.map XV).length),(23,ai i)],[(100,.box [ai base,.d (.sl 3 (ns.map Xp)),.d (.sl 5 (es.map Xs)),ai nn,ai ne,.d (.sl 2 (cs.map XV))]),(101,.box [ai 0,ani,ani,ai 0,ai 0,ani]),(103,.box [ai base,.d (.sl 3 (ns.map Xp)),.d (.sl 5 (es.map Xs)),ai nn,ai ne,.own 130 ((cs.take i).map XV).length]),(130,.row 2 ((cs.take i).map XV))]⟩) (fun i=>cs.length-i) 0 (Nat.zero_le _)
  (Xd rfl JM ⟨rfl,rfl,rfl,rfl,trivial⟩) ?_
 intro i hi
 have hroom:((cs.take i).map XV).length≤1000:=by rw[List.length_map,List.length_take];omega
 by_cases hil:i<cs.length
 case neg=>
  obtain rfl:i=cs.length:=by omega
  have hn:¬((cs.length:Nat):Int)<(cs.map XV).length:=by omega
  rw[List.take_length] at hroom ⊢
  refine W5_ ?_;refine Qo ?_
  show AWP Tryz.prog E _ _ _
  refine Qof ?_;refine Xq (X0v 103 5 130 rfl rfl rfl rfl) ?_;refine W4_ ?_
  (show AWP Tryz.prog E _ _ _;refine X1 ?_;exact(show Xy _ _ _ _ _ from⟨_,St.le_refl _,⟨⟨101,0,_,rfl,rfl,.inr ⟨6,_,rfl,rfl,rfl,rfl⟩⟩,trivial⟩,X2 _⟩))
 have hn:(i:Int)<(cs.map XV).length:=by omega
 obtain⟨x,hx⟩:=XI (l:=cs) hil
 have hxc:(cs.map XV)[i]? =some (XV x):=Y5 hx
 have hst:(cs.take (i+1)).map XV=(cs.take i).map XV++[XV x]:=by rw[X3h hx,List.map_append];rfl
 have hc:=XkX (x.l.map Y1) (by rw[List.length_map];exact hlen x (List.mem_of_getElem? hx))
 obtain⟨ts,l⟩:=x
 simp only[XV] at hxc hst
 clear hx hlen
 refine Qk ?_;refine XD ?_;refine QJd ?_;refine Xj ?_
 refine⟨i+1,by omega,by omega,?_⟩
 dsimp only
 rw[hst]
 exact Xd rfl JM ⟨rfl,rfl,(by refine Eq.trans (b:= .box [ai base,.d (.sl 3 (ns.map Xp)),.d (.sl 5 (es.map Xs)),ai nn,ai ne,.own 130 (_+_)]) rfl ?_;simp only[List.length_append,List.length_map,List.length_cons,List.length_nil]),rfl,trivial⟩
theorem Xrj {h:Hist}{ts:Int} (e:YZ h ts=0):YV h.g (h.cs.take (ts-h.base).toNat)=(atG h ts,0):=by
 obtain⟨v,_,_⟩:=X1Y e
 have:=Xaf v.ok (ts-h.base).toNat
 unfold atG
 generalize YV h.g (h.cs.take (ts-h.base).toNat)=r at*
 obtain⟨a,b⟩:=r
 simp only at this
 rw[this]
theorem XdQ (h:Hist) (ts:Int) (hf:HistFit h):Con Tryz.prog 15 [] [YS h,ai ts] [] (.tup [XG (atS h ts),ai (YZ h ts)]):=by
 refine Xg (xs:=[XG (atS h ts),ai (YZ h ts)]) Tryz.func15 rfl Tryz.ntmps15 rfl rfl rfl (fun E=> ?_)
 have hk:=Xfe h ts hf.hold
 unfold atS
 by_cases c:YZ h ts≠0
 ·rw[if_pos c]
  clear hf
  generalize YZ h ts=e at*
  obtain⟨base,⟨ns,es,nn,ne⟩,cs⟩:=h
  simp only[YS,XG,List.map_nil] at*
  refine Qch ?_;refine QWc ?_
  (show AWP Tryz.prog E _ _ _;refine X1 ?_;exact(show Xy _ _ _ _ _ from⟨_,XF 101 (cs':=[.d (.sl 3 []),.d (.sl 5 []),ai 0,ai 0]) rfl JM rfl,⟨⟨101,0,_,rfl,rfl,.inr ⟨4,_,rfl,rfl,rfl,rfl⟩⟩,rfl,trivial⟩,X2 _⟩))
 rw[if_neg c]
 have c:YZ h ts=0:=by simpa using c
 rw[c] at hk ⊢
 obtain⟨k,k1,k2,k3⟩:=XbE c
 have hb:=X9Z c
 have hr:=Xrj c
 rw[k2] at hr
 have hc:=XpL h (X1Y c).1 hf
 have hap:=XcO h.g (h.cs.take k) hf.hold.g (fun x hx=>hf.hold.cs x (List.mem_of_mem_take hx)) (by have:=hf.hold.cl;rw[List.length_take];omega)
 rw[hr] at hap
 have hlm:=X1E h.cs
 have hsl:(((h.cs.map XV).take k).drop 0)=(h.cs.take k).map XV:=by simp
 generalize atG h ts=g' at*
 clear hf hr c k2
 obtain⟨base,⟨ns,es,nn,ne⟩,cs⟩:=h
 obtain⟨ns',es',nn',ne'⟩:=g'
 simp only[YS,XG] at*
 have hkl:k≤(cs.map XV).length:=by omega
 refine Qch ?_;refine Qg ?_;refine QJd ?_;refine Xi ?_
 (refine Z1 (op:= .sub) (r':= .int .i64 (k:Nat)) (u:= .int .i64 ts) (v:= .int .i64 base) ?_ (hr':=by exact congrArg (Value.int .i64) k1) (hr:=by exact Yl (by unfold XT;omega)))
 refine Z7 (lb:=0) (hb:=k) (ys:=(cs.take k).map XV) ?_ (hys:=by exact hsl);refine Z3 (hcon:=hap) ?_;refine W5_ ?_
 (show AWP Tryz.prog E _ _ _;refine X1 ?_;exact(show Xy _ _ _ _ _ from⟨_,St.le_refl _,⟨⟨101,0,_,rfl,rfl,.inr ⟨4,_,rfl,rfl,rfl,rfl⟩⟩,rfl,trivial⟩,X2 _⟩))
theorem XqD (h:Hist) (ts other:Int) (hf:HistHold h) (ht:Ud h.cs≤4611686018427387904):Con Tryz.prog 5 [] [YS h,ai ts,ai other] [] (ab true):=by
 refine Xg (xs:=[ab true]) Tryz.func5 rfl Tryz.ntmps5 rfl rfl rfl (fun E=> ?_)
 have ha:=Xbu
 have hsm:=Xft h hf ht
 have hsf:=Xgg (h:=h) hf
 generalize X4D h=sm at*
 cases sm with
 |false=>
  clear hsf hf ht
  obtain⟨base,⟨ns,es,nn,ne⟩,cs⟩:=h
  simp only[YS] at*
  refine W9_ ?_;refine Z3 (hcon:=hsm) ?_;refine W2_ ?_;refine Qm ?_;refine Z3 (hcon:=ha) ?_;refine W2_ ?_
  (show AWP Tryz.prog E _ _ _;refine X1 ?_;exact(show Xy _ _ _ _ _ from⟨_,St.le_refl _,⟨rfl,trivial⟩,X2 _⟩))
 |true=>
  obtain⟨hfit,h60⟩:=hsf rfl
  have h1:=Xha h ts hfit h60
  by_cases he:YZ h ts=0
  case neg=>
   rw[show X1y h ts=[] from if_pos he] at h1
   generalize YZ h ts=e at*
   clear hsf hf ht hfit h60
   obtain⟨base,⟨ns,es,nn,ne⟩,cs⟩:=h
   simp only[YS] at*
   refine QTi ?_;refine Xt ?_;refine Qb ?_;refine QIi ?_
   (show AWP Tryz.prog E _ _ _;refine X1 ?_;exact(show Xy _ _ _ _ _ from⟨_,St.le_refl _,⟨rfl,trivial⟩,X2 _⟩))
  rw[show X1y h ts=X1d h ts from if_neg (by simp[he]),he] at h1
  obtain⟨v,v1,v2⟩:=X1Y he
  have hl6:∀c∈h.cs,c.l.length≤1000000000:=fun c hc=>by have:=X6R hc;omega
  have hsl:=Xpk v (by have:=v.b;omega) v2 hl6
  have h2:=XdQ h ts hfit
  rw[Xj7 he,he] at h2
  have h3:=Xfa h hf
  rw[Xbn v] at h3
  have h4:=XdQ h (Yy h) hfit
  rw[(XfT v).1,(XfT v).2] at h4
  have h5:=Xaq (atG h ts) ts (X1d h ts) (by omega) (X8t (Xc7 he))
  rw[Xo6 he hl6] at h5
  have h6:=XbD (YV h.g h.cs).1 (X8t (Xc0 _ _ v.g v.ok))
  have h7:=Xaq (atG h ts) other (X1d h ts) (by omega) (X8t (Xc7 he))
  have hot:other≠ts→Vz (atG h ts) other (X1d h ts)=(YL,0,26):=fun q=>XlI he hl6 _ q
  clear hsf hf ht hfit h60 v v1 v2 hl6 hsl he
  generalize (YV h.g h.cs).1=GL at*
  generalize atG h ts=GA at*
  generalize X1d h ts=D at*
  generalize Yy h=lh at*
  have hlh:¬lh≠lh:=fun q=>q rfl
  obtain⟨base,⟨ns,es,nn,ne⟩,cs⟩:=h
  obtain⟨n3,n4,n5,n6⟩:=GL
  obtain⟨a3,a4,a5,a6⟩:=GA
  by_cases q:other=ts
  ·subst q
   clear h7 hot
   have hq:other=other:=rfl
   simp only[YS,XG] at*
   refine QTi ?_;refine Xt ?_;refine Qc ?_;refine Z3 (hcon:=h2) ?_;refine Xi ?_;refine Z3 (hcon:=h3) ?_;refine Z3 (hcon:=h4) ?_;refine Xt ?_;refine Z3 (hcon:=h5) ?_;refine XD ?_;refine QQ ?_;refine QQ ?_;refine Z3 (hcon:=h3) ?_;refine W1_ ?_;refine QQ ?_;refine Z3 (hcon:=h6) ?_;refine W1_ ?_;refine QVb ?_;refine Z3 (hcon:=h5) ?_;refine XA ?_;refine Qv ?_;refine Qs ?_;refine QIi ?_
   (show AWP Tryz.prog E _ _ _;refine X1 ?_;exact(show Xy _ _ _ _ _ from⟨_,St.le_refl _,⟨rfl,trivial⟩,X2 _⟩))
  ·rw[hot q] at h7
   clear hot
   simp only[YS,XG] at*
   refine QTi ?_;refine Xt ?_;refine Qc ?_;refine Z3 (hcon:=h2) ?_;refine Xi ?_;refine Z3 (hcon:=h3) ?_;refine Z3 (hcon:=h4) ?_;refine Xt ?_;refine Z3 (hcon:=h5) ?_;refine XD ?_;refine QQ ?_;refine QQ ?_;refine Z3 (hcon:=h3) ?_;refine W1_ ?_;refine QQ ?_;refine Z3 (hcon:=h6) ?_;refine W1_ ?_;refine QVb ?_;refine Z3 (hcon:=h7) ?_;refine XD ?_;refine QP ?_;refine QIi ?_
   (show AWP Tryz.prog E _ _ _;refine X1 ?_;exact(show Xy _ _ _ _ _ from⟨_,St.le_refl _,⟨rfl,trivial⟩,X2 _⟩))
end Go.Fw
