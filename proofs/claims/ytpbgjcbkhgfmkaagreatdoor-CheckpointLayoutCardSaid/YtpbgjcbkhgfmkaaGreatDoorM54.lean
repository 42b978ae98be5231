/- Copies into a part of one's own row, from data or from a string. -/
import Derived.Test.YtpbgjcbkhgfmkaaGreatDoorChecked
import Derived.Test.YtpbgjcbkhgfmkaaGreatDoorM52
import Derived.Test.YtpbgjcbkhgfmkaaGreatDoorM53
set_option maxHeartbeats 8000000
namespace Go.Fw
open Go List
set_option linter.unusedVariables false
set_option linter.unusedSimpArgs false
section
variable {P:Program}{ops:Array Oper}{draw:Bool}{K:XW->St->Prop}{rest:List Oper}{l:XW}{S:St}
variable {d:Nat}{ty:TypeId}{pos:String}{ah:Array Edge}{gd:Option (Nat×Bool)}
def XdH (P:Program) (src dst:TypeId):Bool:=
 match P.underlying src,P.underlying dst with
 |some .string,some (.slice e)=>(match P.underlying e with|some (.int .u8)=>true|_=>false)
 |_,_=>false
theorem Xvl {src dst:TypeId} (h:XdH P src dst=true):∃e,P.underlying src=some .string/\P.underlying dst=some (.slice e)/\P.underlying e=some (.int .u8):=by
 grind [XdH]
theorem XsH {src dst:TypeId}{x:Operand}{b:List UInt8} (hx:S.ev x=aZ (X6 b)) (hb:b.length<=9223372036854775807) (ht:XdH P src dst=true) (hd:Nat.blt d S.n=true) (hg:XH ops S gd)
  (h:Walk P ops draw K rest ((l.length,⟨some d,.convert src dst x,ty,pos,ah,gd⟩,⟨XF ops gd++[(x,aZ (X6 b))],some (d,.d (.sl 1 (b.map fun c=>[D.v (.int .u8 c.toNat)]))),[],[],[]⟩)::l) (S.set d (.d (.sl 1 (b.map fun c=>[D.v (.int .u8 c.toNat)]))))):
  Walk P ops draw K (⟨some d,.convert src dst x,ty,pos,ah,gd⟩::rest) l S:=by
 refine Yj h hg ?_ ⟨⟨hx,TV⟩,TV,TV,hd⟩;intro E S a w g hs hok Q K hK;have hq:=X1q hs _ hok.1;obtain⟨e,t1,t2,t3⟩:=Xvl ht;have hsz:(X6 b).size=b.length:=rfl;have hrow:=run_bytes_of_string (P:=P) w src dst e (X6 b) t1 t2 t3;rw[hsz] at hrow;generalize hc:grownCap w b.length 0 e=cap at hrow;have aI:b.length<=cap:=by grind [grownCap_ge]
 have aW:cap<=maxLen:=by grind [grownCap_le_maxLen,maxLen]
 have hs':Vi E S g a w.drew:=⟨Xh5 hs.1,hs.2⟩
 have hle:=XbM hs'.1 (bytesRow (X6 b) cap);have hrun:(execOp a.eval ⟨some d,.convert src dst x,ty,pos,ah,gd⟩).run P w= .ok (.value (.slice (some ⟨w.heap.size,0,none⟩) b.length cap)) (w.drew.alloc (.cells (bytesRow (X6 b) cap) e ((bytesRow (X6 b) cap).size,(bytesRow (X6 b) cap).size+1))):=by
  simp only[execOp,Sem.run_bind,Up hq.1,hrow];rfl
 unfold Oper.wp;rw[hrun,Oper.upon_value];refine hK _ _ (X2a (XeD hs'.1 _ e _) hs.2.1 hs.2.2.1 (fun t=>X3H (g:=g) (g':=g.lay w.drew.heap.size (bytesRow (X6 b) cap)) hle rfl rfl rfl (hs.2.2.2 t)) ?_ hok.2.2.2);have:=Xeo (g:=g) (w:=w.drew) (sz:=1) (xs:=b.map fun c=>[D.v (.int .u8 c.toNat)]) (vs:=bytesRow (X6 b) cap) (cap:=cap) (by simp) (by
  grind [Xfj,bytesRow,X6,take_of_length_le]) hle (by simpa using aI) aW
 simp_all
end
open Go Go.Proofs Tryz
set_option maxRecDepth 100000
theorem XfO (n:Nat) (hn:n<18446744073709551616):Con prog 210 [] [X6C n] [(130,.row 1 ((vS n).map X5))] (.own 130 (vS n).length):=by
 refine ZC1 func210 ntmps210 fun E=> ?_;refine XA ?_;refine X8 (Uu 3 130 1 rfl rfl rfl) ?_
 refine Xn (ι:=List UInt8×Nat) (fun i=>i.1++vS i.2=vS n/\i.2<=n) (fun i=>⟨20,[(0,X6C i.2),(3,.own 130 i.1.length)],[(130,.row 1 (i.1.map X5))]⟩) (fun i=>i.2) ([],n) ⟨rfl,Nat.le_refl _⟩
  (Xb rfl ⟨JL,JL,TV⟩ ⟨rfl,TV⟩) ?_
 rintro⟨pre,m⟩ ⟨hpre,hm⟩;simp only at hpre hm;have hlen:pre.length<=10:=by
  have h1:=CG length hpre;have h2:=X1Y hn;simp only[LA] at h1;omega
 by_cases h:128<=m
 ·have hv:=XiZ h;have e1:n8 ((m%128+128)%256)=n8 (UInt8.ofNat (m%128+128)).toNat:=by rw[X1k (by omega)];congr 2;omega
  refine XQ ?_;refine Z2 (op:= .rem) (r':=n64 (m%128)) (u:=n64 m) (v:=n64 128) ?_ (hr:=by exact Vh (by omega))
  (refine Z2 (op:= .add) (r':=n64 (m%128+128)) (u:=n64 (m%128)) (v:=n64 128) ?_ (hr:=by exact X1s (by rw[YG];omega)))
  (refine Z0 (u:=n64 (m%128+128)) (r:=n8 (UInt8.ofNat (m%128+128)).toNat) ?_ (hr:=by exact by rw[<-e1];exact Uf rfl rfl));refine W6_ ?_;(refine Z2 (op:= .quo) (r':=n64 (m/128)) (u:=n64 m) (v:=n64 128) ?_ (hr:=by exact X2m (by omega) (by rw[YG];omega)));refine W2_ ?_
  refine⟨(pre++[UInt8.ofNat (m%128+128)],m/128),⟨by simp only;rw[<-hpre,hv];simp,by simp only;omega⟩,by simp only;omega,Xb rfl ⟨JL,(by refine AVal.le_of_eq ?_;refine Eq.trans (b:=AVal.own 130 (_+_)) rfl ?_;simp),TV⟩ ⟨?_,TV⟩⟩;refine Eq.trans (b:=AObj.row 1 (_++[[.v (n8 _)]])) rfl ?_;simp
 ·have hv:vS m=[UInt8.ofNat m]:=XmI (by omega);have e3:n8 (m%256)=n8 (UInt8.ofNat m).toNat:=by rw[X1k (by omega)];congr 2;omega
  refine XR ?_;(refine Z0 (u:=n64 m) (r:=n8 (UInt8.ofNat m).toNat) ?_ (hr:=by exact by rw[<-e3];exact Uf rfl rfl));refine W4_ ?_;refine X2 ⟨_,Xe 2 (y:= .own 130 (vS n).length) (AVal.le_of_eq ?_),⟨rfl,TV⟩,Xj ⟨?_,TV⟩⟩
  ·refine Qa ?_;rw[<-hpre,hv];simp
  ·refine Eq.trans (b:=AObj.row 1 (_++[[.v (n8 _)]])) rfl ?_;rw[<-hpre,hv];simp
theorem X7m (n:Int) (hn:n<=9223372036854775807):Con prog 137 [] [ai n] [(130,.row 1 ((Xl n).map X5))] (.own 130 (Xl n).length):=by
 refine ZC1 func137 ntmps137 fun E=> ?_;by_cases h:n<0
 ·rw[show Xl n=[] by simp[Xl,h]];refine Yx ?_;refine X8 (Uu 2 130 1 rfl rfl rfl) ?_;exact Qb
 ·obtain⟨m,rfl⟩:∃m:Nat,n=m:=⟨n.toNat,by omega⟩
  rw[show Xl (m:Int)=vS m by unfold Xl;rw[NI h,Int.toNat_natCast]];refine Yx ?_;(refine Z0 (u:=ni m) (r:=n64 m) ?_ (hr:=by exact Uj rfl rfl (by rw[YG];omega)));refine Z3 (af:=XfO m (by omega)) ?_;exact Qc
theorem XpK (n:Int) (hn: -9223372036854775808<=n/\n<=9223372036854775807):Con prog 212 [] [ai n] [(130,.row 1 ((U5 n).map X5))] (.own 130 (U5 n).length):=by
 refine ZC1 func212 ntmps212 fun E=> ?_;by_cases h:n<0
 ·obtain⟨m,hm⟩:∃m:Nat,-(n+1)=(m:Int):=⟨(-(n+1)).toNat,by omega⟩
  have ez:zig n=2*m+1:=by unfold zig;rw[PI h,hm,Int.toNat_natCast]
  unfold U5;rw[ez];have hneg:∀w,(Op.unary .neg (.int .i64 (n+1))).run prog w= .ok (ni m) w:=fun w=>by
   have h:=Xil (P:=prog) (n:=n+1) (by omega) w
   rwa [hm] at h
  refine Yx ?_;refine Z4 (u:= .int .i64 (n+1)) (r:=ni m) ?_ (hr:=by exact hneg);(refine Z0 (u:=ni m) (r:=n64 m) ?_ (hr:=by exact Uj rfl rfl (by rw[YG];omega)))
  (refine Z2 (op:= .mul) (r':=n64 (2*m)) (u:=n64 2) (v:=n64 m) ?_ (hr:=by exact X4j (by rw[YG];omega)))
  (refine Z2 (op:= .add) (r':=n64 (2*m+1)) (u:=n64 (2*m)) (v:=n64 1) ?_ (hr:=by exact X1s (by rw[YG];omega)));refine Z3 (af:=XfO (2*m+1) (by omega)) ?_;exact Qc
 ·obtain⟨m,rfl⟩:∃m:Nat,n=m:=⟨n.toNat,by omega⟩
  have ez:zig (m:Int)=2*m:=by unfold zig;rw[NI (by omega)];omega
  unfold U5;rw[ez];refine Yx ?_;(refine Z0 (u:=ni m) (r:=n64 m) ?_ (hr:=by exact Uj rfl rfl (by rw[YG];omega)));(refine Z2 (op:= .mul) (r':=n64 (2*m)) (u:=n64 2) (v:=n64 m) ?_ (hr:=by exact X4j (by rw[YG];omega)));refine Z3 (af:=XfO (2*m) (by omega)) ?_;exact Qc
theorem X38 (n:Int) (hn:n<=9223372036854775807):Con prog 137 [] [ai n] [] (.d (Xg (Xl n))):=(X7m n hn).data (by simp)
theorem X6z (n:Int) (hn: -9223372036854775808<=n/\n<=9223372036854775807):Con prog 212 [] [ai n] [] (.d (Xg (U5 n))):=(XpK n hn).data (by simp)
theorem Xvt (s:List UInt8) (hs:s.length<=65536):Con prog 211 [] [Xi s] [(130,.row 1 ((Ym s).map X5))] (.own 130 (Ym s).length):=by
 refine ZC1 func211 ntmps211 fun E=> ?_;have hl:(Xl (s.length:Int)).length<=10:=by rw[X2k (by omega)];exact X1Y (by omega)
 have hsz:(X6 s).size=s.length:=rfl;refine W8_ ?_;refine Z3 (af:=X7m s.length (by omega)) ?_;refine W5_ ?_;refine X2 ⟨_,Xe 2 (y:= .own 130 (Ym s).length) (AVal.le_of_eq ?_),⟨rfl,TV⟩,Xj ⟨?_,TV⟩⟩
 ·refine Qa ?_;simp[Ym]
 ·refine Qpa ?_;simp[Ym]
theorem Xlv (b:List UInt8):Con prog 167 [] [.d (Xg b)] [] (ai (XT b)):=by
 refine ZC1 func167 ntmps167 fun E=> ?_;refine XG ?_
 refine Xn (fun i:Nat=>i<=b.length) (fun i=>⟨34,[(0,.d (Xg b)),(3,XaZ (X0E b i)),(4,ai i)],[]⟩) (fun i=>b.length-i) 0 (by omega)
  (Xb rfl ⟨JL,JL,JL,TV⟩ trivial) ?_
 intro i hi;refine XhD 0 (sz:=1) (xs:=b.map X5) rfl fun bu=> ?_;rw[LM] at bu;have hc:=Xib b i;by_cases hlt:i<b.length
 ·obtain⟨x,hx⟩:=Xu hlt;have sM:=x.toNat_lt;refine YR ?_;(refine Z0 (u:=n8 x.toNat) (r:=n32 x.toNat) ?_ (hr:=by exact Uj rfl rfl (by rw[X1z];omega)));(refine Z2 (op:= .xor) (r':=n32 (X0E b i^^^x.toNat)) (u:=n32 (X0E b i)) (v:=n32 x.toNat) ?_ (hr:=by exact X9W (by rw[X1z];omega) (by rw[X1z];omega)));refine W7_ ?_
  refine Xn (fun k:Nat=>k<=8) (fun k=>⟨34,[(0,.d (Xg b)),(4,ai i),(3,XaZ (X40 k (X0E b i^^^x.toNat))),(5,ai k)],[]⟩) (fun k=>8-k) 0 (by omega)
   (Xb rfl ⟨JL,JL,JL,JL,TV⟩ trivial) ?_
  intro k hk;have hv:=XaT (XcP hc x) k;have ji:X40 (k+1) (X0E b i^^^x.toNat)=X35 (X40 k (X0E b i^^^x.toNat)):=rfl;generalize gB:X40 k (X0E b i^^^x.toNat)=v at*;by_cases gY:k<8
  ·by_cases g7:v%2=1
   ·have hb:X35 v=(v/2)^^^3988292384:=by unfold X35;rw[PI g7]
    refine XQ ?_;refine Z2 (op:= .rem) (r':=n32 (v%2)) (u:=n32 v) (v:=n32 2) ?_ (hr:=by exact Vh (by omega));refine W5_ ?_
    (refine Z2 (op:= .quo) (r':=n32 (v/2)) (u:=n32 v) (v:=n32 2) ?_ (hr:=by exact X2m (by omega) (by rw[X1z];omega)))
    (refine Z2 (op:= .xor) (r':=n32 (v/2^^^3988292384)) (u:=n32 (v/2)) (v:=n32 3988292384) ?_ (hr:=by exact X9W (by rw[X1z];omega) (by rw[X1z];omega)));refine W7_ ?_;exact Qie
   ·have hb:X35 v=v/2:=by unfold X35;rw[NI g7]
    refine XQ ?_;refine Z2 (op:= .rem) (r':=n32 (v%2)) (u:=n32 v) (v:=n32 2) ?_ (hr:=by exact Vh (by omega));refine W5_ ?_;(refine Z2 (op:= .quo) (r':=n32 (v/2)) (u:=n32 v) (v:=n32 2) ?_ (hr:=by exact X2m (by omega) (by rw[X1z];omega)));refine W7_ ?_;exact Qie
  obtain rfl:k=8:=by omega
  have hstep:X0E b (i+1)=v:=by rw[XiO hx];exact gB
  refine XQ ?_;exact⟨i+1,by omega,by omega,Xb rfl ⟨JL,(by rw[hstep];exact AVal.le_refl _),JL,TV⟩ TV⟩
 obtain rfl:i=b.length:=by omega
 have hall:=XjO b;rw[hall] at hc;rw[hall];have rB:X5v b^^^4294967295=XT b:=by
  have h:=BitVec.toNat_not (x:=BitVec.ofNat 32 (X5v b));rw[<-BitVec.allOnes_xor,BitVec.toNat_xor,BitVec.toNat_allOnes,BitVec.toNat_ofNat,Nat.mod_eq_of_lt hc] at h;rw[Nat.xor_comm];exact h
 refine XQ ?_;(refine Z1 (op:= .xor) (r':=n32 (XT b)) (u:=n32 (X5v b)) (v:=n32 4294967295) ?_ (hr':=by exact CG n32 rB) (hr:=by exact X9W (by rw[X1z];omega) (by rw[X1z];omega)));(refine Z0 (u:=n32 (XT b)) (r:=ni (XT b)) ?_ (hr:=by exact Uj rfl rfl (by rw[YO];have:=X74 b;omega)));refine W2_ ?_;exact Zr0
theorem X4H (s:List UInt8) (hs:s.length<=65536):Con prog 211 [] [Xi s] [] (.d (Xg (Ym s))):=(Xvt s hs).data (by simp)
theorem Xur (op:Int):Con prog 216 [] [ai op] [] (ab (YS op)):=by
 refine ZC1 func216 ntmps216 fun E=> ?_;by_cases k3:op=3
 ·subst k3;exact QEa
 by_cases k4:op=4
 ·subst k4;exact QEa
 by_cases k5:op=5
 ·subst k5;exact QEa
 by_cases k6:op=6
 ·subst k6;exact QEa
 by_cases k8:op=8
 ·subst k8;exact QEa
 rw[show YS op=false by unfold YS;exact DF (by omega)];exact QFa
theorem Xt8 (op:Int):Con prog 217 [] [ai op] [] (ab (YL op)):=by
 refine ZC1 func217 ntmps217 fun E=> ?_;by_cases k5:op=5
 ·subst k5;exact Qs
 by_cases k8:op=8
 ·subst k8;exact Qs
 rw[show YL op=false by unfold YL;exact DF (by omega)];exact Qt
theorem XgD (b:List UInt8) (hb:b.length<=65536):Con prog 168 [] [.d (Xg b)] [] (.d (Xg (Yn b))):=by
 refine ZC1 func168 ntmps168 fun E=> ?_;have hl:(Xl (b.length:Int)).length<=10:=by rw[X2k (by omega)];exact X1Y (by omega)
 have aR:=X7m b.length (by omega);have hput:Yn b=Xl (b.length:Int)++b++X0p b:=rfl;generalize Xl (b.length:Int)=hd at*;have hlb:(map X5 b).length=b.length:=by simp
 have hs:=X74 b;have hb0:n8 (XT b%256%256)=n8 (UInt8.ofNat (XT b%256)).toNat:=by rw[X1k (by omega),Nat.mod_mod]
 have ga:n8 (XT b/256%256%256)=n8 (UInt8.ofNat (XT b/256%256)).toNat:=by rw[X1k (by omega),Nat.mod_mod]
 have dG:n8 (XT b/65536%256%256)=n8 (UInt8.ofNat (XT b/65536%256)).toNat:=by rw[X1k (by omega),Nat.mod_mod]
 have jg:n8 (XT b/16777216%256)=n8 (UInt8.ofNat (XT b/16777216)).toNat:=by rw[X1k (by omega),Nat.mod_eq_of_lt (by omega)]
 refine Yg ?_;refine Z3 (af:=Xlv b) ?_;refine W6_ ?_;refine Z2 (op:= .rem) (r':=ni (XT b%256)) (u:=ni (XT b)) (v:=ni 256) ?_ (hr:=by exact Vh (by omega));(refine Z0 (u:=ni (XT b%256)) (r:=n8 (UInt8.ofNat (XT b%256)).toNat) ?_ (hr:=by exact by rw[<-hb0];exact Uf rfl rfl));refine W1_ ?_;refine ZBq (XT b) 256 ?_;refine Z2 (op:= .rem) (r':=ni (XT b/256%256)) (u:=ni (XT b/256)) (v:=ni 256) ?_ (hr:=by exact Vh (by omega));(refine Z0 (u:=ni (XT b/256%256)) (r:=n8 (UInt8.ofNat (XT b/256%256)).toNat) ?_ (hr:=by exact by rw[<-ga];exact Uf rfl rfl));refine W1_ ?_;refine ZBq (XT b) 65536 ?_;refine Z2 (op:= .rem) (r':=ni (XT b/65536%256)) (u:=ni (XT b/65536)) (v:=ni 256) ?_ (hr:=by exact Vh (by omega));(refine Z0 (u:=ni (XT b/65536%256)) (r:=n8 (UInt8.ofNat (XT b/65536%256)).toNat) ?_ (hr:=by exact by rw[<-dG];exact Uf rfl rfl));refine W1_ ?_;refine ZBq (XT b) 16777216 ?_;(refine Z0 (u:=ni (XT b/16777216)) (r:=n8 (UInt8.ofNat (XT b/16777216)).toNat) ?_ (hr:=by exact by rw[<-jg];exact Uf rfl rfl));refine W4_ ?_;refine Qwb ?_;refine X8 (Y7 2 130 rfl rfl (by simp;omega)) ?_;exact X2 ⟨_,Xe 2 (y:= .d (Xg (Yn b))) (AVal.le_of_eq (by refine Eq.trans (b:=AVal.d (.sl 1 (_++_++_))) rfl ?_;rw[hput];show _=AVal.d (.sl 1 ((hd++b++X0p b).map X5));rw[map_append,map_append];rfl)),⟨rfl,TV⟩,X4 _⟩
theorem Xgr:∀{l:List Val}{x:Val},x∈l->(Yh x).length<=(U4 l).length
 |[],x,h=>by simp at h
 |v::r,x,h=>by
  simp only[U4,LA];rcases mem_cons.1 h with rfl|h
  ·omega
  ·have:=Xgr h;omega
def X6L (v:Val):Prop:=Con prog 218 [] [XC v] [] (.d (Xg (UB v)))
theorem Xri (v:Val) (hok:UJ v) (hb:(Yh v).length<=140737488355328) (ih:Xk 8 v=true->∀x∈v.l,X6L x):X6L v:=by
 have hval:=X7O v hok;refine ZC1 func218 ntmps218 fun E=> ?_;obtain⟨k,n,d,s,l⟩:=v;simp only[XC] at hval;have hlen:=X2e l;simp only[Val.l] at ih;cases hv:Xk 8 (.mk k n d s l) with
 |false=>
  rw[hv] at hval;rw[show UB (.mk k n d s l)=[] by unfold UB;rw[hv];rfl];exact Qxa
 |true=>
  have hel:=Xdl hv;have rC:=ih hv;rw[hv] at hval;rw[show UB (.mk k n d s l)=Yh (.mk k n d s l) by unfold UB;rw[hv];rfl];rw[Xk] at hv;by_cases bY:k=0
  ·subst bY;have hput:Yh (.mk 0 n d s l)=[UInt8.ofNat 0]:=by rw[Yh];simp
   rw[hput] at hb |-;refine Yf ?_;refine Z0 (u:=nj 0) (r:=n8 0) ?_ (hr:=by exact Uf rfl rfl);refine QKa ?_;refine X7 ?_;refine UU ?_;refine Qje ?_;exact X2 ⟨_,Xe 2 (y:= .d (Xg (UInt8.ofNat 0::[]))) (AVal.le_of_eq (by refine Eq.trans (b:=AVal.d (.sl 1 (_))) rfl ?_;show _=AVal.d (.sl 1 ((UInt8.ofNat 0::[]).map X5));simp only[map_append,map_cons,map_nil,AS,cons_append,nil_append];rfl)),⟨rfl,TV⟩,X4 _⟩
  by_cases ey:k=1
  ·subst ey;have hput:Yh (.mk 1 n d s l)=UInt8.ofNat 1::U5 n:=by rw[Yh];simp
   have hn: -9223372036854775808<=n/\n<=9223372036854775807:=by simp at hv;omega
   have dH:=X6z n hn;rw[hput] at hb |-;generalize U5 n=q at*;simp only[LC] at hb;refine QCb ?_;refine QKa ?_;refine UU ?_;refine Qqa ?_;refine Qje ?_;exact X2 ⟨_,Xe 2 (y:= .d (Xg (UInt8.ofNat 1::q))) (AVal.le_of_eq (by refine Eq.trans (b:=AVal.d (.sl 1 (_++_))) rfl ?_;show _=AVal.d (.sl 1 ((UInt8.ofNat 1::q).map X5));simp only[map_append,map_cons,map_nil,AS,cons_append,nil_append];rfl)),⟨rfl,TV⟩,X4 _⟩
  by_cases hk2:k=2
  ·subst hk2;have hput:Yh (.mk 2 n d s l)=UInt8.ofNat 2::U5 n:=by rw[Yh];simp
   have hn: -9223372036854775808<=n/\n<=9223372036854775807:=by simp at hv;omega
   have dH:=X6z n hn;rw[hput] at hb |-;generalize U5 n=q at*;simp only[LC] at hb;refine Qzb ?_;refine QKa ?_;refine YT ?_;refine Qqa ?_;refine Qje ?_;exact X2 ⟨_,Xe 2 (y:= .d (Xg (UInt8.ofNat 2::q))) (AVal.le_of_eq (by refine Eq.trans (b:=AVal.d (.sl 1 (_++_))) rfl ?_;show _=AVal.d (.sl 1 ((UInt8.ofNat 2::q).map X5));simp only[map_append,map_cons,map_nil,AS,cons_append,nil_append];rfl)),⟨rfl,TV⟩,X4 _⟩
  by_cases jo:k=3
  ·subst jo;have hput:Yh (.mk 3 n d s l)=UInt8.ofNat 3::(U5 n++U5 d):=by rw[Yh];simp
   have dP:(-9223372036854775808<=n/\n<=9223372036854775807)/\ -9223372036854775808<=d/\d<=9223372036854775807:=by simp[X2p] at hv;omega
   have dH:=X6z n dP.1;have jZ:=X6z d dP.2;rw[hput] at hb |-;generalize U5 n=q at*;generalize U5 d=q2 at*;simp only[LA,LC] at hb;refine Qub ?_;refine QKa ?_;refine Qr ?_;refine Z3 (af:=dH) ?_;refine W8_ ?_;refine Z3 (af:=jZ) ?_;refine W3_ ?_;refine Qje ?_;exact X2 ⟨_,Xe 2 (y:= .d (Xg (UInt8.ofNat 3::(q++q2)))) (AVal.le_of_eq (by refine Eq.trans (b:=AVal.d (.sl 1 (_++_++_))) rfl ?_;show _=AVal.d (.sl 1 ((UInt8.ofNat 3::(q++q2)).map X5));simp only[map_append,map_cons,map_nil,AS,cons_append,nil_append];rfl)),⟨rfl,TV⟩,X4 _⟩
  by_cases jq:k=4
  ·subst jq;have hput:Yh (.mk 4 n d s l)=UInt8.ofNat 4::Ym s:=by rw[Yh];simp
   have hs:s.length<=65536:=by simp at hv;omega
   have dH:=X4H s hs;rw[hput] at hb |-;generalize Ym s=q at*;simp only[LC] at hb;refine Yf ?_;refine Qsa ?_;refine QKa ?_;refine X7 ?_;refine XA ?_;refine Qqa ?_;refine Qje ?_;exact X2 ⟨_,Xe 2 (y:= .d (Xg (UInt8.ofNat 4::q))) (AVal.le_of_eq (by refine Eq.trans (b:=AVal.d (.sl 1 (_++_))) rfl ?_;show _=AVal.d (.sl 1 ((UInt8.ofNat 4::q).map X5));simp only[map_append,map_cons,map_nil,AS,cons_append,nil_append];rfl)),⟨rfl,TV⟩,X4 _⟩
  by_cases jU:k=5
  ·subst jU;have hput:Yh (.mk 5 n d s l)=UInt8.ofNat 5::U5 n:=by rw[Yh];simp
   have hn: -9223372036854775808<=n/\n<=9223372036854775807:=by simp at hv;omega
   have dH:=X6z n hn;rw[hput] at hb |-;generalize U5 n=q at*;simp only[LC] at hb;refine Yf ?_;refine Qta ?_;refine QKa ?_;refine UX ?_;refine Qqa ?_;refine Qje ?_;exact X2 ⟨_,Xe 2 (y:= .d (Xg (UInt8.ofNat 5::q))) (AVal.le_of_eq (by refine Eq.trans (b:=AVal.d (.sl 1 (_++_))) rfl ?_;show _=AVal.d (.sl 1 ((UInt8.ofNat 5::q).map X5));simp only[map_append,map_cons,map_nil,AS,cons_append,nil_append];rfl)),⟨rfl,TV⟩,X4 _⟩
  by_cases jV:k=6
  ·subst jV;have hput:Yh (.mk 6 n d s l)=UInt8.ofNat 6::U5 n:=by rw[Yh];simp
   have hn: -9223372036854775808<=n/\n<=9223372036854775807:=by simp at hv;omega
   have dH:=X6z n hn;rw[hput] at hb |-;generalize U5 n=q at*;simp only[LC] at hb;refine Yf ?_;refine Qua ?_;refine QKa ?_;refine X1V ?_;refine Qqa ?_;refine Qje ?_;exact X2 ⟨_,Xe 2 (y:= .d (Xg (UInt8.ofNat 6::q))) (AVal.le_of_eq (by refine Eq.trans (b:=AVal.d (.sl 1 (_++_))) rfl ?_;show _=AVal.d (.sl 1 ((UInt8.ofNat 6::q).map X5));simp only[map_append,map_cons,map_nil,AS,cons_append,nil_append];rfl)),⟨rfl,TV⟩,X4 _⟩
  by_cases jW:k=7
  ·subst jW;have hput:Yh (.mk 7 n d s l)=UInt8.ofNat 7::(Xl l.length++U4 l):=by rw[Yh];simp
   have bF:l.length<=64:=by simp at hv;omega
   have jR:=X38 (XX l).length (by omega);rw[<-hlen] at hput;rw[hput] at hb |-;generalize Xl ((XX l).length:Int)=q at*;simp only[LA,LC] at hb;refine Yf ?_;refine Qva ?_;refine QKa ?_;refine QTa ?_
   refine Xn (fun i:Nat=>i<=l.length) (fun i=>⟨68,[(1,.ptr 100 0),(3,.own 130 (UInt8.ofNat 7::(q++U4 (l.take i))).length),(4,ai i)],[(100,.box [ai 7,ai n,ai d,X15 s,.d (.sl 5 (XX l))]),(130,.row 1 ((UInt8.ofNat 7::(q++U4 (l.take i))).map X5))]⟩) (fun i=>l.length-i) 0 (by omega)
    (Xb rfl ⟨JL,(by refine AVal.le_of_eq ?_;refine Eq.trans (b:=AVal.own 130 (_+_)) rfl ?_;congr 1;simp only[take_zero,U4,append_nil,LM,LC,length_nil]<;>omega),JL,TV⟩ ⟨rfl,?_,TV⟩) ?_
   ·refine Qpa ?_;simp only[take_zero,U4,append_nil,map_cons,cons_append,nil_append];rfl
   intro i hi;by_cases hlt:i<l.length
   ·obtain⟨x,hx⟩:=Xu (l:=l) hlt;have eV:=X5S hx;have bO:=Xc8 hx;have hle:=Xbh l (i+1);have hpx:=rC x (mem_of_getElem? hx);unfold X6L at hpx;rw[show UB x=Yh x by unfold UB;rw[hel x (mem_of_getElem? hx)];rfl] at hpx;rw[bO] at hle;simp only[LA] at hle;generalize U4 (l.take i)=pre at*;generalize Yh x=px at*;obtain⟨k',n',d',s',q'⟩:=x;simp only[XC] at hpx;rw[UT] at eV;refine U8 ?_;refine Z3 (af:=hpx) ?_;refine W8_ ?_;refine⟨i+1,by omega,by omega,Xb rfl ⟨JL,(by refine AVal.le_of_eq ?_;refine Eq.trans (b:=AVal.own 130 (_+_)) rfl ?_;congr 1;rw[bO];simp only[LA,LM,LC]<;>omega),JL,TV⟩ ⟨rfl,?_,TV⟩⟩;refine Qpa ?_;rw[bO];simp only[map_append,map_cons,cons_append,AS]
   obtain rfl:i=l.length:=by omega
   rw[take_length];refine Qwb ?_;refine X8 (Y7 3 130 rfl rfl (by simp)) ?_;refine Yg ?_;exact Zr0
  by_cases gY:k=8
  ·subst gY;have hput:Yh (.mk 8 n d s l)=UInt8.ofNat 8::(Xl l.length++U4 l):=by rw[Yh];simp
   have bF:l.length<=64:=by simp at hv;omega
   have jR:=X38 (XX l).length (by omega);rw[<-hlen] at hput;rw[hput] at hb |-;generalize Xl ((XX l).length:Int)=q at*;simp only[LA,LC] at hb;refine Yf ?_;refine Qwa ?_;refine QKa ?_;refine X7 ?_;refine YT ?_
   refine Xn (fun i:Nat=>i<=l.length) (fun i=>⟨68,[(1,.ptr 100 0),(3,.own 130 (UInt8.ofNat 8::(q++U4 (l.take i))).length),(4,ai i)],[(100,.box [ai 8,ai n,ai d,X15 s,.d (.sl 5 (XX l))]),(130,.row 1 ((UInt8.ofNat 8::(q++U4 (l.take i))).map X5))]⟩) (fun i=>l.length-i) 0 (by omega)
    (Xb rfl ⟨JL,(by refine AVal.le_of_eq ?_;refine Eq.trans (b:=AVal.own 130 (_+_)) rfl ?_;congr 1;simp only[take_zero,U4,append_nil,LM,LC,length_nil]<;>omega),JL,TV⟩ ⟨rfl,?_,TV⟩) ?_
   ·refine Qpa ?_;simp only[take_zero,U4,append_nil,map_cons,cons_append,nil_append];rfl
   intro i hi;by_cases hlt:i<l.length
   ·obtain⟨x,hx⟩:=Xu (l:=l) hlt;have eV:=X5S hx;have bO:=Xc8 hx;have hle:=Xbh l (i+1);have hpx:=rC x (mem_of_getElem? hx);unfold X6L at hpx;rw[show UB x=Yh x by unfold UB;rw[hel x (mem_of_getElem? hx)];rfl] at hpx;rw[bO] at hle;simp only[LA] at hle;generalize U4 (l.take i)=pre at*;generalize Yh x=px at*;obtain⟨k',n',d',s',q'⟩:=x;simp only[XC] at hpx;rw[UT] at eV;refine U8 ?_;refine Z3 (af:=hpx) ?_;refine W8_ ?_;refine⟨i+1,by omega,by omega,Xb rfl ⟨JL,(by refine AVal.le_of_eq ?_;refine Eq.trans (b:=AVal.own 130 (_+_)) rfl ?_;congr 1;rw[bO];simp only[LA,LM,LC]<;>omega),JL,TV⟩ ⟨rfl,?_,TV⟩⟩;refine Qpa ?_;rw[bO];simp only[map_append,map_cons,cons_append,AS]
   obtain rfl:i=l.length:=by omega
   rw[take_length];refine Qwb ?_;refine X8 (Y7 3 130 rfl rfl (by simp)) ?_;refine Yg ?_;exact Zr0
  simp[*] at hv
theorem XqQ {k n d:Int}{s:List UInt8}{l:List Val} (hv:Xk 8 (.mk k n d s l)=true):∀x∈l,(Yh x).length<=(Yh (.mk k n d s l)).length:=by
 intro x hx;have hm:=Xgr hx;by_cases h7:k=7
 ·subst h7;rw[show Yh (.mk 7 n d s l)=UInt8.ofNat 7::(Xl l.length++U4 l) by rw[Yh];simp];simp only[LC,LA];omega
 ·by_cases h8:k=8
  ·subst h8;rw[show Yh (.mk 8 n d s l)=UInt8.ofNat 8::(Xl l.length++U4 l) by rw[Yh];simp];simp only[LC,LA];omega
  ·have:l=[]:=by
    rw[Xk] at hv;simp[h7,h8] at hv;exact hv.1.2
   subst this;simp at hx
theorem Xgh:∀v:Val,UJ v->(Yh v).length<=140737488355328->X6L v
 | .mk k n d s l=>fun hok hb=>Xri (.mk k n d s l) hok hb fun hv x hx=>Xgh x (Xca (by rw[UJ] at hok;exact hok.2.2) hx) (Nat.le_trans (XqQ hv x hx) hb)
termination_by v=>SizeOf.sizeOf v
decreasing_by
 have h1:=sizeOf_lt_of_mem (show x∈l from hx);simp only[Val.mk.sizeOf_spec];omega
end Go.Fw
