/- Copies into a part of one's own row, from data or from a string. -/
import Derived.OpenShut
import Derived.Deep.Slices
import Derived.Deep.Strs
import Derived.Test.YtfmfekakaeafhaaGreatDoorChecked
import Derived.Test.YtfmfekakaeafhaaGreatDoorP17
import Derived.Test.YtfmfekakaeafhaaGreatDoorP21
set_option linter.all false
set_option maxHeartbeats 8000000
namespace Go.Fw
open Go List
open List renaming length->J
section
variable {P:Program}{ops:Array Oper}{draw:Bool}{K:XU->St->Prop}{rest:List Oper}{l:XU}{S:St}
variable {d:Nat}{ty:TypeId}{pos:String}{ah:Array Edge}{gd:Option (Nat×Bool)}
def Xg7 (P:Program) (src dst:TypeId):Bool:=
 match P.underlying src,P.underlying dst with
 |some .string,some (.slice e)=>(match P.underlying e with|some (.int .u8)=>true|_=>false)
 |_,_=>false
def Xvp {src dst:TypeId} (h:Xg7 P src dst=true):∃e,P.underlying src=some .string/\P.underlying dst=some (.slice e)/\P.underlying e=some (.int .u8):=by
 grind [Xg7]
def Xym {src dst:TypeId}{x:Operand}{b:List UInt8} (hx:S.ev x=aZ (X7 b)) (hb:J b<=9223372036854775807) (ht:Xg7 P src dst=true) (hd:Nat.blt d S.n=true) (hg:XL ops S gd)
  (h:Walk P ops draw K rest ((J l,⟨some d,.convert src dst x,ty,pos,ah,gd⟩,⟨XH ops gd++[(x,aZ (X7 b))],some (d,.d (.sl 1 (b.map fun c=>[D.v (.int .u8 c.toNat)]))),[],[],[]⟩)::l) (S.set d (.d (.sl 1 (b.map fun c=>[D.v (.int .u8 c.toNat)]))))):
  Walk P ops draw K (⟨some d,.convert src dst x,ty,pos,ah,gd⟩::rest) l S:=by
 refine Yq h hg ?_ ⟨⟨hx,TV⟩,TV,TV,hd⟩;intro E S a w g hs hok Q K hK;have hq:=X1K hs _ hok.1;obtain⟨e,t1,t2,t3⟩:=Xvp ht;have hsz:(X7 b).size=J b:=rfl;have hrow:=run_bytes_of_string (P:=P) w src dst e (X7 b) t1 t2 t3;rw[hsz] at hrow;generalize hc:grownCap w (J b) 0 e=cap at hrow;have aO:J b<=cap:=by grind [grownCap_ge]
 have bC:cap<=maxLen:=by grind [grownCap_le_maxLen,maxLen]
 have hs':Vr E S g a w.drew:=⟨Xih hs.1,hs.2⟩
 have hle:=Xcy hs'.1 (bytesRow (X7 b) cap);have hrun:(execOp a.eval ⟨some d,.convert src dst x,ty,pos,ah,gd⟩).run P w= .ok (.value (.slice (some ⟨w.heap.size,0,none⟩) (J b) cap)) (w.drew.alloc (.cells (bytesRow (X7 b) cap) e ((bytesRow (X7 b) cap).size,(bytesRow (X7 b) cap).size+1))):=by
  simp only[execOp,Sem.run_bind,Uy hq.1,hrow];rfl
 unfold Oper.wp;rw[hrun,Oper.upon_value];refine hK _ _ (X2f (Xft hs'.1 _ e _) hs.2.1 hs.2.2.1 (fun t=>X3R (g:=g) (g':=g.lay w.drew.heap.size (bytesRow (X7 b) cap)) hle rfl rfl rfl (hs.2.2.2 t)) ?_ hok.2.2.2);have:=Xfh (g:=g) (w:=w.drew) (sz:=1) (xs:=b.map fun c=>[D.v (.int .u8 c.toNat)]) (vs:=bytesRow (X7 b) cap) (cap:=cap) Oc (by
  grind [Xhs,bytesRow,X7,take_of_length_le]) hle (by simpa using aO) bC
 simp_all
end
open Go Go.ChangeShapes Go.WideShapes Go.Deep
open List renaming length->J
def XmA {M:Mem}{g:Gh} (hM:g.M=M):∀{ds:List D}{us:List Value},Vu M ds us->Xy g (ds.map .d) us
 |[],[],_=>by grind [Xy]
 |[],_::_,h=>by simp only[Vu] at h
 |_::_,[],h=>by simp only[Vu] at h
 |d::ds,u::us,h=>by
  simp only[Vu] at h;simp only[map_cons,Xy,AVal.sat];exact⟨hM ▸ h.1,XmA hM h.2⟩
section
variable {H:Type}{enc:TypeId×Value->H}{P:Program}{W:World}
def XsO {t:TypeId} (ht:P.underlying t=some (.int .u8)):Opens enc P W t (fun _:UInt8=>True) (fun b=>[.v (.int .u8 b.toNat)]):=
 (Xox ht).to (fun n=>UInt8.ofNat n.toNat) fun a ha=>⟨TV,by
  have:=bounds_u8 ha
  grind [UInt8.toNat_ofNat']⟩
def Xe4 {α:Type}{t e:TypeId}{sz:Nat}{p:α->Prop}{f:α->List D} (ht:P.underlying t=some (.slice e)) (hz:P.cellsOf e=sz) (h0:0<sz) (ho:Opens enc P W e p f):
  Opens enc P W t (fun l:List α=> ∀r∈l,p r) (fun l=>[.sl sz (l.map f)]):=by
 refine⟨fun n cs x hx=> ?_⟩;rcases open_slice ht hx with ⟨rfl,_⟩|⟨a,len,cap,m,n',DD,Pl,rfl,_,hl,hm,hmm,rfl,hel⟩
 ·refine⟨[],Oc,?_⟩
  grind [Vu,D.rep]
 simp only[if_true] at hmm;subst hmm;have mj:∀i,i<len->∃r,p r/\J (f r)=sz/\∀j d,(f r)[j]? =some d->∃u,W.cell? ((a.add (i*sz)).add j)=some u/\d.rep W.cell? u:=by
  intro i hi;obtain⟨cs',h1,h2⟩:=hel i Oa;obtain⟨r,h3,h4⟩:=ho.op _ _ _ h2;obtain⟨_,h5,h6⟩:=World.cells?_some h1
  grind [Xe8,Xeu]
 obtain⟨l,h1,h2⟩:=Xgw len mj;refine⟨l,fun r hr=> ?_,?_⟩
 ·grind [getElem?_of_mem]
 simp only[Vu,D.rep];refine⟨⟨some a,m,II,II,hm,?_⟩,TV⟩;by_cases gx:len=0
 ·grind
 right;obtain⟨b,o,sp⟩:=a;have hsp:sp=none:=by
  exact Yt30
 grind [X99,X7t,Vq]
def X9F {α:Type}{t:TypeId}{fs:Array Field}{r:Reach}{b0:Nat}{v:Value}{d:DataW H}{ps:List MemPlace}{p:α->Prop}{f:α->List D} (ht:P.underlying t=some (.struct fs))
  (hval:Value.okWide P W r b0 t v) (hd:DataW.Trod enc P W 0 (fun _=>true) true t v d ps) (ho:Opens enc P W t p f):∃x,p x/\(AVal.agg ((f x).map .d)).sat (g0 W.cell?) v:=by
 simp only[Value.okWide,ht] at hval;obtain⟨cs,rfl,_,_⟩:=hval;obtain⟨n,hn⟩:=hd;obtain⟨x,h1,h2⟩:=ho.op _ _ _ hn;refine⟨x,h1,?_⟩;simp only[AVal.sat];exact⟨cs,rfl,XmA rfl h2⟩
end
open Go Go.Proofs Tryz
open List renaming length->J
set_option maxRecDepth 100000
def Xh6 (n:Nat) (hn:n<18446744073709551616):Con prog 155 [] [X52 n] [(130,.row 1 ((vS n).map X6))] (.own 130 (J (vS n))):=by
 refine ZC1 func155 ntmps155 fun E=> ?_;refine XA ?_;refine X8 (Uo 3 130 1 rfl rfl rfl) ?_
 refine Xl (ι:=List UInt8×Nat) (fun i=>i.1++vS i.2=vS n/\i.2<=n) (fun i=>⟨20,[(0,X52 i.2),(3,.own 130 (J i.1))],[(130,.row 1 (i.1.map X6))]⟩) (fun i=>i.2) ([],n) ⟨rfl,Nat.le_refl _⟩
  (X9 rfl ⟨JL,JL,TV⟩ ⟨rfl,TV⟩) ?_
 rintro⟨pre,m⟩ ⟨hpre,hm⟩;simp only at hpre hm;have hlen:J pre<=10:=by
  have h1:=CG length hpre;have h2:=X2n hn;simp only[LA] at h1;omega
 by_cases h:128<=m
 ·have hv:=Xkv h;have e1:n8 ((m%128+128)%256)=n8 (UInt8.ofNat (m%128+128)).toNat:=by rw[X1R Oa];congr 2;omega
  refine XK ?_;refine Z4 (op:= .rem) (r':=n64 (m%128)) (u:=n64 m) (v:=n64 128) ?_ (hr:=OE)
  (refine Z4 (op:= .add) (r':=n64 (m%128+128)) (u:=n64 (m%128)) (v:=n64 128) ?_ (hr:=by exact X2e Ox))
  (refine Z1 (u:=n64 (m%128+128)) (r:=n8 (UInt8.ofNat (m%128+128)).toNat) ?_ (hr:=by exact by rw[<-e1];exact Ui rfl rfl));refine W6_ ?_;(refine Z4 (op:= .quo) (r':=n64 (m/128)) (u:=n64 m) (v:=n64 128) ?_ (hr:=Iv));refine W2_ ?_
  refine⟨(pre++[UInt8.ofNat (m%128+128)],m/128),⟨by simp only;rw[<-hpre,hv];simp,Od⟩,Od,X9 rfl ⟨JL,Ig,TV⟩ ⟨?_,TV⟩⟩;refine Eq.trans (b:=AObj.row 1 (_++[[.v (n8 _)]])) rfl ?_;simp
 ·have hv:vS m=[UInt8.ofNat m]:=Xk7 Oa;have e3:n8 (m%256)=n8 (UInt8.ofNat m).toNat:=by rw[X1R Oa];congr 2;omega
  refine XG ?_;(refine Z1 (u:=n64 m) (r:=n8 (UInt8.ofNat m).toNat) ?_ (hr:=by exact by rw[<-e3];exact Ui rfl rfl));refine W4_ ?_;refine X3 ⟨_,Xe 2 (y:= .own 130 (J (vS n))) (ZzQ ?_),⟨rfl,TV⟩,Xm ⟨?_,TV⟩⟩
  ·refine Qb ?_;rw[<-hpre,hv];simp
  ·refine Eq.trans (b:=AObj.row 1 (_++[[.v (n8 _)]])) rfl ?_;rw[<-hpre,hv];simp
def X8j (n:Int) (hn:n<=9223372036854775807):Con prog 94 [] [ai n] [(130,.row 1 ((Xq n).map X6))] (.own 130 (J (Xq n))):=by
 refine ZC1 func94 ntmps94 fun E=> ?_;by_cases h:n<0
 ·rw[show Xq n=[] by simp[Xq,h]];refine Ya ?_;refine X8 (Uo 2 130 1 rfl rfl rfl) ?_;exact Qo
 ·obtain⟨m,rfl⟩:∃m:Nat,n=m:=⟨n.toNat,Oa⟩
  rw[show Xq (m:Int)=vS m by unfold Xq;rw[NI h,Int.toNat_natCast]];refine Ya ?_;(refine Z1 (u:=ni m) (r:=n64 m) ?_ (hr:=Om));refine Z5 (ag:=Xh6 m Oa) ?_;exact Qp
def XqF (n:Int) (hn: -9223372036854775808<=n/\n<=9223372036854775807):Con prog 157 [] [ai n] [(130,.row 1 ((U5 n).map X6))] (.own 130 (J (U5 n))):=by
 refine ZC1 func157 ntmps157 fun E=> ?_;by_cases h:n<0
 ·obtain⟨m,hm⟩:∃m:Nat,-(n+1)=(m:Int):=⟨(-(n+1)).toNat,Oa⟩
  have ez:zig n=2*m+1:=by unfold zig;rw[PI h,hm,Int.toNat_natCast]
  unfold U5;rw[ez];have hneg:∀w,(Op.unary .neg (.int .i64 (n+1))).run prog w= .ok (ni m) w:=fun w=>by
   have h:=Xeh (P:=prog) (n:=n+1) Oa w
   rwa [hm] at h
  refine Ya ?_;refine Z6 (u:= .int .i64 (n+1)) (r:=ni m) ?_ (hr:=by exact hneg);(refine Z1 (u:=ni m) (r:=n64 m) ?_ (hr:=Om))
  (refine Z4 (op:= .mul) (r':=n64 (2*m)) (u:=n64 2) (v:=n64 m) ?_ (hr:=by exact X3C Ox))
  (refine Z4 (op:= .add) (r':=n64 (2*m+1)) (u:=n64 (2*m)) (v:=n64 1) ?_ (hr:=by exact X2e Ox));refine Z5 (ag:=Xh6 (2*m+1) Oa) ?_;exact Qp
 ·obtain⟨m,rfl⟩:∃m:Nat,n=m:=⟨n.toNat,Oa⟩
  have ez:zig (m:Int)=2*m:=by unfold zig;rw[NI Oa];omega
  unfold U5;rw[ez];refine Ya ?_;(refine Z1 (u:=ni m) (r:=n64 m) ?_ (hr:=Om));(refine Z4 (op:= .mul) (r':=n64 (2*m)) (u:=n64 2) (v:=n64 m) ?_ (hr:=by exact X3C Ox));refine Z5 (ag:=Xh6 (2*m) Oa) ?_;exact Qp
def X3m (n:Int) (hn:n<=9223372036854775807):Con prog 94 [] [ai n] [] (.d (Xc (Xq n))):=(X8j n hn).data Oc
def X7p (n:Int) (hn: -9223372036854775808<=n/\n<=9223372036854775807):Con prog 157 [] [ai n] [] (.d (Xc (U5 n))):=(XqF n hn).data Oc
def XvO (s:List UInt8) (hs:J s<=65536):Con prog 156 [] [Xa s] [(130,.row 1 ((Ys s).map X6))] (.own 130 (J (Ys s))):=by
 refine ZC1 func156 ntmps156 fun E=> ?_;have hl:J (Xq (J s:Int))<=10:=OB
 have hsz:(X7 s).size=J s:=rfl;refine W8_ ?_;refine Z5 (ag:=X8j (J s) Oa) ?_;refine W5_ ?_;refine X3 ⟨_,Xe 2 (y:= .own 130 (J (Ys s))) (ZzQ ?_),⟨rfl,TV⟩,Xm ⟨?_,TV⟩⟩
 ·refine Qb ?_;simp[Ys]
 ·refine QKa ?_;simp[Ys]
def Xd5 (b:List UInt8):Con prog 139 [] [.d (Xc b)] [] (ai (XP b)):=by
 refine ZC1 func139 ntmps139 fun E=> ?_;refine XD ?_
 refine Xl (fun i:Nat=>i<=J b) (fun i=>⟨34,[(0,.d (Xc b)),(3,Xbm (X0W b i)),(4,ai i)],[]⟩) (fun i=>J b-i) 0 Oa
  (X9 rfl ⟨JL,JL,JL,TV⟩ trivial) ?_
 intro i hi;refine Xp4 0 (sz:=1) (xs:=b.map X6) rfl fun bx=> ?_;rw[LM] at bx;have hc:=Xnm b i;by_cases hlt:i<J b
 ·obtain⟨x,hx⟩:=Xn hlt;have r9:=x.toNat_lt;refine YS ?_;(refine Z1 (u:=n8 x.toNat) (r:=n32 x.toNat) ?_ (hr:=by exact Ub rfl rfl OJ));(refine Z4 (op:= .xor) (r':=n32 (X0W b i^^^x.toNat)) (u:=n32 (X0W b i)) (v:=n32 x.toNat) ?_ (hr:=OL));refine W7_ ?_
  refine Xl (fun k:Nat=>k<=8) (fun k=>⟨34,[(0,.d (Xc b)),(4,ai i),(3,Xbm (X40 k (X0W b i^^^x.toNat))),(5,ai k)],[]⟩) (fun k=>8-k) 0 Oa
   (X9 rfl ⟨JL,JL,JL,JL,TV⟩ trivial) ?_
  intro k hk;have hv:=Xb9 (XfX hc x) k;have ko:X40 (k+1) (X0W b i^^^x.toNat)=X3j (X40 k (X0W b i^^^x.toNat)):=rfl;generalize dR:X40 k (X0W b i^^^x.toNat)=v at*;by_cases gw:k<8
  ·by_cases eK:v%2=1
   ·have hb:X3j v=(v/2)^^^3988292384:=by unfold X3j;rw[PI eK]
    refine XK ?_;refine Z4 (op:= .rem) (r':=n32 (v%2)) (u:=n32 v) (v:=n32 2) ?_ (hr:=OE);refine W5_ ?_
    (refine Z4 (op:= .quo) (r':=n32 (v/2)) (u:=n32 v) (v:=n32 2) ?_ (hr:=by exact X23 Oa OJ))
    (refine Z4 (op:= .xor) (r':=n32 (v/2^^^3988292384)) (u:=n32 (v/2)) (v:=n32 3988292384) ?_ (hr:=OL));refine W7_ ?_;exact⟨k+1,Oa,Oa,X9 rfl ⟨JL,JL,(by rw[ko,hb];exact ZzV),JL,TV⟩ TV⟩
   ·have hb:X3j v=v/2:=by unfold X3j;rw[NI eK]
    refine XK ?_;refine Z4 (op:= .rem) (r':=n32 (v%2)) (u:=n32 v) (v:=n32 2) ?_ (hr:=OE);refine W5_ ?_;(refine Z4 (op:= .quo) (r':=n32 (v/2)) (u:=n32 v) (v:=n32 2) ?_ (hr:=by exact X23 Oa OJ));refine W7_ ?_;exact⟨k+1,Oa,Oa,X9 rfl ⟨JL,JL,(by rw[ko,hb];exact ZzV),JL,TV⟩ TV⟩
  obtain rfl:k=8:=Oa
  have hstep:X0W b (i+1)=v:=by rw[Xid hx];exact dR
  refine XK ?_;exact⟨i+1,Oa,Oa,X9 rfl ⟨JL,(by rw[hstep];exact ZzV),JL,TV⟩ TV⟩
 obtain rfl:i=J b:=Oa
 have hall:=XnQ b;rw[hall] at hc;rw[hall];have rz:X5q b^^^4294967295=XP b:=by
  have h:=BitVec.toNat_not (x:=BitVec.ofNat 32 (X5q b));rw[<-BitVec.allOnes_xor,BitVec.toNat_xor,BitVec.toNat_allOnes,BitVec.toNat_ofNat,Nat.mod_eq_of_lt hc] at h;rw[Nat.xor_comm];exact h
 refine XK ?_;(refine Z3 (op:= .xor) (r':=n32 (XP b)) (u:=n32 (X5q b)) (v:=n32 4294967295) ?_ (hr':=by exact CG n32 rz) (hr:=OL));(refine Z1 (u:=n32 (XP b)) (r:=ni (XP b)) ?_ (hr:=IX));refine W2_ ?_;exact Zr0
def X56 (s:List UInt8) (hs:J s<=65536):Con prog 156 [] [Xa s] [] (.d (Xc (Ys s))):=(XvO s hs).data Oc
def Xkd (op:Int):Con prog 162 [] [ai op] [] (ab (YO op)):=by
 refine ZC1 func162 ntmps162 fun E=> ?_;by_cases k3:op=3
 ·subst k3;exact Qra
 exact Yt37
def XmE (op:Int):Con prog 163 [] [ai op] [] (ab (YL op)):=by
 refine ZC1 func163 ntmps163 fun E=> ?_;by_cases k5:op=5
 ·subst k5;exact Qpa
 exact Yt74
def XnD (b:List UInt8) (hb:J b<=65536):Con prog 142 [] [.d (Xc b)] [] (.d (Xc (Yx b))):=by
 refine ZC1 func142 ntmps142 fun E=> ?_;have hl:J (Xq (J b:Int))<=10:=OB
 have aX:=X8j (J b) Oa;have hput:Yx b=Xq (J b:Int)++b++X0J b:=rfl;generalize Xq (J b:Int)=hd at*;have hlb:J (map X6 b)=J b:=Oc
 have hs:=X5C b;have hb0:n8 (XP b%256%256)=n8 (UInt8.ofNat (XP b%256)).toNat:=IY
 have gj:n8 (XP b/256%256%256)=n8 (UInt8.ofNat (XP b/256%256)).toNat:=IY
 have ej:n8 (XP b/65536%256%256)=n8 (UInt8.ofNat (XP b/65536%256)).toNat:=IY
 have jv:n8 (XP b/16777216%256)=n8 (UInt8.ofNat (XP b/16777216)).toNat:=Ia
 refine Yr ?_;refine Z5 (ag:=Xd5 b) ?_;refine W6_ ?_;refine Z4 (op:= .rem) (r':=ni (XP b%256)) (u:=ni (XP b)) (v:=ni 256) ?_ (hr:=OE);(refine Z1 (u:=ni (XP b%256)) (r:=n8 (UInt8.ofNat (XP b%256)).toNat) ?_ (hr:=by exact by rw[<-hb0];exact Ui rfl rfl));refine W1_ ?_;refine ZBq (XP b) 256 ?_;refine Z4 (op:= .rem) (r':=ni (XP b/256%256)) (u:=ni (XP b/256)) (v:=ni 256) ?_ (hr:=OE);(refine Z1 (u:=ni (XP b/256%256)) (r:=n8 (UInt8.ofNat (XP b/256%256)).toNat) ?_ (hr:=by exact by rw[<-gj];exact Ui rfl rfl));refine W1_ ?_;refine ZBq (XP b) 65536 ?_;refine Z4 (op:= .rem) (r':=ni (XP b/65536%256)) (u:=ni (XP b/65536)) (v:=ni 256) ?_ (hr:=OE);(refine Z1 (u:=ni (XP b/65536%256)) (r:=n8 (UInt8.ofNat (XP b/65536%256)).toNat) ?_ (hr:=by exact by rw[<-ej];exact Ui rfl rfl));refine W1_ ?_;refine ZBq (XP b) 16777216 ?_;(refine Z1 (u:=ni (XP b/16777216)) (r:=n8 (UInt8.ofNat (XP b/16777216)).toNat) ?_ (hr:=by exact by rw[<-jv];exact Ui rfl rfl));refine W4_ ?_;refine Qdc ?_;refine X8 (XX 2 130 rfl rfl Ou) ?_;exact X3 ⟨_,Xe 2 (y:= .d (Xc (Yx b))) (ZzQ (by refine Eq.trans (b:=AVal.d (.sl 1 (_++_++_))) rfl ?_;rw[hput];show _=AVal.d (.sl 1 ((hd++b++X0J b).map X6));rw[map_append,map_append];rfl)),⟨rfl,TV⟩,X5 _⟩
def XiZ:∀{l:List Val}{x:Val},x∈l->J (Yl x)<=J (U6 l)
 |[],x,h=>OQ
 |v::r,x,h=>by
  simp only[U6,LA];rcases mem_cons.1 h with rfl|h
  ·omega
  ·have:=XiZ h;omega
def X7v (v:Val):Prop:=Con prog 164 [] [Xt v] [] (.d (Xc (UP v)))
def Xv2 (v:Val) (hok:U1 v) (hb:J (Yl v)<=140737488355328) (ih:Xj 8 v=true->∀x∈v.l,X7v x):X7v v:=by
 have hval:=X5I v hok;refine ZC1 func164 ntmps164 fun E=> ?_;obtain⟨k,n,d,s,l⟩:=v;simp only[Xt] at hval;have hlen:=X1M l;simp only[Val.l] at ih;cases hv:Xj 8 (.mk k n d s l) with
 |false=>
  rw[hv] at hval;rw[show UP (.mk k n d s l)=[] by unfold UP;rw[hv];rfl];exact QMa
 |true=>
  have hel:=XdW hv;have tF:=ih hv;rw[hv] at hval;rw[show UP (.mk k n d s l)=Yl (.mk k n d s l) by unfold UP;rw[hv];rfl];rw[Xj] at hv;by_cases bT:k=0
  ·subst bT;have hput:Yl (.mk 0 n d s l)=[UInt8.ofNat 0]:=by rw[Yl];simp
   rw[hput] at hb |-;refine Yh ?_;refine Z1 (u:=nj 0) (r:=n8 0) ?_ (hr:=OM);refine Qqc ?_;refine X4 ?_;refine Us ?_;refine Qzc ?_;exact X3 ⟨_,Xe 2 (y:= .d (Xc (UInt8.ofNat 0::[]))) (ZzQ (by refine Eq.trans (b:=AVal.d (.sl 1 (_))) rfl ?_;show _=AVal.d (.sl 1 ((UInt8.ofNat 0::[]).map X6));simp only[map_append,map_cons,map_nil,AS,cons_append,nil_append];rfl)),⟨rfl,TV⟩,X5 _⟩
  by_cases cq:k=1
  ·subst cq;have hput:Yl (.mk 1 n d s l)=UInt8.ofNat 1::U5 n:=by rw[Yl];simp
   have hn: -9223372036854775808<=n/\n<=9223372036854775807:=ON
   have fY:=X7p n hn;rw[hput] at hb |-;generalize U5 n=q at*;simp only[LC] at hb;refine QAc ?_;refine YT ?_;refine Qzc ?_;exact X3 ⟨_,Xe 2 (y:= .d (Xc (UInt8.ofNat 1::q))) (ZzQ (by refine Eq.trans (b:=AVal.d (.sl 1 (_++_))) rfl ?_;show _=AVal.d (.sl 1 ((UInt8.ofNat 1::q).map X6));simp only[map_append,map_cons,map_nil,AS,cons_append,nil_append];rfl)),⟨rfl,TV⟩,X5 _⟩
  by_cases hk2:k=2
  ·subst hk2;have hput:Yl (.mk 2 n d s l)=UInt8.ofNat 2::U5 n:=by rw[Yl];simp
   have hn: -9223372036854775808<=n/\n<=9223372036854775807:=ON
   have fY:=X7p n hn;rw[hput] at hb |-;generalize U5 n=q at*;simp only[LC] at hb;refine QBc ?_;refine UA ?_;refine Qzc ?_;exact X3 ⟨_,Xe 2 (y:= .d (Xc (UInt8.ofNat 2::q))) (ZzQ (by refine Eq.trans (b:=AVal.d (.sl 1 (_++_))) rfl ?_;show _=AVal.d (.sl 1 ((UInt8.ofNat 2::q).map X6));simp only[map_append,map_cons,map_nil,AS,cons_append,nil_append];rfl)),⟨rfl,TV⟩,X5 _⟩
  by_cases jF:k=3
  ·subst jF;have hput:Yl (.mk 3 n d s l)=UInt8.ofNat 3::(U5 n++U5 d):=by rw[Yl];simp
   have gu:(-9223372036854775808<=n/\n<=9223372036854775807)/\ -9223372036854775808<=d/\d<=9223372036854775807:=by simp[X1E] at hv;omega
   have fY:=X7p n gu.1;have pR:=X7p d gu.2;rw[hput] at hb |-;generalize U5 n=q at*;generalize U5 d=q2 at*;simp only[LA,LC] at hb;refine QCc ?_;refine Qab ?_;refine Qzc ?_;exact X3 ⟨_,Xe 2 (y:= .d (Xc (UInt8.ofNat 3::(q++q2)))) (ZzQ (by refine Eq.trans (b:=AVal.d (.sl 1 (_++_++_))) rfl ?_;show _=AVal.d (.sl 1 ((UInt8.ofNat 3::(q++q2)).map X6));simp only[map_append,map_cons,map_nil,AS,cons_append,nil_append];rfl)),⟨rfl,TV⟩,X5 _⟩
  by_cases iH:k=4
  ·subst iH;have hput:Yl (.mk 4 n d s l)=UInt8.ofNat 4::Ys s:=by rw[Yl];simp
   have hs:J s<=65536:=ON
   have fY:=X56 s hs;rw[hput] at hb |-;generalize Ys s=q at*;simp only[LC] at hb;refine Yh ?_;refine Qrc ?_;refine QZ ?_;refine Qzc ?_;exact X3 ⟨_,Xe 2 (y:= .d (Xc (UInt8.ofNat 4::q))) (ZzQ (by refine Eq.trans (b:=AVal.d (.sl 1 (_++_))) rfl ?_;show _=AVal.d (.sl 1 ((UInt8.ofNat 4::q).map X6));simp only[map_append,map_cons,map_nil,AS,cons_append,nil_append];rfl)),⟨rfl,TV⟩,X5 _⟩
  by_cases kz:k=5
  ·subst kz;have hput:Yl (.mk 5 n d s l)=UInt8.ofNat 5::U5 n:=by rw[Yl];simp
   have hn: -9223372036854775808<=n/\n<=9223372036854775807:=ON
   have fY:=X7p n hn;rw[hput] at hb |-;generalize U5 n=q at*;simp only[LC] at hb;refine Yh ?_;refine Qsc ?_;refine X0r ?_;refine Qzc ?_;exact X3 ⟨_,Xe 2 (y:= .d (Xc (UInt8.ofNat 5::q))) (ZzQ (by refine Eq.trans (b:=AVal.d (.sl 1 (_++_))) rfl ?_;show _=AVal.d (.sl 1 ((UInt8.ofNat 5::q).map X6));simp only[map_append,map_cons,map_nil,AS,cons_append,nil_append];rfl)),⟨rfl,TV⟩,X5 _⟩
  by_cases kC:k=6
  ·subst kC;have hput:Yl (.mk 6 n d s l)=UInt8.ofNat 6::U5 n:=by rw[Yl];simp
   have hn: -9223372036854775808<=n/\n<=9223372036854775807:=ON
   have fY:=X7p n hn;rw[hput] at hb |-;generalize U5 n=q at*;simp only[LC] at hb;refine Yh ?_;refine Qtc ?_;refine QW ?_;refine Qzc ?_;exact X3 ⟨_,Xe 2 (y:= .d (Xc (UInt8.ofNat 6::q))) (ZzQ (by refine Eq.trans (b:=AVal.d (.sl 1 (_++_))) rfl ?_;show _=AVal.d (.sl 1 ((UInt8.ofNat 6::q).map X6));simp only[map_append,map_cons,map_nil,AS,cons_append,nil_append];rfl)),⟨rfl,TV⟩,X5 _⟩
  by_cases ja:k=7
  ·subst ja;have hput:Yl (.mk 7 n d s l)=UInt8.ofNat 7::(Xq (J l)++U6 l):=by rw[Yl];simp
   have bz:J l<=64:=ON
   have mh:=X3m (J (XR l)) Oa;rw[<-hlen] at hput;rw[hput] at hb |-;generalize Xq (J (XR l):Int)=q at*;simp only[LA,LC] at hb;refine Yh ?_;refine Quc ?_;refine QBa ?_
   refine Xl (fun i:Nat=>i<=J l) (fun i=>⟨68,[(1,.ptr 100 0),(3,.own 130 (J (UInt8.ofNat 7::(q++U6 (l.take i))))),(4,ai i)],[(100,.box [ai 7,ai n,ai d,X1q s,.d (.sl 5 (XR l))]),(130,.row 1 ((UInt8.ofNat 7::(q++U6 (l.take i))).map X6))]⟩) (fun i=>J l-i) 0 Oa
    (X9 rfl ⟨JL,OH,JL,TV⟩ ⟨rfl,?_,TV⟩) ?_
   ·refine QKa ?_;simp only[take_zero,U6,append_nil,map_cons,cons_append,nil_append];rfl
   exact Yt9
  by_cases gw:k=8
  ·subst gw;have hput:Yl (.mk 8 n d s l)=UInt8.ofNat 8::(Xq (J l)++U6 l):=by rw[Yl];simp
   have bz:J l<=64:=ON
   have mh:=X3m (J (XR l)) Oa;rw[<-hlen] at hput;rw[hput] at hb |-;generalize Xq (J (XR l):Int)=q at*;simp only[LA,LC] at hb;refine Yh ?_;refine Qvc ?_;refine X4 ?_;refine YG ?_
   refine Xl (fun i:Nat=>i<=J l) (fun i=>⟨68,[(1,.ptr 100 0),(3,.own 130 (J (UInt8.ofNat 8::(q++U6 (l.take i))))),(4,ai i)],[(100,.box [ai 8,ai n,ai d,X1q s,.d (.sl 5 (XR l))]),(130,.row 1 ((UInt8.ofNat 8::(q++U6 (l.take i))).map X6))]⟩) (fun i=>J l-i) 0 Oa
    (X9 rfl ⟨JL,OH,JL,TV⟩ ⟨rfl,?_,TV⟩) ?_
   ·refine QKa ?_;simp only[take_zero,U6,append_nil,map_cons,cons_append,nil_append];rfl
   exact Yt9
  simp[*] at hv
def XyP {k n d:Int}{s:List UInt8}{l:List Val} (hv:Xj 8 (.mk k n d s l)=true):∀x∈l,J (Yl x)<=J (Yl (.mk k n d s l)):=by
 intro x hx;have hm:=XiZ hx;by_cases h7:k=7
 ·subst h7;rw[show Yl (.mk 7 n d s l)=UInt8.ofNat 7::(Xq (J l)++U6 l) by rw[Yl];simp];simp only[LC,LA];omega
 ·by_cases h8:k=8
  ·subst h8;rw[show Yl (.mk 8 n d s l)=UInt8.ofNat 8::(Xq (J l)++U6 l) by rw[Yl];simp];simp only[LC,LA];omega
  ·have:l=[]:=by
    rw[Xj] at hv;simp[h7,h8] at hv;exact hv.1.2
   subst this;simp at hx
def XgC:∀v:Val,U1 v->J (Yl v)<=140737488355328->X7v v
 | .mk k n d s l=>fun hok hb=>Xv2 (.mk k n d s l) hok hb fun hv x hx=>XgC x (Xcg Ja hx) (Nat.le_trans (XyP hv x hx) hb)
termination_by v=>SizeOf.sizeOf v
decreasing_by
 have h1:=sizeOf_lt_of_mem (show x∈l from hx);simp only[Val.mk.sizeOf_spec];omega
def X45 (d:ak):Con prog 138 [] [XY d] [] (ai (Vh d)):=by
 obtain⟨secs,af,on⟩:=d;refine ZC1 func138 ntmps138 fun E=> ?_;cases hv:UF ⟨secs,af,on⟩ with
 |true=>
  cases on with
  |true=>
   rw[show Vh ⟨secs,af,true⟩=0 by simp only[Vh,hv];rfl];refine W9_ ?_;refine Z5 (ag:=X5J ⟨secs,af,true⟩) ?_;refine Yb ?_;exact Zr0
  |false=>
   rw[show Vh ⟨secs,af,false⟩=22 by simp only[Vh,hv];rfl];refine W9_ ?_;refine Z5 (ag:=X5J ⟨secs,af,false⟩) ?_;refine Yr ?_;exact Zr0
 |false=>
  rw[show Vh ⟨secs,af,on⟩=1 by simp only[Vh,hv];rfl];refine W9_ ?_;refine Z5 (ag:=X5J ⟨secs,af,on⟩) ?_;exact QNa
def Xgk (d:ak) (a:Int) (hl:X05 d):Con prog 80 [] [XY d,ai a] [] (X2S (.d (Xc (YZ d a).1)) (YZ d a).2):=by
 refine ZCt func80 ntmps80 fun E=> ?_;by_cases hu:Vh d=0
 ·have hp:=hl.2.1;by_cases h1:a<0
  ·rw[show YZ d a=([],1) by simp[YZ,hu];omega];refine QDc ?_;exact Qqb
  by_cases h2:(J d.aa:Int)<=a
  ·rw[show YZ d a=([],1) by simp[YZ,hu];omega];refine QDc ?_;exact Qqb
  obtain⟨k,rfl⟩:∃k:Nat,a=k:=⟨a.toNat,Oa⟩
  obtain⟨s,hs⟩:=Xn (l:=d.aa) (k:=k) Oa;have aL:=hl.2.2.1 s (mem_of_getElem? hs);refine QDc ?_;refine X0r ?_;have hok:=X4X (X9h hu).1;have rA:=hok.1 s (mem_of_getElem? hs);rw[show YZ d (k:Int)=(VF d.pending k s (J d.pending),0) by unfold YZ;rw[NI (by simpa using hu),PI Oa,Int.toNat_natCast,hs];rfl]
  refine Xl (fun j:Nat=>j<=J d.pending) (fun j=>⟨52,[(1,ai k),(2,.ptr 100 0),(7,.d (Xc (VF d.pending k s j))),(8,ai j)],[(100,.box [.d (XS d.aa),.d (XW d.pending),ab d.on])]⟩) (fun j=>J d.pending-j) 0 Oa
   (X9 rfl ⟨JL,JL,JL,JL,TV⟩ ⟨rfl,TV⟩) ?_
  intro j hj;by_cases hlt:j<J d.pending
  ·obtain⟨⟨at_,b⟩,hw⟩:=Xn (l:=d.pending) (k:=j) hlt;by_cases aY:at_=(k:Int)
   ·subst aY;refine X0r ?_;refine⟨j+1,Oa,Oa,X9 rfl ⟨JL,JL,(by refine ZzQ ?_;refine Eq.trans (b:=AVal.d (Xc b)) rfl ?_;simp[VF,hw]),JL,TV⟩ ⟨rfl,TV⟩⟩
   ·refine UK ?_;refine⟨j+1,Oa,Oa,X9 rfl ⟨JL,JL,(by refine ZzQ ?_;refine Eq.trans (b:=AVal.d (Xc (VF d.pending k s j))) rfl ?_;simp[VF,hw,aY]),JL,TV⟩ ⟨rfl,TV⟩⟩
  obtain rfl:j=J d.pending:=Oa
  have bx:=X8B (a:=(k:Int)) hok rA (J d.pending);refine YS ?_;refine X8 (XI 101 rfl) ?_;refine X8 (XX 4 101 rfl rfl Oc) ?_;exact X3 ⟨_,Xe 4 (y:= .d (Xc (VF d.pending k s (J d.pending)))) (ZzQ (by refine Eq.trans (b:=AVal.d (.sl 1 ([]++_))) rfl ?_;simp)),⟨rfl,rfl,TV⟩,X5 _⟩
 ·rw[show YZ d a=([],Vh d) by simp[YZ,hu]];refine QDc ?_;refine XD ?_;exact Qpb
end Go.Fw
