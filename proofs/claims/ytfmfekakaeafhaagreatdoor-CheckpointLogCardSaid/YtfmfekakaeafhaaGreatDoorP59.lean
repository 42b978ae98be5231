/- A row of one's own, cut short: s[:hi] takes the row over. -/
import Derived.Test.YtfmfekakaeafhaaGreatDoorP48
import Derived.Test.YtfmfekakaeafhaaGreatDoorP55
import Derived.Test.YtfmfekakaeafhaaGreatDoorP57
set_option linter.all false
set_option maxHeartbeats 64000000
namespace Go.Fw
open Go List
open List renaming length->J
variable{sz:Nat}{s:Sta}
theorem XiR:∀(xs:List (List D)) (k:Nat),(∀r∈xs,J r=sz)->k<=J xs->(xs.take k).flatten=xs.flatten.take (k*sz)
 |_,0,_,_=>Oc
 |[],k+1,_,h=>OQ
 |x::r,k+1,hx,h=>by
  have hl:=hx x Oc;have ih:=XiR r k (fun y hy=>hx y I6) O2;have e:(k+1)*sz=J x+k*sz:=by rw[hl,Nat.succ_mul,Nat.add_comm]
  rw[take_succ_cons,flatten_cons,flatten_cons,e,take_length_add_append,ih]
section
variable {P:Program}{ops:Array Oper}{draw:Bool}{K:XU->St->Prop}{rest:List Oper}{l:XU}{S:St}
variable {d:Nat}{ty:TypeId}{pos:String}{ah:Array Edge}{gd:Option (Nat×Bool)}
def Xu5 {E:Env}{S:St}{g:Gh}{w:World} (hi:Inv E S.obj g w) {γ aH sz hb:Nat}{xs:List (List D)} (hL:S.obj γ= .row sz xs) (av:S.obj aH= .dead) (hf:S.free aH=true) (hk:hb<=J xs):
  ∃a c,g.hd γ= .slice a (J xs) c/\J xs<=c/\(a=none\/∃b,a=some ⟨b,0,none⟩)/\Inv E (Xs .dead ((γ,.dead)::(aH,.row sz (xs.take hb))::S.L)) (g.put aH 0 (.slice a hb c)) w:=by
 have hne:γ≠aH:=II
 have ho:=hi.obj γ;rw[hL] at ho;have h0:Inv E (Xs .dead ((γ,.dead)::S.L)) g w:=hi.sub fun k=>by
  grind [Xs,St.obj]
 have key:∀(a:Option Addr) (c:Nat),g.hd γ= .slice a (J xs) c->Ud (g.put aH 0 (.slice a hb c)) w aH (.row sz (xs.take hb))->Inv E (Xs .dead ((γ,.dead)::(aH,.row sz (xs.take hb))::S.L)) (g.put aH 0 (.slice a hb c)) w:=by
  intro a c cN gU;refine Inv.updX h0 aH (.row sz (xs.take hb)) (by grind [YC,YK]) (fun k hk2=> ?_) (fun _ _ _=>rfl) (Nat.le_refl _) rfl rfl rfl (fun k hk2=>⟨by simp[Gh.put,hk2],by simp[Gh.put,hk2],rfl⟩) (fun k cs us hk2 lH hs=>X7Z ?_ hs) gU (fun b hb'=> ?_) (fun hlt=>by grind [St.free,Nat.ble_eq])
  ·grind [YK,YC]
  ·by_cases b8:k=γ
   ·grind [X0y,St.obj,Xs,AObj.says]
   rw[YC _ _ _ (Ne.symm b8)] at lH;have:=Xdx hf k
   grind [AObj.ment,St.obj]
  ·right;right;have hlb:Xw g (S.obj γ) γ b:=by
    rw[hL];simp only[Xw,Gh.put,if_true] at hb' |-
    grind [U0]
   refine⟨fun k hk2 hl=> ?_,hi.sep γ b hlb,hi.new γ b hlb⟩;by_cases b8:k=γ
   ·grind [YK,Xw]
   ·rw[YC _ _ _ (Ne.symm b8)] at hl;exact b8 (hi.inj _ _ _ hl hlb)
 obtain⟨hlen,hr⟩:=ho;have ay:∀r∈xs.take hb,J r=sz:=fun r hr=>hlen r (mem_of_mem_take hr);rcases hr with ⟨eE,rfl⟩|⟨b,cap,vs,e',fr,q1,q2,q3,q4,q5,q6,q7⟩
 ·have uG:hb=0:=by simpa using hk
  subst uG;refine⟨none,0,eE,Nat.le_refl _,.inl rfl,key none 0 eE ⟨ay,.inl ⟨by simp[Gh.put],Oc⟩⟩⟩
 ·have iQ:J (xs.take hb)=hb:=by grind
  refine⟨some ⟨b,0,none⟩,cap,q1,q2,.inr ⟨b,rfl⟩,key _ cap q1 ⟨ay,.inr ⟨b,cap,vs,e',fr,by simp[Gh.put,iQ],Oa,q3,q4,q5,q6,?_⟩⟩⟩;refine X7Z (Xc9 _ _) ?_;have h7:=X3G q7 (hb*sz);simp_all [take_take,XiR]
def XsL {T:TypeId}{x hi:Operand}{γ aH n hb:Nat}{xs:List (List D)} (hx:S.ev x= .own γ n) (hL:S.obj γ= .row sz xs) (hhi:S.ev hi=ai hb) (hn:n=J xs) (hk:hb<=J xs)
  (hT:UT P T sz=true) (av:S.obj aH= .dead) (hf:S.free aH=true) (hd:Nat.blt d S.n=true) (hg:XL ops S gd)
  (h:Walk P ops draw K rest ((J l,⟨some d,.slice T x none (some hi) none,ty,pos,ah,gd⟩,⟨XH ops gd++[(x,.own γ n),(hi,ai hb)],some (d,.own aH hb),[(γ,.row sz xs),(aH,.dead)],[(γ,.dead),(aH,.row sz (xs.take hb))],[aH]⟩)::l)
   ((S.set d (.own aH hb)).cat [(γ,.dead),(aH,.row sz (xs.take hb))])):
  Walk P ops draw K (⟨some d,.slice T x none (some hi) none,ty,pos,ah,gd⟩::rest) l S:=by
 refine Yq h hg ?_ ⟨⟨hx,hhi,TV⟩,⟨hL,av,TV⟩,⟨hf,TV⟩,hd⟩;intro E S' a w g hs hok Q K' hK;obtain⟨dL,eH,iF,dz⟩:=hok;have hq:=X1K hs _ dL;obtain⟨b,cap,hh,hcap,gj,hinv⟩:=Xu5 hs.1 eH.1 eH.2.1 iF.1 hk;obtain⟨e,h1,h2,h3⟩:=X29 hT;have ho:=hs.1.obj γ;rw[eH.1] at ho;have hv:a.eval x=g.hd γ:=X41 hq.1 ho hn;have e2:=Uy hq.2.1;have nx:hb<=cap:=Oa
 have hbd:(Instr.sliceBounds true (J xs) cap none (some (a.eval hi)) none).run P w= .ok (0,hb,cap) w:=by
  simp_all [Instr.sliceBounds,run_sliceBound]
 have hrun:=run_slice_any (P:=P) w T b (J xs) cap (by rw[h3];exact h1) none (some (a.eval hi)) none;rw[hbd,Result.andThen_ok,h3,h2 w,Result.andThen_ok] at hrun;have aL:sliced b 0 hb cap sz= .slice b hb cap:=by
  grind [sliced,Vq]
 rw[aL] at hrun;have bE:(execOp a.eval ⟨some d,.slice T x none (some hi) none,ty,pos,ah,gd⟩).run P w= .ok (.value (.slice b hb cap)) w:=by
  simp_all [execOp,Instr.sliceAt,run_underlying]
 unfold Oper.wp;rw[bE,Oper.upon_value];exact hK _ _ (X2f hinv hs.2.1 hs.2.2.1 (X44 iF.1 hs.2.2.2) (X9Q (w:=w)) dz)
end
open Go Go.Proofs Tryz
open List renaming length->J
set_option maxRecDepth 100000
def XrV (r:Rcd) (hok:X0z r):Con prog 250 [] [Um r] [] (.d (Xc (X0e r))):=by
 have hc:=XcJ r hok;obtain⟨hlen,gP⟩:=hok;unfold X0e;by_cases h:UO r=0
 case neg=>
  rw[NI h];generalize UO r=e at*;obtain⟨kd,ts,l,⟨k,n,name,key,src,dst⟩,off⟩:=r;simp only[Um] at*;refine ZC1 func250 ntmps250 fun E=> ?_;exact QMa
 rw[PI h];rw[h] at hc;obtain⟨fZ,hts,h1,h2,h3,h4⟩:=XeV h;clear h;obtain⟨kd,ts,l,⟨k,n,name,key,src,dst⟩,off⟩:=r;simp only at hlen gP fZ hts h1 h2 h3 h4;have mh:=X3m ts Oa;have tQ:=X0g (n:=ts) Oa;have hlm:J (l.map Xp)=J l:=Oc
 by_cases k3:kd=3
 ·subst k3;obtain rfl:=h3 Oi;have hput:X1c ⟨3,ts,[],⟨k,n,name,key,src,dst⟩,off⟩=UInt8.ofNat 3::Xq ts:=by unfold X1c;simp
  rw[hput];generalize Xq ts=w0 at*;simp only[Um] at*;refine ZC1 func250 ntmps250 fun E=> ?_;refine QCc ?_;refine VM ?_;refine QUc ?_;exact QVc
 by_cases k2:kd=2
 ·subst k2;obtain rfl:=h3 Oi;have h2:=h2 rfl;have tR:=(by have:=Xnk ⟨k,n,name,key,src,dst⟩;unfold cu at this;rwa [PI h2] at this:Con prog 95 [] [Yu ⟨k,n,name,key,src,dst⟩] [] (.d (Xc (VN ⟨k,n,name,key,src,dst⟩))))
  have hlr:=X5Z h2;have hput:X1c ⟨2,ts,[],⟨k,n,name,key,src,dst⟩,off⟩=UInt8.ofNat 2::(Xq ts++(VN ⟨k,n,name,key,src,dst⟩++[if off then 1 else 0])):=by unfold X1c;simp
  rw[hput];generalize Xq ts=w0 at*;generalize VN ⟨k,n,name,key,src,dst⟩=w1 at*;simp only[Um,Yu] at*;cases off with
  |true=>
   refine ZC1 func250 ntmps250 fun E=> ?_;refine QBc ?_;refine X4 ?_;refine Us ?_;refine QUc ?_;exact QWc
  |false=>
   refine ZC1 func250 ntmps250 fun E=> ?_;refine QBc ?_;refine QUa ?_;refine QUc ?_;exact QXc
 have k1:kd=1:=Oa
 subst k1;obtain⟨h1,hl⟩:=h1 Oi;have aT:=X3m (J l:Nat) Oa;have bz:=X0g (n:=(J l:Nat)) Oa;have hput:X1c ⟨1,ts,l,⟨k,n,name,key,src,dst⟩,off⟩=UInt8.ofNat 1::(Xq ts++Xq (J l:Nat))++X0A l:=by unfold X1c;simp
 rw[hput];clear hput h2 h3 h4 fZ k2 k3;rw[<-hlm] at aT;rw[<-hlm] at bz |-;generalize Xq ts=w0 at*;generalize Xq (J (l.map Xp):Nat)=w1 at*;simp only[Um] at*;refine ZC1 func250 ntmps250 fun E=> ?_;refine QAc ?_;refine VM ?_;generalize hA:UInt8.ofNat 1::(w0++w1)=A at*;have fu:J A<=21:=by rw[<-hA];simp only[LC,LA];omega
 refine Xl (ι:=Nat) (fun i=>i<=J l) (fun i=>⟨57,[(1,.ptr 100 0),(3,.own 130 (J ((A++X0A (l.take i)).map X6))),(4,ai i)],[(100,.box [ai 1,ai ts,.d (.sl 10 (l.map Xp)),ai k,ai n,Xa name,Xa key,Xa src,Xa dst,ab off]),(130,.row 1 ((A++X0A (l.take i)).map X6))]⟩) (fun i=>J l-i) 0 Oa
  (by
   rw[take_zero,Xjw];subst hA;exact X9 rfl ⟨JL,Oo,JL,TV⟩ ⟨rfl,Ot,TV⟩) ?_
 intro i hi;have hrow:J ((A++X0A (l.take i)).map X6)<=300000:=by
  exact Yt58
 by_cases hil:i<J l
 case neg=>
  obtain rfl:i=J l:=Oa
  rw[take_length] at hrow |-;have hn:¬((J l:Nat):Int)<J (l.map Xp):=Oa
  generalize A++X0A l=B at*;refine V4 ?_;refine Qec ?_;exact Zr0
 have hn:(i:Int)<J (l.map Xp):=Oa
 obtain⟨x,hx⟩:=Xn (l:=l) hil;have au:(l.map Xp)[i]? =some (Xp x):=XC hx;have fP:=h1 x (mem_of_getElem? hx);have aA:=XjJ x (gP x (mem_of_getElem? hx)).2;have hxl:=X5X fP;have cH:=Xkw hx;unfold cw at aA;rw[PI fP] at aA;generalize U3 x=w at*;obtain⟨op,id,dZ,e7,cK,⟨xk,xn,xd,xs,xl⟩⟩:=x;simp only[Xu,Xp] at aA au;generalize hB:A++X0A (l.take i)=B at*;refine YG ?_;refine⟨i+1,Oa,Oa,?_⟩;dsimp only;rw[cH,<-AS,hB];exact X9 rfl ⟨JL,Oo,JL,TV⟩ ⟨rfl,Ot,TV⟩
def XxV (ep:Int) (r:Rcd) (h1:0<=ep) (h2:ep<=1000000000000000) (hr:X46 r):Con prog 193 [] [ai ep,Um r] [] (.d (Xc (UN ep r))):=by
 refine ZC1 func193 ntmps193 fun E=> ?_;have c1:=X8j ep Oa;have c2:=XrV r hr.1;have bx:=X8b h1 h2 hr.2;have c3:=XnD (Un ep r) Oa;have fL:=X7c h1 Oa;have hrl:=hr.2;have hfl:=XfU (b:=Un ep r) Oa;have bI:Xc (UN ep r)= .sl 1 ((YB (Yx (Un ep r))).map X6++[[.v (.int .u8 0)]]):=by unfold UN Xc;rw[map_append];rfl
 rw[bI];unfold Un at*;generalize X0e r=R at*;generalize Xq ep=U at*;have mz:J (U.map X6)=J U:=Oc
 have l6:J (R.map X6)=J R:=Oc
 generalize hF:Yx (U++R)=F at*;have tW:J (F.map X6)=J F:=Oc
 clear hr bI hF;obtain⟨kd,ts,l,⟨k,n,name,key,src,dst⟩,off⟩:=r;simp only[Um] at*;refine XB ?_;refine Zc (γ:=130) ?_;refine Yh ?_;clear c1 c2 c3;refine X8 (Uo 7 131 1 rfl rfl rfl) ?_
 refine Xl (fun i:Nat=>i<=J F) (fun i=>⟨45,[(6,.d (Xc F)),(7,.own 131 (J ((YB (F.take i)).map X6))),(8,ai i)],[(131,.row 1 ((YB (F.take i)).map X6))]⟩) (fun i=>J F-i) 0 (Nat.zero_le _)
  (ZL0) ?_
 intro i hi;have hel:=Xcs (F.take i);rw[LT] at hel;have hroom:J ((YB (F.take i)).map X6)<=130048:=Oj
 by_cases hil:i<J F
 case neg=>
  obtain rfl:i=J F:=Oa
  have hn:¬((J F:Nat):Int)<J (F.map X6):=Oa
  rw[take_length] at hroom |-;refine Yb ?_;refine X8 (XI 131 rfl) ?_;refine X8 (XX 4 131 rfl rfl Oc) ?_
  (exact Zz2)
 have hn:(i:Int)<J (F.map X6):=Oa
 obtain⟨x,hx⟩:=Xn (l:=F) hil;have au:(F.map X6)[i]? =some (X6 x):=XC hx;have hst:=XlJ hx;by_cases hx1:x.toNat<=1
 ·have jM:¬(1:Int)<(x.toNat:Int):=by omega
  have fP:=Xj1 hx1;have eW:(YB (F.take (i+1))).map X6=(YB (F.take i)).map X6++[[.v (.int .u8 1)],X6 (x+1)]:=by rw[hst];unfold X4e;rw[PI hx1,map_append];rfl
  clear hx hst hel;refine YT ?_;(refine Z3 (op:= .add) (r':=n8 (x+1).toNat) (u:=n8 x.toNat) (v:=n8 1) ?_ (hr':=by exact fP) (hr:=by exact X2e (by rw[VE];omega)));refine W9_ ?_;refine⟨i+1,hil,Oa,?_⟩;dsimp only;rw[eW];exact QYe
 ·have jM:(1:Int)<(x.toNat:Int):=by omega
  have eW:(YB (F.take (i+1))).map X6=(YB (F.take i)).map X6++[X6 x]:=by rw[hst];unfold X4e;rw[NI hx1,map_append];rfl
  clear hx hst hel;refine X04 ?_;refine⟨i+1,hil,Oa,?_⟩;dsimp only;rw[eW];exact QYe
def Xur (ep:Int) (l:List Rcd) (h1:0<=ep) (h2:ep<=1000000000000000) (hr:∀r∈l,X46 r) (hl:J l<=1000):Con prog 122 [] [ai ep,.d (.sl 10 (l.map Y6))] [] (.tup [.d (Xc (X3B ep l)),ai (V9 l)]):=by
 refine ZCt func122 ntmps122 fun E=> ?_;have hlm:J (l.map Y6)=J l:=Oc
 have e1:V9 l≠0->X3B ep l=[]:=fun h=>PI h;have e2:V9 l=0->X3B ep l=Xv ep l:=fun h=>NI (by rw[h];simp);generalize hR:V9 l=R at*;generalize X3B ep l=P at*;refine Ya ?_;refine X8 (Uo 6 130 1 rfl rfl rfl) ?_
 refine Xl (fun i:Nat=>i<=J l/\V9 (l.drop i)=R) (fun i=>⟨39,[(0,ai ep),(1,.d (.sl 10 (l.map Y6))),(6,.own 130 0),(7,ai i)],[(130,.row 1 [])]⟩) (fun i=>J l-i) 0 ⟨Nat.zero_le _,Is⟩
  (ZL0) ?_
 rintro i ⟨hi,hg⟩;by_cases hil:i<J l
 case pos=>
  have hn:(i:Int)<J (l.map Y6):=Oa
  obtain⟨x,hx⟩:=Xn (l:=l) hil;have au:(l.map Y6)[i]? =some (Y6 x):=XC hx;have hw:=hr x (mem_of_getElem? hx);rw[Xjg hx] at hg;have c1:=XcJ x hw.1;generalize UO x=re at*;clear hx hr hw;obtain⟨kd,ts,cl,⟨k,n,name,key,src,dst⟩,off⟩:=x;simp only[Um,Y6] at*;by_cases bR:re=0
  case neg=>
   rw[PI bR] at hg;subst hg;obtain rfl:=e1 bR;clear e1 e2;refine UA ?_
   (exact Zz1 rfl ⟨_,Xe 4 (AVal.le_nil 1),⟨rfl,rfl,TV⟩,X5 _⟩)
  rw[NI (by simpa using bR)] at hg;subst bR;clear e1 e2;refine UA ?_;exact Qle
 have hn:¬(i:Int)<J (l.map Y6):=Oa
 rw[drop_of_length_le Oa] at hg;obtain rfl:0=R:=hg;obtain rfl:=e2 rfl;clear e1 e2;refine Yr ?_;clear hn hil hi
 refine Xl (fun i:Nat=>i<=J l) (fun i=>⟨39,[(0,ai ep),(1,.d (.sl 10 (l.map Y6))),(6,.own 130 (J ((Xv ep (l.take i)).map X6))),(9,ai i)],[(130,.row 1 ((Xv ep (l.take i)).map X6))]⟩) (fun i=>J l-i) 0 (Nat.zero_le _)
  (ZL0) ?_
 intro i hi;have hel:=X9d h1 h2 (l.take i) fun x hx=>(hr x (mem_of_mem_take hx)).2;rw[LT] at hel;have hroom:J ((Xv ep (l.take i)).map X6)<=130000000:=Oj
 by_cases hil:i<J l
 case neg=>
  obtain rfl:i=J l:=Oa
  have hn:¬((J l:Nat):Int)<J (l.map Y6):=Oa
  rw[take_length] at hroom |-;refine Yr ?_;refine QId ?_
  (exact Zz1 rfl ⟨_,ZzS,⟨rfl,rfl,TV⟩,X5 _⟩)
 have hn:(i:Int)<J (l.map Y6):=Oa
 obtain⟨x,hx⟩:=Xn (l:=l) hil;have au:(l.map Y6)[i]? =some (Y6 x):=XC hx;have hw:=hr x (mem_of_getElem? hx);have c2:=XxV ep x h1 h2 hw;have hst:=XhQ (ep:=ep) hx;have cF:=XdQ h1 h2 hw.2;have eW:(Xv ep (l.take (i+1))).map X6=(Xv ep (l.take i)).map X6++(UN ep x).map X6:=by rw[hst,map_append]
 have lu:J ((UN ep x).map X6)<=130000:=by rw[LM];exact cF
 generalize UN ep x=Y at*;clear hx hr hst hw hel;obtain⟨kd,ts,cl,⟨k,n,name,key,src,dst⟩,off⟩:=x;simp only[Um,Y6] at*;refine U7 ?_;refine⟨i+1,hil,Oa,?_⟩;dsimp only;rw[eW];exact Qbe
def Xib (d:ak) (f t ep tail:Int) (l:List Rcd) (hf:Vx d) (hr:∀r∈l,X46 r) (hl:J l<=1000):Con prog 68 [] [XY d,ai f,ai t,ai ep,ai tail,.d (.sl 10 (l.map Y6))]
  [(133,.row 3 ((Yy d f t ep tail l).1.map XO))] (.tup [.own 133 (J ((Yy d f t ep tail l).1.map XO)),ai (Yy d f t ep tail l).2.1,ai (Yy d f t ep tail l).2.2]):=by
 refine ZCt func68 ntmps68 fun E=> ?_;have c1:=XhU d f t ep tail;by_cases he:Ua d f t ep tail=0
 case neg=>
  have e:Yy d f t ep tail l=([],0,Ua d f t ep tail):=by unfold Yy;rw[PI he]
  rw[e];generalize Ua d f t ep tail=r at*;clear hf hr;obtain⟨secs,af,on⟩:=d;simp only[map_nil,length_nil];refine UK ?_
  (exact Zz1 rfl ⟨_,Uo 12 133 3 rfl rfl rfl,⟨rfl,rfl,rfl,TV⟩,Xm ⟨rfl,TV⟩⟩)
 rw[he] at c1;obtain⟨hd,h1,h2,h3,h4,h5,h6,h7⟩:=X76 he;have c2:=Xur ep l h4 h5 hr hl;by_cases hE:V9 l=0
 case neg=>
  have e:Yy d f t ep tail l=([],0,V9 l):=by unfold Yy;rw[NI Je,PI hE]
  rw[e];generalize V9 l=r at*;generalize X3B ep l=P at*;clear hf hr hd e he;obtain⟨secs,af,on⟩:=d;simp only[map_nil,length_nil];refine Qbb ?_
  (exact Zz1 rfl ⟨_,Uo 12 133 3 rfl rfl rfl,⟨rfl,rfl,rfl,TV⟩,Xm ⟨rfl,TV⟩⟩)
 have eP:X3B ep l=Xv ep l:=NI (by rw[hE];simp);rw[hE,eP] at c2;have fu:=X9d h4 h5 l fun r dM=>(hr r dM).2;have eS:Yy d f t ep tail l=if (t-f)*64<tail+J (Xv ep l) then ([],0,20) else (X3O d f t tail (Xv ep l),tail+J (Xv ep l),0):=by
  unfold Yy;rw[NI Je,NI (by rw[hE];simp)]
 rw[eS];generalize Xv ep l=A at*;have ji:J (A.map X6)=J A:=Oc
 have hN:t<=2000:=I9
 clear eS eP hE he hr;by_cases hfull:(t-f)*64<tail+J A
 ·rw[PI hfull];have cx:(t-f)*64<tail+(J (A.map X6):Nat):=by rw[ji];exact hfull
  clear hf hd h3;obtain⟨secs,af,on⟩:=d;simp only[map_nil,length_nil];refine X4 ?_;refine YG ?_
  (exact Zz1 rfl ⟨_,Uo 12 133 3 rfl rfl rfl,⟨rfl,rfl,rfl,TV⟩,Xm ⟨rfl,TV⟩⟩)
 rw[NI hfull];have cx:¬(t-f)*64<tail+(J (A.map X6):Nat):=by rw[ji];exact hfull
 have c4:=Xl1 d f t hd hf h1 Oa h3;have nN:J (XV d f t)=64*(t-f).toNat:=O6
 obtain⟨F,rfl⟩:∃F:Nat,f=F:=⟨f.toNat,Oa⟩
 obtain⟨T,rfl⟩:∃T:Nat,tail=T:=⟨tail.toNat,Oa⟩
 unfold X3O V7;have eT:X1I d (F:Nat) t (T:Nat) A=YI (((XV d (F:Nat) t).take T).drop (T/64*64)++A):=by unfold X1I;rw[Int.toNat_natCast]
 rw[eT,Int.toNat_natCast,Int.toNat_natCast];generalize XV d (F:Nat) t=B at*;have lN:J (B.map X6)=J B:=Oc
 obtain⟨X,hX⟩:∃X,X=(B.take T).drop (T/64*64):=⟨_,rfl⟩
 have b7:J X=T-T/64*64:=by rw[hX,LD,LT];omega
 have od:B.take T++A=(B.take (T/64*64))++(X++A):=by
  rw[<-AS,hX];congr 1;conv=>lhs;rw[<-take_append_drop (T/64*64) (B.take T)]
  rw[take_take,Nat.min_eq_left Oa]
 rw[<-hX];clear hX eT;have oe:J (B.take (T/64*64))=T/64*64:=Oz
 have jo:YI (B.take T++A)=B.take (T/64*64)++YI (X++A):=by rw[od];exact XlD (by rw[oe];omega)
 have l8:J (X++A)=J X+J A:=Oc
 obtain⟨nQ,iI,jj⟩:=X2i (X++A);have kL:=Xh5 (B.take T++A);rw[jo,map_append] at kL;have lp:J (B.take T++A)=T+J A:=by rw[LA,LT];omega
 rw[lp] at kL;generalize YI (X++A)=Y at*;generalize B.take (T/64*64)=P at*;have sE:(B.map X6).take T=(B.take T).map X6:=by rw[map_take]
 have nO:T<=J (B.map X6):=Oa
 have qA:J ((B.take T).map X6)=T:=IT
 generalize (B.take T).map X6=Q at*;obtain⟨n,hn⟩:∃n,J Y=64*n:=⟨J Y/64,Oa⟩
 have iO:J Y/64=n:=Oa
 rw[iO];have hC:(if A=[] then [] else V0 n Y)=V0 (if A=[] then 0 else n) Y:=by by_cases q:A=[]<;>simp[q,V0]
 rw[hC];have dh:A=[]↔J A=0:=⟨fun q=>by rw[q];rfl,fun q=>eq_nil_of_length_eq_zero q⟩
 generalize hm:(if A=[] then 0 else n)=m at*;have hmn:m<=n:=by
  rw[<-hm];by_cases q:A=[]
  ·rw[PI q];omega
  ·rw[NI q];omega
 have og:J A=0->m=0:=fun q=>by rw[<-hm,PI (dh.2 q)]
 have n6:J A≠0->m=n:=fun q=>by rw[<-hm,NI (fun e=>q (dh.1 e))]
 have cO:WrOk d (F+T/64) n Y:=⟨hd,hf,hn,Oa⟩
 have aY:=fun k (hk:k<=n)=>X9p cO hk;have g7:=fun k (hk:k<n)=>XdD cO hk;obtain⟨D,hD⟩:∃D:Nat->ak,∀k,Yt d (F+T/64) (V0 k Y)=D k:=⟨_,fun _=>rfl⟩
 obtain⟨R,hR⟩:∃R:Nat->List ak,∀k,cD d (F+T/64) (V0 k Y)=R k:=⟨_,fun _=>rfl⟩
 simp only[hD,hR] at aY g7 |-;have gC:d=D 0:=hD 0;have lO:[d]=R 0:=hR 0;have bP:∀k,J (R k)=k+1:=fun k=>by rw[<-hR,X7f,X3F]
 clear hD hR cO hC hm;have jk:=Xdd (D m) (aY m hmn).2;generalize (V1 (D m)).1=Z at*;generalize (V1 (D m)).2=Z2 at*;obtain⟨zs,zp,zo⟩:=Z;have bI:(R m++[(⟨zs,zp,zo⟩:ak)]).map XO=(R m).map XO++[[XS zs,XW zp,.v (.bool zo)]]:=by simp[XO]
 rw[bI,LA];clear bI;have gS:J Q+J (A.map X6)<=200000:=Oa
 generalize oc:(64-(T+J A)%64)%64=p at*;subst gC;clear hf hd;refine X4 ?_;refine UK ?_;refine XsL (aH:=132) (hg:=JSa) (hx:=JSb) (hL:=JSb) (hhi:=JSb) (hn:=JSe) (hk:=JSh) (hT:=JSb) (av:=JSb) (hf:=JSb) (hd:=JSb) ?_;refine W6_ ?_;clear c1 c2 c4;simp only[sE]
 refine Xl (fun j:Nat=>j<=p) (fun j=>⟨116,[(1,ai (F:Nat)),(6,.ptr 100 0),(4,ai (T:Nat)),(16,.d (Xc A)),(18,ai ((T:Int)+J (A.map X6))),(19,.own 132 (J ((Q++A.map X6)++replicate j cL)))],[(100,.box [.d (XS (D 0).aa),.d (XW (D 0).pending),ab (D 0).on]),(132,.row 1 ((Q++A.map X6)++replicate j cL))]⟩) (fun j=>p-j) 0 (Nat.zero_le _)
  (X9 rfl ⟨JL,JL,JL,JL,JL,ZzQ IH,TV⟩ ⟨rfl,(by simp;rfl),TV⟩) ?_
 intro j hj;obtain⟨W,hW⟩:∃W,W=(Q++A.map X6)++replicate j cL:=⟨_,rfl⟩
 have mE:J W=T+J A+j:=by rw[hW];simp;omega
 have kK:(Q++A.map X6)++replicate (j+1) cL=W++[cL]:=by rw[hW];exact Xev _ _
 rw[<-hW];have hroom:J W<=200000:=Oa
 by_cases hp:j<p
 ·have aX:¬((J W:Nat):Int)%64=0:=by omega
  refine Yb ?_;refine⟨j+1,hp,Oa,?_⟩;dsimp only;rw[kK];exact X9 rfl ⟨JL,JL,JL,JL,JL,ZzQ (by refine Eq.trans (b:=AVal.own 132 (_+_)) rfl ?_;rw[LA]),TV⟩ ⟨rfl,rfl,TV⟩
 obtain rfl:j=p:=Oa
 have aX:((J W:Nat):Int)%64=0:=Oa
 have cJ:¬¬((J W:Nat):Int)%64=0:=fun h=>h aX;have qf:W=(P++Y).map X6:=by rw[hW,kL]
 refine XB ?_;subst qf;refine X8 (XI 132 rfl) ?_;refine X8 (XX 19 132 rfl rfl rfl) ?_;refine W2_ ?_;refine Za (γ:=133) (d:=70) ?_;refine W6_ ?_;(refine Z4 (op:= .quo) (r':=ni (T/64)) (u:=ni T) (v:=ni 64) ?_ (hr:=It));refine W3_ ?_;clear aX cJ kK hW kL sE;have aN:T/64*64<=T:=Oa
 have bJ:T<T/64*64+64:=Oa
 generalize T/64=q at*
 refine Xl (fun k:Nat=>k<=m) (fun k=>⟨116,[(1,ai (F:Nat)),(6,.ptr 100 0),(16,.d (Xc A)),(18,ai ((T:Int)+J (A.map X6))),(19,.d (Xc (P++Y))),(20,.own 133 (J ((R k).map XO))),(21,ai (q+k:Nat))],[(100,.box [.d (XS (D k).aa),.d (XW (D k).pending),ab (D k).on]),(133,.row 3 ((R k).map XO))]⟩) (fun k=>m-k) 0 (Nat.zero_le _)
  (X9 rfl ⟨JL,JL,JL,JL,JL,(by rw[<-lO];exact ZzV),JL,TV⟩ ⟨rfl,(by rw[<-lO];rfl),TV⟩) ?_
 intro k hk;have aG:=bP k;have nR:J ((R k).map XO)<=5000:=Oj
 have sO:J (R k)<=5000:=Oa
 by_cases hkn:k<m
 case neg=>
  obtain rfl:k=m:=Oa
  have hbd:(q+k)*64<=1000000:=Oa
  clear aY g7;by_cases hlt:(((q+k)*64:Nat):Int)<(T:Int)+(J (A.map X6):Nat)
  ·have sF:J A=0:=by
    by_cases q:J A=0
    ·exact q
    ·have:=n6 q;omega
   have hgt:¬(0:Int)<(J (A.map X6):Nat):=Oa
   clear dh og n6 hmn hn iO nQ iI jj qA lN nN oe lp l8 b7 bP aG hfull cx nO gS hroom mE jo od h1 h2 h3 h4 h5 h6 h7 hN fu sF;refine W4_ ?_;refine ZBM (q+k) 64 ?_;refine Uf ?_
   (exact Zz1 rfl ⟨_,Xe 13 (ZzQ Iu),⟨rfl,rfl,rfl,TV⟩,Xm ⟨rfl,TV⟩⟩)
  ·clear dh og n6 hmn hn iO nQ iI jj qA lN nN oe lp l8 b7 bP aG hfull cx nO gS hroom mE jo od h1 h2 h3 h4 h5 h6 h7 hN fu;refine W4_ ?_;refine ZBM (q+k) 64 ?_;refine Uf ?_
   (exact Zz1 rfl ⟨_,Xe 13 (ZzQ Iu),⟨rfl,rfl,rfl,TV⟩,Xm ⟨rfl,TV⟩⟩)
 have nP:J A≠0:=fun q=>by have:=og q;omega
 have sG:=n6 nP;have hlt:(((q+k)*64:Nat):Int)<(T:Int)+(J (A.map X6):Nat):=Oa
 have hgt:(0:Int)<(J (A.map X6):Nat):=Oa
 obtain⟨s1,s2,s3,s4⟩:=g7 k Oa;have hw:=Xau (D k) ((F+q+k:Nat):Int) ((Y.drop (64*k)).take 64) (aY k Oa).2 (by rw[s2];omega);rw[s3] at hw;have aL:(((P++Y).map X6).take ((q+k+1)*64)).drop ((q+k)*64)=((Y.drop (64*k)).take 64).map X6:=by
  rw[<-map_take,<-map_drop,show(q+k+1)*64=J P+64*(k+1) by omega,take_length_add_append,show(q+k)*64=J P+64*k by omega,drop_length_add_append,drop_take,show 64*(k+1)-64*k=64 by omega]
 have qg:(R (k+1)).map XO=(R k).map XO++[[XS (D (k+1)).aa,XW (D (k+1)).pending,.v (.bool (D (k+1)).on)]]:=by rw[s4,map_append];rfl
 have sH:J ((P++Y).map X6)=q*64+64*n:=Ou
 have hs1:(q+k)*64<=(q+k+1)*64:=Oa
 have cV:(q+k+1)*64<=J ((P++Y).map X6):=Oa
 have eg:J (((Y.drop (64*k)).take 64).map X6)=64:=by rw[LM];exact s2
 generalize ((Y.drop (64*k)).take 64)=cn at*;have hbd:(q+k+1)*64<=1000000:=Oa
 have vR:F+q+k+1<=1000000:=Oa
 clear aY g7 s1 s2 s3 s4 jk;clear dh og n6 hmn hn iO nQ iI jj qA lN nN oe lp l8 b7 bP aG hfull cx nO gS hroom mE jo od h1 h2 h3 h4 h5 h6 h7 hN fu sG nP sH;refine W4_ ?_;refine ZBM (q+k) 64 ?_;refine XK ?_;refine W4_ ?_;(refine Z3 (op:= .add) (r':=ni (F+q+k)) (u:=ni F) (v:=ni (q+k)) ?_ (hr':=by exact CG ni (show F+(q+k)=F+q+k by omega)) (hr:=OT));refine Za (γ:=134) (d:=89) ?_;refine W2_ ?_;refine ZBM (q+k) 64 ?_;refine W1_ ?_;refine ZBA (q+k) 1 ?_;refine ZBM (q+k+1) 64 ?_;refine Z8 (lb:=((q+k)*64)) (hb:=((q+k+1)*64)) (ys:=cn.map X6) ?_ (hys:=by exact aL);refine Zc (γ:=134) ?_;refine Z5 (ag:=hw) ?_;refine W6_ ?_;refine .done (fun _=>Oh) ?_;refine W5_ ?_;refine X8 (X9 (n:=116) (τ:=[(1,ai (F:Nat)),(6,.ptr 100 0),(16,.d (Xc A)),(18,ai ((T:Int)+J (A.map X6))),(19,.d (Xc (P++Y))),(20,.own 133 (J ((R k).map XO))),(21,ai (q+k:Nat))]) (L:=[(100,.box [.d (XS (D (k+1)).aa),.d (XW (D (k+1)).pending),ab (D (k+1)).on]),(133,.row 3 ((R k).map XO))]) rfl JM ⟨rfl,rfl,TV⟩) ?_;clear aL hw hs1 cV eg hlt hgt oc hj hp aN bJ lO hbd;refine XG ?_;refine⟨k+1,hkn,Oa,?_⟩;dsimp only;rw[qg];exact X9 rfl ⟨JL,JL,JL,JL,JL,ZzQ (by refine Eq.trans (b:=AVal.own 133 (_+_)) rfl ?_;rw[LA]),JL,TV⟩ ⟨rfl,rfl,TV⟩
def Xsk (d:ak) (f t ep tail:Int) (l:List Rcd) (hf:Vx d) (hr:∀r∈l,X46 r) (hl:J l<=1000):Con prog 40 [] [XY d,ai f,ai t,ai ep,ai tail,.d (.sl 10 (l.map Y6))]
  [] (.tup [XY (Uc d f t ep tail l).1,ai (Uc d f t ep tail l).2.1,ai (Uc d f t ep tail l).2.2]):=by
 refine ZCt func40 ntmps40 fun E=> ?_;have c1:=Xib d f t ep tail l hf hr hl;by_cases he:(Yy d f t ep tail l).2.2=0
 case neg=>
  exact Yt28
 exact Yt6
def XsD (d:ak) (f t ep tail:Int) (l:List Rcd) (hf:Vx d) (hr:∀r∈l,X46 r) (hl:J l<=1000):Con prog 43 [] [XY d,ai f,ai t,ai ep,ai tail,.d (.sl 10 (l.map Y6))]
  [] (.d (.sl 3 ((Yy d f t ep tail l).1.map XO))):=by
 refine ZC1 func43 ntmps43 fun E=> ?_;have c1:=Xib d f t ep tail l hf hr hl;have fX:=fun h=>(X81 (d:=d) (f:=f) (t:=t) (ep:=ep) (tail:=tail) (l:=l) h).1;generalize (Yy d f t ep tail l).1=T at*;generalize (Yy d f t ep tail l).2.1=z at*;generalize (Yy d f t ep tail l).2.2=e at*;clear hf hr;obtain⟨secs,af,on⟩:=d;by_cases he:e=0
 case neg=>
  obtain rfl:=fX he;clear fX;simp only[map_nil,length_nil] at c1 |-;refine UA ?_
  (exact Zz1 rfl ⟨_,Xe 12 (AVal.le_nil 3),⟨rfl,TV⟩,X5 _⟩)
 subst he;clear fX;refine UR ?_;refine X8 (XI 133 rfl) ?_;refine X8 (XX 12 133 rfl rfl rfl) ?_
 (exact Zz2)
def Xhx (d:ak) (s:Sta) (l:List Rcd) (hs:StaHold s) (hf:Vx d) (hl:J l<=1000) (hr:∀r∈l,X6T r):Con prog 12 [] [XY d,Xz s,.d (.sl 10 (l.map Y6))] [] (.tup [XY (YF d s l).1,Xz (YF d s l).2.1,ai (YF d s l).2.2]):=by
 refine ZCt func12 ntmps12 fun E=> ?_;have hu:=Xgo d;have hv:=Xc0 s hs;have hp:=X8U s l hs Oa (fun r h=>(hr r h).1);have aV:Xz XT= .agg [.d (.sl 3 []),.d (.sl 5 []),ai 0,ai 0,.d (.sl 6 []),ai 0,ai 0,ai 0]:=rfl;by_cases q1:UH d=0
 case neg=>
  exact Yt36
 by_cases q2:YH s=true
 case neg=>
  exact Yt25
 by_cases q3:(Yf s l).2=0
 case neg=>
  exact Yt18
 have e:YF d s l=if (Uc d (Xo d:Nat) (J d.aa:Nat) s.ep s.tail l).2.2≠0 then (Ur,XT,(Uc d (Xo d:Nat) (J d.aa:Nat) s.ep s.tail l).2.2) else ((Uc d (Xo d:Nat) (J d.aa:Nat) s.ep s.tail l).1,UD (Yf s l).1 (Uc d (Xo d:Nat) (J d.aa:Nat) s.ep s.tail l).2.1,0):=Ij
 rw[e];obtain⟨o1,o2,o3⟩:=X82 q1;have aD:=X6n (J d.aa:Nat);rw[X39 o2 o3] at aD;have ha:=Xsk d (Xo d:Nat) (J d.aa:Nat) s.ep s.tail l hf (fun r h=>XcR (hr r h)) hl;rw[q1] at hu;rw[q2] at hv;rw[q3] at hp;have aU:J (d.aa.map Yd)=J d.aa:=LM ..;clear e hs hf hr q1 q2 q3 o1 o2;generalize (Yf s l).1=y at*;generalize Uc d (Xo d:Nat) (J d.aa:Nat) s.ep s.tail l=A at*;generalize Xx d=SN at*;generalize Xo d=LN at*;rw[<-aU] at aD ha;obtain⟨⟨xs,xp,xo⟩,a2,a3⟩:=A;obtain⟨secs,af,on⟩:=d;obtain⟨⟨yn,ye,ck,cm⟩,yr,yt,yp,yl⟩:=y;obtain⟨⟨ns,es,nn,ne⟩,rs,ts,ep,tail⟩:=s;simp only[Xz,UD] at*;by_cases q4:a3=0
 case neg=>
  rw[PI q4];simp only[XT,map_nil];refine QYa ?_;refine Us ?_;exact QGe
 rw[NI (by simp[q4])];subst q4;refine QYa ?_;refine YG ?_;exact QIe
def Xqo (d:ak) (s:Sta) (l:List Rcd) (hs:StaHold s) (hf:Vx d) (hl:J l<=1000) (hr:∀r∈l,X6T r):Con prog 17 [] [XY d,Xz s,.d (.sl 10 (l.map Y6))] [] (.d (.sl 3 ((dj d s l).map XO))):=by
 refine ZC1 func17 ntmps17 fun E=> ?_;have h1:=Xhx d s l hs hf hl hr;unfold dj;by_cases q:(YF d s l).2.2=0
 case neg=>
  exact Yt24
 rw[NI Ip];have q1:UH d=0:=by
  by_cases h:UH d=0
  ·exact h
  ·rw[show YF d s l=(Ur,XT,UH d) from PI h] at q;exact absurd q h
 obtain⟨o1,o2,o3⟩:=X82 q1;have aD:=X6n (J d.aa:Nat);rw[X39 o2 o3] at aD;have ht:=XsD d (Xo d:Nat) (J d.aa:Nat) s.ep s.tail l hf (fun r h=>XcR (hr r h)) hl;have aU:J (d.aa.map Yd)=J d.aa:=LM ..;rw[q] at h1;clear hs hf hr q q1 o1 o2;generalize (YF d s l).1=X at*;generalize (YF d s l).2.1=Y at*;generalize (Yy d (Xo d:Nat) (J d.aa:Nat) s.ep s.tail l).1=TT at*;generalize Xx d=SN at*;generalize Xo d=LN at*;rw[<-aU] at aD ht;obtain⟨xs,xp,xo⟩:=X;obtain⟨⟨yn,ye,ck,cm⟩,yr,yt,yp,yl⟩:=Y;obtain⟨secs,af,on⟩:=d;obtain⟨⟨ns,es,nn,ne⟩,rs,ts,ep,tail⟩:=s;simp only[Xz] at*;generalize TT.map XO=W at*;refine Qma ?_
 (exact Zz2)
def Xwk {r:Rcd}:StaHold (Ue s r).1:=by
 by_cases h:YH s=true
 ·exact Xfl h
 ·rw[show Ue s r=(XT,19) by unfold Ue;rw[PI O2]];exact⟨X3A,Oc⟩
def Xk2 {s:Sta} (hs:StaHold s):∀{l:List Rcd},StaHold (Yf s l).1
 |[]=>hs
 |r::l=>by
  unfold Yf;split
  ·exact⟨X3A,Oc⟩
  ·exact Xk2 Xwk
def Xr7 {d:ak}{l:List Rcd} (hs:StaHold s):StaHold (YF d s l).2.1:=by
 have hz:StaHold XT:=⟨X3A,Oc⟩
 have hp:=Xk2 hs (l:=l);unfold YF;simp only;split
 ·exact hz
 split
 ·exact hz
 split
 ·exact hz
 split
 ·exact hz
 exact⟨hp.g,hp.rl⟩
def Xxr (d:ak) (s:Sta) (l:List Rcd) (hs:StaHold s) (hl:J l<=9223372036854775807) (hr:∀r∈l,X0z r):Con prog 3 [] [XY d,Xz s,.d (.sl 10 (l.map Y6))] [] (ab true):=by
 refine ZC1 func3 ntmps3 fun E=> ?_;have ha:=XbC;have hsh:=Xgz d;have aU:=Xop s;have cG:=Xhu l hl;by_cases q0:X4P d=true
 case neg=>
  rw[show X4P d=false by simpa using q0] at hsh;clear hs hr cG aU;obtain⟨secs,af,on⟩:=d;obtain⟨⟨ns,es,nn,ne⟩,rs,ts,ep,tail⟩:=s;simp only[Xz] at*;refine YG ?_
  (exact Zz2)
 rw[q0] at hsh;by_cases q1:X8Y s=true
 case neg=>
  rw[show X8Y s=false by simpa using q1] at aU;clear hs hr cG;obtain⟨secs,af,on⟩:=d;obtain⟨⟨ns,es,nn,ne⟩,rs,ts,ep,tail⟩:=s;simp only[Xz] at*;refine YG ?_
  (exact Zz2)
 rw[q1] at aU;by_cases q2:X26 l=true
 case neg=>
  rw[show X26 l=false by simpa using q2] at cG;clear hs hr;obtain⟨secs,af,on⟩:=d;obtain⟨⟨ns,es,nn,ne⟩,rs,ts,ep,tail⟩:=s;simp only[Xz] at*;refine YG ?_
  (exact Zz2)
 rw[q2] at cG;obtain⟨n1,n2⟩:=Xhc q0;have hw:Vx d:=⟨Oa,Oa⟩
 obtain⟨f1,f2⟩:=XgK q2 hr;have h1:=X98 d s l hs hw f2 f1;have h2:=Xhx d s l hs hw f2 f1;have h3:=Xmp d s l hs hw f2 f1;have h4:=Xqo d s l hs hw f2 f1;have h5:=Xfy (YF d s l).1;have h6:=X8E (YF d s l).2.1 (Xr7 hs);have h7:=Xjy (dj d s l) (by
  unfold dj;split
  ·simp
  ·have:=XhL (f:=(Xo d:Nat)) (t:=(J d.aa:Nat)) (ep:=s.ep) (tail:=s.tail) (l:=l) hw;omega)
 clear hs hr hw f1 f2 q0 q1 q2 n1 n2 hl;generalize dj d s l=W at*;generalize YF d s l=A at*;obtain⟨⟨xs,xp,xo⟩,y,e⟩:=A;obtain⟨secs,af,on⟩:=d;obtain⟨⟨ns,es,nn,ne⟩,rs,ts,ep,tail⟩:=s;obtain⟨⟨yn,ye,ck,cm⟩,yr,yt,yp,yl⟩:=y;simp only[Xz] at*;refine QYa ?_;refine W8_ ?_
 (exact Zz2)
end Go.Fw
