/- The disks that a save goes through, the reference's. -/
import Derived.Test.YtpbgjcbkhgfmkaaGreatDoorM67
set_option maxHeartbeats 128000000
namespace Go.Fw
open Go Go.Proofs Tryz List
set_option maxRecDepth 100000
set_option linter.unusedVariables false
set_option linter.unusedSimpArgs false
theorem Xkw {X:List (List D)}{k:Nat}{x:ak} (hl:X.length=k+1) (hall:∀r∈X,r.length=3) (h:X[k]? =some (XO x)):k*3+3<=X.length*3/\(X.flatten.drop (k*3)).take 3=[XL x.aa,XS x.pending,.v (.bool x.on)]:=by
 have hp:=X8C hall h (o:=0) (q:=3) (by omega);rw[Nat.add_zero] at hp;exact⟨by omega,by rw[hp];simp[XO]⟩
theorem XkZ {l:List ak}:∀r∈l.map XO,r.length=3:=fun r hr=>by
 obtain⟨p,_,rfl⟩:=mem_map.1 hr;rfl
theorem Xfd (d:ak) (s:Sta) (EP:Nat) (hE:s.ep+1=(EP:Nat)) (v:GV s.g) (hr:SchV s.rules) (hts:0<=s.ts/\s.ts<=1000000000000000) (cJ:EP<=1000000000000000) (hd:DOk d) (hf:d.aa.length<=2000/\d.pending.length<=500) (aL:16<=d.aa.length) (hfit:(Xv s.g s.rules).length<=Xt d*64):Con prog 67 [] [XU d,Xy s] [] (.d (.sl 3 ((svT d (Xv s.g s.rules) (XJ (EP:Nat)) (EP:Nat) s.ts).map XO))):=by
 refine ZC1 func67 ntmps67 fun E=> ?_;have aC:=X56 (d.aa.length:Nat);rw[X37 aL (by omega)] at aC;have bD:=Xgk s v hr (X5u v);have bu:=X9n v hr;have pL:Xt d<=500:=by unfold Xt;omega
 have aM:(d.aa.map XV).length=d.aa.length:=LM ..;have aK:XJ (EP:Nat)=EP%2:=by unfold XJ;omega
 rw[aK];have aV:=X42 (Xv s.g s.rules);have gN:∀x∈[(EP:Int),s.ts,(((Xv s.g s.rules).length:Nat):Int),((XT (Xv s.g s.rules):Nat):Int)],0<=x/\x<=9223372036854775807:=fun x hx=>by
  simp only[mem_cons,mem_nil_iff,or_false] at hx;rcases hx with rfl|rfl|rfl|rfl
  ·omega
  ·omega
  ·omega
  ·exact aV
 have lY:=X6h gN;have gq:=XsA (EP:Nat) s.ts (Xv s.g s.rules) gN;obtain⟨n,m,DD,Z,a2,a3,a4,a5,a6,G,g1,g2,g3⟩:=Xe8 (K:=EP%2) (ep:=(EP:Nat)) (ts:=s.ts) hd hf aL (by omega) (by omega) lY;obtain⟨l1,l2,l3⟩:=Vm aL;have aR:∀k,k<n->64*k<(Xv s.g s.rules).length:=fun k hk=>by
  have:=(X2c (Xv s.g s.rules)).2.2;omega
 have bx:¬64*n<(Xv s.g s.rules).length:=by
  have:=(X2c (Xv s.g s.rules)).2.1;omega
 have bJ:∀k,k<n->Con prog 83 [] [.d (Xg (((Xv s.g s.rules).drop (64*k)).take 64))] [] (.d (Xg (((YC (Xv s.g s.rules)).drop (64*k)).take 64))):=fun k hk=>by
  have hq:=aR k hk;rw[<-XcU hq,<-Xhr (by rw[LT,LD];omega) (by rw[LT];omega)];exact XaA _ (by rw[LT];omega)
 have cZ:=Xwq d (X2d hd.v (by omega));have hz:=XaA [] (by simp);rw[show X2U []=Yy from rfl] at hz;clear aV gN aK v hr;generalize Xv s.g s.rules=b at*;obtain⟨⟨ns,es,nn,ne⟩,rs,ts,gM,tail⟩:=s;simp only[Xy] at*;have dh:=G.n0;have dG:(b.map X5).length=b.length:=LM ..;obtain⟨R,r1,r2,r3,S,t1,t2,t3,t4⟩:=G.trc;obtain⟨X,hX⟩:∃X:Nat->List (List D),∀k,(R k).map XO=X k:=⟨_,fun _=>rfl⟩
 have bz:[XO d]=X 0:=by rw[<-hX,r1];rfl
 have bk:∀k,k<n->X (k+1)=X k++[XO (DD (k+1))]:=fun k hk=>by rw[<-hX,<-hX,r2 k hk,map_append];rfl
 have aU:∀k,(X k).length=k+1:=fun k=>by rw[<-hX,LM,r3]
 have pY:∀k,k<=n->(X k)[k]? =some (XO (DD k)):=fun k hk=>by
  cases k with
  |zero=>rw[<-bz,dh];rfl
  |succ k=>rw[bk k (by omega),getElem?_append_right (by rw[aU];omega),aU,Nat.sub_self];rfl
 have nF:∀k,∀r∈X k,r.length=3:=fun k=>by rw[<-hX];exact XkZ
 obtain⟨V,hV⟩:∃V:Nat->List (List D),∀k,X n++([XO a2,XO a3,XO a4]++(S k).map XO)=V k:=⟨_,fun _=>rfl⟩
 have kE:X n++[XO a2,XO a3,XO a4,XO a5]=V 0:=by rw[<-hV,t1];rfl
 have kF:∀k,k<m->V (k+1)=V k++[XO (Z (k+1))]:=fun k hk=>by rw[<-hV,<-hV,t2 k hk,map_append];simp only[AS];rfl
 have lz:∀k,(V k).length=n+4+k+1:=fun k=>by rw[<-hV,LA,aU,LA,LM,t3];simp only[LC,length_nil];omega
 have bZ:=G.z0;have nG:∀k,k<=m->(V k)[n+4+k]? =some (XO (Z k)):=fun k hk=>by
  cases k with
  |zero=>rw[<-kE,bZ,getElem?_append_right (by rw[aU];omega),aU,show n+4+0-(n+1)=3 by omega];rfl
  |succ k=>rw[kF k (by omega),getElem?_append_right (by rw[lz];omega),lz,show n+4+(k+1)-(n+4+k+1)=0 by omega];rfl
 have iM:∀k,∀r∈V k,r.length=3:=fun k r hr=>by
  rw[<-hV] at hr;rcases mem_append.1 hr with h|h
  ·exact nF n r h
  ·rcases mem_append.1 h with h|h
   ·simp only[mem_cons,mem_nil_iff,or_false] at h;rcases h with rfl|rfl|rfl<;>rfl
   ·exact XkZ r h
 have jX:(svT d b (EP%2) (EP:Nat) ts).map XO=V m++[XO a6]:=by
  rw[t4,<-hV,<-hX];simp only[map_append,map_cons,map_nil,AS,cons_append,nil_append]
 rw[jX];clear r1 r2 r3 t1 t2 t3 t4 hX hV jX;have gj:d.aa.length<=2000:=hf.1;generalize lZ:Xt d=SN at*;generalize m5:X9 d=LN at*;have jz:=fun k (hk:k<n)=>X7j (DD k) ((2+EP%2*SN+k:Nat):Int) (((YC b).drop (64*k)).take 64) (G.okD k (by omega)).2 (by rw[LT];omega);have dY:∀k,k<n->Con prog 82 [] [XU (DD k),ai ((2+EP%2*SN+k:Nat):Int),.d (Xg (((YC b).drop (64*k)).take 64))] [] (X0O (XU (DD (k+1))) 0):=fun k hk=>by
  have h:=jz k hk;have g:=G.wrD k hk;rw[lZ] at g;rw[g] at h;exact h
 have bK:=X7j (DD n) ((EP%2:Nat):Int) Yy (G.okD n (Nat.le_refl _)).2 (by decide);rw[G.w2] at bK;have dZ:=X8M a2 G.dO.2;rw[G.s3] at dZ;have fF:=X7j a3 ((EP%2:Nat):Int) (UI (EP:Nat) ts (b.length:Nat) (XT b:Nat)) G.gV.2 (by omega);rw[G.w4] at fF;have eE:=X8M a4 G.cR.2;rw[G.s5] at eE;have fG:∀k,k<m->Con prog 82 [] [XU (Z k),ai ((LN+k:Nat):Int),.d (Xg Yy)] [] (X0O (XU (Z (k+1))) 0):=fun k hk=>by
  have h:=X7j (Z k) ((LN+k:Nat):Int) Yy (G.okZ k (by omega)).2.1 (by decide);have g:=G.wrZ k hk;rw[m5] at g;rw[g] at h;exact h
 have fH:=X8M (Z m) (G.okZ m (Nat.le_refl _)).2.1;rw[G.s6] at fH;have fc:=fun k hk=>(G.okZ k hk).2.2;clear G jz hd hf;have m6:n<=500:=by omega
 have kP:m<=2000:=by omega
 generalize UI (EP:Nat) ts (b.length:Nat) (XT b:Nat)=HB at*;generalize m7:YC b=PB at*;clear m7;rw[<-aM] at aC;refine Yq ?_;refine ZBa (gM) (1) ((EP:Nat):Int) ?_ (e:=hE);refine XR ?_;refine Z8 (γ:=130) (d:=46) ?_;refine W8_ ?_;clear bD cZ
 refine Xn (fun k:Nat=>k<=n) (fun k=>⟨175,[(2,.ptr 100 0),(3,.ptr 101 0),(4,aq),(5,ai (SN:Nat)),(8,ai (EP:Nat)),(9,.d (.sl 1 (b.map X5))),(10,.own 130 (X k).length),(11,ai (k:Nat))],[(100,.box [.d (XL d.aa),.d (XS d.pending),ab d.on]),(101,.box [.d (.sl 3 (ns.map Xm)),.d (.sl 5 (es.map Xr)),ai nn,ai ne,.d (.sl 6 (rs.map Xh)),ai ts,ai gM,ai tail]),(130,.row 3 (X k))]⟩) (fun k=>n-k) 0 (Nat.zero_le _)
  (Xb rfl ⟨JL,JL,JL,JL,JL,JL,(by rw[<-bz];exact AVal.le_refl _),JL,TV⟩ ⟨rfl,rfl,(by rw[<-bz];rfl),TV⟩) ?_
 intro k hk;have hxl:=aU k;have uw:k+1=(X k).length:=hxl.symm;obtain⟨hroom,hys⟩:=Xkw hxl (nF k) (pY k hk);have h0:0<(X k).length:=by omega
 by_cases aE:k<n
 case pos=>
  have hkb:=aR k aE;have hn:((64*k:Nat):Int)<((b.map X5).length:Nat):=by omega
  have hp:=bJ k aE;have hw:=dY k aE;have hst:=bk k aE;obtain⟨hb',hmin⟩:∃h:Nat,min ((b.map X5).length:Int) (((64*k+64:Nat):Int))=(h:Int)/\(h=min (64*k+64) (b.map X5).length):=⟨min (64*k+64) (b.map X5).length,by omega,rfl⟩
  have ir:((b.map X5).take hb').drop (64*k)=((b.drop (64*k)).take 64).map X5:=by
   rw[hmin.2,map_take,map_drop,drop_take];rw[take_eq_take_iff,LD];omega
  have r8:64*k<=hb':=by omega
  have r9:hb'<=(b.map X5).length:=by omega
  have jS:=hmin.1;unfold Xg at hp hw;clear bJ dY fG bK dZ fF eE fH aR fc hmin aC gq bk pY nF kF nG iM bz kE hz;generalize ((b.drop (64*k)).take 64).map X5=C at*;generalize ((PB.drop (64*k)).take 64).map X5=C2 at*;refine W4_ ?_;(refine Z1 (op:= .mul) (r':=ni (64*k)) (u:=ni k) (v:=ni 64) ?_ (hr':=by exact CG ni (Nat.mul_comm k 64)) (hr:=by exact X4j (by rw[YO];omega)));refine XR ?_;(refine Z1 (op:= .mul) (r':=ni (64*k)) (u:=ni k) (v:=ni 64) ?_ (hr':=by exact CG ni (Nat.mul_comm k 64)) (hr:=by exact X4j (by rw[YO];omega)));refine W3_ ?_;refine ZBA k 1 ?_
  (refine Z1 (op:= .mul) (r':=ni (64*k+64)) (u:=ni (k+1)) (v:=ni 64) ?_ (hr':=by exact CG ni (show(k+1)*64=64*k+64 by omega)) (hr:=by exact X4j (by rw[YO];omega)))
  refine Qxd ?_;refine W7_ ?_;refine ZBs (((X k).length:Nat):Int) ((1:Nat):Int) (((k):Nat):Int) ?_;refine Qbd ?_;refine QBe ?_;refine W1_ ?_;refine Qwd ?_;refine W1_ ?_;refine Qyd ?_;refine Qzd ?_;refine Z3 (af:=hp) ?_;refine Z3 (af:=hw) ?_;refine Yg ?_;refine ZBA k 1 ?_;refine W2_ ?_;refine⟨k+1,aE,by omega,?_⟩;rw[hst];exact Xb rfl ⟨JL,JL,JL,JL,JL,JL,AVal.le_of_eq (by rw[LA];rfl),JL,TV⟩ ⟨rfl,rfl,rfl,TV⟩
 obtain rfl:k=n:=by omega
 have hn:¬((64*k:Nat):Int)<((b.map X5).length:Nat):=by omega
 clear bJ dY aR hk aE bk pY nF;unfold Xg at gq;refine W4_ ?_;(refine Z1 (op:= .mul) (r':=ni (64*k)) (u:=ni k) (v:=ni 64) ?_ (hr':=by exact CG ni (Nat.mul_comm k 64)) (hr:=by exact X4j (by rw[YO];omega)));refine XK ?_;refine ZBs (((X k).length:Nat):Int) ((1:Nat):Int) (((k):Nat):Int) ?_;refine Qbd ?_;refine QBe ?_;refine W1_ ?_;refine Qwd ?_;refine Z3 (af:=hz) ?_;refine Z3 (af:=bK) ?_;refine XA ?_;refine Z3 (af:=dZ) ?_;refine XK ?_;refine Qwd ?_;refine W5_ ?_;refine Z3 (af:=fF) ?_;refine XA ?_;refine Z3 (af:=eE) ?_;refine X17 ?_;clear bK dZ gq fF eE aC hroom hys
 refine Xn (fun j:Nat=>j<=m) (fun j=>⟨175,[(2,.ptr 100 0),(3,.ptr 101 0),(4,aq),(10,.own 130 (V j).length),(26,ai ((LN+j:Nat):Int))],[(100,.box [.d (XL d.aa),.d (XS d.pending),ab d.on]),(101,.box [.d (.sl 3 (ns.map Xm)),.d (.sl 5 (es.map Xr)),ai nn,ai ne,.d (.sl 6 (rs.map Xh)),ai ts,ai gM,ai tail]),(130,.row 3 (V j))]⟩) (fun j=>m-j) 0 (Nat.zero_le _)
  (by rw[<-kE];exact Xb rfl ⟨JL,JL,JL,AVal.le_of_eq (by rw[LA];rfl),JL,TV⟩ ⟨rfl,rfl,rfl,TV⟩) ?_
 intro j hj;have hvl:=lz j;obtain⟨hroom,hys⟩:=Xkw hvl (iM j) (nG j hj);have h0:0<(V j).length:=by omega
 by_cases hjl:j<m
 case pos=>
  have hn:((LN+j:Nat):Int)<((d.aa.map XV).length:Nat):=by omega
  have hw:=fG j hjl;have hst:=kF j hjl;clear fG fH kF nG iM fc kE;refine Yf ?_;refine ZBs (((V j).length:Nat):Int) ((1:Nat):Int) (((k+4+j):Nat):Int) ?_;refine Qbd ?_;refine QCe ?_;refine W1_ ?_;refine Z3 (af:=hz) ?_;refine Z3 (af:=hw) ?_;refine YR ?_;refine⟨j+1,hjl,by omega,?_⟩;rw[hst];exact QAe
 obtain rfl:j=m:=by omega
 have hn:¬((LN+j:Nat):Int)<((d.aa.map XV).length:Nat):=by omega
 clear fG kF nG iM fc kE;refine Yg ?_;refine ZBs (((V j).length:Nat):Int) ((1:Nat):Int) (((k+4+j):Nat):Int) ?_;refine Qbd ?_;refine QCe ?_;refine Z3 (af:=fH) ?_;refine Yx ?_;exact X2 ⟨_,St.le_trans (XP 130 rfl) (Y7 4 130 rfl rfl (by simp)),⟨rfl,TV⟩,X4 _⟩
variable{d:ak}{ep:Int}
theorem Xkl {b:List UInt8}{K:Nat}{ts:Int}:((svT d b K ep ts).map XO)[((svT d b K ep ts).map XO).length-1]? =some (XO (sv6 d b K ep ts))/\0<((svT d b K ep ts).map XO).length:=by
 have e:svT d b K ep ts=(VX d (2+K*Xt d) (Vo b)++([sv2 d b K,sv3 d b K,sv4 d b K ep ts]++VX (sv5 d b K ep ts) (X9 d) (X0U d)))++[sv6 d b K ep ts]:=by unfold svT;simp only[AS]
 rw[e,map_append,LA];generalize (VX d (2+K*Xt d) (Vo b)++_).map XO=L;exact⟨by rw[getElem?_append_right (by simp)];simp,by simp⟩
theorem Xlc {s:Sta} (hs:StaHold s):StaHold (UR d s ep).2.1:=by
 unfold UR;split
 ·exact⟨X2Y,by simp⟩
 ·exact⟨hs.g,hs.rl⟩
end Go.Fw
