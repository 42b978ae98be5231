/- What Append does: the disks it goes through. -/
import Derived.Test.YtpbgjcbkhgfmkaaGreatDoorM25
set_option maxHeartbeats 64000000
namespace Go.Fw
open Go Go.Proofs Tryz List
set_option maxRecDepth 100000
set_option linter.unusedVariables false
set_option linter.unusedSimpArgs false
def XO (d:ak):List D:=[XL d.aa,XS d.pending,.v (.bool d.on)]
abbrev cF:List D:=[.v (.int .u8 0)]
theorem Xdo (L:List UInt8):L.map X5++replicate ((64-L.length%64)%64) cF=(YC L).map X5:=by
 unfold YC;rw[map_append,map_replicate];rfl
theorem Xg6 (C:List (List D)) (j:Nat):C++replicate (j+1) cF=(C++replicate j cF)++[cF]:=by
 rw[replicate_succ',AS]
structure WrOk (d:ak) (a n:Nat) (Y:List UInt8):Prop where
 ok:DOk d
 few:VB d
 len:Y.length=64*n
 room:a+n<=d.aa.length
variable{Y:List UInt8}{a n:Nat}{d:ak}
theorem Xa7 (h:WrOk d a n Y) {k:Nat} (hk:k<=n):DOk (Yc d a (UN k Y))/\Vp (Yc d a (UN k Y)):=by
 obtain⟨k1,k2,k3⟩:=X0m (UN k Y) d a;have h1:=h.few.1;have h2:=h.few.2;have h3:=h.room;have h4:=X1h (UN k Y) d a h.ok (by rw[X3f];omega) (XaN k Y (by rw[h.len];omega));exact⟨h4,X2d h4.v (by rw[k3,X3f];omega)⟩
theorem XbK (h:WrOk d a n Y) {k:Nat} (hk:k<n):Yc d a (UN (k+1) Y)=VM (Yc d a (UN k Y)) (a+k) ((Y.drop (64*k)).take 64)/\((Y.drop (64*k)).take 64).length=64/\
  Vs (Yc d a (UN k Y)) ((a+k:Nat):Int) ((Y.drop (64*k)).take 64)=(Yc d a (UN (k+1) Y),0)/\VX d a (UN (k+1) Y)=VX d a (UN k Y)++[Yc d a (UN (k+1) Y)]:=by
 have e1:Yc d a (UN (k+1) Y)=VM (Yc d a (UN k Y)) (a+k) ((Y.drop (64*k)).take 64):=by rw[XeS,Xfu,X3f]
 have e2:((Y.drop (64*k)).take 64).length=64:=by rw[LT,LD,h.len];omega
 have e3:=(X0m (UN k Y) d a).1;have h3:=h.room;refine⟨e1,e2,?_,?_⟩
 ·rw[e1,X8L (Xa7 h (by omega)).1 (by rw[e3];omega) e2]
 ·rw[e1,XeS,Xnk,X3f]
theorem XnO (d:ak) (f t ep tail:Int) (l:List Rcd) (hf:VB d) (hr:∀r∈l,X45 r) (hl:l.length<=1000):Con prog 91 [] [XU d,ai f,ai t,ai ep,ai tail,.d (.sl 10 (l.map Yp))]
  [(133,.row 3 ((YI d f t ep tail l).1.map XO))] (.tup [.own 133 ((YI d f t ep tail l).1.map XO).length,ai (YI d f t ep tail l).2.1,ai (YI d f t ep tail l).2.2]):=by
 refine ZCt func91 ntmps91 fun E=> ?_;have c1:=Xid d f t ep tail;by_cases he:Uh d f t ep tail=0
 case neg=>
  have e:YI d f t ep tail l=([],0,Uh d f t ep tail):=by unfold YI;rw[PI he]
  rw[e];generalize Uh d f t ep tail=r at*;clear hf hr;obtain⟨secs,ag,on⟩:=d;simp only[map_nil,length_nil];refine X1V ?_
  (show AWP prog E _ _ _;refine X2 ?_;exact(show Xa _ _ _ _ _ from⟨_,Uu 12 133 3 rfl rfl rfl,⟨rfl,rfl,rfl,TV⟩,Xj ⟨rfl,TV⟩⟩))
 rw[he] at c1;obtain⟨hd,h1,h2,h3,h4,h5,h6,h7⟩:=X82 he;have c2:=XpP ep l h4 h5 hr hl;by_cases hE:V7 l=0
 case neg=>
  have e:YI d f t ep tail l=([],0,V7 l):=by unfold YI;rw[NI (by rw[he];simp),PI hE]
  rw[e];generalize V7 l=r at*;generalize X3d ep l=P at*;clear hf hr hd e he;obtain⟨secs,ag,on⟩:=d;simp only[map_nil,length_nil];refine Qya ?_
  (show AWP prog E _ _ _;refine X2 ?_;exact(show Xa _ _ _ _ _ from⟨_,Uu 12 133 3 rfl rfl rfl,⟨rfl,rfl,rfl,TV⟩,Xj ⟨rfl,TV⟩⟩))
 have eP:X3d ep l=XZ ep l:=NI (by rw[hE];simp);rw[hE,eP] at c2;have eD:=X93 h4 h5 l fun r cX=>(hr r cX).2;have eS:YI d f t ep tail l=if (t-f)*64<tail+(XZ ep l).length then ([],0,20) else (X3D d f t tail (XZ ep l),tail+(XZ ep l).length,0):=by
  unfold YI;rw[NI (by rw[he];simp),NI (by rw[hE];simp)]
 rw[eS];generalize XZ ep l=A at*;have iP:(A.map X5).length=A.length:=by simp
 have c3:=Xla f t h1 h2 (by have:=hf.1;omega);have hN:t<=2000:=by have:=hf.1;omega
 clear eS eP hE he hr;by_cases hfull:(t-f)*64<tail+A.length
 ·rw[PI hfull];have ck:(t-f)*64<tail+((A.map X5).length:Nat):=by rw[iP];exact hfull
  clear hf hd h3;obtain⟨secs,ag,on⟩:=d;simp only[map_nil,length_nil];refine X7 ?_;refine X00 ?_
  (show AWP prog E _ _ _;refine X2 ?_;exact(show Xa _ _ _ _ _ from⟨_,Uu 12 133 3 rfl rfl rfl,⟨rfl,rfl,rfl,TV⟩,Xj ⟨rfl,TV⟩⟩))
 rw[NI hfull];have ck:¬(t-f)*64<tail+((A.map X5).length:Nat):=by rw[iP];exact hfull
 have c4:=XiE d f t hd hf h1 (by omega) h3;have mW:(Y9 d f t).length=64*(t-f).toNat:=by unfold Y9;exact X0Y hd _ _ (by omega)
 obtain⟨F,rfl⟩:∃F:Nat,f=F:=⟨f.toNat,by omega⟩
 obtain⟨T,rfl⟩:∃T:Nat,tail=T:=⟨tail.toNat,by omega⟩
 unfold X3D X0V;have eT:X1w d (F:Nat) t (T:Nat) A=YC (((Y9 d (F:Nat) t).take T).drop (T/64*64)++A):=by unfold X1w;rw[Int.toNat_natCast]
 rw[eT,Int.toNat_natCast,Int.toNat_natCast];generalize Y9 d (F:Nat) t=B at*;have lQ:(B.map X5).length=B.length:=by simp
 obtain⟨X,hX⟩:∃X,X=(B.take T).drop (T/64*64):=⟨_,rfl⟩
 have sK:((B.map X5).take T).drop (T/64*64)=X.map X5:=by rw[hX,map_drop,map_take]
 have aU:X.length=T-T/64*64:=by rw[hX,LD,LT];omega
 rw[<-hX];clear hX eT;have hlo:T/64*64<=T:=by omega
 have mX:T<=(B.map X5).length:=by omega
 have hend:((T:Int)+((A.map X5).length:Nat))=(T:Int)+(A.length:Nat):=by rw[iP]
 have hcap:T/64<2^62:=by omega
 by_cases hA:A=[]
 ·subst hA;rw[PI rfl];simp only[VX,Yc,cons_append,nil_append];have hs:=X5s d (XaV hd.v hf);generalize (Uw d).1=Z at*;generalize (Uw d).2=Zq2 at*;obtain⟨zs,zp,zo⟩:=Z;clear hf hd;obtain⟨secs,ag,on⟩:=d;have qS:(X.map X5).length=X.length:=by simp
  have bk:X.length<=64:=by omega
  refine QTa ?_;(refine Z2 (op:= .quo) (r':=ni (T/64)) (u:=ni T) (v:=ni 64) ?_ (hr:=by exact X2m (by decide) (by rw[YO];omega)));refine W8_ ?_;refine ZBM (T/64) 64 ?_;refine W2_ ?_;refine QDc ?_;refine W1_ ?_;refine XrT (hg:=JSa) (hx:=JSb) (hy:=JSb) (he:=JSb) (hB:=JSc) (hT:=JSb) (bN:=JSb) (hd:=JSb) ?_;refine W4_ ?_;clear c1 c2 c3 c4;refine Xn (fun j:Nat=>j<=(64-X.length%64)%64) (fun j=>match j with
   |0=>⟨109,[(6,.ptr 100 0),(17,.d (Xg [])),(19,ai ((T:Int)+(([]:List UInt8).map X5).length)),(21,.dx 1 (X.map X5))],[(100,.box [.d (XL secs),.d (XS ag),ab on])]⟩
   |j+1=>⟨109,[(6,.ptr 100 0),(17,.d (Xg [])),(19,ai ((T:Int)+(([]:List UInt8).map X5).length)),(21,.own 132 (X.map X5++replicate (j+1) cF).length)],[(100,.box [.d (XL secs),.d (XS ag),ab on]),(132,.row 1 (X.map X5++replicate (j+1) cF))]⟩) (fun j=>(64-X.length%64)%64-j) 0 (Nat.zero_le _)
   (ZL0) ?_
  intro j hj;have hn0:¬(0:Int)<((([]:List UInt8).map X5).length:Nat):=by simp
  cases j with
  |zero=>
   dsimp only;by_cases hp:X.length%64=0
   ·have aR:(((X.map X5).length:Nat):Int)%64=0:=by rw[qS];omega
    have cE:¬¬(((X.map X5).length:Nat):Int)%64=0:=fun h=>h aR;refine W4_ ?_;refine XgT (hg:=JSa) (hx:=JSb) (hT:=JSb) (hd:=JSb) ?_;refine W8_ ?_;refine Z8 (γ:=133) (d:=72) ?_;refine XG ?_;refine Z3 (af:=hs) ?_;refine Yg ?_
    (show AWP prog E _ _ _;refine X2 ?_;exact(show Xa _ _ _ _ _ from⟨_,St.le_refl _,⟨rfl,rfl,rfl,TV⟩,Xj ⟨rfl,TV⟩⟩))
   ·have aR:¬(((X.map X5).length:Nat):Int)%64=0:=by rw[qS];omega
    refine W4_ ?_;refine XgT (hg:=JSa) (hx:=JSb) (hT:=JSb) (hd:=JSb) ?_;refine W9_ ?_;refine Zb (γ:=132) ?_ (hne:=by exact(show[cF]≠[] by simp));refine W2_ ?_;exact⟨0+1,by omega,by omega,Xb rfl ⟨JL,JL,JL,AVal.le_of_eq (by refine Eq.trans (b:=AVal.own 132 (_+_)) rfl ?_;simp only[LA,LM,LC,length_nil,length_replicate]),TV⟩ ⟨rfl,rfl,TV⟩⟩
  |succ j=>
   dsimp only;obtain⟨W,hW⟩:∃W,W=X.map X5++replicate (j+1) cF:=⟨_,rfl⟩
   have lR:W.length=X.length+(j+1):=by rw[hW];simp
   have dX:X.map X5++replicate (j+1+1) cF=W++[cF]:=by rw[hW];exact Xg6 _ _
   rw[<-hW];have hroom:W.length<=200:=by omega
   by_cases hp:j+1<(64-X.length%64)%64
   ·have aR:¬((W.length:Nat):Int)%64=0:=by omega
    refine Yv ?_;refine⟨j+1+1,hp,by omega,?_⟩;dsimp only;rw[dX];exact Xb rfl ⟨JL,JL,JL,AVal.le_of_eq (by refine Eq.trans (b:=AVal.own 132 (_+_)) rfl ?_;simp only[LA,LC,length_nil]),TV⟩ ⟨rfl,rfl,TV⟩
   ·have aR:((W.length:Nat):Int)%64=0:=by omega
    have cE:¬¬((W.length:Nat):Int)%64=0:=fun h=>h aR;refine XQ ?_;refine Z8 (γ:=133) (d:=72) ?_;refine XG ?_;refine Z3 (af:=hs) ?_;refine Yg ?_
    (show AWP prog E _ _ _;refine X2 ?_;exact(show Xa _ _ _ _ _ from⟨_,St.le_refl _,⟨rfl,rfl,rfl,TV⟩,Xj ⟨rfl,TV⟩⟩))
 rw[NI hA];have mY:A.map X5≠[]:=fun h=>hA (by simpa using h);have bP:A.length≠0:=fun h=>hA (eq_nil_of_length_eq_zero h);obtain⟨mZ,ic,iQ⟩:=X2c (X++A);have kn:=Xdo (X++A);rw[map_append] at kn;have kO:(X++A).length=X.length+A.length:=by simp
 generalize hm:(64-(X++A).length%64)%64=p at*;generalize YC (X++A)=Y at*;obtain⟨n,hn⟩:∃n,Y.length=64*n:=⟨Y.length/64,by omega⟩
 have iy:Y.length/64=n:=by omega
 rw[iy];have cH:WrOk d (F+T/64) n Y:=⟨hd,hf,hn,by omega⟩
 have aY:=fun k (hk:k<=n)=>Xa7 cH hk;have fC:=fun k (hk:k<n)=>XbK cH hk;obtain⟨D,hD⟩:∃D:Nat->ak,∀k,Yc d (F+T/64) (UN k Y)=D k:=⟨_,fun _=>rfl⟩
 obtain⟨R,hR⟩:∃R:Nat->List ak,∀k,VX d (F+T/64) (UN k Y)=R k:=⟨_,fun _=>rfl⟩
 simp only[hD,hR] at aY fC |-;have dh:d=D 0:=hD 0;have gm:[d]=R 0:=hR 0;have bg:∀k,(R k).length=k+1:=fun k=>by rw[<-hR,X8g,X3f]
 clear hD hR cH;have iR:=X5s (D n) (aY n (Nat.le_refl _)).2;generalize (Uw (D n)).1=Z at*;generalize (Uw (D n)).2=Zq2 at*;obtain⟨zs,zp,zo⟩:=Z;have bG:(R n++[(⟨zs,zp,zo⟩:ak)]).map XO=(R n).map XO++[[XL zs,XS zp,.v (.bool zo)]]:=by simp[XO]
 rw[bG,LA];clear bG;have iC:p<64:=by rw[<-hm];omega
 have um:(X.map X5).length+(A.map X5).length=X.length+A.length:=by simp
 have gv:((X.map X5).length+(A.map X5).length)<=200000:=by omega
 subst dh;clear hf hd;refine QTa ?_;(refine Z2 (op:= .quo) (r':=ni (T/64)) (u:=ni T) (v:=ni 64) ?_ (hr:=by exact X2m (by decide) (by rw[YO];omega)));refine W8_ ?_;refine ZBM (T/64) 64 ?_;refine W2_ ?_;refine QDc ?_;refine W1_ ?_;refine Zb (γ:=132) ?_ (hne:=by exact mY);refine W4_ ?_;clear c1 c2 c3 c4
 refine Xn (fun j:Nat=>j<=p) (fun j=>⟨109,[(1,ai (F:Nat)),(6,.ptr 100 0),(17,.d (Xg A)),(19,ai ((T:Int)+(A.map X5).length)),(20,ai (T/64:Nat)),(21,.own 132 ((X.map X5++A.map X5)++replicate j cF).length)],[(100,.box [.d (XL (D 0).aa),.d (XS (D 0).pending),ab (D 0).on]),(132,.row 1 ((X.map X5++A.map X5)++replicate j cF))]⟩) (fun j=>p-j) 0 (Nat.zero_le _)
  (Xb rfl ⟨JL,JL,JL,JL,JL,AVal.le_of_eq (by refine Eq.trans (b:=AVal.own 132 (_+_)) rfl ?_;simp),TV⟩ ⟨rfl,(by simp;rfl),TV⟩) ?_
 intro j hj;obtain⟨W,hW⟩:∃W,W=(X.map X5++A.map X5)++replicate j cF:=⟨_,rfl⟩
 have lR:W.length=X.length+A.length+j:=by rw[hW];simp;omega
 have dX:(X.map X5++A.map X5)++replicate (j+1) cF=W++[cF]:=by rw[hW];exact Xg6 _ _
 rw[<-hW];have hroom:W.length<=200000:=by omega
 by_cases hp:j<p
 ·have aR:¬((W.length:Nat):Int)%64=0:=by omega
  refine Yv ?_;refine⟨j+1,hp,by omega,?_⟩;dsimp only;rw[dX];exact Xb rfl ⟨JL,JL,JL,JL,JL,AVal.le_of_eq (by refine Eq.trans (b:=AVal.own 132 (_+_)) rfl ?_;simp only[LA,LC,length_nil]),TV⟩ ⟨rfl,rfl,TV⟩
 obtain rfl:j=p:=by omega
 have aR:((W.length:Nat):Int)%64=0:=by omega
 have cE:¬¬((W.length:Nat):Int)%64=0:=fun h=>h aR;have pg:W=Y.map X5:=by rw[hW,kn]
 have hgt:(0:Int)<((A.map X5).length:Nat):=by omega
 refine XK ?_;subst pg;refine X8 (XP 132 rfl) ?_;refine X8 (Y7 21 132 rfl rfl rfl) ?_;refine W2_ ?_;refine Z8 (γ:=133) (d:=72) ?_;refine Yx ?_;clear aR cE dX hW hgt
 refine Xn (fun k:Nat=>k<=n) (fun k=>⟨109,[(1,ai (F:Nat)),(6,.ptr 100 0),(19,ai ((T:Int)+(A.map X5).length)),(20,ai (T/64:Nat)),(21,.d (Xg (Y.drop (64*k)))),(22,.own 133 ((R k).map XO).length),(23,ai k)],[(100,.box [.d (XL (D k).aa),.d (XS (D k).pending),ab (D k).on]),(133,.row 3 ((R k).map XO))]⟩) (fun k=>n-k) 0 (Nat.zero_le _)
  (Xb rfl ⟨JL,JL,JL,JL,(by rw[Nat.mul_zero,drop_zero];exact AVal.le_refl _),(by rw[<-gm];exact AVal.le_refl _),JL,TV⟩ ⟨rfl,(by rw[<-gm];rfl),TV⟩) ?_
 intro k hk;have aE:=bg k;have n6:((R k).map XO).length<=5000:=by rw[LM];omega
 have gj:((Y.drop (64*k)).map X5).length=64*n-64*k:=by simp[hn]
 by_cases hkn:k<n
 case neg=>
  obtain rfl:k=n:=by omega
  have ax:¬(0:Int)<(((Y.drop (64*k)).map X5).length:Nat):=by omega
  clear aY fC;refine XR ?_;refine Z3 (af:=iR) ?_;refine Yg ?_
  (show AWP prog E _ _ _;refine X2 ?_;exact(show Xa _ _ _ _ _ from⟨_,Xe 13 (AVal.le_of_eq (by refine Eq.trans (b:=ai _) rfl ?_;rw[iP])),⟨rfl,rfl,rfl,TV⟩,Xj ⟨rfl,TV⟩⟩))
 have ax:(0:Int)<(((Y.drop (64*k)).map X5).length:Nat):=by omega
 obtain⟨s1,s2,s3,s4⟩:=fC k hkn;have hw:=X4P (D k) ((F+T/64+k:Nat):Int) ((Y.drop (64*k)).take 64) (aY k hk).2 (by rw[s2];omega);rw[s3] at hw;have aI:(((Y.drop (64*k)).map X5).take 64).drop 0=((Y.drop (64*k)).take 64).map X5:=by rw[drop_zero,map_take]
 have aW:(((Y.drop (64*k)).map X5).take ((Y.drop (64*k)).map X5).length).drop 64=(Y.drop (64*(k+1))).map X5:=by rw[take_length,<-map_drop,drop_drop];congr 2
 have pq:(R (k+1)).map XO=(R k).map XO++[[XL (D (k+1)).aa,XS (D (k+1)).pending,.v (.bool (D (k+1)).on)]]:=by rw[s4,map_append];rfl
 generalize ((Y.drop (64*k)).take 64)=cn at*;have oH:64<=((Y.drop (64*k)).map X5).length:=by omega
 clear aY fC s1 s2 s3 s4 iR;refine Yg ?_;refine ZBA F (T/64) ?_;refine W1_ ?_;refine ZBA (F+T/64) k ?_;refine W1_ ?_;refine Z6 (lb:=0) (hb:=64) (ys:=cn.map X5) ?_ (hys:=by exact aI);refine W9_ ?_;refine Z6 (lb:=64) (hb:=((Y.drop (64*k)).map X5).length) (ys:=(Y.drop (64*(k+1))).map X5) ?_ (hys:=by exact aW);refine XG ?_;refine⟨k+1,hkn,by omega,?_⟩;dsimp only;rw[pq];exact Xb rfl ⟨JL,JL,JL,JL,JL,AVal.le_of_eq (by refine Eq.trans (b:=AVal.own 133 (_+_)) rfl ?_;simp only[LA,LM,LC,length_nil]),JL,TV⟩ ⟨rfl,rfl,TV⟩
theorem XhK (b:List UInt8) (hb:b.length<=1000000):Con prog 107 [] [.d (Xg b)] [(130,.row 1 ((YC b).map X5))] (.own 130 ((YC b).map X5).length):=by
 refine ZC1 func107 ntmps107 fun E=> ?_;unfold Xg;rw[<-Xdo];have hlm:(b.map X5).length=b.length:=LM ..;rw[<-hlm] at hb |-;generalize b.map X5=xs at*;clear hlm;obtain⟨N,hN⟩:∃N,(xs.length+63)/64*64=N:=⟨_,rfl⟩
 obtain⟨k,hk⟩:∃k,(64-xs.length%64)%64=k:=⟨_,rfl⟩
 have qT:N=xs.length+k:=by omega
 rw[hk];have hmin:xs.length=min xs.length (replicate N cF).length:=by rw[length_replicate];omega
 have hrow:xs.take xs.length++(replicate N cF).drop xs.length=xs++replicate k cF:=by rw[take_length,drop_replicate,qT,Nat.add_sub_cancel_left]
 have ax:N=(xs++replicate k cF).length:=by rw[LA,length_replicate];exact qT
 have l7:N<=1000100:=by omega
 clear hk;refine W8_ ?_;refine ZBA (xs.length) 64 ?_;refine ZBs (((xs.length+64):Nat):Int) ((1:Nat):Int) (((xs.length+63):Nat):Int) ?_;refine ZBq (xs.length+63) 64 ?_
 (refine Z1 (op:= .mul) (r':=ni N) (u:=ni ((xs.length+63)/64)) (v:=ni 64) ?_ (hr':=by exact CG ni hN) (hr:=by exact X4j (by rw[YO];omega)))
 refine Qca ?_;refine W6_ ?_;refine X9O (m:=xs.length) (hg:=JSa) (hx:=JSb) (hL:=JSb) (hn:=JSe) (hy:=JSb) (hT:=JSb) (hd:=JSb) ?_ (hm:=by exact hmin);refine W6_ ?_;exact X2 ⟨_,Xe 2 (y:= .own 130 (xs++replicate k cF).length) (AVal.le_of_eq (by refine Eq.trans (b:=AVal.own 130 N) rfl ?_;rw[<-ax])),⟨rfl,TV⟩,Xj ⟨CG (AObj.row 1) hrow,TV⟩⟩
theorem Xll (b:List UInt8) (hb:b.length<=1000000):Con prog 107 [] [.d (Xg b)] [] (.d (Xg (YC b))):=(XhK b hb).data rfl
theorem XhJ (b:List UInt8):4<=(Yn b).length:=by
 unfold Yn X0p;simp only[LA,LC,length_nil];omega
theorem Xms {a b c e:Int} (h:∀x∈[a,b,c,e],0<=x/\x<=9223372036854775807):(YC (VL a b c e)).length=64/\(YC (VL a b c e)).set 63 1=UI a b c e:=by
 have h1:=XbX a b c e h;have h2:4<=(VL a b c e).length:=XhJ _;unfold YC UI;generalize VL a b c e=F at*;refine⟨by rw[LA,length_replicate];omega,?_⟩;rw[set_append_right _ _ (by omega),show(64-F.length%64)%64=(63-F.length)+1 by omega,replicate_succ',set_append_right _ _ (by rw[length_replicate];omega),length_replicate,show 63-F.length-(63-F.length)=0 by omega];rfl
theorem Xdq (a b c e:Int) (h:∀x∈[a,b,c,e],0<=x/\x<=9223372036854775807):Con prog 108 [] [.agg [ai a,ai b,ai c,ai e]] [] (.d (Xg (UI a b c e))):=by
 refine ZC1 func108 ntmps108 fun E=> ?_;obtain⟨s1,s2⟩:=Xms h;have hu:=Xd3 fun x hx=>(h x hx).2;have hf:=XhZ (X04 [a,b,c,e]) (by simp only[LC,length_nil] at hu;omega);have hF:=XbX a b c e h;have hp:Con prog 107 [] [.d (Xg (VL a b c e))] [(132,.row 1 ((YC (VL a b c e)).map X5))] (.own 132 ((YC (VL a b c e)).map X5).length):=YK 130 132 (XhK (VL a b c e) (by omega));rw[show Yn (X04 [a,b,c,e])=VL a b c e from rfl] at hf;have s4:((YC (VL a b c e)).map X5).length=64:=by rw[LM];exact s1
 have s3:((YC (VL a b c e)).map X5).take 63++[[D.v (.int .u8 1)]]++((YC (VL a b c e)).map X5).drop (63+1)=(UI a b c e).map X5:=by
  rw[<-s2,map_set,set_eq_take_append_cons_drop,PI (by omega),AS];rfl
 unfold Xg at*;rw[<-s3];clear s1 s2 s3 hF;generalize (YC (VL a b c e)).map X5=P at*;generalize (VL a b c e).map X5=F at*;have l9:[a,b,c,e].length=4:=rfl;have ko:[[D.v (.int .i64 a)],[D.v (.int .i64 b)],[D.v (.int .i64 c)],[D.v (.int .i64 e)]]=[a,b,c,e].map cI:=rfl;refine Vl ?_;refine X8 (Uu 3 130 1 rfl rfl rfl) ?_;generalize [a,b,c,e]=l at*
 refine Xn (fun i:Nat=>i<=l.length) (fun i=>⟨35,[(3,.own 130 ((X04 (l.take i)).map X5).length),(15,.d (.sl 1 (l.map cI))),(16,ai (l.map cI).length),(17,ai i)],[(130,.row 1 ((X04 (l.take i)).map X5))]⟩) (fun i=>l.length-i) 0 (Nat.zero_le _)
  (Xb rfl ⟨JL,AVal.le_of_eq (by rw[<-ko];rfl),AVal.le_of_eq (by rw[<-ko];rfl),JL,TV⟩ ⟨rfl,TV⟩) ?_
 clear ko;intro i hi;have hlm:(l.map cI).length=l.length:=by simp
 by_cases hil:i<l.length
 case neg=>
  obtain rfl:i=l.length:=by omega
  have hn:¬((l.length:Nat):Int)<(l.map cI).length:=by omega
  rw[take_length];refine W8_ ?_;refine Qwb ?_;refine X8 (Y7 3 130 rfl rfl rfl) ?_;refine XK ?_;refine ZBs ((P.length:Nat):Int) ((1:Nat):Int) ((63:Nat):Int) ?_;refine W8_ ?_;refine X8 (XP 132 rfl) ?_;refine X8 (Y7 2 132 rfl rfl (by simp only[LA,LT,LD,LC,length_nil];omega)) ?_
  (show AWP prog E _ _ _;refine X2 ?_;exact(show Xa _ _ _ _ _ from⟨_,St.le_refl _,⟨rfl,TV⟩,X4 _⟩))
 have hn:(i:Int)<(l.map cI).length:=by omega
 obtain⟨x,pz⟩:=Xu (l:=l) hil;have au:(l.map cI)[i]? =some (cI x):=XM pz;have qU:=(h x (mem_of_getElem? pz)).2;have hc:=X30 x qU;have hlen:=Xd3 (l:=l.take i) fun y hy=>(h y (mem_of_mem_take hy)).2;have ay:=Xm3 qU;have hlt:(l.take i).length<=4:=by rw[LT];omega
 have hroom:((X04 (l.take i)).map X5).length<=10000:=by rw[LM];omega
 have s7:((Xl x).map X5).length<=10:=by rw[LM];omega
 have bD:=Xwa pz;clear hf hp h hu hlen ay;generalize X04 (l.take i)=u at*;unfold Xg at hc;generalize Xl x=v at*;simp only[cI] at au;refine XY ?_;refine⟨i+1,hil,by omega,?_⟩;rw[bD];exact Xb rfl ⟨AVal.le_of_eq (by refine Eq.trans (b:=AVal.own 130 (_+_)) rfl ?_;simp only[LA,LM,LC,length_nil]),JL,JL,JL,TV⟩ ⟨rfl,TV⟩
def Xa3 (h:Int×Int×Int×Int):AVal:= .agg [ai h.1,ai h.2.1,ai h.2.2.1,ai h.2.2.2]
theorem Xo6 (b:List UInt8) (hb:b.length<=1000):Con prog 98 [] [.d (Xg b)] [] (.tup [Xa3 (YZ b).1,ab (YZ b).2]):=by
 refine ZCt func98 ntmps98 fun E=> ?_;have hun:=XkE b 0 (by omega);have ju:=Xbn b 0;unfold YZ;generalize cj b 0=u at*;obtain⟨c,u2,u3⟩:=u;simp only[XbE] at*;by_cases q:u3=0
 case neg=>
  rw[PI q];simp only[Xa3];refine Vb ?_;exact QEc
 subst q;rw[NI (by simp)];have n0:Con prog 153 [(101,oC ⟨0,c,0,0⟩)] [.ptr 101 0] [(101,oC (YF ⟨0,c,0,0⟩).2)] (ai (YF ⟨0,c,0,0⟩).1):=YK 0 101 (X5C ⟨0,c,0,0⟩ (by simp only;omega));have hP:Xax ⟨0,c,0,0⟩=(((YF ⟨0,c,0,0⟩).1,(YF (YF ⟨0,c,0,0⟩).2).1,(YF (YF (YF ⟨0,c,0,0⟩).2).2).1,(YF (YF (YF (YF ⟨0,c,0,0⟩).2).2).2).1),(YF (YF (YF (YF ⟨0,c,0,0⟩).2).2).2).2):=rfl;rw[hP];clear hP;have c1:=(X4L.keep ⟨0,c,0,0⟩).2;obtain⟨m1,e1,b1⟩:=X5R ⟨0,c,0,0⟩;rw[e1] at n0 |-;generalize (YF ⟨0,c,0,0⟩).2=s1 at*;have n1:Con prog 153 [(101,oC s1)] [.ptr 101 0] [(101,oC (YF s1).2)] (ai (YF s1).1):=YK 0 101 (X5C s1 (by rw[c1];simp only;omega));have c2:=(X4L.keep s1).2.trans c1;obtain⟨m2,e2,b2⟩:=X5R s1;rw[e2] at n1 |-;generalize (YF s1).2=s2 at*;have n2:Con prog 153 [(101,oC s2)] [.ptr 101 0] [(101,oC (YF s2).2)] (ai (YF s2).1):=YK 0 101 (X5C s2 (by rw[c2];simp only;omega));have c3:=(X4L.keep s2).2.trans c2;obtain⟨m3,e3,b3⟩:=X5R s2;rw[e3] at n2 |-;generalize (YF s2).2=s3 at*;have n3:Con prog 153 [(101,oC s3)] [.ptr 101 0] [(101,oC (YF s3).2)] (ai (YF s3).1):=YK 0 101 (X5C s3 (by rw[c3];simp only;omega));have c4:=(X4L.keep s3).2.trans c3;obtain⟨m4,e4,b4⟩:=X5R s3;rw[e4] at n3 |-;generalize (YF s3).2=s4 at*;clear e1 e2 e3 e4;have gq:=Xdq m1 m2 m3 m4 (fun x hx=>by
  simp only[mem_cons,mem_nil_iff,or_false] at hx;rcases hx with rfl|rfl|rfl|rfl<;>omega)
 have heq:=XmC (UI m1 m2 m3 m4) b (by
  have:=X6h (a:=m1) (b:=m2) (c:=m3) (e:=m4) (fun x hx=>by
   simp only[mem_cons,mem_nil_iff,or_false] at hx;rcases hx with rfl|rfl|rfl|rfl<;>omega)
  omega)
 have eg:(c.map X5).length=c.length:=LM ..;obtain⟨k1,d1,a1,x1⟩:=s1;obtain⟨k2,d2,a2,x2⟩:=s2;obtain⟨k3,d3,a3,x3⟩:=s3;obtain⟨k4,d4,a4,x4⟩:=s4;simp only at c1 c2 c3 c4 |-;subst c1;subst c2;subst c3;subst c4;unfold Xg at*;simp only[X7k,if_true,ne_eq,not_true_eq_false,decide_false] at n0 n1 n2 n3;unfold Xg at*;generalize (UI m1 m2 m3 m4)=HB at*;generalize decide (HB=b)=G at*;simp only[Xa3];by_cases q1:x4=0
 case neg=>
  have dI:decide (¬x4=0)=true:=DT q1;rw[dI] at n3;rw[DF (fun h=>q1 h.1),Bool.false_and];exact QFc
 subst q1;simp only[if_true,ne_eq,not_true_eq_false,decide_false] at n3;by_cases q2:a4=(d4.length:Nat)
 case neg=>
  have fX:¬a4=((d4.map X5).length:Nat):=by omega
  rw[DF (fun h=>q2 h.2),Bool.false_and];exact QFc
 have fX:a4=((d4.map X5).length:Nat):=by omega
 rw[DT (⟨rfl,q2⟩:(0:Int)=0/\a4=(d4.length:Nat)),Bool.true_and];clear q2;exact QFc
end Go.Fw
