/- Schemas: the reference's Has, Add, Drop. -/
import Derived.Test.YtpbgjcbkhgfmkaaGreatDoorM65
set_option maxHeartbeats 64000000
namespace Go.Fw
open Go Go.Proofs Tryz List
set_option maxRecDepth 100000
set_option linter.unusedVariables false
set_option linter.unusedSimpArgs false
theorem XrE {l:List Rul}{r x:Rul}{i:Nat} (h:l[i]? =some x):XD YB (l.drop i) r=(decide (UM x r=0)||XD YB (l.drop (i+1)) r):=by
 obtain⟨h1,h2⟩:=GS.1 h;rw[drop_eq_getElem_cons h1,h2,XdY];rfl
theorem XiY (l:List Rul) (r:Rul) (hl:l.length<=9223372036854775807):Con prog 123 [] [.d (.sl 6 (l.map Xh)),Yu r] [] (ab (XD YB l r)):=by
 refine ZC1 func123 ntmps123 fun E=> ?_;have hlm:(l.map Xh).length=l.length:=by simp
 have ho:=fun x=>Xc5 x r;have hd:=fun i x (h:l[i]? =some x)=>XrE (r:=r) h;obtain⟨k,n,name,key,src,dst⟩:=r;generalize hG:XD YB l ⟨k,n,name,key,src,dst⟩=G;simp only[Yu] at*;refine XK ?_
 refine Xn (fun i:Nat=>i<=l.length/\XD YB (l.drop i) ⟨k,n,name,key,src,dst⟩=G) (fun i=>⟨19,[(0,.d (.sl 6 (l.map Xh))),(3,.ptr 100 0),(5,ai i)],[(100,.box [ai k,ai n,.d (.v (.string (X6 name))),.d (.v (.string (X6 key))),.d (.v (.string (X6 src))),.d (.v (.string (X6 dst)))])]⟩) (fun i=>l.length-i) 0 ⟨Nat.zero_le _,hG⟩
  (ZL0) ?_
 rintro i ⟨hi,hg⟩;by_cases hil:i<l.length
 case neg=>
  have hn:¬(i:Int)<(l.map Xh).length:=by omega
  rw[drop_of_length_le (by omega)] at hg;subst hg;refine XG ?_
  (show AWP prog E _ _ _;refine X2 ?_;exact(show Xa _ _ _ _ _ from⟨_,St.le_refl _,⟨rfl,TV⟩,X4 _⟩))
 have hn:(i:Int)<(l.map Xh).length:=by omega
 obtain⟨x,hx⟩:=Xu (l:=l) hil;have au:(l.map Xh)[i]? =some (Xh x):=XM hx;have ho:=ho x;rw[hd i x hx] at hg;obtain⟨k',n',name',key',src',dst'⟩:=x;simp only[Yu,Xh] at ho au;generalize UM _ _=o at*;by_cases q:o=0
 ·rw[DT q,Bool.true_or] at hg;subst hg;refine YR ?_;refine Z3 (af:=ho) ?_;refine W7_ ?_
  (show AWP prog E _ _ _;refine X2 ?_;exact(show Xa _ _ _ _ _ from⟨_,St.le_refl _,⟨rfl,TV⟩,X4 _⟩))
 rw[DF q,Bool.false_or] at hg;clear hx hd;refine YR ?_;refine Z3 (af:=ho) ?_;refine W9_ ?_;exact Qtb
theorem Xto (l:List Rul) (r:Rul) (hl:l.length<=9223372036854775807):Con prog 74 [] [.d (.sl 6 (l.map Xh)),Yu r] [] (.tup [.d (.sl 6 ((Vc l r).1.map Xh)),ai (Vc l r).2]):=by
 refine ZCt func74 ntmps74 fun E=> ?_;have hv:=Xeq l hl;have hc:=X8y r;have hh:=XiY l r hl;have hlm:(l.map Xh).length=l.length:=by simp
 have ho:=fun x=>Xc5 x r;by_cases q1:X0W l=true
 case neg=>
  have e:Vc l r=([],19):=by unfold Vc;rw[PI (by simpa using q1)]
  rw[e];rw[show X0W l=false by simpa using q1] at hv;exact QDd
 rw[q1] at hv;have hlen:=(X6u.1 q1).len;by_cases q2:Uk r=0
 case neg=>
  have e:Vc l r=([],Uk r):=by unfold Vc;rw[NI (by simp[q1]),PI q2]
  rw[e];generalize Uk r=x at*;obtain⟨k,n,name,key,src,dst⟩:=r;simp only[Yu] at*;exact QEd
 rw[q2] at hc;by_cases q3:XD YB l r=true
 ·have e:Vc l r=([],7):=by unfold Vc;rw[NI (by simp[q1]),NI (by simp[q2]),PI q3]
  rw[e];rw[q3] at hh;obtain⟨k,n,name,key,src,dst⟩:=r;simp only[Yu] at*;refine Qma ?_;exact QCd
 have q3:XD YB l r=false:=by simpa using q3
 rw[q3] at hh;by_cases q4:l.length=40
 ·have e:Vc l r=([],20):=by unfold Vc;rw[NI (by simp[q1]),NI (by simp[q2]),NI (by simp[q3]),PI q4]
  rw[e];have n9:((l.map Xh).length:Int)=40:=by omega
  obtain⟨k,n,name,key,src,dst⟩:=r;simp only[Yu] at*;refine QX ?_;exact QCd
 have e:Vc l r=(l.take (Xo ltR YB l r)++[r]++l.drop (Xo ltR YB l r),0):=by unfold Vc;rw[NI (by simp[q1]),NI (by simp[q2]),NI (by simp[q3]),NI q4,X4U q3]
 rw[e];have n9:¬((l.map Xh).length:Int)=40:=by omega
 have hle:=X5p (lt:=ltR) (key:=YB) l r;have hlt:∀i x,l[i]? =some x->i<Xo ltR YB l r->UM x r<0:=fun i x h hi=>Xl0 (Xad (lt:=ltR) (key:=YB) (k:=r) (l:=l) x (mem_of_getElem? (i:=i) (by rw[getElem?_take,PI hi];exact h)));have hge:∀x,l[Xo ltR YB l r]? =some x->¬UM x r<0:=fun x h=>Xgp (by rw[show x=YB x from rfl,X9g h];simp);clear e q1 q2 q3 q4;generalize Xo ltR YB l r=N at*;obtain⟨k,n,name,key,src,dst⟩:=r;simp only[Yu] at*;refine X7 ?_;refine Yg ?_;clear hv hc hh;refine X8 (Uu 7 130 6 rfl rfl rfl) ?_;refine X6x ⟨68,[(0,.d (.sl 6 (l.map Xh))),(3,.ptr 100 0),(4,aq),(5,ai 0),(7,.own 130 ((l.take N).map Xh).length)],[(100,.box [ai k,ai n,.d (.v (.string (X6 name))),.d (.v (.string (X6 key))),.d (.v (.string (X6 src))),.d (.v (.string (X6 dst)))]),(130,.row 6 ((l.take N).map Xh))]⟩ ?_ ?_
 ·refine XfC ?_
  refine Xn (fun i:Nat=>i<=N) (fun i=>⟨68,[(0,.d (.sl 6 (l.map Xh))),(3,.ptr 100 0),(4,aq),(5,ai 0),(7,.own 130 ((l.take i).map Xh).length),(8,ai i)],[(100,.box [ai k,ai n,.d (.v (.string (X6 name))),.d (.v (.string (X6 key))),.d (.v (.string (X6 src))),.d (.v (.string (X6 dst)))]),(130,.row 6 ((l.take i).map Xh))]⟩) (fun i=>N-i) 0 (Nat.zero_le _)
   (ZL0) ?_
  intro i hi;have ve:((l.take i).map Xh).length=i:=by rw[LM,LT];omega
  by_cases l8:i<N
  ·have hil:i<l.length:=by omega
   have hn:(i:Int)<(l.map Xh).length:=by omega
   obtain⟨x,hx⟩:=Xu (l:=l) hil;have au:(l.map Xh)[i]? =some (Xh x):=XM hx;have ho:=ho x;have hlt:=hlt i x hx l8;have hst:(l.take (i+1)).map Xh=(l.take i).map Xh++[Xh x]:=by rw[X19 hx,map_append];rfl
   clear hge hx;obtain⟨k',n',name',key',src',dst'⟩:=x;simp only[Yu,Xh] at ho au hst;generalize UM _ _=o at*;refine XQ ?_;refine Z3 (af:=ho) ?_;refine Yw ?_;exact⟨i+1,l8,by omega,Xb rfl ⟨JL,JL,JL,JL,AVal.le_of_eq (by rw[hst,LA];rfl),JL,TV⟩ ⟨rfl,(by rw[hst];rfl),TV⟩⟩
  obtain rfl:i=N:=by omega
  by_cases hil:i<l.length
  ·have hn:(i:Int)<(l.map Xh).length:=by omega
   obtain⟨x,hx⟩:=Xu (l:=l) hil;have au:(l.map Xh)[i]? =some (Xh x):=XM hx;have ho:=ho x;have hge:=hge x hx;clear hx hlt;obtain⟨k',n',name',key',src',dst'⟩:=x;simp only[Yu,Xh] at ho au;generalize UM _ _=o at*;refine XQ ?_;refine Z3 (af:=ho) ?_;refine W5_ ?_;exact ZL0
  ·have hn:¬(i:Int)<(l.map Xh).length:=by omega
   clear hge hlt;refine YR ?_;exact ZL0
 clear hlt hge ho;have rK:((l.take N).map Xh).length=N:=by rw[LM,LT];omega
 refine Ye ?_
 refine Xn (fun j:Nat=>N+j<=l.length) (fun j=>⟨68,[(0,.d (.sl 6 (l.map Xh))),(3,.ptr 100 0),(4,aq),(5,ai 0),(7,.own 130 ((l.take N).map Xh++([.v (.int .i64 k),.v (.int .i64 n),.v (.string (X6 name)),.v (.string (X6 key)),.v (.string (X6 src)),.v (.string (X6 dst))]::((l.drop N).take j).map Xh)).length),(10,ai ((N+j:Nat):Int))],[(100,.box [ai k,ai n,.d (.v (.string (X6 name))),.d (.v (.string (X6 key))),.d (.v (.string (X6 src))),.d (.v (.string (X6 dst)))]),(130,.row 6 ((l.take N).map Xh++([.v (.int .i64 k),.v (.int .i64 n),.v (.string (X6 name)),.v (.string (X6 key)),.v (.string (X6 src)),.v (.string (X6 dst))]::((l.drop N).take j).map Xh)))]⟩) (fun j=>l.length-(N+j)) 0 (by omega)
  (Xb rfl ⟨JL,JL,JL,JL,AVal.le_of_eq (by simp only[take_zero,map_nil,LA];rfl),AVal.le_of_eq (by refine Eq.trans (b:=ai ((((l.take N).map Xh).length:Nat):Int)) rfl ?_;rw[rK];rfl),TV⟩ ⟨rfl,rfl,TV⟩) ?_
 intro j hj;have hroom:((l.take N).map Xh++([.v (.int .i64 k),.v (.int .i64 n),.v (.string (X6 name)),.v (.string (X6 key)),.v (.string (X6 src)),.v (.string (X6 dst))]::((l.drop N).take j).map Xh)).length<=1000:=by
  rw[LA,rK,LC,LM,LT];omega
 by_cases hil:N+j<l.length
 case neg=>
  have hn:¬((N+j:Nat):Int)<(l.map Xh).length:=by omega
  rw[show (l.drop N).take j=l.drop N from take_of_length_le (by rw[LD];omega)] at hroom |-;rw[show ((l.take N++[(⟨k,n,name,key,src,dst⟩:Rul)]++l.drop N).map Xh)=(l.take N).map Xh++([.v (.int .i64 k),.v (.int .i64 n),.v (.string (X6 name)),.v (.string (X6 key)),.v (.string (X6 src)),.v (.string (X6 dst))]::(l.drop N).map Xh) by simp[Xh]];refine XK ?_;refine Qwb ?_;refine X8 (Y7 7 130 rfl rfl rfl) ?_;refine W5_ ?_
  (show AWP prog E _ _ _;refine X2 ?_;exact(show Xa _ _ _ _ _ from⟨_,St.le_refl _,⟨rfl,rfl,TV⟩,X4 _⟩))
 have hn:((N+j:Nat):Int)<(l.map Xh).length:=by omega
 obtain⟨x,hx⟩:=Xu (l:=l) hil;have au:(l.map Xh)[N+j]? =some (Xh x):=XM hx;have hst:((l.drop N).take (j+1)).map Xh=((l.drop N).take j).map Xh++[Xh x]:=by rw[X19 (by rw[getElem?_drop];exact hx),map_append];rfl
 clear hx;obtain⟨k',n',name',key',src',dst'⟩:=x;simp only[Xh] at au hst;refine U1 ?_;refine⟨j+1,by omega,by omega,?_⟩;rw[hst];refine Xb rfl ⟨JL,JL,JL,JL,AVal.le_of_eq (by simp only[LA,LC,length_nil];rfl),JL,TV⟩ ⟨rfl,CG (AObj.row 6) (AS _ _ _),TV⟩
theorem XsR (l:List Rul) (r:Rul) (hl:l.length<=9223372036854775807):Con prog 75 [] [.d (.sl 6 (l.map Xh)),Yu r] [] (.tup [.d (.sl 6 ((VC l r).1.map Xh)),ai (VC l r).2]):=by
 refine ZCt func75 ntmps75 fun E=> ?_;have hv:=Xeq l hl;have hc:=X8y r;have hh:=XiY l r hl;have hlm:(l.map Xh).length=l.length:=by simp
 have ho:=fun x=>Xc5 x r;by_cases q1:X0W l=true
 case neg=>
  have e:VC l r=([],19):=by unfold VC;rw[PI (by simpa using q1)]
  rw[e];rw[show X0W l=false by simpa using q1] at hv;exact QDd
 rw[q1] at hv;have hlen:=(X6u.1 q1).len;by_cases q2:Uk r=0
 case neg=>
  have e:VC l r=([],Uk r):=by unfold VC;rw[NI (by simp[q1]),PI q2]
  rw[e];generalize Uk r=x at*;obtain⟨k,n,name,key,src,dst⟩:=r;simp only[Yu] at*;exact QEd
 rw[q2] at hc;by_cases q3:XD YB l r=false
 ·have e:VC l r=([],23):=by unfold VC;rw[NI (by simp[q1]),NI (by simp[q2]),PI q3]
  rw[e];rw[q3] at hh;obtain⟨k,n,name,key,src,dst⟩:=r;simp only[Yu] at*;refine QMa ?_;exact QCd
 have q3:XD YB l r=true:=by simpa using q3
 rw[q3] at hh;have e:VC l r=(UL YB l r,0):=by unfold VC;rw[NI (by simp[q1]),NI (by simp[q2]),NI (by simp[q3])]
 rw[e];have hD:∀i x,l[i]? =some x->UL YB (l.take (i+1)) r=UL YB (l.take i) r++if UM x r=0 then [] else [x]:=fun i x h=>by
  rw[X19 h];unfold UL;rw[filter_append];congr 1;by_cases q:UM x r=0
  ·rw[PI q,filter_cons_of_neg (by simp[YB,Xb2 q])];rfl
  ·rw[NI q,filter_cons_of_pos (by rw[<-XdY (a:=YB x)];simpa [YB] using q)];rfl
 have gQ:∀i,(UL YB (l.take i) r).length<=40:=fun i=>Nat.le_trans (length_filter_le ..) (by rw[LT];omega);have rL:UL YB (l.take l.length) r=UL YB l r:=by rw[take_length]
 rw[<-rL];have dh:UL YB (l.take 0) r=[]:=rfl;clear e q1 q2 q3 rL;generalize hd:(fun i=>UL YB (l.take i) r)=dl;have hd:∀i,UL YB (l.take i) r=dl i:=fun i=>by rw[<-hd]
 simp only[hd] at*;obtain⟨k,n,name,key,src,dst⟩:=r;simp only[Yu] at*;refine QY ?_;clear hv hc hh;refine X8 (Uu 7 130 6 rfl rfl rfl) ?_
 refine Xn (fun i:Nat=>i<=l.length) (fun i=>⟨42,[(0,.d (.sl 6 (l.map Xh))),(3,.ptr 100 0),(4,aq),(5,ai 0),(7,.own 130 ((dl i).map Xh).length),(8,ai i)],[(100,.box [ai k,ai n,.d (.v (.string (X6 name))),.d (.v (.string (X6 key))),.d (.v (.string (X6 src))),.d (.v (.string (X6 dst)))]),(130,.row 6 ((dl i).map Xh))]⟩) (fun i=>l.length-i) 0 (Nat.zero_le _)
  (Xb rfl ⟨JL,JL,JL,JL,(by rw[dh];exact AVal.le_refl _),JL,TV⟩ ⟨rfl,(by rw[dh];rfl),TV⟩) ?_
 intro i hi;have hroom:((dl i).map Xh).length<=40:=by rw[LM];exact gQ i
 by_cases hil:i<l.length
 case neg=>
  have hn:¬(i:Int)<(l.map Xh).length:=by omega
  obtain rfl:i=l.length:=by omega
  clear hD;refine XK ?_;refine Qwb ?_;refine X8 (Y7 7 130 rfl rfl rfl) ?_;refine W5_ ?_
  (show AWP prog E _ _ _;refine X2 ?_;exact(show Xa _ _ _ _ _ from⟨_,St.le_refl _,⟨rfl,rfl,TV⟩,X4 _⟩))
 have hn:(i:Int)<(l.map Xh).length:=by omega
 obtain⟨x,hx⟩:=Xu (l:=l) hil;have au:(l.map Xh)[i]? =some (Xh x):=XM hx;have ho:=ho x;have hD:=hD i x hx;clear hx dh;obtain⟨k',n',name',key',src',dst'⟩:=x;simp only[Yu,Xh] at ho au;generalize UM _ _=o at*;by_cases q:o=0
 ·rw[PI q,append_nil] at hD;refine YR ?_;refine Z3 (af:=ho) ?_;refine W9_ ?_;refine⟨i+1,hil,by omega,?_⟩;rw[hD];exact ZL0
 rw[NI q] at hD;have hst:(dl (i+1)).map Xh=(dl i).map Xh++[Xh ⟨k',n',name',key',src',dst'⟩]:=by rw[hD,map_append];rfl
 simp only[Xh] at hst;refine YR ?_;refine Z3 (af:=ho) ?_;refine Yf ?_;refine⟨i+1,hil,by omega,?_⟩;rw[hst];exact Xb rfl ⟨JL,JL,JL,JL,AVal.le_of_eq (by rw[LA];rfl),JL,TV⟩ ⟨rfl,rfl,TV⟩
theorem Xls (s:Sta) (r:Rcd) (hs:StaHold s) (hr:X0z r):Con prog 35 [] [Xy s,Uv r] [] (.tup [Xy (U3 s r).1,ai (U3 s r).2]):=by
 refine ZCt func35 ntmps35 fun E=> ?_;have hv:=Xck s hs;have hc:=XdI r hr;have hap:=Xt1 s.g r.changes hs.g hr.1 hr.2;have had:=Xto s.rules r.rule hs.rl;have bX:=XsR s.rules r.rule hs.rl;have hts:YN s=true->0<=s.ts/\s.ts<=1000000000000000:=fun h=>by obtain⟨_,_,t0,t1,_⟩:=Vk.1 h;exact⟨t0,t1⟩
 obtain⟨R,hR⟩:∃R,R=U3 s r:=⟨_,rfl⟩
 rw[<-hR];unfold U3 ofA ofR at hR;clear hs hr;generalize V9 s.g r.changes=A at*;generalize Vc s.rules r.rule=B at*;generalize VC s.rules r.rule=C at*;generalize YN s=V at*;generalize UH r=X at*;obtain⟨⟨an,ae,rj,rm⟩,a2,a3⟩:=A;obtain⟨b1,b2⟩:=B;obtain⟨c1,c2⟩:=C;obtain⟨⟨ns,es,nn,ne⟩,rs,ts,ep,tail⟩:=s;obtain⟨kd,rts,l,⟨k,n,name,key,src,dst⟩,off⟩:=r;simp only[Xy,Uv,Y6,Yu,X4Z] at*;refine XG ?_;by_cases hV:V=true
 case neg=>
  refine W7_ ?_;simp[hV] at hR;subst hR;exact QFd
 have ht:=hts hV;clear hts;refine XG ?_;refine Vt rfl (fun hq=> ?_) (fun hq=> ?_);refine W7_ ?_
 ((clear hv hc hap had bX;simp[*] at hR;subst hR;exact X2 ⟨_,Xq 102 (cs:=[aq,aq,ai 0,ai 0,aq,ai 0,ai 0,ai 0]) (cs':=[.d (.sl 3 []),.d (.sl 5 []),ai 0,ai 0,.d (.sl 6 []),ai 0,ai 0,ai 0]) rfl ⟨AVal.le_nil 3,AVal.le_nil 5,AVal.le_refl _,AVal.le_refl _,AVal.le_nil 6,AVal.le_refl _,AVal.le_refl _,AVal.le_refl _,TV⟩ rfl,⟨⟨102,0,_,rfl,rfl,.inr ⟨8,_,rfl,rfl,rfl,rfl⟩⟩,rfl,TV⟩,X4 _⟩))
 refine W8_ ?_;refine Yb rfl rfl (fun hq=> ?_) (fun hq=> ?_);refine W7_ ?_;refine Yb rfl rfl (fun hq=> ?_) (fun hq=> ?_);refine W4_ ?_;refine Qm ?_;refine Qg ?_;refine XA ?_
 ((clear hv hc hap had bX;simp[*] at hR;subst hR;exact X2 ⟨_,Xq 102 (cs:=[aq,aq,ai 0,ai 0,aq,ai 0,ai 0,ai 0]) (cs':=[.d (.sl 3 []),.d (.sl 5 []),ai 0,ai 0,.d (.sl 6 []),ai 0,ai 0,ai 0]) rfl ⟨AVal.le_nil 3,AVal.le_nil 5,AVal.le_refl _,AVal.le_refl _,AVal.le_nil 6,AVal.le_refl _,AVal.le_refl _,AVal.le_refl _,TV⟩ rfl,⟨⟨102,0,_,rfl,rfl,.inr ⟨8,_,rfl,rfl,rfl,rfl⟩⟩,rfl,TV⟩,X4 _⟩))
 refine QV ?_;((clear hv hc hap had bX;simp[*] at hR;subst hR;exact X2 ⟨_,St.le_refl _,⟨⟨102,0,_,rfl,rfl,.inr ⟨8,_,rfl,rfl,rfl,rfl⟩⟩,rfl,TV⟩,X4 _⟩));refine U8 ?_;refine Vt rfl (fun hq=> ?_) (fun hq=> ?_);refine W6_ ?_
 ((clear hv hc hap had bX;simp[*] at hR;subst hR;exact X2 ⟨_,Xq 102 (cs:=[aq,aq,ai 0,ai 0,aq,ai 0,ai 0,ai 0]) (cs':=[.d (.sl 3 []),.d (.sl 5 []),ai 0,ai 0,.d (.sl 6 []),ai 0,ai 0,ai 0]) rfl ⟨AVal.le_nil 3,AVal.le_nil 5,AVal.le_refl _,AVal.le_refl _,AVal.le_nil 6,AVal.le_refl _,AVal.le_refl _,AVal.le_refl _,TV⟩ rfl,⟨⟨102,0,_,rfl,rfl,.inr ⟨8,_,rfl,rfl,rfl,rfl⟩⟩,rfl,TV⟩,X4 _⟩))
 refine XQ ?_;refine Vt rfl (fun hq=> ?_) (fun hq=> ?_);refine Yw ?_;refine Vt rfl (fun hq=> ?_) (fun hq=> ?_);refine W7_ ?_
 ((clear hv hc hap had bX;simp[*] at hR;subst hR;exact X2 ⟨_,Xq 102 (cs:=[aq,aq,ai 0,ai 0,aq,ai 0,ai 0,ai 0]) (cs':=[.d (.sl 3 []),.d (.sl 5 []),ai 0,ai 0,.d (.sl 6 []),ai 0,ai 0,ai 0]) rfl ⟨AVal.le_nil 3,AVal.le_nil 5,AVal.le_refl _,AVal.le_refl _,AVal.le_nil 6,AVal.le_refl _,AVal.le_refl _,AVal.le_refl _,TV⟩ rfl,⟨⟨102,0,_,rfl,rfl,.inr ⟨8,_,rfl,rfl,rfl,rfl⟩⟩,rfl,TV⟩,X4 _⟩))
 refine YR ?_;((clear hv hc hap had bX;simp[*] at hR;subst hR;exact X2 ⟨_,St.le_refl _,⟨⟨102,0,_,rfl,rfl,.inr ⟨8,_,rfl,rfl,rfl,rfl⟩⟩,rfl,TV⟩,X4 _⟩));refine W5_ ?_;refine Vt rfl (fun hq=> ?_) (fun hq=> ?_);refine YR ?_;refine X20 rfl (fun hq=> ?_) (fun hq=> ?_);refine Yf ?_;refine Vt rfl (fun hq=> ?_) (fun hq=> ?_);refine W7_ ?_
 ((clear hv hc hap had bX;simp[*] at hR;subst hR;exact X2 ⟨_,Xq 102 (cs:=[aq,aq,ai 0,ai 0,aq,ai 0,ai 0,ai 0]) (cs':=[.d (.sl 3 []),.d (.sl 5 []),ai 0,ai 0,.d (.sl 6 []),ai 0,ai 0,ai 0]) rfl ⟨AVal.le_nil 3,AVal.le_nil 5,AVal.le_refl _,AVal.le_refl _,AVal.le_nil 6,AVal.le_refl _,AVal.le_refl _,AVal.le_refl _,TV⟩ rfl,⟨⟨102,0,_,rfl,rfl,.inr ⟨8,_,rfl,rfl,rfl,rfl⟩⟩,rfl,TV⟩,X4 _⟩))
 refine YR ?_;((clear hv hc hap had bX;simp[*] at hR;subst hR;exact X2 ⟨_,St.le_refl _,⟨⟨102,0,_,rfl,rfl,.inr ⟨8,_,rfl,rfl,rfl,rfl⟩⟩,rfl,TV⟩,X4 _⟩));refine W7_ ?_;refine Vt rfl (fun hq=> ?_) (fun hq=> ?_);refine W7_ ?_
 ((clear hv hc hap had bX;simp[*] at hR;subst hR;exact X2 ⟨_,Xq 102 (cs:=[aq,aq,ai 0,ai 0,aq,ai 0,ai 0,ai 0]) (cs':=[.d (.sl 3 []),.d (.sl 5 []),ai 0,ai 0,.d (.sl 6 []),ai 0,ai 0,ai 0]) rfl ⟨AVal.le_nil 3,AVal.le_nil 5,AVal.le_refl _,AVal.le_refl _,AVal.le_nil 6,AVal.le_refl _,AVal.le_refl _,AVal.le_refl _,TV⟩ rfl,⟨⟨102,0,_,rfl,rfl,.inr ⟨8,_,rfl,rfl,rfl,rfl⟩⟩,rfl,TV⟩,X4 _⟩))
 refine YR ?_;((clear hv hc hap had bX;simp[*] at hR;subst hR;exact X2 ⟨_,St.le_refl _,⟨⟨102,0,_,rfl,rfl,.inr ⟨8,_,rfl,rfl,rfl,rfl⟩⟩,rfl,TV⟩,X4 _⟩));refine W7_ ?_
 ((clear hv hc hap had bX;simp[*] at hR;subst hR;exact X2 ⟨_,St.le_refl _,⟨⟨102,0,_,rfl,rfl,.inr ⟨8,_,rfl,rfl,rfl,rfl⟩⟩,rfl,TV⟩,X4 _⟩))
theorem XlU {s:Sta}{r:Rcd}:StaHold (U3 s r).1:=by
 by_cases h:YN s=true
 ·exact Xg2 h
 ·rw[show U3 s r=(Yd,19) by unfold U3;rw[PI (by simpa using h)]];exact⟨X2Y,by simp⟩
end Go.Fw
