/- Schemas: the reference's Has, Add, Drop. -/
import Derived.Test.YtfmfekakaeafhaaGreatDoorP43
import Derived.Test.YtfmfekakaeafhaaGreatDoorP45
set_option linter.all false
set_option maxHeartbeats 64000000
namespace Go.Fw
open Go Go.Proofs Tryz List
open List renaming length->J
set_option maxRecDepth 100000
def Xs8 {l:List Rul}{r x:Rul}{i:Nat} (h:l[i]? =some x):XF YW (l.drop i) r=(decide (V3 x r=0)||XF YW (l.drop (i+1)) r):=by
 obtain⟨h1,h2⟩:=GS.1 h;rw[drop_eq_getElem_cons h1,h2,Xer];rfl
def XiK (l:List Rul) (r:Rul) (hl:J l<=9223372036854775807):Con prog 192 [] [.d (.sl 6 (l.map Xh)),Yu r] [] (ab (XF YW l r)):=by
 refine ZC1 func192 ntmps192 fun E=> ?_;have hlm:J (l.map Xh)=J l:=Oc
 have ho:=fun x=>Xbn x r;have hd:=fun i x (h:l[i]? =some x)=>Xs8 (r:=r) h;obtain⟨k,n,name,key,src,dst⟩:=r;generalize hG:XF YW l ⟨k,n,name,key,src,dst⟩=G;simp only[Yu] at*;refine XB ?_
 refine Xl (fun i:Nat=>i<=J l/\XF YW (l.drop i) ⟨k,n,name,key,src,dst⟩=G) (fun i=>⟨19,[(0,.d (.sl 6 (l.map Xh))),(3,.ptr 100 0),(5,ai i)],[(100,.box [ai k,ai n,.d (.v (.string (X7 name))),.d (.v (.string (X7 key))),.d (.v (.string (X7 src))),.d (.v (.string (X7 dst)))])]⟩) (fun i=>J l-i) 0 ⟨Nat.zero_le _,hG⟩
  (ZL0) ?_
 rintro i ⟨hi,hg⟩;by_cases hil:i<J l
 case neg=>
  have hn:¬(i:Int)<J (l.map Xh):=Oa
  rw[drop_of_length_le Oa] at hg;subst hg;refine XD ?_
  (exact Zz2)
 have hn:(i:Int)<J (l.map Xh):=Oa
 obtain⟨x,hx⟩:=Xn (l:=l) hil;have au:(l.map Xh)[i]? =some (Xh x):=XC hx;have ho:=ho x;rw[hd i x hx] at hg;obtain⟨k',n',name',key',src',dst'⟩:=x;simp only[Yu,Xh] at ho au;generalize V3 _ _=o at*;by_cases q:o=0
 ·rw[DT q,Bool.true_or] at hg;subst hg;refine YS ?_;refine Z5 (ag:=ho) ?_;refine W7_ ?_
  (exact Zz2)
 rw[DF q,Bool.false_or] at hg;clear hx hd;refine YS ?_;refine Z5 (ag:=ho) ?_;refine W9_ ?_;exact Qfc
def Xx0 (l:List Rul) (r:Rul) (hl:J l<=9223372036854775807):Con prog 120 [] [.d (.sl 6 (l.map Xh)),Yu r] [] (.tup [.d (.sl 6 ((VG l r).1.map Xh)),ai (VG l r).2]):=by
 refine ZCt func120 ntmps120 fun E=> ?_;have hv:=Xes l hl;have hc:=X8p r;have hh:=XiK l r hl;have hlm:J (l.map Xh)=J l:=Oc
 have ho:=fun x=>Xbn x r;by_cases q1:X1F l=true
 case neg=>
  exact Yt61
 rw[q1] at hv;have hlen:=(X7J.1 q1).len;by_cases q2:Uu r=0
 case neg=>
  have e:VG l r=([],Uu r):=by unfold VG;rw[NI OS,PI q2]
  exact Yt32
 rw[q2] at hc;by_cases q3:XF YW l r=true
 ·have e:VG l r=([],7):=by unfold VG;rw[NI OS,NI Il,PI q3]
  rw[e];rw[q3] at hh;obtain⟨k,n,name,key,src,dst⟩:=r;simp only[Yu] at*;refine QW ?_;exact Qie
 have q3:XF YW l r=false:=by simpa using q3
 rw[q3] at hh;by_cases q4:J l=40
 ·have e:VG l r=([],20):=by unfold VG;rw[NI OS,NI Il,NI Im,PI q4]
  rw[e];have nS:(J (l.map Xh):Int)=40:=Oa
  obtain⟨k,n,name,key,src,dst⟩:=r;simp only[Yu] at*;refine Qxa ?_;exact Qie
 have e:VG l r=(l.take (Xr ltR YW l r)++[r]++l.drop (Xr ltR YW l r),0):=by unfold VG;rw[NI OS,NI Il,NI Im,NI q4,X5u q3]
 rw[e];have nS:¬(J (l.map Xh):Int)=40:=Oa
 have hle:=X6A (lt:=ltR) (key:=YW) l r;have hlt:∀i x,l[i]? =some x->i<Xr ltR YW l r->V3 x r<0:=fun i x h hi=>Xkr (Xcl (lt:=ltR) (key:=YW) (k:=r) (l:=l) x (mem_of_getElem? (i:=i) (by rw[getElem?_take,PI hi];exact h)));have hge:∀x,l[Xr ltR YW l r]? =some x->¬V3 x r<0:=fun x h=>XlI (by rw[show x=YW x from rfl,Xar h];simp);clear e q1 q2 q3 q4;generalize Xr ltR YW l r=N at*;obtain⟨k,n,name,key,src,dst⟩:=r;simp only[Yu] at*;refine X4 ?_;refine Yr ?_;clear hv hc hh;refine X8 (Uo 7 130 6 rfl rfl rfl) ?_;refine X4q ⟨68,[(0,.d (.sl 6 (l.map Xh))),(3,.ptr 100 0),(4,aq),(5,ai 0),(7,.own 130 (J ((l.take N).map Xh)))],[(100,.box [ai k,ai n,.d (.v (.string (X7 name))),.d (.v (.string (X7 key))),.d (.v (.string (X7 src))),.d (.v (.string (X7 dst)))]),(130,.row 6 ((l.take N).map Xh))]⟩ ?_ ?_
 ·refine Xgd ?_
  refine Xl (fun i:Nat=>i<=N) (fun i=>⟨68,[(0,.d (.sl 6 (l.map Xh))),(3,.ptr 100 0),(4,aq),(5,ai 0),(7,.own 130 (J ((l.take i).map Xh))),(8,ai i)],[(100,.box [ai k,ai n,.d (.v (.string (X7 name))),.d (.v (.string (X7 key))),.d (.v (.string (X7 src))),.d (.v (.string (X7 dst)))]),(130,.row 6 ((l.take i).map Xh))]⟩) (fun i=>N-i) 0 (Nat.zero_le _)
   (ZL0) ?_
  intro i hi;have vQ:J ((l.take i).map Xh)=i:=IT
  by_cases jH:i<N
  ·have hil:i<J l:=by omega
   have hn:(i:Int)<J (l.map Xh):=Oa
   obtain⟨x,hx⟩:=Xn (l:=l) hil;have au:(l.map Xh)[i]? =some (Xh x):=XC hx;have ho:=ho x;have hlt:=hlt i x hx jH;have hst:(l.take (i+1)).map Xh=(l.take i).map Xh++[Xh x]:=by rw[X1A hx,map_append];rfl
   clear hge hx;obtain⟨k',n',name',key',src',dst'⟩:=x;simp only[Yu,Xh] at ho au hst;generalize V3 _ _=o at*;refine XK ?_;refine Z5 (ag:=ho) ?_;refine YJ ?_;exact⟨i+1,jH,Oa,X9 rfl ⟨JL,JL,JL,JL,ZzQ (by rw[hst,LA];rfl),JL,TV⟩ ⟨rfl,(by rw[hst];rfl),TV⟩⟩
  obtain rfl:i=N:=Oa
  by_cases hil:i<J l
  ·have hn:(i:Int)<J (l.map Xh):=by omega
   obtain⟨x,hx⟩:=Xn (l:=l) hil;have au:(l.map Xh)[i]? =some (Xh x):=XC hx;have ho:=ho x;have hge:=hge x hx;clear hx hlt;obtain⟨k',n',name',key',src',dst'⟩:=x;simp only[Yu,Xh] at ho au;generalize V3 _ _=o at*;refine XK ?_;refine Z5 (ag:=ho) ?_;refine W5_ ?_;exact ZL0
  ·have hn:¬(i:Int)<J (l.map Xh):=by omega
   clear hge hlt;refine YS ?_;exact ZL0
 clear hlt hge ho;have sg:J ((l.take N).map Xh)=N:=IT
 refine Y5 ?_
 refine Xl (fun j:Nat=>N+j<=J l) (fun j=>⟨68,[(0,.d (.sl 6 (l.map Xh))),(3,.ptr 100 0),(4,aq),(5,ai 0),(7,.own 130 (J ((l.take N).map Xh++([.v (.int .i64 k),.v (.int .i64 n),.v (.string (X7 name)),.v (.string (X7 key)),.v (.string (X7 src)),.v (.string (X7 dst))]::((l.drop N).take j).map Xh)))),(10,ai ((N+j:Nat):Int))],[(100,.box [ai k,ai n,.d (.v (.string (X7 name))),.d (.v (.string (X7 key))),.d (.v (.string (X7 src))),.d (.v (.string (X7 dst)))]),(130,.row 6 ((l.take N).map Xh++([.v (.int .i64 k),.v (.int .i64 n),.v (.string (X7 name)),.v (.string (X7 key)),.v (.string (X7 src)),.v (.string (X7 dst))]::((l.drop N).take j).map Xh)))]⟩) (fun j=>J l-(N+j)) 0 Oa
  (X9 rfl ⟨JL,JL,JL,JL,ZzQ (by simp only[take_zero,map_nil,LA];rfl),ZzQ (by refine Eq.trans (b:=ai ((J ((l.take N).map Xh):Nat):Int)) rfl ?_;rw[sg];rfl),TV⟩ ⟨rfl,rfl,TV⟩) ?_
 intro j hj;have hroom:J ((l.take N).map Xh++([.v (.int .i64 k),.v (.int .i64 n),.v (.string (X7 name)),.v (.string (X7 key)),.v (.string (X7 src)),.v (.string (X7 dst))]::((l.drop N).take j).map Xh))<=1000:=by
  rw[LA,sg,LC,LM,LT];omega
 by_cases hil:N+j<J l
 case neg=>
  have hn:¬((N+j:Nat):Int)<J (l.map Xh):=Oa
  rw[show (l.drop N).take j=l.drop N from take_of_length_le OR] at hroom |-;rw[show ((l.take N++[(⟨k,n,name,key,src,dst⟩:Rul)]++l.drop N).map Xh)=(l.take N).map Xh++([.v (.int .i64 k),.v (.int .i64 n),.v (.string (X7 name)),.v (.string (X7 key)),.v (.string (X7 src)),.v (.string (X7 dst))]::(l.drop N).map Xh) by simp[Xh]];refine Qge ?_;refine X8 (XX 7 130 rfl rfl rfl) ?_;refine W5_ ?_
  (exact Zz1 rfl ⟨_,ZzS,⟨rfl,rfl,TV⟩,X5 _⟩)
 have hn:((N+j:Nat):Int)<J (l.map Xh):=Oa
 obtain⟨x,hx⟩:=Xn (l:=l) hil;have au:(l.map Xh)[N+j]? =some (Xh x):=XC hx;have hst:((l.drop N).take (j+1)).map Xh=((l.drop N).take j).map Xh++[Xh x]:=by rw[X1A (by rw[getElem?_drop];exact hx),map_append];rfl
 clear hx;obtain⟨k',n',name',key',src',dst'⟩:=x;simp only[Xh] at au hst;refine YT ?_;refine⟨j+1,Oa,Oa,?_⟩;rw[hst];refine X9 rfl ⟨JL,JL,JL,JL,ZzQ (by simp only[LA,LC,length_nil];rfl),JL,TV⟩ ⟨rfl,CG (AObj.row 6) (AS _ _ _),TV⟩
def XqU (l:List Rul) (r:Rul) (hl:J l<=9223372036854775807):Con prog 121 [] [.d (.sl 6 (l.map Xh)),Yu r] [] (.tup [.d (.sl 6 ((X0a l r).1.map Xh)),ai (X0a l r).2]):=by
 refine ZCt func121 ntmps121 fun E=> ?_;have hv:=Xes l hl;have hc:=X8p r;have hh:=XiK l r hl;have hlm:J (l.map Xh)=J l:=Oc
 have ho:=fun x=>Xbn x r;by_cases q1:X1F l=true
 case neg=>
  exact Yt60
 rw[q1] at hv;have hlen:=(X7J.1 q1).len;by_cases q2:Uu r=0
 case neg=>
  have e:X0a l r=([],Uu r):=by unfold X0a;rw[NI OS,PI q2]
  exact Yt32
 rw[q2] at hc;by_cases q3:XF YW l r=false
 ·have e:X0a l r=([],23):=by unfold X0a;rw[NI OS,NI Il,PI q3]
  rw[e];rw[q3] at hh;obtain⟨k,n,name,key,src,dst⟩:=r;simp only[Yu] at*;refine Qua ?_;exact Qie
 have q3:XF YW l r=true:=by simpa using q3
 rw[q3] at hh;have e:X0a l r=(UX YW l r,0):=by unfold X0a;rw[NI OS,NI Il,NI Im]
 rw[e];have hD:∀i x,l[i]? =some x->UX YW (l.take (i+1)) r=UX YW (l.take i) r++if V3 x r=0 then [] else [x]:=fun i x h=>by
  rw[X1A h];unfold UX;rw[filter_append];congr 1;by_cases q:V3 x r=0
  ·rw[PI q,filter_cons_of_neg (by simp[YW,XbI q])];rfl
  ·rw[NI q,filter_cons_of_pos (by rw[<-Xer (a:=YW x)];simpa [YW] using q)];rfl
 have uz:∀i,J (UX YW (l.take i) r)<=40:=fun i=>Nat.le_trans (length_filter_le ..) Oz;have sj:UX YW (l.take (J l)) r=UX YW l r:=by rw[take_length]
 rw[<-sj];have gC:UX YW (l.take 0) r=[]:=rfl;clear e q1 q2 q3 sj;generalize hd:(fun i=>UX YW (l.take i) r)=dl;have hd:∀i,UX YW (l.take i) r=dl i:=fun i=>by rw[<-hd]
 simp only[hd] at*;obtain⟨k,n,name,key,src,dst⟩:=r;simp only[Yu] at*;refine QHa ?_;clear hv hc hh;refine X8 (Uo 7 130 6 rfl rfl rfl) ?_
 refine Xl (fun i:Nat=>i<=J l) (fun i=>⟨42,[(0,.d (.sl 6 (l.map Xh))),(3,.ptr 100 0),(4,aq),(5,ai 0),(7,.own 130 (J ((dl i).map Xh))),(8,ai i)],[(100,.box [ai k,ai n,.d (.v (.string (X7 name))),.d (.v (.string (X7 key))),.d (.v (.string (X7 src))),.d (.v (.string (X7 dst)))]),(130,.row 6 ((dl i).map Xh))]⟩) (fun i=>J l-i) 0 (Nat.zero_le _)
  (X9 rfl ⟨JL,JL,JL,JL,(by rw[gC];exact ZzV),JL,TV⟩ ⟨rfl,(by rw[gC];rfl),TV⟩) ?_
 intro i hi;have hroom:J ((dl i).map Xh)<=40:=by rw[LM];exact uz i
 by_cases hil:i<J l
 case neg=>
  have hn:¬(i:Int)<J (l.map Xh):=Oa
  obtain rfl:i=J l:=Oa
  clear hD;refine Qge ?_;refine X8 (XX 7 130 rfl rfl rfl) ?_;refine W5_ ?_
  (exact Zz1 rfl ⟨_,ZzS,⟨rfl,rfl,TV⟩,X5 _⟩)
 have hn:(i:Int)<J (l.map Xh):=Oa
 obtain⟨x,hx⟩:=Xn (l:=l) hil;have au:(l.map Xh)[i]? =some (Xh x):=XC hx;have ho:=ho x;have hD:=hD i x hx;clear hx gC;obtain⟨k',n',name',key',src',dst'⟩:=x;simp only[Yu,Xh] at ho au;generalize V3 _ _=o at*;by_cases q:o=0
 ·rw[PI q,append_nil] at hD;refine YS ?_;refine Z5 (ag:=ho) ?_;refine W9_ ?_;refine⟨i+1,hil,Oa,?_⟩;rw[hD];exact ZL0
 rw[NI q] at hD;have hst:(dl (i+1)).map Xh=(dl i).map Xh++[Xh ⟨k',n',name',key',src',dst'⟩]:=by rw[hD,map_append];rfl
 simp only[Xh] at hst;refine YS ?_;refine Z5 (ag:=ho) ?_;refine Yh ?_;refine⟨i+1,hil,Oa,?_⟩;rw[hst];exact X9 rfl ⟨JL,JL,JL,JL,ZzQ Jk,JL,TV⟩ ⟨rfl,rfl,TV⟩
def Xr8 (s:Sta) (r:Rcd) (hs:StaHold s) (hr:X0z r):Con prog 67 [] [Xz s,Um r] [] (.tup [Xz (Ue s r).1,ai (Ue s r).2]):=by
 refine ZCt func67 ntmps67 fun E=> ?_;have hv:=Xc0 s hs;have hc:=XcJ r hr;have hap:=XmR s.g r.changes hs.g hr.1 hr.2;have had:=Xx0 s.rules r.rule hs.rl;have bS:=XqU s.rules r.rule hs.rl;have hts:YH s=true->0<=s.ts/\s.ts<=1000000000000000:=fun h=>by obtain⟨_,_,t0,t1,_⟩:=Vz.1 h;exact⟨t0,t1⟩
 obtain⟨R,hR⟩:∃R,R=Ue s r:=⟨_,rfl⟩
 rw[<-hR];unfold Ue ofA ofR at hR;clear hs hr;generalize UW s.g r.changes=A at*;generalize VG s.rules r.rule=B at*;generalize X0a s.rules r.rule=C at*;generalize YH s=V at*;generalize UO r=X at*;obtain⟨⟨an,ae,rY,rZ⟩,a2,a3⟩:=A;obtain⟨b1,b2⟩:=B;obtain⟨c1,c2⟩:=C;obtain⟨⟨ns,es,nn,ne⟩,rs,ts,ep,tail⟩:=s;obtain⟨kd,rts,l,⟨k,n,name,key,src,dst⟩,off⟩:=r;simp only[Xz,Um,XZ,Yu,X6O] at*;refine XD ?_;by_cases hV:V=true
 case neg=>
  refine W7_ ?_;simp[hV] at hR;subst hR;exact QCe
 have ht:=hts hV;clear hts;refine XD ?_;refine VI rfl ?_ ?_<;>intro hq;refine W7_ ?_
 ((clear hv hc hap had bS;simp[*] at hR;subst hR;exact X3 ⟨_,Xg 102 (cs:=[aq,aq,ai 0,ai 0,aq,ai 0,ai 0,ai 0]) (cs':=[.d (.sl 3 []),.d (.sl 5 []),ai 0,ai 0,.d (.sl 6 []),ai 0,ai 0,ai 0]) rfl ⟨AVal.le_nil 3,AVal.le_nil 5,ZzV,ZzV,AVal.le_nil 6,ZzV,ZzV,ZzV,TV⟩ rfl,⟨⟨102,0,_,rfl,rfl,.inr ⟨8,_,rfl,rfl,rfl,rfl⟩⟩,rfl,TV⟩,X5 _⟩))
 refine W8_ ?_;refine Ye rfl rfl ?_ ?_<;>intro hq;refine W7_ ?_;refine Ye rfl rfl ?_ ?_<;>intro hq;refine W4_ ?_;refine Qu ?_;refine Qt ?_;refine XA ?_
 ((clear hv hc hap had bS;simp[*] at hR;subst hR;exact X3 ⟨_,Xg 102 (cs:=[aq,aq,ai 0,ai 0,aq,ai 0,ai 0,ai 0]) (cs':=[.d (.sl 3 []),.d (.sl 5 []),ai 0,ai 0,.d (.sl 6 []),ai 0,ai 0,ai 0]) rfl ⟨AVal.le_nil 3,AVal.le_nil 5,ZzV,ZzV,AVal.le_nil 6,ZzV,ZzV,ZzV,TV⟩ rfl,⟨⟨102,0,_,rfl,rfl,.inr ⟨8,_,rfl,rfl,rfl,rfl⟩⟩,rfl,TV⟩,X5 _⟩))
 refine QO ?_;((clear hv hc hap had bS;simp[*] at hR;subst hR;exact X3 ⟨_,ZzS,⟨⟨102,0,_,rfl,rfl,.inr ⟨8,_,rfl,rfl,rfl,rfl⟩⟩,rfl,TV⟩,X5 _⟩));refine YV ?_;refine VI rfl ?_ ?_<;>intro hq;refine W6_ ?_
 ((clear hv hc hap had bS;simp[*] at hR;subst hR;exact X3 ⟨_,Xg 102 (cs:=[aq,aq,ai 0,ai 0,aq,ai 0,ai 0,ai 0]) (cs':=[.d (.sl 3 []),.d (.sl 5 []),ai 0,ai 0,.d (.sl 6 []),ai 0,ai 0,ai 0]) rfl ⟨AVal.le_nil 3,AVal.le_nil 5,ZzV,ZzV,AVal.le_nil 6,ZzV,ZzV,ZzV,TV⟩ rfl,⟨⟨102,0,_,rfl,rfl,.inr ⟨8,_,rfl,rfl,rfl,rfl⟩⟩,rfl,TV⟩,X5 _⟩))
 refine XK ?_;refine VI rfl ?_ ?_<;>intro hq;refine YJ ?_;refine VI rfl ?_ ?_<;>intro hq;refine W7_ ?_
 ((clear hv hc hap had bS;simp[*] at hR;subst hR;exact X3 ⟨_,Xg 102 (cs:=[aq,aq,ai 0,ai 0,aq,ai 0,ai 0,ai 0]) (cs':=[.d (.sl 3 []),.d (.sl 5 []),ai 0,ai 0,.d (.sl 6 []),ai 0,ai 0,ai 0]) rfl ⟨AVal.le_nil 3,AVal.le_nil 5,ZzV,ZzV,AVal.le_nil 6,ZzV,ZzV,ZzV,TV⟩ rfl,⟨⟨102,0,_,rfl,rfl,.inr ⟨8,_,rfl,rfl,rfl,rfl⟩⟩,rfl,TV⟩,X5 _⟩))
 refine YS ?_;((clear hv hc hap had bS;simp[*] at hR;subst hR;exact X3 ⟨_,ZzS,⟨⟨102,0,_,rfl,rfl,.inr ⟨8,_,rfl,rfl,rfl,rfl⟩⟩,rfl,TV⟩,X5 _⟩));refine W5_ ?_;refine VI rfl ?_ ?_<;>intro hq;refine YS ?_;refine X2E rfl ?_ ?_<;>intro hq;refine Yh ?_;refine VI rfl ?_ ?_<;>intro hq;refine W7_ ?_
 ((clear hv hc hap had bS;simp[*] at hR;subst hR;exact X3 ⟨_,Xg 102 (cs:=[aq,aq,ai 0,ai 0,aq,ai 0,ai 0,ai 0]) (cs':=[.d (.sl 3 []),.d (.sl 5 []),ai 0,ai 0,.d (.sl 6 []),ai 0,ai 0,ai 0]) rfl ⟨AVal.le_nil 3,AVal.le_nil 5,ZzV,ZzV,AVal.le_nil 6,ZzV,ZzV,ZzV,TV⟩ rfl,⟨⟨102,0,_,rfl,rfl,.inr ⟨8,_,rfl,rfl,rfl,rfl⟩⟩,rfl,TV⟩,X5 _⟩))
 refine YS ?_;((clear hv hc hap had bS;simp[*] at hR;subst hR;exact X3 ⟨_,ZzS,⟨⟨102,0,_,rfl,rfl,.inr ⟨8,_,rfl,rfl,rfl,rfl⟩⟩,rfl,TV⟩,X5 _⟩));refine W7_ ?_;refine VI rfl ?_ ?_<;>intro hq;refine W7_ ?_
 ((clear hv hc hap had bS;simp[*] at hR;subst hR;exact X3 ⟨_,Xg 102 (cs:=[aq,aq,ai 0,ai 0,aq,ai 0,ai 0,ai 0]) (cs':=[.d (.sl 3 []),.d (.sl 5 []),ai 0,ai 0,.d (.sl 6 []),ai 0,ai 0,ai 0]) rfl ⟨AVal.le_nil 3,AVal.le_nil 5,ZzV,ZzV,AVal.le_nil 6,ZzV,ZzV,ZzV,TV⟩ rfl,⟨⟨102,0,_,rfl,rfl,.inr ⟨8,_,rfl,rfl,rfl,rfl⟩⟩,rfl,TV⟩,X5 _⟩))
 refine YS ?_;((clear hv hc hap had bS;simp[*] at hR;subst hR;exact X3 ⟨_,ZzS,⟨⟨102,0,_,rfl,rfl,.inr ⟨8,_,rfl,rfl,rfl,rfl⟩⟩,rfl,TV⟩,X5 _⟩));refine W7_ ?_
 ((clear hv hc hap had bS;simp[*] at hR;subst hR;exact X3 ⟨_,ZzS,⟨⟨102,0,_,rfl,rfl,.inr ⟨8,_,rfl,rfl,rfl,rfl⟩⟩,rfl,TV⟩,X5 _⟩))
def X8U (s:Sta) (l:List Rcd) (hs:StaHold s) (hl:J l<=9223372036854775807) (hr:∀r∈l,X0z r):Con prog 38 [] [Xz s,.d (.sl 10 (l.map Y6))] [] (.tup [Xz (Yf s l).1,ai (Yf s l).2]):=by
 refine ZCt func38 ntmps38 fun E=> ?_;have hlm:J (l.map Y6)=J l:=Oc
 have aV:Xz XT= .agg [.d (.sl 3 []),.d (.sl 5 []),ai 0,ai 0,.d (.sl 6 []),ai 0,ai 0,ai 0]:=rfl;generalize hG:Yf s l=G;rw[Xpg];refine XG ?_
 refine Xl (ι:=Nat×Sta) (fun q=>q.1<=J l/\Yf q.2 (l.drop q.1)=G/\StaHold q.2) (fun q=>⟨30,[(1,.d (.sl 10 (l.map Y6))),(2,.ptr 100 0),(4,.ptr 101 0),(6,ai q.1)],[(100,.box [.d (.sl 3 (q.2.g.nodes.map Xi)),.d (.sl 5 (q.2.g.aj.map Xk)),ai q.2.g.nn,ai q.2.g.ne,.d (.sl 6 (q.2.rules.map Xh)),ai q.2.ts,ai q.2.ep,ai q.2.tail]),(101,.box [aq,aq,ai 0,ai 0,aq,ai 0,ai 0,ai 0])]⟩) (fun q=>J l-q.1) (0,s) ⟨Nat.zero_le _,OX,hs⟩
  (ZL0) ?_
 rintro⟨i,x⟩ ⟨hi,hg,hx⟩;simp only at hi hg hx;by_cases hil:i<J l
 case neg=>
  have hn:¬(i:Int)<J (l.map Y6):=Oa
  rw[drop_of_length_le Oa,show Yf x []=(x,0) from rfl] at hg;subst hg;obtain⟨⟨ns,es,nn,ne⟩,rs,ts,ep,tail⟩:=x;simp only[Xz];refine Yr ?_;exact QBe
 have hn:(i:Int)<J (l.map Y6):=Oa
 obtain⟨r,dM⟩:=Xn (l:=l) hil;have hrc:(l.map Y6)[i]? =some (Y6 r):=XC dM;have hp:=Xr8 x r hx (hr r (mem_of_getElem? dM));have dP:l.drop i=r::l.drop (i+1):=by
  obtain⟨h1,h2⟩:=GS.1 dM;rw[drop_eq_getElem_cons h1,h2]
 rw[dP,show Yf x (r::l.drop (i+1))=if (Ue x r).2≠0 then (XT,(Ue x r).2) else Yf (Ue x r).1 (l.drop (i+1)) from rfl] at hg;by_cases q:(Ue x r).2=0
 case neg=>
  rw[PI q] at hg;subst hg;simp only[aV];generalize (Ue x r).2=e at*;generalize (Ue x r).1=y at*;clear hx aV dP dM;obtain⟨⟨yn,ye,ck,cm⟩,yr,yt,yp,yl⟩:=y;obtain⟨⟨ns,es,nn,ne⟩,rs,ts,ep,tail⟩:=x;obtain⟨kd,rts,cl,⟨k,n,name,key,src,dst⟩,off⟩:=r;simp only[Xz,Um,Y6] at*;refine QO ?_;exact QAe
 exact Yt13
end Go.Fw
