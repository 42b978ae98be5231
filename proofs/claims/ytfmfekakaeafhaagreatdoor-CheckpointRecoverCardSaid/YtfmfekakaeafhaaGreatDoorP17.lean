/- Values put. -/
import Derived.Test.YtfmfekakaeafhaaGreatDoorP12
import Derived.Test.YtfmfekakaeafhaaGreatDoorP15
set_option linter.all false
set_option maxHeartbeats 8000000
namespace Go.Fw
open Go Go.Proofs Tryz List
open List renaming length->J
set_option maxRecDepth 100000
variable{i m:Nat}{l:List Val}{v x:Val}{a d e k n want:Int}{b s:List UInt8}{g gl gp:Nat->Int->Val×Int×Int}
def Xbj (h:l[i]? =some x):U6 (l.take (i+1))=U6 (l.take i)++Yl x:=by
 induction l generalizing i with
 |nil=>simp at h
 |cons y l ih=>
  cases i with
  |zero=>simp at h;subst h;simp[U6]
  |succ i=>simp only[take_succ_cons,U6];rw[ih O2,AS]
def Xb8 (l:List Val) (i:Nat):J (U6 (l.take i))<=J (U6 l):=by
 induction l generalizing i with
 |nil=>simp
 |cons y l ih=>
  cases i with
  |zero=>simp[U6]
  |succ i=>simp only[take_succ_cons,U6,LA];have:=ih i;omega
def Xgj (v:Val):Prop:=∀r:List UInt8,J r+J (Yl v)<=140737488355328->
 Con prog 313 [(0,.row 1 (r.map X6))] [.own 0 (J r),Xt v] [(0,.row 1 ((r++Yl v).map X6))] (.own 0 (J (r++Yl v)))
def XrG (v:Val) (hv:Xj 8 v=true) (ih:∀x∈v.l,Xgj x):Xgj v:=by
 obtain⟨k,n,d,s,l⟩:=v;intro r hr;have hlen:=X1M l;simp only[Val.l] at ih;refine ZC1 func313 ntmps313 fun E=> ?_;rw[Xj] at hv;have cR:∀(x:Int),-1000000000000000<=x/\x<=1000000000000000-> -9223372036854775808<=x/\x<=9223372036854775807:=fun x h=>Oa
 by_cases bT:k=0
 ·subst bT;have hput:Yl (.mk 0 n d s l)=[UInt8.ofNat 0]:=by rw[Yl];simp
  rw[hput] at hr |-;simp only[LA,LC,length_nil] at hr;refine XA ?_;refine Z1 (u:=nj 0) (r:=n8 0) ?_ (hr:=OM);refine Qna ?_;refine X3 ⟨_,Xe 4 (y:= .own 0 (J (r++UInt8.ofNat 0::[]))) (ZzQ ?_),⟨rfl,TV⟩,Xm ⟨?_,TV⟩⟩
  ·refine QJa ?_;congr 1;simp only[LA,LM,LC,length_nil]<;>omega
  ·refine QKa ?_;simp only[map_append,map_cons,map_nil,AS,cons_append,nil_append];rfl
 by_cases cq:k=1
 ·subst cq;have hput:Yl (.mk 1 n d s l)=UInt8.ofNat 1::U5 n:=by rw[Yl];simp
  have hn: -9223372036854775808<=n/\n<=9223372036854775807:=ON
  have fY:=X7B n hn;rw[hput] at hr |-;generalize U5 n=q at*;simp only[LA,LC,length_nil] at hr;refine XA ?_;refine Z1 (u:=nj 1) (r:=n8 1) ?_ (hr:=OM);refine YG ?_;refine X3 ⟨_,Xe 4 (y:= .own 0 (J (r++UInt8.ofNat 1::q))) (ZzQ ?_),⟨rfl,TV⟩,Xm ⟨?_,TV⟩⟩
  ·refine QJa ?_;congr 1;simp only[LA,LM,LC,length_nil]<;>omega
  ·refine QLa ?_;simp only[map_append,map_cons,map_nil,AS,cons_append,nil_append];rfl
 by_cases hk2:k=2
 ·subst hk2;have hput:Yl (.mk 2 n d s l)=UInt8.ofNat 2::U5 n:=by rw[Yl];simp
  have hn: -9223372036854775808<=n/\n<=9223372036854775807:=ON
  have fY:=X7B n hn;rw[hput] at hr |-;generalize U5 n=q at*;simp only[LA,LC,length_nil] at hr;refine XA ?_;refine Z1 (u:=nj 2) (r:=n8 2) ?_ (hr:=OM);refine UR ?_;refine X3 ⟨_,Xe 4 (y:= .own 0 (J (r++UInt8.ofNat 2::q))) (ZzQ ?_),⟨rfl,TV⟩,Xm ⟨?_,TV⟩⟩
  ·refine QJa ?_;congr 1;simp only[LA,LM,LC,length_nil]<;>omega
  ·refine QLa ?_;simp only[map_append,map_cons,map_nil,AS,cons_append,nil_append];rfl
 by_cases jF:k=3
 ·subst jF;have hput:Yl (.mk 3 n d s l)=UInt8.ofNat 3::(U5 n++U5 d):=by rw[Yl];simp
  have gu:(-9223372036854775808<=n/\n<=9223372036854775807)/\ -9223372036854775808<=d/\d<=9223372036854775807:=by simp[X1E] at hv;omega
  have fY:=X7B n gu.1;have pR:=X7B d gu.2;rw[hput] at hr |-;generalize U5 n=q at*;generalize U5 d=q2 at*;simp only[LA,LC,length_nil] at hr;refine XA ?_;refine Z1 (u:=nj 3) (r:=n8 3) ?_ (hr:=OM);refine QZ ?_;refine X3 ⟨_,Xe 4 (y:= .own 0 (J (r++UInt8.ofNat 3::(q++q2)))) (ZzQ ?_),⟨rfl,TV⟩,Xm ⟨?_,TV⟩⟩
  ·refine QJa ?_;congr 1;simp only[LA,LM,LC,length_nil]<;>omega
  ·refine Eq.trans (b:=AObj.row 1 (_++_++_++_)) rfl ?_;simp only[map_append,map_cons,map_nil,AS,cons_append,nil_append];rfl
 by_cases iH:k=4
 ·subst iH;have hput:Yl (.mk 4 n d s l)=UInt8.ofNat 4::Ys s:=by rw[Yl];simp
  have hs:J s<=65536:=ON
  have fY:=X7F s hs;rw[hput] at hr |-;generalize Ys s=q at*;simp only[LA,LC,length_nil] at hr;refine XA ?_;refine Z1 (u:=nj 4) (r:=n8 4) ?_ (hr:=OM);refine X4 ?_;refine Yr ?_;refine X3 ⟨_,Xe 4 (y:= .own 0 (J (r++UInt8.ofNat 4::q))) (ZzQ ?_),⟨rfl,TV⟩,Xm ⟨?_,TV⟩⟩
  ·refine QJa ?_;congr 1;simp only[LA,LM,LC,length_nil]<;>omega
  ·refine QLa ?_;simp only[map_append,map_cons,map_nil,AS,cons_append,nil_append];rfl
 by_cases kz:k=5
 ·subst kz;have hput:Yl (.mk 5 n d s l)=UInt8.ofNat 5::U5 n:=by rw[Yl];simp
  have hn: -9223372036854775808<=n/\n<=9223372036854775807:=ON
  have fY:=X7B n hn;rw[hput] at hr |-;generalize U5 n=q at*;simp only[LA,LC,length_nil] at hr;refine XA ?_;refine Z1 (u:=nj 5) (r:=n8 5) ?_ (hr:=OM);refine QO ?_;refine X3 ⟨_,Xe 4 (y:= .own 0 (J (r++UInt8.ofNat 5::q))) (ZzQ ?_),⟨rfl,TV⟩,Xm ⟨?_,TV⟩⟩
  ·refine QJa ?_;congr 1;simp only[LA,LM,LC,length_nil]<;>omega
  ·refine QLa ?_;simp only[map_append,map_cons,map_nil,AS,cons_append,nil_append];rfl
 by_cases kC:k=6
 ·subst kC;have hput:Yl (.mk 6 n d s l)=UInt8.ofNat 6::U5 n:=by rw[Yl];simp
  have hn: -9223372036854775808<=n/\n<=9223372036854775807:=ON
  have fY:=X7B n hn;rw[hput] at hr |-;generalize U5 n=q at*;simp only[LA,LC,length_nil] at hr;refine XA ?_;refine Z1 (u:=nj 6) (r:=n8 6) ?_ (hr:=OM);refine Qka ?_;refine X3 ⟨_,Xe 4 (y:= .own 0 (J (r++UInt8.ofNat 6::q))) (ZzQ ?_),⟨rfl,TV⟩,Xm ⟨?_,TV⟩⟩
  ·refine QJa ?_;congr 1;simp only[LA,LM,LC,length_nil]<;>omega
  ·refine QLa ?_;simp only[map_append,map_cons,map_nil,AS,cons_append,nil_append];rfl
 by_cases ja:k=7
 ·subst ja;have hput:Yl (.mk 7 n d s l)=UInt8.ofNat 7::(Xq (J l)++U6 l):=by rw[Yl];simp
  have bz:J l<=64:=ON
  have mh:=X3f (J (XR l)) Oa;rw[<-hlen] at hput;rw[hput] at hr |-;generalize Xq (J (XR l):Int)=q at*;simp only[LA,LC,length_nil] at hr;refine XA ?_;refine Z1 (u:=nj 7) (r:=n8 7) ?_ (hr:=OM);refine X4 ?_;refine X17 ?_;generalize hbase:r++UInt8.ofNat 7::q=base at*;have bx:J base=J r+J q+1:=by rw[<-hbase];simp;omega
  have hgoal:r++UInt8.ofNat 7::(q++U6 l)=base++U6 l:=by rw[<-hbase];simp
  exact Yt4
 by_cases gw:k=8
 ·subst gw;have hput:Yl (.mk 8 n d s l)=UInt8.ofNat 8::(Xq (J l)++U6 l):=by rw[Yl];simp
  have bz:J l<=64:=ON
  have mh:=X3f (J (XR l)) Oa;rw[<-hlen] at hput;rw[hput] at hr |-;generalize Xq (J (XR l):Int)=q at*;simp only[LA,LC,length_nil] at hr;refine XA ?_;refine Z1 (u:=nj 8) (r:=n8 8) ?_ (hr:=OM);refine X4 ?_;refine VM ?_;generalize hbase:r++UInt8.ofNat 8::q=base at*;have bx:J base=J r+J q+1:=by rw[<-hbase];simp;omega
  have hgoal:r++UInt8.ofNat 8::(q++U6 l)=base++U6 l:=by rw[<-hbase];simp
  exact Yt4
 simp[*] at hv
def XgF:∀{l:List Val}{x:Val},X0V m l=true->x∈l->Xj m x=true
 |[],x,_,h=>OQ
 |v::r,x,h,hx=>by
  rw[X0V,Bool.and_eq_true] at h;rcases mem_cons.1 hx with rfl|hx
  ·exact h.1
  ·exact XgF h.2 hx
def XhD:∀{l:List Val}{i:Nat}{x:Val},X0G i l=true->x∈l->Xj 0 x=true
 |[],_,x,_,h=>OQ
 |v::r,i,x,h,hx=>by
  rw[X0G,Bool.and_eq_true,Bool.and_eq_true] at h;rcases mem_cons.1 hx with rfl|hx
  ·exact h.1.2
  ·exact XhD h.2 hx
def XdW (h:Xj m (.mk k n d s l)=true):∀x∈l,Xj m x=true:=by
 intro x hx;rw[Xj] at h;by_cases h7:k=7
 ·subst h7;simp at h;exact Xhh x 0 m Oa (XhD h.2.2 hx)
 ·by_cases h8:k=8
  ·subst h8;simp at h;exact Xhh x (m-1) m Oa (XgF h.2.2 hx)
  ·have:l=[]:=by
    simp[h7,h8] at h;exact h.1.2
   subst this;simp at hx
def XiJ:∀v:Val,Xj 8 v=true->Xgj v
 | .mk k n d s l=>fun hv=>XrG (.mk k n d s l) hv fun x hx=>XiJ x (XdW hv x hx)
termination_by v=>SizeOf.sizeOf v
decreasing_by
 have h1:=sizeOf_lt_of_mem (show x∈l from hx);simp only[Val.mk.sizeOf_spec];omega
def XpZ (v:Val) (hv:Xj 8 v=true) (hb:J (Yl v)<=140737488355328):Con prog 313 [] [aq,Xt v] [] (.d (Xc (Yl v))):=by
 have h:=XiJ v hv [] (by simpa using hb);have h2:=Con.adopt (sz:=1) (args:=[Xt v]) h (by obtain⟨k,n,d,s,l⟩:=v;rfl);exact h2.data Oc
def Xkx (v:Val) (hb:J (Yl v)<=140737488355328):Con prog 273 [] [Xt v] [] (.d (Xc (UP v))):=by
 refine ZC1 func273 ntmps273 fun E=> ?_;have hval:=X2B v;cases hv:Xj 8 v with
 |false=>
  rw[hv] at hval;rw[show UP v=[] by unfold UP;rw[hv];rfl];obtain⟨k,n,d,s,l⟩:=v;simp only[Xt] at hval;exact QMa
 |true=>
  rw[hv] at hval;rw[show UP v=Yl v by unfold UP;rw[hv];rfl];have hp:=XpZ v hv hb;obtain⟨k,n,d,s,l⟩:=v;simp only[Xt] at hval hp;generalize Yl (.mk k n d s l)=q at*;exact QD
open Go
open List renaming length->J
def XcU:∀{l:List Val},(∀x∈l,U1 x)->X1Z l
 |[],_=>by rw[X1Z];trivial
 |v::r,h=>by
  rw[X1Z];exact⟨h v (mem_cons_self ..),XcU fun x hx=>h x (mem_cons_of_mem _ hx)⟩
def XyQ (h:Xj m (.mk k n d s l)=true):J s<=100/\J l<=64:=by
 rw[Xj] at h;by_cases h4:k=4
 ·subst h4;simp at h;exact⟨Oa,by rw[h.1.2];simp⟩
 by_cases h7:k=7
 ·subst h7;simp at h;exact⟨by rw[h.1.2];simp,Oa⟩
 by_cases h8:k=8
 ·subst h8;simp at h;exact⟨by rw[h.1.2];simp,Oa⟩
 simp[h4,h7,h8] at h;exact⟨by rw[h.1.1.2];simp,by rw[h.1.2];simp⟩
def XcY:∀(v:Val) (m:Nat),Xj m v=true->U1 v
 | .mk k n d s l,m,h=>by
  have h1:=XyQ h;rw[U1];exact⟨Oa,Oa,XcU fun x hx=>XcY x m (XdW h x hx)⟩
termination_by v=>SizeOf.sizeOf v
decreasing_by
 have h1:=sizeOf_lt_of_mem (show x∈l from hx);simp only[Val.mk.sizeOf_spec];omega
def XgB (h:(X0K gl gp m b a want).2.2=0):Xj 8 (X0K gl gp m b a want).1=true:=by
 unfold X0K at h |-;split
 ·rename_i h1;rw[PI h1] at h;simp at h
 rename_i h1;rw[NI h1] at h;simp only at h |-;split
 ·rename_i h2;rw[PI h2] at h;simp at h
 rename_i h2;rw[NI h2] at h;split
 ·rename_i h3;rw[PI h3] at h;simp at h
 rename_i h3;rw[NI h3] at h;cases hv:Xj 8 (Ut gl gp b (a+1) ((((b[a.toNat]?).getD 0).toNat:Nat):Int)).1 with
 |true=>rfl
 |false=>exact absurd ⟨h,hv⟩ h3
def Xov (b:List UInt8) (a most:Int) (hm:0<=most):(J (VZ b a most).1:Int)<=most:=by
 obtain⟨n,hn⟩:=X91 b a;unfold VZ;simp only;split
 ·simpa using hm
 split
 ·simpa using hm
 split
 ·simpa using hm
 ·rename_i h1 h2 h3;rw[hn] at h2 |-;simp;omega
def X6U {n:Nat} (h:n<=300):J (Xq n)<=10:=by
 rw[X2z Oa];exact X2n Oa
def X8m (h: -9223372036854775808<=n/\n<=9223372036854775807):J (U5 n)<=10:=X2n (Xi1 h)
def XxL (h:Xj m (.mk k n d s l)=true) (h7:k≠7) (h8:k≠8):J (Yl (.mk k n d s l))<=111:=by
 rw[Xj] at h;rw[Yl];simp only[LC];by_cases h1:k=1\/k=2\/k=5\/k=6
 ·rw[PI h1];have hn: -9223372036854775808<=n/\n<=9223372036854775807:=by
   rcases h1 with rfl|rfl|rfl|rfl<;>simp at h<;>omega
  have:=X8m hn;omega
 rw[NI h1];by_cases h3:k=3
 ·subst h3;rw[PI rfl];have gu:(-9223372036854775808<=n/\n<=9223372036854775807)/\ -9223372036854775808<=d/\d<=9223372036854775807:=by simp[X1E] at h;omega
  have h5:=X8m gu.1;have h6:=X8m gu.2;rw[LA];omega
 rw[NI h3];by_cases h4:k=4
 ·subst h4;rw[PI rfl];have hs:J s<=100:=by simp at h;omega
  have:=X6U (n:=J s) Oa;unfold Ys;rw[LA];omega
 rw[NI h4,NI Oa];simp
def Xjq (h:Xj m (.mk 8 n d s l)=true):J l<=64/\1<=m/\X0V (m-1) l=true:=by
 rw[Xj] at h;simp at h;exact⟨h.2.1.2.1,Oa,h.2.2⟩
def X62 (b:List UInt8) (g:Int->Val×Int×Int) (x:Val):Prop:=
 ∀front back:List UInt8,front++Yl x++back=b->g (J front)=(x,(J front:Int)+J (Yl x),0)
theorem Xcm:∀(l r:List Val),U6 (l++r)=U6 l++U6 r
 |[],r=>rfl
 |v::l,r=>by simp only[cons_append,U6,Xcm l r,AS]
def Xm6 {front back:List UInt8} (hb:front++U6 l++back=b) (hg:∀(j:Nat) (x:Val),l[j]? =some x->X62 b (g j) x):
  ∀j,j<=J l->Yn g (J front) j=(l.take j,(J front:Int)+J (U6 (l.take j)),0)
 |0,_=>by simp[Yn,U6]
 |j+1,hj=>by
  have ih:=Xm6 hb hg j Oa;obtain⟨x,hx⟩:=Xn (l:=l) (k:=j) Oa;have hsp:l=l.take j++x::l.drop (j+1):=by
   rw[<-(GS.1 hx).2,<-drop_eq_getElem_cons,take_append_drop]
  have hbk:=hg j x hx (front++U6 (l.take j)) (U6 (l.drop (j+1))++back) (by
   rw[<-hb];conv=>rhs;rw[hsp,Xcm,U6]
   simp only[AS])
  rw[X4p (by rw[ih]),ih];simp only;rw[LA,Int.natCast_add] at hbk;rw[hbk];have ht:l.take (j+1)=l.take j++[x]:=by rw[take_add_one,hx];rfl
  rw[ht,Xcm];simp only[U6,append_nil,LA,Int.natCast_add];rw[Int.add_assoc]
def Xyi (h:0<=k/\k<=8):(((UInt8.ofNat k.toNat).toNat:Nat):Int)=k:=by
 rw[X1R Oa];omega
def XkR (h:Xj m (.mk k n d s l)=true):0<=k/\k<=8:=by
 rw[Xj] at h;by_cases h0:k=0
 ·omega
 by_cases h1:k=1
 ·omega
 by_cases h2:k=2
 ·omega
 by_cases h3:k=3
 ·omega
 by_cases h4:k=4
 ·omega
 by_cases h5:k=5\/k=6
 ·omega
 by_cases h7:k=7
 ·omega
 by_cases h8:k=8
 ·omega
 simp[h0,h1,h2,h3,h4,h5,h7,h8] at h
def Xu1 (hv:Xj m (.mk k n d s l)=true) {b front back:List UInt8}{gl gp:Nat->Int->Val×Int×Int}
  (hb:front++Yl (.mk k n d s l)++back=b) (eN:k=8->∀(j:Nat) (x:Val),l[j]? =some x->X62 b (gl j) x) (dN:k=7->∀(j:Nat) (x:Val),l[j]? =some x->X62 b (gp j) x):
  Ut gl gp b ((J front:Int)+1) k=(.mk k n d s l,(J front:Int)+J (Yl (.mk k n d s l)),0):=by
 have hk:=XkR hv;rw[Yl] at hb |-;have hfl:((J front:Int)+1)=(J (front++[UInt8.ofNat k.toNat]):Nat):=Oc
 rw[hfl];have hb':∀w,front++UInt8.ofNat k.toNat::w++back=(front++[UInt8.ofNat k.toNat])++w++back:=fun w=>Oc
 rw[hb'] at hb;have hlen:∀w:List UInt8,((J front:Int)+(J (UInt8.ofNat k.toNat::w):Nat))=((J (front++[UInt8.ofNat k.toNat]):Nat):Int)+J w:=fun w=>Ou
 rw[hlen];generalize front++[UInt8.ofNat k.toNat]=F at*;clear hfl hb' hlen;rw[Xj] at hv;unfold Ut;by_cases h1:k=1\/k=2\/k=5\/k=6
 ·rw[PI h1] at hb |-;have hz:d=0/\s=[]/\l=[]/\ -9223372036854775808<=n/\n<=9223372036854775807:=by
   rcases h1 with rfl|rfl|rfl|rfl<;>simp at hv<;>refine⟨hv.1.1.1,hv.1.1.2,hv.1.2,?_⟩<;>omega
  obtain⟨rfl,rfl,rfl,hn⟩:=hz;have:=Xbb hn F back;rw[hb] at this;rw[PI h1,this]
 rw[NI h1] at hb |-;rw[NI h1];by_cases h3:k=3
 ·subst h3;rw[PI rfl] at hb |-;rw[PI rfl];have hz:(s=[]/\l=[])/\(-9223372036854775808<=n/\n<=9223372036854775807)/\ -9223372036854775808<=d/\d<=9223372036854775807:=by simp[X1E] at hv;exact⟨⟨hv.1.1,hv.1.2⟩,Oa,Oa⟩
  obtain⟨⟨rfl,rfl⟩,hn,hd⟩:=hz;have e1:=Xbb hn F (U5 d++back);have e2:=Xbb hd (F++U5 n) back;rw[show F++U5 n++(U5 d++back)=b by rw[<-hb];simp] at e1;rw[show F++U5 n++U5 d++back=b by rw[<-hb];simp,LA,Int.natCast_add] at e2;rw[e1];simp only;rw[NI Oc,e2];simp only[LA,Int.natCast_add,Int.add_assoc]
 rw[NI h3] at hb |-;rw[NI h3];by_cases h4:k=4
 ·subst h4;rw[PI rfl] at hb |-;rw[PI rfl];have hz:n=0/\d=0/\l=[]/\J s<=100:=by simp at hv;exact⟨hv.2.1.1,hv.1.1,hv.1.2,hv.2.1.2⟩
  obtain⟨rfl,rfl,rfl,hs⟩:=hz;have:=XmC (s:=s) (most:=100) Oa Oa F back;rw[hb] at this;rw[this]
 rw[NI h4] at hb |-;rw[NI h4];by_cases h7:k=7\/k=8
 ·rw[PI h7] at hb |-;rw[PI h7];have hz:n=0/\d=0/\s=[]/\X0P k (J l)=false/\J l<=64:=by
   rcases h7 with rfl|rfl
   ·simp at hv;exact⟨hv.2.1.1,hv.1.1,hv.1.2,Iy,Oa⟩
   ·simp at hv;exact⟨hv.2.1.1,hv.1.1,hv.1.2,Iy,Oa⟩
  obtain⟨rfl,rfl,rfl,hcb,hl⟩:=hz;have e1:=X84 (n:=J l) ⟨Oa,Oa⟩ F (U6 l++back);rw[show F++Xq (J l)++(U6 l++back)=b by rw[<-hb];simp] at e1;rw[e1];simp only;rw[NI Oc,hcb,NI Oc,Int.toNat_natCast];have hall:∀(j:Nat) (x:Val),l[j]? =some x->X62 b ((if k=8 then gl else gp) j) x:=by
   intro j x hx;by_cases h8:k=8
   ·rw[PI h8];exact eN h8 j x hx
   ·rw[NI h8];exact dN Oa j x hx
  have e2:=Xm6 (g:=if k=8 then gl else gp) (b:=b) (front:=F++Xq (J l)) (back:=back) (l:=l) (by rw[<-hb];simp) hall (J l) (Nat.le_refl _);rw[take_length,LA,Int.natCast_add] at e2;rw[e2];simp only[LA,Int.natCast_add,Int.add_assoc]
 rw[NI h7] at hb |-;rw[NI h7];have h0:k=0:=Oa
 subst h0;simp at hv;obtain⟨⟨⟨rfl,rfl⟩,rfl⟩,rfl⟩:=hv;simp
def Xhw (hv:Xj m (.mk k n d s l)=true) (hm:m<=8) {want:Int} (hw:want=0\/want=k) {b front back:List UInt8}{gl gp:Nat->Int->Val×Int×Int}
  (hb:front++Yl (.mk k n d s l)++back=b) (eN:k=8->∀(j:Nat) (x:Val),l[j]? =some x->X62 b (gl j) x) (dN:k=7->∀(j:Nat) (x:Val),l[j]? =some x->X62 b (gp j) x):
  X0K gl gp m b (J front) want=(.mk k n d s l,(J front:Int)+J (Yl (.mk k n d s l)),0):=by
 have hk:=XkR hv;have hc:=Xu1 hv hb eN dN;have tJ:=Xhh _ m 8 hm hv;have fW:b[J front]? =some (UInt8.ofNat k.toNat):=by rw[<-hb,Yl];simp
 have hlt:J front<J b:=(GS.1 fW).1;have vu:k=8->m≠0:=by
  rintro rfl rfl;have:=(Xjq hv).2.1;omega
 unfold X0K;rw[NI Oa,Int.toNat_natCast,fW,Option.getD_some];simp only;rw[Xyi hk,NI Oa,hc];simp only;rw[NI (fun h=>by rw[tJ] at h;exact absurd h.2 Oi)]
def Xsp (hv:Xj 0 x=true) (hk:x.kind=5+(i%2:Nat)):X62 b (X1d b i) x:=by
 obtain⟨k,n,d,s,l⟩:=x;simp only[Val.kind] at hk;intro front back hb;unfold X1d X8l;exact Xhw hv Oa (.inr hk.symm) hb (fun h=>Oa) (fun h=>Oa)
def Xmy:∀{l:List Val}{i j:Nat}{x:Val},X0G i l=true->l[j]? =some x->x.kind=5+((i+j)%2:Nat)/\Xj 0 x=true
 |[],_,_,_,_,h=>OQ
 |v::r,i,0,x,hp,h=>by
  rw[X0G,Bool.and_eq_true,Bool.and_eq_true] at hp;simp at h;subst h;exact⟨of_decide_eq_true hp.1.1,hp.1.2⟩
 |v::r,i,j+1,x,hp,h=>by
  rw[X0G,Bool.and_eq_true,Bool.and_eq_true] at hp;have:=Xmy hp.2 (j:=j) (x:=x) O2
  rwa [show i+1+j=i+(j+1) by omega] at this
def XsA (h:Xj m (.mk 7 n d s l)=true):X0G 0 l=true:=by
 rw[Xj] at h;simp at h;exact h.2.2
def XhE:∀(v:Val) (m:Nat),Xj m v=true->m<=8->X62 b (X25 b m) v
 | .mk k n d s l,m,hv,hm=>by
  intro front back hb;rw[X5a];refine Xhw hv hm (.inl rfl) hb (fun h8 j x hx=> ?_) (fun h7 j x hx=> ?_)
  ·subst h8;obtain⟨_,fm,hl⟩:=Xjq hv;cases m with
   |zero=>omega
   |succ m'=>exact XhE x m' (XgF hl (mem_of_getElem? hx)) Oa
  ·subst h7;have hp:=Xmy (XsA hv) hx;rw[Nat.zero_add] at hp;exact Xsp hp.2 hp.1
termination_by v=>SizeOf.sizeOf v
decreasing_by
 have h1:=sizeOf_lt_of_mem (mem_of_getElem? hx);simp only[Val.mk.sizeOf_spec];omega
def Xxm (hv:Xj 8 v=true) (front back:List UInt8):X03 (front++UP v++back) (J front)=(v,(J front:Int)+J (UP v),0):=by
 rw[show UP v=Yl v by unfold UP;rw[hv];rfl];have h:=XhE (b:=front++Yl v++back) v 8 hv Oa front back rfl;unfold X03;rw[NI Ou,h];rfl
def Xa2 (h:0<=a) (h2:a<=J b):only b a a []:=⟨h,Oa,h2,Oc⟩
def X2W {m:Int}{w1 w2:List UInt8} (h1:only b a m w1) (h2:only b m e w2):only b a e (w1++w2):=by
 obtain⟨k1,k2,k3,k4⟩:=h1;obtain⟨j1,j2,j3,j4⟩:=h2;refine⟨k1,Oa,j3,?_⟩;rw[show (e-a).toNat=(m-a).toNat+(e-m).toNat by omega,take_add,k4,drop_drop,show a.toNat+(m-a).toNat=m.toNat by omega,j4]
def XoJ {c:UInt8} (h0:0<=a) (h:b[a.toNat]? =some c):only b a (a+1) [c]:=by
 obtain⟨hl,he⟩:=GS.1 h;refine⟨h0,Oa,Oa,?_⟩;rw[show (a+1-a).toNat=1 by omega,drop_eq_getElem_cons hl,he];rfl
def X6f (b:List UInt8) (g:Nat->Int->Val×Int×Int):Prop:=∀(i:Nat) (q:Int) (x:Val) (e:Int),0<=q->q<=J b->g i q=(x,e,0)->only b q e (Yl x)
def Xou (hg:X6f b g) (h0:0<=a) (h1:a<=J b):∀(j:Nat) (l:List Val) (e:Int),Yn g a j=(l,e,0)->only b a e (U6 l)/\J l=j
 |0,l,e,h=>by
  simp only[Yn,Prod.mk.injEq] at h;obtain⟨rfl,rfl,_⟩:=h;exact⟨Xa2 h0 h1,rfl⟩
 |j+1,l,e,h=>by
  by_cases hz:(Yn g a j).2.2=0
  ·rw[X4p hz] at h;have ih:=Xou hg h0 h1 j (Yn g a j).1 (Yn g a j).2.1 (by rw[<-hz]);generalize (Yn g a j).1=l0 at*;generalize (Yn g a j).2.1=q at*;obtain⟨⟨i1,i2⟩,i3⟩:=ih;simp only[Prod.mk.injEq] at h;obtain⟨rfl,rfl,h3⟩:=h;have hx:=hg j q (g j q).1 (g j q).2.1 Oa Oa (by rw[<-h3]);refine⟨?_,by simp[i3]⟩;rw[Xcm];have:=X2W ⟨i1,i2⟩ hx;simpa [U6] using this
  ·rw[X5m hz (j+1) Oa] at h;exact absurd (CG (fun r=>r.2.2) h) hz
theorem Xlu (c:UInt8):UInt8.ofNat (((c.toNat:Nat):Int)).toNat=c:=Oc
def XyZ (eN:X6f b gl) (dN:X6f b gp) (h0:0<=a) (h1:a<=J b) (h:Ut gl gp b a k=(v,e,0)):
  ∃w,only b a e w/\Yl v=UInt8.ofNat k.toNat::w:=by
 unfold Ut at h;split at h
 ·rename_i hk;simp only[Prod.mk.injEq] at h;obtain⟨rfl,rfl,h3⟩:=h;have:=Xdn (b:=b) (a:=a) (n:=(Y9 b a).1) (e:=(Y9 b a).2.1) (by rw[<-h3]);exact⟨_,this.1,by rw[Yl,PI hk]⟩
 rename_i cq;split at h
 ·rename_i hk;subst hk;simp only at h;split at h
  ·rename_i h3;simp only[Prod.mk.injEq] at h;exact absurd h.2.2 h3
  rename_i h3;have h3:(Y9 b a).2.2=0:=Jp
  simp only[Prod.mk.injEq] at h;obtain⟨rfl,rfl,h4⟩:=h;have e1:=Xdn (b:=b) (a:=a) (n:=(Y9 b a).1) (e:=(Y9 b a).2.1) (by rw[<-h3]);have e2:=Xdn (b:=b) (a:=(Y9 b a).2.1) (n:=(Y9 b (Y9 b a).2.1).1) (e:=(Y9 b (Y9 b a).2.1).2.1) (by rw[<-h4]);exact⟨_,X2W e1.1 e2.1,by rw[Yl];simp⟩
 rename_i jF;split at h
 ·rename_i hk;subst hk;simp only[Prod.mk.injEq] at h;obtain⟨rfl,rfl,h3⟩:=h;have:=X7Q (b:=b) (a:=a) (s:=(VZ b a 100).1) (e:=(VZ b a 100).2.1) (most:=100) (by rw[<-h3]);exact⟨_,this.1,by rw[Yl];simp⟩
 rename_i iH;split at h
 ·rename_i hk;simp only at h;split at h
  ·rename_i h3;simp only[Prod.mk.injEq] at h;exact absurd h.2.2 h3
  rename_i h3;split at h
  ·simp at h
  have h3:(Xd b a).2.2=0:=Jp
  have e1:=X43 (b:=b) (a:=a) (n:=(Xd b a).1) (e:=(Xd b a).2.1) (by rw[<-h3]);simp only[Prod.mk.injEq] at h;obtain⟨rfl,rfl,h4⟩:=h;have hall:X6f b (if k=8 then gl else gp):=by
   split
   ·exact eN
   ·exact dN
  obtain⟨⟨k1,k2,k3,k4⟩,k5,k6,k7⟩:=e1;have e2:=Xou (g:=if k=8 then gl else gp) (b:=b) (a:=(Xd b a).2.1) hall Oa Oa (Xd b a).1.toNat _ _ (by rw[<-h4]);refine⟨_,X2W ⟨k1,k2,k3,k4⟩ e2.1,?_⟩;rw[Yl,NI cq,NI jF,NI iH,PI hk,e2.2];rw[show (((Xd b a).1.toNat:Nat):Int)=(Xd b a).1 by omega]
 rename_i ja;simp only[Prod.mk.injEq] at h;obtain⟨rfl,rfl,_⟩:=h;exact⟨[],Xa2 h0 h1,by rw[Yl,NI cq,NI jF,NI iH,NI ja]⟩
def Xfd (eN:X6f b gl) (dN:X6f b gp) (h0:0<=a) (h1:a<=J b) (h:X0K gl gp m b a want=(v,e,0)):only b a e (Yl v):=by
 unfold X0K at h;split at h
 ·simp at h
 rename_i h2;obtain⟨c,hc⟩:=Xn (l:=b) (k:=a.toNat) Oa;rw[hc,Option.getD_some] at h;simp only at h;split at h
 ·simp at h
 split at h
 ·simp at h
 obtain⟨w,hw,hp⟩:=XyZ eN dN Oa Oa h;rw[hp,Xlu];exact X2W (XoJ h0 hc) hw
def Xfs:X6f b noG:=fun i q x e _ _ h=>by simp[noG] at h
def Xmh:X6f b (X1d b):=fun i q x e h0 h1 h=>by
 unfold X1d X8l at h;exact Xfd Xfs Xfs h0 h1 h
def XjU:∀(m:Nat) (a:Int) (v:Val) (e:Int),0<=a->a<=J b->X25 b m a=(v,e,0)->only b a e (Yl v)
 |0,a,v,e,h0,h1,h=>by
  rw[X5a] at h;exact Xfd Xfs Xmh h0 h1 h
 |m+1,a,v,e,h0,h1,h=>by
  rw[X5a] at h;exact Xfd (gl:=X3L b (m+1)) (fun i q x e h0 h1 h=>XjU m q x e h0 h1 h) Xmh h0 h1 h
def Xlk (h:X03 b a=(v,e,0)):only b a e (UP v)/\Xj 8 v=true/\J (Yl v)<=J b:=by
 unfold X03 at h;split at h
 ·simp at h
 simp only at h;split at h
 ·rename_i h2;simp only[Prod.mk.injEq] at h;exact absurd h.2.2 h2
 rename_i h1 h2;have ho:=XjU 8 a v e Oa Oa h;have hv:Xj 8 v=true:=by
  have:=XgB (gl:=X3L b 8) (gp:=X1d b) (m:=8) (b:=b) (a:=a) (want:=0) (by rw[<-X5a,h]);rw[<-X5a,h] at this;exact this
 have hl:J (Yl v)<=J b:=by
  rw[<-ho.2.2.2];simp;omega
 refine⟨?_,hv,hl⟩;unfold UP;rw[PI hv];exact ho
end Go.Fw
