/- Opening what came in: from the reading of an argument to data over the world's own cells. -/
import Derived.OpenShut
import Derived.Deep.Slices
import Derived.Deep.Strs
import Derived.Test.YtpbgjcbkhgfmkaaGreatDoorM56
import Derived.Test.YtpbgjcbkhgfmkaaGreatDoorM60
set_option maxHeartbeats 8000000
namespace Go.Fw
open Go Go.ChangeShapes Go.WideShapes Go.Deep List
set_option linter.unusedVariables false
section
variable {H:Type}{enc:TypeId×Value->H}{P:Program}{W:World}
theorem XrD {t:TypeId}{r:Reach}{b0:Nat}{v:Value}{d:DataW H}{ps:List MemPlace} (ht:P.underlying t=some (.int .u8))
  (hval:Value.okWide P W r b0 t v) (hd:DataW.Trod enc P W 0 (fun _=>true) true t v d ps):∃b:UInt8,(AVal.d (.v (.int .u8 b.toNat))).sat (g0 W.cell?) v:=by
 obtain⟨n,rfl,_,_,hw⟩:=open_int ht hval hd;have:=bounds_u8 hw;refine⟨UInt8.ofNat n.toNat,?_⟩
 grind [AVal.sat,D.rep,Value.oneCell',UInt8.toNat_ofNat']
end
open Go
theorem Xok {a b c d a' b' c' d':UInt8} (h:a.toNat+256*b.toNat+65536*c.toNat+16777216*d.toNat=a'.toNat+256*b'.toNat+65536*c'.toNat+16777216*d'.toNat):a=a'/\b=b'/\c=c'/\d=d':=by
 have h1:=a.toNat_lt;have h2:=b.toNat_lt;have h3:=c.toNat_lt;have h4:=d.toNat_lt;have h5:=a'.toNat_lt;have h6:=b'.toNat_lt;have h7:=c'.toNat_lt;have h8:=d'.toNat_lt;refine⟨UInt8.toNat_inj.1 ?_,UInt8.toNat_inj.1 ?_,UInt8.toNat_inj.1 ?_,UInt8.toNat_inj.1 ?_⟩<;>omega
variable{a ep o:Int}{b s v:List UInt8}{d e:ak}{l:List Rcd}{s0:Sta}{r:Rcd}{kv:Nat->Int}{ag:List Wr}{rows:List (List UInt8)}
theorem Xqo {e:Int}{x:List UInt8} (h:cj b a=(x,e,0)):only b a e (Yn x):=by
 unfold cj at h;simp only at h;split at h
 ·rename_i h0;exact absurd (CG (fun r=>r.2.2) h) h0
 rename_i h0;split at h
 ·exact absurd (CG (fun r=>r.2.2) h) (by simp)
 rename_i h1;split at h
 ·exact absurd (CG (fun r=>r.2.2) h) (by simp)
 rename_i h2;have h0:(XB b a).2.2=0:=by simpa using h0
 obtain⟨⟨k1,k2,k3,k4⟩,k5,k6,k7⟩:=X4M (b:=b) (a:=a) (n:=(XB b a).1) (e:=(XB b a).2.1) (by rw[<-h0]);generalize (XB b a).1=n at*;generalize (XB b a).2.1=f at*;simp only[Prod.mk.injEq] at h;obtain⟨rfl,rfl,_⟩:=h;have hl:((b.drop f.toNat).take n.toNat).length=n.toNat:=by simp;omega
 have h2:X3M b (f+n).toNat=XT ((b.drop f.toNat).take n.toNat):=by simpa using h2
 have h4:(b.drop (f+n).toNat).take 4=X0p ((b.drop f.toNat).take n.toNat):=by
  generalize hx:(b.drop f.toNat).take n.toNat=x at*;generalize hk:(f+n).toNat=k at*;obtain⟨q0,g0⟩:=Xu (l:=b) (k:=k) (by omega);obtain⟨q1,g1⟩:=Xu (l:=b) (k:=k+1) (by omega);obtain⟨q2,g2⟩:=Xu (l:=b) (k:=k+2) (by omega);obtain⟨q3,g3⟩:=Xu (l:=b) (k:=k+3) (by omega);have hs:=X74 x;have hb:=Xng (p:=[]) (q:=[]) x;simp only[nil_append,append_nil,length_nil] at hb;rw[<-hb] at h2;unfold X3M at h2;simp only[g0,g1,g2,g3,Option.getD_some,X0p,Nat.zero_add,getElem?_cons_zero,getElem?_cons_succ] at h2;obtain⟨e0,e1,e2,e3⟩:=Xok h2;apply ext_getElem?;intro i;rw[getElem?_take];split
  ·rename_i hi;rw[getElem?_drop];rcases i with _|_|_|_|i
   ·rw[Nat.add_zero,g0,e0];rfl
   ·rw[g1,e1];rfl
   ·rw[g2,e2];rfl
   ·rw[g3,e3];rfl
   ·omega
  ·rename_i hi;rw[getElem?_eq_none (by rw[X3Q];omega)]
 refine⟨k1,by omega,by omega,?_⟩;rw[show (f+n+4-a).toNat=(f-a).toNat+(n.toNat+4) by omega,take_add,k4,drop_drop,show a.toNat+(f-a).toNat=f.toNat by omega,take_add,drop_drop,show f.toNat+n.toNat=(f+n).toNat by omega,h4];unfold Yn;rw[hl,show((n.toNat:Nat):Int)=n by omega,AS]
open Go Go.Proofs Tryz
set_option maxRecDepth 100000
set_option linter.unusedSimpArgs false
def UZ (d:ak) (keep:List Int):ak:=if Ux d then ⟨V5 d (UO keep),[],false⟩ else d
def Vy (d:ak):ak:=if Ux d then ⟨d.aa,d.pending,true⟩ else d
theorem Xqn (d:ak) (hl:Vp d):Con prog 26 [] [XU d] [] (XU (Vy d)):=by
 refine ZC1 func26 ntmps26 fun E=> ?_;cases hv:Ux d with
 |true=>
  rw[show Vy d=⟨d.aa,d.pending,true⟩ by simp[Vy,hv]];refine W8_ ?_;refine Z3 (af:=X6U d hl) ?_;refine W7_ ?_;refine Z3 (af:=X5f d) ?_;refine XK ?_;refine Qwb ?_;refine X8 (XP 131 rfl) ?_;refine X8 (X03 101 0 130 (cs:=[.own 130 d.aa.length,.own 131 d.pending.length,ab true]) (sz:=1) (xs:=d.aa.map XV) rfl rfl rfl (by simp)) ?_;refine X8 (X03 101 1 131 (cs:=[.d (XL d.aa),.own 131 d.pending.length,ab true]) (sz:=2) (xs:=d.pending.map cWr) rfl rfl rfl (by simp)) ?_;exact Qqc
 |false=>
  rw[show Vy d=d by simp[Vy,hv]];refine W8_ ?_;refine Z3 (af:=X6U d hl) ?_;refine W7_ ?_;refine Z3 (af:=X5f d) ?_;refine W8_ ?_;refine Qwb ?_;refine X8 (XP 131 rfl) ?_;refine X8 (X03 101 0 130 (cs:=[.own 130 d.aa.length,.own 131 d.pending.length,ab d.on]) (sz:=1) (xs:=d.aa.map XV) rfl rfl rfl (by simp)) ?_;refine X8 (X03 101 1 131 (cs:=[.d (XL d.aa),.own 131 d.pending.length,ab d.on]) (sz:=2) (xs:=d.pending.map cWr) rfl rfl rfl (by simp)) ?_;exact Qqc
theorem XuL (d:ak) (keep:List Int) (hl:Vp d):Con prog 27 [] [XU d,.d (X7W keep)] [] (XU (UZ d keep)):=by
 refine ZC1 func27 ntmps27 fun E=> ?_;cases hv:Ux d with
 |true=>
  have hok:=X4e hv;rw[show UZ d keep=⟨V5 d (UO keep),[],false⟩ by simp[UZ,hv]];refine W9_ ?_;refine Z3 (af:=X5f d) ?_;refine W8_ ?_;refine Z3 (af:=XlX d keep hl hok) ?_;refine XQ ?_;exact Qqc
 |false=>
  rw[show UZ d keep=d by simp[UZ,hv]];refine W9_ ?_;refine Z3 (af:=X5f d) ?_;refine W6_ ?_;refine Z3 (af:=X6U d hl) ?_;refine W2_ ?_;refine Qwb ?_;refine X8 (XP 131 rfl) ?_;refine X8 (X03 101 0 130 (cs:=[.own 130 d.aa.length,.own 131 d.pending.length,ab d.on]) (sz:=1) (xs:=d.aa.map XV) rfl rfl rfl (by simp)) ?_;refine X8 (X03 101 1 131 (cs:=[.d (XL d.aa),.own 131 d.pending.length,ab d.on]) (sz:=2) (xs:=d.pending.map cWr) rfl rfl rfl (by simp)) ?_;exact Qqc
theorem XsC {x:UInt8} (h:x.toNat<=1):x+1-1=x:=by
 have hx:x=0\/x=1:=by
  have:x.toNat=0\/x.toNat=1:=by omega
  rcases this with e|e
  ·left;exact UInt8.toNat_inj.1 e
  ·right;exact UInt8.toNat_inj.1 e
 rcases hx with rfl|rfl<;>rfl
theorem Xfi:∀(F:List UInt8) (q:Nat),q<(Yt F).length->Vj ((Yt F).take q)=none\/∃m,m<F.length/\Vj ((Yt F).take q)=some (F.take m)
 |[],q,h=>by simp[Yt] at h
 |x::r,0,_=> .inr ⟨0,by simp,by simp[Vj]⟩
 |x::r,q+1,h=>by
  rw[Yt] at h |-;unfold X3X at h |-;by_cases hx:x.toNat<=1
  ·rw[PI hx] at h |-;cases q with
   |zero=>left;simp[Vj]
   |succ q=>
    have e:([1,x+1]++Yt r).take (q+1+1)=1::(x+1)::(Yt r).take q:=rfl;have hy:x+1=1\/x+1=2:=by
     have:x.toNat=0\/x.toNat=1:=by omega
     rcases this with q|q
     ·left;rw[show x=0 from UInt8.toNat_inj.1 q];rfl
     ·right;rw[show x=1 from UInt8.toNat_inj.1 q];rfl
    rw[e,Xcz hy,XsC hx];have hq:q<(Yt r).length:=by simp only[LA,LC,length_nil] at h;omega
    rcases Xfi r q hq with k|⟨m,hm,k⟩
    ·left;rw[k];rfl
    ·right;exact⟨m+1,by simpa using hm,by rw[k];rfl⟩
  ·rw[NI hx] at h |-;have hx1:x≠1:=by rintro rfl;exact hx (by decide)
   have e:([x]++Yt r).take (q+1)=x::(Yt r).take q:=rfl;rw[e,Xb9 hx1];have hq:q<(Yt r).length:=by simp only[LA,LC,length_nil] at h;omega
   rcases Xfi r q hq with k|⟨m,hm,k⟩
   ·left;rw[k];rfl
   ·right;exact⟨m+1,by simpa using hm,by rw[k];rfl⟩
theorem XqK (hs0:s.length<=1000000) {m:Nat} (hm:m<(Yn s).length):(cj ((Yn s).take m) 0).2.2≠0\/(cj ((Yn s).take m) 0).2.1≠((Yn s).take m).length:=by
 have hs:(s.length:Int)<=9223372036854775807:=by omega
 by_cases h:(cj ((Yn s).take m) 0).2.2=0
 case neg=>exact .inl h
 right;intro h2;obtain⟨x,e,er⟩:∃x e,cj ((Yn s).take m) 0=(x,e,0):=⟨_,_,Prod.ext rfl (Prod.ext rfl h)⟩
 rw[er] at h2;simp only at h2;obtain⟨o1,o2,o3,o4⟩:=Xqo er;have hml:((Yn s).take m).length=m:=by rw[LT];omega
 have hx:(Yn s).take m=Yn x:=by
  rw[<-o4,Int.toNat_zero,drop_zero,h2,Int.sub_zero,Int.toNat_natCast,take_length]
 have hsp:Yn s=Yn x++(Yn s).drop m:=by rw[<-hx,take_append_drop]
 have hxl:(x.length:Int)<=9223372036854775807:=by
  have h3:=CG length hx;rw[hml] at h3;have h4:x.length<=(Yn x).length:=by unfold Yn;simp only[LA];omega
  have h6:=Xbn ((Yn s).take m) 0;rw[er] at h6;simp only at h6;have h7:=X7U hs [] [];simp only[nil_append,append_nil,length_nil] at h7;have h8:(Yn s).length<=s.length+14:=by
   unfold Yn;rw[LA,LA,X3Q];have:=X7c (n:=(s.length:Int)) (by omega) (by omega);omega
  have h9:x.length+4<=(Yn x).length:=by unfold Yn;simp only[LA,X3Q];omega
  omega
 have ga:=X7U hxl [] ((Yn s).drop m);have dG:=X7U hs [] [];simp only[nil_append,append_nil,length_nil] at ga dG;rw[<-hsp,dG] at ga;have h10:=CG (fun p=>p.2.1) ga;simp only at h10;have h11:=CG length hx;rw[hml] at h11;omega
def XdO (Z A:List UInt8):Prop:=Z.length=A.length/\∀(p:Nat) (z x:UInt8),Z[p]? =some z->A[p]? =some x->z=x\/z=0
theorem Xkq (hok:∀w∈ag,0<=w.at_/\w.b.length=64):∀(n k p:Nat) (r:List UInt8) (X:UInt8),(UW rows ag kv n)[k]? =some r->r[p]? =some X->
  (∃s,rows[k]? =some s/\s[p]? =some X)\/∃i w,i<n/\ag[i]? =some w/\w.at_=k/\w.b[p]? =some X
 |0,k,p,r,X,h,hp=> .inl ⟨r,h,hp⟩
 |n+1,k,p,r,X,h,hp=>by
  have up:∀r',(UW rows ag kv n)[k]? =some r'->r'[p]? =some X->(∃s,rows[k]? =some s/\s[p]? =some X)\/∃i w,i<n+1/\ag[i]? =some w/\w.at_=k/\w.b[p]? =some X:=fun r' h1 h2=>by
   rcases Xkq hok n k p r' X h1 h2 with h3|⟨i,w,h3,h4⟩
   ·exact .inl h3
   ·exact .inr ⟨i,w,by omega,h4⟩
  simp only[UW] at h;split at h
  ·rename_i w hw;have h0:=hok w (mem_of_getElem? hw);simp only[X4W] at h;by_cases hk:w.at_.toNat=k
   ·rw[hk,getElem?_set_self'] at h;cases ho:(UW rows ag kv n)[k]? with
    |none=>rw[ho] at h;simp at h
    |some o=>
     rw[ho] at h;simp at h;subst h;rw[getElem?_append] at hp;split at hp
     ·rename_i hlt;rw[getElem?_take] at hp;split at hp
      ·exact .inr ⟨n,w,by omega,hw,by omega,hp⟩
      ·simp at hp
     ·rename_i hge;rw[getElem?_drop] at hp;simp only[LT] at hp hge;have hb:=X8b (kv n);refine up o ho ?_;rw[<-hp];congr 1;omega
   ·rw[getElem?_set_ne hk] at h;exact up r h hp
  ·exact up r h hp
theorem Xgv (bs:List (List UInt8)):∀(d:ak) (a i:Nat) (w:Wr),d.pending=[]->(Yc d a bs).pending[i]? =some w->∃b,bs[i]? =some b/\w=⟨((a+i:Nat):Int),b⟩:=by
 have gen:∀(bs:List (List UInt8)) (d:ak) (a:Nat),(Yc d a bs).pending=d.pending++(bs.zipIdx a).map fun p=>(⟨((p.2:Nat):Int),p.1⟩:Wr):=by
  intro bs;induction bs with
  |nil=>intro d a;simp[Yc]
  |cons x bs ih=>
   intro d a;rw[Yc,ih];simp[VM,zipIdx_cons]
 intro d a i w hd hw;rw[gen,hd,nil_append,getElem?_map] at hw;cases hz:(bs.zipIdx a)[i]? with
 |none=>rw[hz] at hw;simp at hw
 |some p=>
  rw[hz] at hw;simp only[Option.map_some,Option.some.injEq] at hw;rw[getElem?_zipIdx] at hz;cases hb:bs[i]? with
  |none=>rw[hb] at hz;simp at hz
  |some b=>
   rw[hb] at hz;simp only[Option.map_some,Option.some.injEq] at hz;subst hz;exact⟨b,rfl,hw.symm⟩
theorem Xdd (h:DOk d):∀(n f p:Nat),f+n<=d.aa.length->p<64*n->(U6 d f n)[p]? =(XI d (f+p/64))[p%64]?
 |0,f,p,_,hp=>by omega
 |n+1,f,p,hf,hp=>by
  have hl:=X6g h (a:=f) (by omega);rw[U6,getElem?_append];by_cases q:p<64
  ·rw[PI (by omega),X3A h (by omega)];rw[show p/64=0 by omega,show p%64=p by omega,Nat.add_zero]
  ·rw[NI (by omega),hl,Xdd h n (f+1) (p-64) (by omega) (by omega)];rw[show f+1+(p-64)/64=f+p/64 by omega,show(p-64)%64=p%64 by omega]
theorem XbD (hp:d.pending=[]) {k:Nat} (hk:k<d.aa.length):XI d k=d.aa[k]:=by
 unfold XI;rw[hp,getElem?_eq_getElem hk];rfl
theorem XtS (hd:DOk d) (hp:d.pending=[]) {a:Nat}{bs:List (List UInt8)} (hb:a+bs.length<=d.aa.length) (hc:∀c∈bs,c.length=64) (i:Nat) (keep:List Int) {k p:Nat} (hk:k<d.aa.length) {X:UInt8}
  (hx:(XI (Vy (UZ (Yc d a (bs.take i)) keep)) k)[p]? =some X):(XI d k)[p]? =some X\/(XI (Uw (Yc d a bs)).1 k)[p]? =some X:=by
 have kI:∀c∈bs.take i,c.length=64:=fun c tT=>hc c (mem_of_mem_take tT);have hlt:(bs.take i).length<=bs.length:=by rw[LT];omega
 have h1:=X1h (bs.take i) d a hd (by omega) kI;have h2:=X1h bs d a hd hb hc;have aK:=(X0m (bs.take i) d a).1;have rN:=(X0m bs d a).1;obtain⟨v1,v2,v3,v4⟩:=X1U h1.v;have mC:(V5 (Yc d a (bs.take i)) (UO keep)).length=d.aa.length:=by unfold V5;rw[X3U,aK]
 have eZ:UZ (Yc d a (bs.take i)) keep=⟨V5 (Yc d a (bs.take i)) (UO keep),[],false⟩:=PI h1.v;have aD:Ux ⟨V5 (Yc d a (bs.take i)) (UO keep),[],false⟩=true:=by
  have hs:∀s∈V5 (Yc d a (bs.take i)) (UO keep),s.length=64:=X5W _ (X4e h1.v) _;obtain⟨w1,w2,_⟩:=X1U hd.v;unfold Ux;simp only[decide_eq_true_eq];exact Qsd
 have nH:Vy (UZ (Yc d a (bs.take i)) keep)=⟨V5 (Yc d a (bs.take i)) (UO keep),[],true⟩:=by rw[eZ];exact PI aD
 rw[nH] at hx;rw[XbD rfl (by show k<(V5 _ _).length;rw[mC];exact hk)] at hx;have hg:(UW (Yc d a (bs.take i)).aa (Yc d a (bs.take i)).pending (UO keep) (Yc d a (bs.take i)).pending.length)[k]? =some (V5 (Yc d a (bs.take i)) (UO keep))[k]:=getElem?_eq_getElem (show k<(V5 (Yc d a (bs.take i)) (UO keep)).length by rw[mC];exact hk);rcases Xkq (fun w hw=>⟨(v4 w hw).1,(v4 w hw).2.2⟩) _ k p _ X hg hx with ⟨s,hs,hsp⟩|⟨j,w,hj,hw,hwk,hwp⟩
 ·left;rw[XbD hp hk];rw[aK,getElem?_eq_getElem hk] at hs;cases hs;exact hsp
 ·right;obtain⟨b,nI,rfl⟩:=Xgv (bs.take i) d a j w hp hw;have rO:bs[j]? =some b:=by
   rw[getElem?_take] at nI;split at nI
   ·exact nI
   ·simp at nI
  have hka:a+j=k:=by simp only at hwk;omega
  rw[X5B h2 (by rw[rN];exact hk),<-hka,(X2l bs d a k).2 j b rO];exact hwp
theorem X4q (h:DOk d) (keep:List Int):DOk (Vy (UZ d keep))/\(Vy (UZ d keep)).aa.length=d.aa.length/\(Vy (UZ d keep)).pending=[]:=by
 obtain⟨w1,w2,_⟩:=X1U h.v;have hl:(V5 d (UO keep)).length=d.aa.length:=X3U _ _ _ _;have hs:∀s∈V5 d (UO keep),s.length=64:=X5W _ (X4e h.v) _;have eZ:UZ d keep=⟨V5 d (UO keep),[],false⟩:=PI h.v;have hv:∀on:Bool,Ux ⟨V5 d (UO keep),[],on⟩=true:=fun on=>by
  unfold Ux;simp only[decide_eq_true_eq];exact Qsd
 have nH:Vy (UZ d keep)=⟨V5 d (UO keep),[],true⟩:=by rw[eZ];exact PI (hv false)
 rw[nH];exact⟨⟨hv true,rfl⟩,hl,rfl⟩
theorem XvB (h1:0<=ep) (h2:ep<=1000000000000000) (hr:X7w r) (ho:o≠ep):(X0t (Yt (Yn (Uc ep r))) o).2=false:=by
 have bu:=X8d h1 h2 hr.2;have hf:=X7U (s:=Uc ep r) (by omega) [] [];simp only[nil_append,append_nil,length_nil,Int.natCast_zero,Int.zero_add] at hf;have hf:cj (Yn (Uc ep r)) 0=(Uc ep r,((Yn (Uc ep r)).length:Int),0):=hf;have hu:=X7b (n:=ep) ⟨h1,by omega⟩ [] (X0k r);simp only[nil_append,length_nil,Int.natCast_zero,Int.zero_add] at hu;have hu:XB (Uc ep r) 0=(ep,((Xl ep).length:Int),0):=hu;rw[XaY (Xec _),hf];unfold X5Y;rw[NI (by simp),hu];unfold X8Q;rw[PI (.inr (Ne.symm ho))]
theorem Xbt (h:∀w∈ag,w.at_≠a):∀n,Vx ag a s n=s
 |0=>rfl
 |n+1=>by
  rw[Vx];cases hw:ag[n]? with
  |none=>exact Xbt h n
  |some w=>
   simp only;rw[NI (h w (mem_of_getElem? hw)),Xbt h n]
theorem Xcd {j:Nat} (h:∀w∈ag,w.at_.toNat≠j):∀n,(UW rows ag kv n)[j]? =rows[j]?
 |0=>rfl
 |n+1=>by
  rw[UW];cases hw:ag[n]? with
  |none=>exact Xcd h n
  |some w=>
   simp only;unfold X4W;rw[getElem?_set_ne (h w (mem_of_getElem? hw)),Xcd h n]
theorem XsB (x:ak):(Vy x).aa=x.aa:=by
 unfold Vy;split<;>rfl
theorem Xjf {x:ak} (h:DOk x) (keep:List Int):(Vy (UZ x keep)).aa=V5 x (UO keep):=by
 rw[XsB,show UZ x keep=⟨V5 x (UO keep),[],false⟩ from PI h.v]
theorem XgI {a:Nat}{bs:List (List UInt8)} (hp:d.pending=[]):∀w∈(Yc d a bs).pending,∃i b,bs[i]? =some b/\w=⟨((a+i:Nat):Int),b⟩:=fun w hw=>by
 obtain⟨i,hi⟩:=getElem?_of_mem hw;obtain⟨b,h1,h2⟩:=Xgv bs d a i w hp hi;exact⟨i,b,h1,h2⟩
theorem Xcs {x:ak} (hx:DOk x) {j:Nat} (hj:j<x.aa.length) (h:∀w∈x.pending,w.at_≠(j:Nat)) (keep:List Int):XI (Vy (UZ x keep)) j=XI x j:=by
 obtain⟨c1,c2,c3⟩:=X4q hx keep;rw[XbD c3 (by omega)];have hv:=X1U hx.v;have hn:∀w∈x.pending,w.at_.toNat≠j:=fun w hw=>by
  have:=(hv.2.2.2 w hw).1;have:=h w hw;omega
 have e:(Vy (UZ x keep)).aa[j]? =x.aa[j]? :=by rw[Xjf hx];exact Xcd hn _
 rw[getElem?_eq_getElem (by omega),getElem?_eq_getElem hj,Option.some.injEq] at e;rw[e];unfold XI;rw[Xbt h,getElem?_eq_getElem hj];rfl
theorem XiC {a:Nat}{bs:List (List UInt8)} (hd:DOk d) (hp:d.pending=[]) (hb:a+bs.length<=d.aa.length) (hc:∀c∈bs,c.length=64) {j:Nat} (hj:j<d.aa.length) (h:j<a\/a+bs.length<=j) (keep:List Int):
  XI (Vy (UZ (Yc d a bs) keep)) j=XI d j:=by
 have hl:=X1h bs d a hd hb hc;rw[Xcs hl (by rw[(X0m _ _ _).1];exact hj) (fun w hw=>by
  obtain⟨i,b,h1,rfl⟩:=XgI hp w hw;have:=(GS.1 h1).1;simp only;omega) keep]
 exact(X2l bs d a j).1 h
theorem Good.congr {s:Sta} (h:Good d s0 l s) (he:DOk e) (hp:e.pending=[]) (hl:e.aa.length=d.aa.length)
  (h1:XI e (XJ s0.ep)=XI d (XJ s0.ep)) (h2:∀j,2+XJ s0.ep*Xt d<=j->j<2+XJ s0.ep*Xt d+Xt d->XI e j=XI d j)
  (h3:∀j,X9 d<=j->j<d.aa.length->XI e j=XI d j) (ho:(YZ (XI e (1-XJ s0.ep))).2=true->(YZ (XI e (1-XJ s0.ep))).1.1<s0.ep):Good e s0 l s:=by
 have hs:Xt e=Xt d:=by unfold Xt;rw[hl]
 have hg:X9 e=X9 d:=by unfold X9;rw[hs]
 have hlo:=Vm h.lay;have hk:=X2D s0.ep;have hin:=X1l h.lay hk;have aL:=h.lay;have L:=h.log;refine⟨by omega,⟨he,⟨by rw[hl];exact L.len,by rw[hp];simp⟩,hp,by rw[hl];exact L.len,by omega,by omega,Int.le_refl _,L.gL,L.ep1,L.tl,by rw[hl,hg];exact L.room,?_,L.ents⟩,h.v0,h.t0,by rw[hs];exact h.fit,?_,by rw[h1];exact h.bX,ho,h.play⟩
 ·rw[hl,hg,<-L.str];unfold Y9;exact X6b he L.ok hl.symm _ _ (by omega) fun j a b=>h3 j (by omega) (by omega)
 ·have:X0D e (XJ s0.ep)=X0D d (XJ s0.ep):=by
   unfold X0D;rw[hs];exact X6b he L.ok hl.symm _ _ (by omega) fun j a b=>h2 j a b
  rw[this];exact h.area
theorem XfG (hd:DOk d) (hp:d.pending=[]) {j:Nat} (hj:j<d.aa.length) (keep:List Int):XI (Vy (UZ d keep)) j=XI d j:=
 Xcs hd hj (by rw[hp];simp) keep
theorem Good.crash {s:Sta} (h:Good d s0 l s) (keep:List Int):Good (Vy (UZ d keep)) s0 l s:=by
 obtain⟨c1,c2,c3⟩:=X4q h.log.ok keep;have hv:=fun{j:Nat} (hj:j<d.aa.length)=>XfG h.log.ok h.log.ag hj keep;have hlo:=Vm h.lay;have hk:=X2D s0.ep;have hin:=X1l h.lay hk;have aL:=h.lay;exact h.congr c1 c3 c2 (hv (by omega)) (fun j a b=>hv (by omega)) (fun j a b=>hv (by omega)) (by rw[hv (by omega)];exact h.oth)
theorem XvU (h1:0<=ep) (h2:ep<=1000000000000000) (hr:X7w r) {q:Nat} (hq:q<(Yt (Yn (Uc ep r))).length):(X0t ((Yt (Yn (Uc ep r))).take q) o).2=false:=by
 have bu:=X8d h1 h2 hr.2;rcases Xfi _ q hq with k|⟨m,hm,k⟩
 ·rw[XnK k]
 ·rw[XaY k];unfold X5Y;rw[PI (XqK (by omega) hm)]
theorem Xoj (h1:0<=ep) (h2:ep<=1000000000000000) (ho:o≠ep) (l:List Rcd) (z:Nat) (Z:List UInt8) (hv:∀r∈l,X7w r) (ht:XdO Z (XZ ep l++replicate z 0)):X05 o Z=([],0):=by
 unfold X05;cases l with
 |nil=>
  have hZ:Z=replicate z 0:=by
   apply ext_getElem?;intro p;have hl:Z.length=z:=by rw[ht.1];simp[XZ]
   by_cases hp:p<z
   ·rw[getElem?_replicate,PI hp];have hz:Z[p]? =some Z[p]:=getElem?_eq_getElem (by omega);rcases ht.2 p Z[p] 0 hz (by simp[XZ,hp]) with q|q<;>rw[hz,q]
   ·rw[getElem?_eq_none (by omega),getElem?_eq_none (by simp;omega)]
  rw[hZ,Xbu]
 |cons r l=>
  have eA:XZ ep (r::l)++replicate z 0=VP ep r++(XZ ep l++replicate z 0):=by rw[XZ,AS]
  rw[eA] at ht;refine X5O o Z 0 _ ?_;rintro⟨g1,g2⟩;have hlt:=X88 g1;have bO:=Xd7 Z;have hnz:∀x∈Y5 Z,x≠0:=XfS Z;have vf:Z[(Y5 Z).length]? =some 0:=by
   have h0:(Z.dropWhile fun x=>x !=0).head? =some 0:=by
    have e:Z.dropWhile (fun x=>x !=0)=Z.drop (Y5 Z).length:=(X5E (p:=fun x=>x !=0) Z).2;have hne:(Z.dropWhile fun x=>x !=0)≠[]:=by
     rw[e];intro q;have:=CG length q;simp only[LD,length_nil] at this;omega
    have:=head?_dropWhile_not (fun x:UInt8=>x !=0) Z;cases hh:(Z.dropWhile fun x=>x !=0).head? with
    |none=>exact absurd (head?_eq_none_iff.1 hh) hne
    |some y=>
     rw[hh] at this;simpa using this
   rw[(X5E (p:=fun x=>x !=0) Z).2,head?_drop] at h0;exact h0
  have hle:∀p,p<(Y5 Z).length->p<(Yt (Yn (Uc ep r))).length->(Y5 Z)[p]? =(Yt (Yn (Uc ep r)))[p]? :=by
   intro p hp bx;have hz:Z[p]? =some (Y5 Z)[p]:=by
    have h3:(Y5 Z)[p]? =some (Y5 Z)[p]:=getElem?_eq_getElem hp;have h4:(Y5 Z)[p]? =Z[p]? :=by
     conv=>lhs;rw[bO]
     rw[getElem?_take,PI hp]
    rw[<-h4,h3]
   have hx:(VP ep r++(XZ ep l++replicate z 0))[p]? =some (Yt (Yn (Uc ep r)))[p]:=by
    unfold VP;rw[AS,getElem?_append_left bx];exact getElem?_eq_getElem bx
   rcases ht.2 p _ _ hz hx with q|q
   ·rw[getElem?_eq_getElem hp,getElem?_eq_getElem bx,q]
   ·exact absurd q (hnz _ (getElem_mem hp))
  have aM:(Y5 Z).length<=(Yt (Yn (Uc ep r))).length:=by
   by_cases c:(Y5 Z).length<=(Yt (Yn (Uc ep r))).length
   ·exact c
   ·exfalso;have hp:(Yt (Yn (Uc ep r))).length<(Y5 Z).length:=by omega
    have hz:Z[(Yt (Yn (Uc ep r))).length]? =some (Y5 Z)[(Yt (Yn (Uc ep r))).length]:=by
     have h3:(Y5 Z)[(Yt (Yn (Uc ep r))).length]? =some (Y5 Z)[(Yt (Yn (Uc ep r))).length]:=getElem?_eq_getElem hp;have h4:(Y5 Z)[(Yt (Yn (Uc ep r))).length]? =Z[(Yt (Yn (Uc ep r))).length]? :=by
      conv=>lhs;rw[bO]
      rw[getElem?_take,PI hp]
     rw[<-h4,h3]
    have hx:(VP ep r++(XZ ep l++replicate z 0))[(Yt (Yn (Uc ep r))).length]? =some 0:=by unfold VP;simp
    have hn:=hnz _ (getElem_mem hp);rcases ht.2 _ _ _ hz hx with q|q<;>exact hn q
  by_cases hc:(Y5 Z).length<(Yt (Yn (Uc ep r))).length
  ·have hpre:Y5 Z=(Yt (Yn (Uc ep r))).take (Y5 Z).length:=by
    apply ext_getElem?;intro p;by_cases hp:p<(Y5 Z).length
    ·rw[getElem?_take,PI hp];exact hle p hp (by omega)
    ·rw[getElem?_eq_none (by omega),getElem?_take,NI hp]
   have:=XvU (o:=o) h1 h2 (hv r (by simp)) hc;rw[<-hpre,g2] at this;simp at this
  ·have hall:Y5 Z=Yt (Yn (Uc ep r)):=by
    apply ext_getElem?;intro p;by_cases hp:p<(Y5 Z).length
    ·exact hle p hp (by omega)
    ·rw[getElem?_eq_none (by omega),getElem?_eq_none (by omega)]
   rw[hall,XvB h1 h2 (hv r (by simp)) ho] at g2;cases g2
theorem Xs2 (h:(YZ v).2=true):UI (YZ v).1.1 (YZ v).1.2.1 (YZ v).1.2.2.1 (YZ v).1.2.2.2=v:=by
 unfold YZ at h |-;simp only at h |-;by_cases c:(cj v 0).2.2≠0
 ·rw[PI c] at h;simp at h
 rw[NI c] at h |-;simp only[Bool.and_eq_true,decide_eq_true_eq] at h |-;exact h.2
theorem XwH (a b c e:Int):(UI a b c e)[(UI a b c e).length-1]? =some 1:=by
 unfold UI;rw[<-AS,LA,length_singleton,Nat.add_sub_cancel,getElem?_append_right (Nat.le_refl _),Nat.sub_self];rfl
theorem XwG (hv:v.length=64) {c:Nat} (hc:c<64):(YZ (v.take c++Yy.drop c)).2=false:=by
 cases q:(YZ (v.take c++Yy.drop c)).2 with
 |false=>rfl
 |true=>
  exfalso;have h:=Xs2 q;have hl:(v.take c++Yy.drop c).length=64:=by
   rw[LA,LT,LD,show Yy.length=64 from rfl];omega
  have h1:=XwH (YZ (v.take c++Yy.drop c)).1.1 (YZ (v.take c++Yy.drop c)).1.2.1 (YZ (v.take c++Yy.drop c)).1.2.2.1 (YZ (v.take c++Yy.drop c)).1.2.2.2;rw[h,hl,getElem?_append_right (by rw[LT];omega),getElem?_drop,LT,Nat.min_eq_left (by omega)] at h1;rw[show c+(64-1-c)=63 by omega] at h1;exact absurd h1 (by decide)
theorem XtP (v:List UInt8):(YZ (0::v)).2=false:=by
 have hu:XB (0::v) 0=(0,1,0):=by
  have:=X7b (n:=0) ⟨Int.le_refl _,by omega⟩ [] v;rw[show Xl 0=[0] by decide+kernel] at this;simpa using this
 unfold YZ;simp only;by_cases c:(cj (0::v) 0).2.2≠0
 ·rw[PI c]
 rw[NI c];have hb:(cj (0::v) 0).1=[]:=by
  unfold cj at c |-;rw[hu] at c |-;simp only at c |-;rw[NI (by simp)] at c |-;split
  ·rfl
  ·split
   ·rfl
   ·simp
 rw[hb];have hp:(Xax ⟨0,[],0,0⟩).2.e≠0:=by decide+kernel
 simp[hp]
theorem XpO {c:Nat} (hc:0<c):(YZ (Yy.take c++v.drop c)).2=false:=by
 obtain⟨c,rfl⟩:∃k,c=k+1:=⟨c-1,by omega⟩
 have e:Yy.take (c+1)++v.drop (c+1)=0::((Yy.drop 1).take c++v.drop (c+1)):=by
  rw[show Yy=0::Yy.drop 1 from rfl,take_succ_cons];rfl
 rw[e];exact XtP _
theorem XlG {y:ak}{k:Nat} (hy:DOk (VM y k b)) (hk:k<y.aa.length) (h:∀w∈y.pending,w.at_≠(k:Nat)) (keep:List Int):
  ∃c,c<=64/\XI (Vy (UZ (VM y k b) keep)) k=b.take c++(XI y k).drop c:=by
 obtain⟨c1,c2,c3⟩:=X4q hy keep;have hv:=X1U hy.v;have hn:∀w∈y.pending,w.at_.toNat≠k:=fun w hw=>by
  have:=(hv.2.2.2 w (mem_append_left _ hw)).1;have:=h w hw;omega
 refine⟨fy (UO keep y.pending.length),X8b _,?_⟩;have hkp:k<(VM y k b).aa.length:=hk;rw[XbD c3 (by omega)];have e:(Vy (UZ (VM y k b) keep)).aa[k]? =some (b.take (fy (UO keep y.pending.length))++(XI y k).drop (fy (UO keep y.pending.length))):=by
  rw[Xjf hy];unfold V5;show(UW y.aa (y.pending++[⟨(k:Nat),b⟩]) (UO keep) (y.pending++[(⟨(k:Nat),b⟩:Wr)]).length)[k]? =_;rw[LA,length_singleton,UW,getElem?_append_right (Nat.le_refl _),Nat.sub_self];simp only[getElem?_cons_zero];have hpre:∀n,n<=y.pending.length->UW y.aa (y.pending++[(⟨(k:Nat),b⟩:Wr)]) (UO keep) n=UW y.aa y.pending (UO keep) n:=by
   intro n;induction n with
   |zero=>intro _;rfl
   |succ n ih=>
    intro hn;rw[UW,UW,getElem?_append_left (by omega),ih (by omega)]
  rw[hpre _ (Nat.le_refl _)];have ho:=Xcd (rows:=y.aa) (kv:=UO keep) hn y.pending.length;unfold X4W;simp only[Int.toNat_natCast];rw[ho,getElem?_eq_getElem hk,getElem?_set_self (by rw[X3U];exact hk)];unfold XI;rw[Xbt h,getElem?_eq_getElem hk]
 rw[getElem?_eq_getElem (by omega),Option.some.injEq] at e;exact e
theorem Xrk {s1:Sta} (he:DOk e) (hp:e.pending=[]) (aL:16<=e.aa.length) (hlen:e.aa.length<=2000) (hv:YN s1=true) (ht:s1.tail=0) (hf:(Xv s1.g s1.rules).length<=Xt e*64)
  (ha:(X0D e (XJ s1.ep)).take (Xv s1.g s1.rules).length=Xv s1.g s1.rules)
  (hh:XI e (XJ s1.ep)=UI s1.ep s1.ts ((Xv s1.g s1.rules).length:Nat) (XT (Xv s1.g s1.rules):Nat))
  (ho:(YZ (XI e (1-XJ s1.ep))).2=true->(YZ (XI e (1-XJ s1.ep))).1.1<s1.ep)
  (hs:X05 s1.ep (Y9 e (X9 e:Nat) (e.aa.length:Nat))=([],0)):VF e=(s1,0):=by
 obtain⟨v,hr,v1,v2,v3,v4,v5,v6⟩:=Vk.1 hv;have hlo:=Vm aL;have hk:=X2D s1.ep;have ja:Vd e (XJ s1.ep)=(s1,true):=by
  have hm:=XiD s1.ep;have tU:=Xbd (a:=s1.ep) (b:=s1.ts) (c:=((Xv s1.g s1.rules).length:Nat)) (e:=(XT (Xv s1.g s1.rules):Nat)) ⟨by omega,by omega⟩ ⟨by omega,by omega⟩ ⟨by omega,by unfold Xt at hf;omega⟩ (X42 _);unfold Vd;rw[X3A he (by omega),hh,tU];simp only;rw[PI ⟨TV,⟨by simp only;omega,by simp only;omega,by simp only;omega,by simp only;omega,by simp only;omega⟩⟩];unfold X4D;simp only[Int.toNat_natCast];rw[ha,NI (by simp),XiP hv];obtain⟨g,rs,ts,ep,tl⟩:=s1;simp only at ht;rw[ht]
 have fh:(Vd e (1-XJ s1.ep)).2=true->(Vd e (1-XJ s1.ep)).1.ep<s1.ep:=fun q=>by
  obtain⟨q1,q2⟩:=Xjk he (by omega) q;rw[q2];exact ho q1
 have q9:VW e=(s1,true):=by
  unfold VW X5e;rcases (by omega:XJ s1.ep=0\/XJ s1.ep=1) with q|q
  ·rw[q] at ja fh;simp only[Nat.sub_zero] at fh;rw[ja];rw[NI (fun c=>by
    have:=fh c.1;rcases c.2 with c2|c2
    ·simp at c2
    ·simp only at c2;omega)]
  ·rw[q] at ja fh;simp only[Nat.sub_self] at fh;rw[ja];by_cases c:(Vd e 0).2=false
   ·rw[PI ⟨rfl,.inl c⟩]
   ·have:=fh (by simpa using c);rw[PI ⟨rfl,.inr this⟩]
 unfold VF;rw[NI (by rw[X60 he aL];simp),q9,NI (by simp)];simp only;have hsp:Uh e (X9 e:Nat) (e.aa.length:Nat) s1.ep 0=0:=by
  unfold Uh;rw[NI (by rw[he.v];simp),NI (by rw[he.on];simp),NI (by omega),NI (by omega)]
 unfold X0B;rw[NI (by rw[hsp];simp),hs];unfold X47;simp only[YA,ne_eq,not_true_eq_false,if_false];obtain⟨g,rs,ts,ep,tl⟩:=s1;simp only at ht;rw[ht];rfl
end Go.Fw
