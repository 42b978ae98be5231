/- Entries scanned back, whole or torn; plain Lean. -/
import Derived.Test.YtfmfekakaeafhaaGreatDoorP39
import Derived.Test.YtfmfekakaeafhaaGreatDoorP51
set_option linter.all false
namespace Go.Fw
open Go List
open List renaming length->J
def XwO {x:UInt8} (h:x.toNat<=1):x+1-1=x:=by
 have hx:x=0\/x=1:=by
  have:x.toNat=0\/x.toNat=1:=Oa
  exact Yt45
 rcases hx with rfl|rfl<;>rfl
def Xen:∀(F:List UInt8) (q:Nat),q<J (YB F)->V2 ((YB F).take q)=none\/∃m,m<J F/\V2 ((YB F).take q)=some (F.take m)
 |[],q,h=>by simp[YB] at h
 |x::r,0,_=> .inr ⟨0,Oc,by simp[V2]⟩
 |x::r,q+1,h=>by
  rw[YB] at h |-;unfold X4e at h |-;by_cases hx:x.toNat<=1
  ·rw[PI hx] at h |-;cases q with
   |zero=>left;simp[V2]
   |succ q=>
    have e:([1,x+1]++YB r).take (q+1+1)=1::(x+1)::(YB r).take q:=rfl;have hy:x+1=1\/x+1=2:=by
     have:x.toNat=0\/x.toNat=1:=Oa
     rcases this with q|q
     ·left;rw[show x=0 from UInt8.toNat_inj.1 q];rfl
     ·right;rw[show x=1 from UInt8.toNat_inj.1 q];rfl
    rw[e,X9w hy,XwO hx];have hq:q<J (YB r):=by simp only[LA,LC,length_nil] at h;omega
    exact Yt71
  ·rw[NI hx] at h |-;have hx1:x≠1:=by rintro rfl;exact hx Oi
   have e:([x]++YB r).take (q+1)=x::(YB r).take q:=rfl;rw[e,Xa7 hx1];have hq:q<J (YB r):=by simp only[LA,LC,length_nil] at h;omega
   exact Yt71
variable{s:List UInt8}{a:Nat}{bs rows:List (List UInt8)}{d:ak}{ep f n t tail:Int}{l m:List Rcd}{kv:Nat->Int}{af:List Wr}{s0:Sta}{x:ak×Sta}
def Xtn (hs0:J s<=1000000) {m:Nat} (hm:m<J (Yx s)):(Y8 ((Yx s).take m) 0).2.2≠0\/(Y8 ((Yx s).take m) 0).2.1≠J ((Yx s).take m):=by
 have hs:(J s:Int)<=9223372036854775807:=Oa
 by_cases h:(Y8 ((Yx s).take m) 0).2.2=0
 case neg=>exact .inl h
 right;intro h2;obtain⟨x,e,er⟩:∃x e,Y8 ((Yx s).take m) 0=(x,e,0):=⟨_,_,Prod.ext rfl (Prod.ext rfl h)⟩
 rw[er] at h2;simp only at h2;obtain⟨o1,o2,o3,o4⟩:=XvQ er;have hml:J ((Yx s).take m)=m:=Oz
 have hx:(Yx s).take m=Yx x:=by
  rw[<-o4,Int.toNat_zero,drop_zero,h2,Int.sub_zero,Int.toNat_natCast,take_length]
 have hsp:Yx s=Yx x++(Yx s).drop m:=by rw[<-hx,take_append_drop]
 have hxl:(J x:Int)<=9223372036854775807:=by
  have h3:=CG length hx;rw[hml] at h3;have h4:J x<=J (Yx x):=by unfold Yx;simp only[LA];omega
  have h6:=X8D ((Yx s).take m) 0;rw[er] at h6;simp only at h6;have h7:=X8N hs [] [];simp only[nil_append,append_nil,length_nil] at h7;have h8:J (Yx s)<=J s+14:=by
   unfold Yx;rw[LA,LA,X4m];have:=X7c (n:=(J s:Int)) Oa Oa;omega
  have h9:J x+4<=J (Yx x):=by unfold Yx;simp only[LA,X4m];omega
  omega
 have gj:=X8N hxl [] ((Yx s).drop m);have ej:=X8N hs [] [];simp only[nil_append,append_nil,length_nil] at gj ej;rw[<-hsp,ej] at gj;have h10:=CG (fun p=>p.2.1) gj;simp only at h10;have h11:=CG length hx;rw[hml] at h11;omega
def Xvz {r:Rcd} (h1:0<=ep) (h2:ep<=1000000000000000) (hr:X6l r) {q:Nat} (hq:q<J (YB (Yx (Un ep r)))):(VP ((YB (Yx (Un ep r))).take q) ep).2=false:=by
 have bx:=X8b h1 h2 hr.2;rcases Xen _ q hq with k|⟨m,hm,k⟩
 ·rw[XeX k]
 ·rw[X9e k];unfold X5M;rw[PI (Xtn Oa hm)]
def XbJ (Z A:List UInt8):Prop:=J Z=J A/\∀(p:Nat) (z x:UInt8),Z[p]? =some z->A[p]? =some x->z=x\/z=0
def Xxd {Z A:List UInt8} (h:XbJ Z A) (k:Nat):XbJ (Z.drop k) (A.drop k):=by
 refine⟨by rw[LD,LD,h.1],fun p z x hz hx=> ?_⟩;rw[getElem?_drop] at hz hx;exact h.2 _ z x hz hx
def XlK (h1:0<=ep) (h2:ep<=1000000000000000):∀(l:List Rcd) (z:Nat) (Z:List UInt8) (a n:Nat),(∀r∈l,X6l r)->XbJ Z (Xv ep l++replicate z 0)->J Z<n->
  ∃k,k<=J l/\US ep n Z a=(l.take k,a+J (Xv ep (l.take k)))
 |[],z,Z,a,n,_,ht,hn=>by
  refine⟨0,Nat.le_refl _,?_⟩;have hZ:Z=replicate z 0:=by
   apply ext_getElem?;intro p;have hl:J Z=z:=by rw[ht.1];simp[Xv]
   by_cases hp:p<z
   ·rw[getElem?_replicate,PI hp];have hz:Z[p]? =some Z[p]:=getElem?_eq_getElem Oa;rcases ht.2 p Z[p] 0 hz (by simp[Xv,hp]) with q|q<;>rw[hz,q]
   ·rw[getElem?_eq_none Oa,getElem?_eq_none Ou]
  subst hZ;cases n with
  |zero=>omega
  |succ n=>rw[XgH];simp[Xv]
 |r::l,z,Z,a,n,hv,ht,hn=>by
  have hrl:J (UN ep r)=J (YB (Yx (Un ep r)))+1:=by unfold UN;simp
  have eA:Xv ep (r::l)++replicate z 0=UN ep r++(Xv ep l++replicate z 0):=by rw[Xv,AS]
  rw[eA] at ht;have fJ:J Z=J (UN ep r)+J (Xv ep l++replicate z 0):=by rw[ht.1,LA]
  by_cases hw:Z.take (J (YB (Yx (Un ep r))))=YB (Yx (Un ep r))
  ·-- the entry is whole
   have hE:Z.take (J (UN ep r))=UN ep r:=by
    have bH:Z[J (YB (Yx (Un ep r)))]? =some 0:=by
     have hz:Z[J (YB (Yx (Un ep r)))]? =some Z[J (YB (Yx (Un ep r)))]:=getElem?_eq_getElem Oa;have hx:(UN ep r++(Xv ep l++replicate z 0))[J (YB (Yx (Un ep r)))]? =some 0:=by unfold UN;simp
     rcases ht.2 _ _ 0 hz hx with q|q<;>rw[hz,q]
    rw[hrl,X7H bH,hw];rfl
   have hsp:Z=Xv ep [r]++Z.drop (J (UN ep r)):=by
    conv=>lhs;rw[<-take_append_drop (J (UN ep r)) Z]
    rw[hE,Xv,Xv,append_nil]
   have so:=Xxd ht (J (UN ep r));rw[drop_left' rfl] at so;obtain⟨k,hk,e⟩:=XlK h1 h2 l z (Z.drop (J (UN ep r))) (a+J (Xv ep [r])) (J (Z.drop (J (UN ep r)))+1) (fun x hx=>hv x JA) so (Nat.lt_succ_self _);refine⟨k+1,by simpa using hk,?_⟩;rw[hsp] at hn;have mU:=X9q h1 h2 [r] (Z.drop (J (UN ep r))) a n (J (Z.drop (J (UN ep r)))+1) (fun x hx=>by simp only[mem_singleton] at hx;subst hx;exact hv x Oc) hn (Nat.lt_succ_self _);rw[<-hsp,e] at mU;rw[mU,take_succ_cons];simp only[Xv,LA,length_nil,append_nil,cons_append,nil_append,Nat.add_zero,Nat.add_assoc]
  ·-- a byte of it is lost
   refine⟨0,Nat.zero_le _,?_⟩;cases n with
   |zero=>omega
   |succ n=>
    have hstop:¬(X14 Z=true/\(VP (Yo Z) ep).2=true):=by
     rintro⟨g1,g2⟩;have hlt:=X7W g1;have cH:=XgA Z;have hnz:∀x∈Yo Z,x≠0:=by
      exact XfG Z
     have hle:∀p,p<J (Yo Z)->p<J (YB (Yx (Un ep r)))->(Yo Z)[p]? =(YB (Yx (Un ep r)))[p]? :=by
      intro p hp aR;have hz:Z[p]? =some (Yo Z)[p]:=by
       have h3:(Yo Z)[p]? =some (Yo Z)[p]:=getElem?_eq_getElem hp;have h4:(Yo Z)[p]? =Z[p]? :=by
        conv=>lhs;rw[cH]
        rw[getElem?_take,PI hp]
       rw[<-h4,h3]
      have hx:(UN ep r++(Xv ep l++replicate z 0))[p]? =some (YB (Yx (Un ep r)))[p]:=by
       unfold UN;rw[AS,getElem?_append_left aR];exact getElem?_eq_getElem aR
      rcases ht.2 p _ _ hz hx with q|q
      ·rw[getElem?_eq_getElem hp,getElem?_eq_getElem aR,q]
      ·exact absurd q (hnz _ (getElem_mem hp))
     by_cases hc:J (Yo Z)<J (YB (Yx (Un ep r)))
     ·have hpre:Yo Z=(YB (Yx (Un ep r))).take (J (Yo Z)):=by
       apply ext_getElem?;intro p;by_cases hp:p<J (Yo Z)
       ·rw[getElem?_take,PI hp];exact hle p hp Oa
       ·rw[getElem?_eq_none Oa,getElem?_take,NI hp]
      have:=Xvz h1 h2 (hv r Oc) hc;rw[<-hpre,g2] at this;simp at this
     ·apply hw;apply ext_getElem?;intro p;by_cases hp:p<J (YB (Yx (Un ep r)))
      ·rw[getElem?_take,PI hp,<-hle p Oa hp];conv=>rhs;rw[cH]
       rw[getElem?_take,PI Oa]
      ·rw[getElem?_take,NI hp,getElem?_eq_none Oa]
    rw[X4l ep Z a n hstop];simp[Xv]
def XoM (hok:∀w∈af,0<=w.at_/\J w.b=64):∀(n k p:Nat) (r:List UInt8) (X:UInt8),(VH rows af kv n)[k]? =some r->r[p]? =some X->
  (∃s,rows[k]? =some s/\s[p]? =some X)\/∃i w,i<n/\af[i]? =some w/\w.at_=k/\w.b[p]? =some X
 |0,k,p,r,X,h,hp=> .inl ⟨r,h,hp⟩
 |n+1,k,p,r,X,h,hp=>by
  have up:∀r',(VH rows af kv n)[k]? =some r'->r'[p]? =some X->(∃s,rows[k]? =some s/\s[p]? =some X)\/∃i w,i<n+1/\af[i]? =some w/\w.at_=k/\w.b[p]? =some X:=fun r' h1 h2=>by
   rcases XoM hok n k p r' X h1 h2 with h3|⟨i,w,h3,h4⟩
   ·exact .inl h3
   ·exact .inr ⟨i,w,Oa,h4⟩
  simp only[VH] at h;split at h
  ·rename_i w hw;have h0:=hok w (mem_of_getElem? hw);simp only[X6c] at h;by_cases hk:w.at_.toNat=k
   ·rw[hk,getElem?_set_self'] at h;cases ho:(VH rows af kv n)[k]? with
    |none=>rw[ho] at h;simp at h
    |some o=>
     rw[ho] at h;simp at h;subst h;rw[getElem?_append] at hp;split at hp
     ·rename_i hlt;rw[getElem?_take] at hp;split at hp
      ·exact .inr ⟨n,w,Oa,hw,Oa,hp⟩
      ·simp at hp
     ·rename_i hge;rw[getElem?_drop] at hp;simp only[LT] at hp hge;have hb:=Xag (kv n);refine up o ho ?_;rw[<-hp];congr 1;omega
   ·rw[getElem?_set_ne hk] at h;exact up r h hp
  ·exact up r h hp
def XhK (bs:List (List UInt8)):∀(d:ak) (a i:Nat) (w:Wr),d.pending=[]->(Yt d a bs).pending[i]? =some w->∃b,bs[i]? =some b/\w=⟨((a+i:Nat):Int),b⟩:=by
 have gen:∀(bs:List (List UInt8)) (d:ak) (a:Nat),(Yt d a bs).pending=d.pending++(bs.zipIdx a).map fun p=>(⟨((p.2:Nat):Int),p.1⟩:Wr):=by
  intro bs;induction bs with
  |nil=>intro d a;simp[Yt]
  |cons x bs ih=>
   intro d a;rw[Yt,ih];simp[X0H,zipIdx_cons]
 intro d a i w hd hw;rw[gen,hd,nil_append,getElem?_map] at hw;cases hz:(bs.zipIdx a)[i]? with
 |none=>rw[hz] at hw;simp at hw
 |some p=>
  rw[hz] at hw;simp only[Option.map_some,Option.some.injEq] at hw;rw[getElem?_zipIdx] at hz;cases hb:bs[i]? with
  |none=>rw[hb] at hz;simp at hz
  |some b=>
   rw[hb] at hz;simp only[Option.map_some,Option.some.injEq] at hz;subst hz;exact⟨b,rfl,hw.symm⟩
def Xcw (h:DOk d):∀(n f p:Nat),f+n<=J d.aa->p<64*n->(Ug d f n)[p]? =(Yi d (f+p/64))[p%64]?
 |0,f,p,_,hp=>Oa
 |n+1,f,p,hf,hp=>by
  have hl:=X66 h (a:=f) Oa;rw[Ug,getElem?_append];by_cases q:p<64
  ·rw[PI Oa,X6C h Oa];rw[show p/64=0 by omega,show p%64=p by omega,Nat.add_zero]
  ·rw[NI Oa,hl,Xcw h n (f+1) (p-64) Oa Oa];rw[show f+1+(p-64)/64=f+p/64 by omega,show(p-64)%64=p%64 by omega]
def Xay (hp:d.pending=[]) {k:Nat} (hk:k<J d.aa):Yi d k=d.aa[k]:=by
 unfold Yi;rw[hp,getElem?_eq_getElem hk];rfl
def Xqz (hd:DOk d) (hp:d.pending=[]) {a:Nat}{bs:List (List UInt8)} (hb:a+J bs<=J d.aa) (hc:∀c∈bs,J c=64) (i:Nat) (keep:List Int) {k p:Nat} (hk:k<J d.aa) {X:UInt8}
  (hx:(Yi (Vk (V5 (Yt d a (bs.take i)) keep)) k)[p]? =some X):(Yi d k)[p]? =some X\/(Yi (V1 (Yt d a bs)).1 k)[p]? =some X:=by
 have lP:∀c∈bs.take i,J c=64:=fun c nT=>hc c (mem_of_mem_take nT);have hlt:J (bs.take i)<=J bs:=Oz
 have h1:=X2J (bs.take i) d a hd Oa lP;have h2:=X2J bs d a hd hb hc;have aL:=(X1n (bs.take i) d a).1;have sq:=(X1n bs d a).1;obtain⟨v1,v2,v3,v4⟩:=X2j h1.v;have mV:J (Vl (Yt d a (bs.take i)) (Vo keep))=J d.aa:=by unfold Vl;rw[X4Q,aL]
 have dA:V5 (Yt d a (bs.take i)) keep=⟨Vl (Yt d a (bs.take i)) (Vo keep),[],false⟩:=PI h1.v;have aE:UF ⟨Vl (Yt d a (bs.take i)) (Vo keep),[],false⟩=true:=by
  have hs:∀s∈Vl (Yt d a (bs.take i)) (Vo keep),J s=64:=X6t _ (X4X h1.v) _;obtain⟨w1,w2,_⟩:=X2j hd.v;unfold UF;simp only[decide_eq_true_eq];exact Qde
 have o6:Vk (V5 (Yt d a (bs.take i)) keep)=⟨Vl (Yt d a (bs.take i)) (Vo keep),[],true⟩:=by rw[dA];exact PI aE
 rw[o6] at hx;rw[Xay rfl (by show k<J (Vl _ _);rw[mV];exact hk)] at hx;have hg:(VH (Yt d a (bs.take i)).aa (Yt d a (bs.take i)).pending (Vo keep) (J (Yt d a (bs.take i)).pending))[k]? =some (Vl (Yt d a (bs.take i)) (Vo keep))[k]:=getElem?_eq_getElem (show k<J (Vl (Yt d a (bs.take i)) (Vo keep)) by rw[mV];exact hk);rcases XoM (fun w hw=>⟨(v4 w hw).1,(v4 w hw).2.2⟩) _ k p _ X hg hx with ⟨s,hs,hsp⟩|⟨j,w,hj,hw,hwk,hwp⟩
 ·left;rw[Xay hp hk];rw[aL,getElem?_eq_getElem hk] at hs;cases hs;exact hsp
 ·right;obtain⟨b,o7,rfl⟩:=XhK (bs.take i) d a j w hp hw;have su:bs[j]? =some b:=by
   rw[getElem?_take] at o7;split at o7
   ·exact o7
   ·simp at o7
  have hka:a+j=k:=by simp only at hwk;omega
  rw[X72 h2 (by rw[sq];exact hk),<-hka,(X4c bs d a k).2 j b su];exact hwp
def X70 (h:DOk d) (keep:List Int):DOk (Vk (V5 d keep))/\J (Vk (V5 d keep)).aa=J d.aa/\(Vk (V5 d keep)).pending=[]:=by
 obtain⟨w1,w2,_⟩:=X2j h.v;have hl:J (Vl d (Vo keep))=J d.aa:=X4Q _ _ _ _;have hs:∀s∈Vl d (Vo keep),J s=64:=X6t _ (X4X h.v) _;have dA:V5 d keep=⟨Vl d (Vo keep),[],false⟩:=PI h.v;have hv:∀on:Bool,UF ⟨Vl d (Vo keep),[],on⟩=true:=fun on=>by
  unfold UF;simp only[decide_eq_true_eq];exact Qde
 have o6:Vk (V5 d keep)=⟨Vl d (Vo keep),[],true⟩:=by rw[dA];exact PI (hv false)
 rw[o6];exact⟨⟨hv true,rfl⟩,hl,rfl⟩
def Xxj (h:Log d f t ep l tail) (he:(Uc d f t ep tail m).2.2=0) (hv:∀r∈l++m,X6l r) (i:Nat) (keep:List Int):
  ∃k,k<=J m/\V8 (Vk (V5 (Yt d (f.toNat+tail.toNat/64) ((V7 d f t tail (Xv ep m)).take i)) keep)) f t ep=(l++m.take k,tail+J (Xv ep (m.take k)),0):=by
 have L2:=h.app he;have ey:=h.app_len he;rw[X3q] at he;obtain⟨s1,s2,s3,s4⟩:=X3N he;obtain⟨g1,g2,g3⟩:=X6R h.few he;have sx:=h.f0;have hft:=h.ft;have mg:=h.t24;have rM:=h.len;have iQ:=h.tl;obtain⟨k1,k2,k3⟩:=X5g (A:=Xv ep m) h.ok sx hft Oa Oa s3;have lP:∀c∈(V7 d f t tail (Xv ep m)).take i,J c=64:=fun c hc=>k2 c (mem_of_mem_take hc);have hlt:J ((V7 d f t tail (Xv ep m)).take i)<=J (V7 d f t tail (Xv ep m)):=Oz
 have iJ:=X2J _ d (f.toNat+tail.toNat/64) h.ok Oa lP;obtain⟨c1,c2,c3⟩:=X70 iJ keep;have eg:J (Yt d (f.toNat+tail.toNat/64) ((V7 d f t tail (Xv ep m)).take i)).aa=J d.aa:=CG length (X1n _ d _).1;have hbyte:=fun{k p:Nat} (hk:k<J d.aa) {X:UInt8} hx=>Xqz (k:=k) (p:=p) (X:=X) h.ok h.af k1 k2 i keep hk hx;rw[<-g3] at hbyte;have uC:=L2.ok;have mW:=L2.str;have o9:=L2.room;generalize (Uc d f t ep tail m).1=Y at*;rw[g2] at o9;generalize Vk (V5 (Yt d (f.toNat+tail.toNat/64) ((V7 d f t tail (Xv ep m)).take i)) keep)=x at*;have hxl:J x.aa=J d.aa:=Oa
 have hN:f.toNat+(t-f).toNat<=J d.aa:=Oa
 have sy:J (XV x f t)=64*(t-f).toNat:=by unfold XV;exact X1j c1 _ _ Oa
 have sA:=h.str;have kG:J (Xv ep (l++m))=J (Xv ep l)+J (Xv ep m):=by rw[X6D,LA]
 have hb:∀(p:Nat) (X:UInt8),(XV x f t)[p]? =some X->(XV d f t)[p]? =some X\/(XV Y f t)[p]? =some X:=fun p X hX=>by
  have hp:p<64*(t-f).toNat:=by rw[<-sy];exact(GS.1 hX).1
  unfold XV at hX |-;rw[Xcw c1 _ _ _ Oa hp] at hX;rw[Xcw h.ok _ _ _ Oa hp,Xcw uC _ _ _ Oa hp];exact hbyte Oa hX
 have v9:J (Xv ep l)+J (Xv ep m)<=(t-f).toNat*64:=Oa
 have hZ:XbJ ((XV x f t).drop (J (Xv ep l))) (Xv ep m++replicate ((t-f).toNat*64-J (Xv ep (l++m))) 0):=by
  refine⟨by rw[LD,sy,LA,length_replicate,kG];omega,fun p z y hz hy=> ?_⟩;rw[getElem?_drop] at hz;rcases hb _ z hz with q|q
  ·right;rw[sA,getElem?_append_right Oa,getElem?_replicate] at q;split at q
   ·simp at q;exact q.symm
   ·simp at q
  ·left;rw[mW,X6D,AS,getElem?_append_right Oa,Nat.add_sub_cancel_left] at q;rw[X6D] at hy;rw[hy] at q;simpa using q.symm
 have hfr:(XV x f t).take (J (Xv ep l))=Xv ep l:=by
  apply ext_getElem?;intro p;by_cases hp:p<J (Xv ep l)
  ·rw[getElem?_take,PI hp];have hz:(XV x f t)[p]? =some (XV x f t)[p]:=getElem?_eq_getElem Oa;rcases hb _ _ hz with q|q
   ·rw[sA,getElem?_append_left hp] at q;rw[hz,q]
   ·rw[mW,X6D,AS,getElem?_append_left hp] at q;rw[hz,q]
  ·rw[getElem?_take,NI hp,getElem?_eq_none Oa]
 have hsp:Ua x f t ep 0=0:=by
  unfold Ua;rw[NI (by rw[c1.v];simp),NI (by rw[c1.on];simp),NI Oa,NI (by have:=h.eo;have:=h.ep1;omega)]
 have hsplit:XV x f t=Xv ep l++(XV x f t).drop (J (Xv ep l)):=by
  conv=>lhs;rw[<-take_append_drop (J (Xv ep l)) (XV x f t)]
  rw[hfr]
 obtain⟨k,hk,e⟩:=XlK h.eo h.ep1 m _ ((XV x f t).drop (J (Xv ep l))) (0+J (Xv ep l)) (J ((XV x f t).drop (J (Xv ep l)))+1) (fun r hr=>hv r (by simp[hr])) hZ (Nat.lt_succ_self _);refine⟨k,hk,?_⟩;have mU:=X9q h.eo h.ep1 l ((XV x f t).drop (J (Xv ep l))) 0 (J (XV x f t)+1) (J ((XV x f t).drop (J (Xv ep l)))+1) (fun r hr=>hv r (by simp[hr])) (by rw[<-hsplit];exact Nat.lt_succ_self _) (Nat.lt_succ_self _);rw[<-hsplit,e] at mU;unfold V8 X0b;rw[NI (by rw[hsp];simp),mU];refine Prod.ext rfl (Prod.ext ?_ rfl);simp only;omega
def Log.trace (h:Log d f t ep l tail) (he:(Uc d f t ep tail m).2.2=0):
  J (Yy d f t ep tail m).1=J (V7 d f t tail (Xv ep m))+2/\
  (∀i,i<=J (V7 d f t tail (Xv ep m))->(Yy d f t ep tail m).1[i]? =some (Yt d (f.toNat+tail.toNat/64) ((V7 d f t tail (Xv ep m)).take i)))/\
  (Yy d f t ep tail m).1[J (V7 d f t tail (Xv ep m))+1]? =some (Uc d f t ep tail m).1:=by
 rw[X3q] at he;obtain⟨s1,s2,s3,s4⟩:=X3N he;obtain⟨g1,g2,g3⟩:=X6R h.few he;rw[g3,s4];unfold X3O;simp only;generalize V7 d f t tail (Xv ep m)=C;generalize f.toNat+tail.toNat/64=a;have hrl:=X7f C d a;refine⟨by rw[LA,hrl];rfl,fun i hi=> ?_,by rw[getElem?_append_right Oa,hrl,Nat.sub_self];rfl⟩;rw[getElem?_append_left Oa];clear s1 s2 s3 s4 g1 g2 g3 he hrl h;induction C generalizing d a i with
 |nil=>
  obtain rfl:i=0:=by simpa using hi
  rfl
 |cons b C ih=>
  cases i with
  |zero=>rfl
  |succ i=>
   rw[cD,getElem?_cons_succ,take_succ_cons,Yt];exact ih _ _ (by simpa using hi)
def Log.crash (h:Log d f t ep l tail) (keep:List Int):Log (Vk (V5 d keep)) f t ep l tail:=by
 obtain⟨c1,c2,c3⟩:=X70 h.ok keep;have h4:=h.len;have hs:(Vk (V5 d keep)).aa=d.aa:=by
  obtain⟨w1,w2,_⟩:=X2j h.ok.v;have dA:V5 d keep=⟨Vl d (Vo keep),[],false⟩:=PI h.ok.v;have fK:Vl d (Vo keep)=d.aa:=by
   unfold Vl;rw[h.af];rfl
  have hp:∀x:ak,(Vk x).aa=x.aa:=fun x=>by
   unfold Vk;split<;>rfl
  rw[hp,dA];exact fK
 refine⟨c1,⟨Oa,by rw[c3];simp⟩,c3,Oa,h.f0,h.ft,by rw[c2];exact h.t24,h.eo,h.ep1,h.tl,h.room,?_,h.ents⟩;rw[<-h.str];unfold XV;have sx:=h.f0;have hft:=h.ft;have vc:=h.t24;refine X6B c1 h.ok c2.symm _ _ Oa fun k _ hk=> ?_;rw[Xay c3 Oa,Xay h.af Oa];simp only[hs]
def Log.torn (h:Log d f t ep l tail) (he:(Uc d f t ep tail m).2.2=0) (hv:∀r∈l++m,J (X0e r)<=60000) (i:Nat) (hi:i<J (Yy d f t ep tail m).1) (keep:List Int):
  ∃x k,(Yy d f t ep tail m).1[i]? =some x/\k<=J m/\(i+1=J (Yy d f t ep tail m).1->k=J m)/\
   V8 (Vk (V5 x keep)) f t ep=(l++m.take k,tail+J (Xv ep (m.take k)),0):=by
 obtain⟨t1,t2,t3⟩:=h.trace he;have hem:V9 m=0:=by
  rw[h.err] at he;by_cases q:V9 m=0
  ·exact q
  ·rw[PI q] at he;exact he
 have hlv:∀r∈l++m,X6l r:=fun r hr=>⟨Xav (XgS h.ents hem) r hr,hv r hr⟩
 rw[t1] at hi |-;by_cases hl:i<=J (V7 d f t tail (Xv ep m))
 ·obtain⟨k,hk,e⟩:=Xxj h he hlv i keep;exact⟨_,k,t2 i hl,hk,fun q=>Oa,e⟩
 ·obtain rfl:i=J (V7 d f t tail (Xv ep m))+1:=by omega
  have L2:=(h.app he).crash keep;refine⟨_,J m,t3,Nat.le_refl _,fun _=>rfl,?_⟩;rw[take_length,L2.scan hv];rw[X3q] at he;obtain⟨g1,g2,g3⟩:=X6R h.few he;rw[g2]
def Xe0 {a:Int} (h:∀w∈af,w.at_≠a):∀n,VF af a s n=s
 |0=>rfl
 |n+1=>by
  rw[VF];cases hw:af[n]? with
  |none=>exact Xe0 h n
  |some w=>
   simp only;rw[NI (h w (mem_of_getElem? hw)),Xe0 h n]
def Xgl {j:Nat} (h:∀w∈af,w.at_.toNat≠j):∀n,(VH rows af kv n)[j]? =rows[j]?
 |0=>rfl
 |n+1=>by
  rw[VH];cases hw:af[n]? with
  |none=>exact Xgl h n
  |some w=>
   simp only;unfold X6c;rw[getElem?_set_ne (h w (mem_of_getElem? hw)),Xgl h n]
theorem XzJ (x:ak):(Vk x).aa=x.aa:=by
 unfold Vk;split<;>rfl
def Xyb {x:ak} (h:DOk x) (keep:List Int):(Vk (V5 x keep)).aa=Vl x (Vo keep):=by
 rw[XzJ,show V5 x keep=⟨Vl x (Vo keep),[],false⟩ from PI h.v]
def XkK {x:ak} (hx:DOk x) {j:Nat} (hj:j<J x.aa) (h:∀w∈x.pending,w.at_≠(j:Nat)) (keep:List Int):Yi (Vk (V5 x keep)) j=Yi x j:=by
 obtain⟨c1,c2,c3⟩:=X70 hx keep;rw[Xay c3 Oa];have hv:=X2j hx.v;have hn:∀w∈x.pending,w.at_.toNat≠j:=fun w hw=>by
  have:=(hv.2.2.2 w hw).1;have:=h w hw;omega
 have e:(Vk (V5 x keep)).aa[j]? =x.aa[j]? :=by rw[Xyb hx];exact Xgl hn _
 rw[getElem?_eq_getElem Oa,getElem?_eq_getElem hj,Option.some.injEq] at e;rw[e];unfold Yi;rw[Xe0 h,getElem?_eq_getElem hj];rfl
def Xxa (hp:d.pending=[]):∀w∈(Yt d a bs).pending,∃i b,bs[i]? =some b/\w=⟨((a+i:Nat):Int),b⟩:=fun w hw=>by
 obtain⟨i,hi⟩:=getElem?_of_mem hw;obtain⟨b,h1,h2⟩:=XhK bs d a i w hp hi;exact⟨i,b,h1,h2⟩
def Xzm (hd:DOk d) (hp:d.pending=[]) (hb:a+J bs<=J d.aa) (hc:∀c∈bs,J c=64) {j:Nat} (hj:j<J d.aa) (h:j<a\/a+J bs<=j) (keep:List Int):
  Yi (Vk (V5 (Yt d a bs) keep)) j=Yi d j:=by
 have hl:=X2J bs d a hd hb hc;rw[XkK hl (by rw[(X1n _ _ _).1];exact hj) (fun w hw=>by
  obtain⟨i,b,h1,rfl⟩:=Xxa hp w hw;have:=(GS.1 h1).1;simp only;omega) keep]
 exact(X4c bs d a j).1 h
def Xr3 (hd:DOk d) (hp:d.pending=[]) {j:Nat} (hj:j<J d.aa) (keep:List Int):Yi (Vk (V5 d keep)) j=Yi d j:=
 XkK hd hj (by rw[hp];simp) keep
def Good.torn {s:Sta} (h:Good d s0 l s) (he:(YF d s m).2.2=0) (hv:∀r∈l++m,J (X0e r)<=60000) {i:Nat}{x:ak} (hx:(dj d s m)[i]? =some x) (keep:List Int):
  ∃k,k<=J m/\(Yf s (m.take k)).2=0/\Vs (Vk (V5 x keep))=(UD (Yf s (m.take k)).1 (s.tail+J (Xv s0.ep (m.take k))),0):=by
 obtain⟨iM,c9,jn,kS⟩:=h.kept;obtain⟨G2,aT,hap,hst⟩:=h.logged he;have hxs:(Yy d (Xo d:Nat) (J d.aa:Nat) s0.ep s.tail m).1[i]? =some x:=by
  unfold dj at hx;rw[NI Je,c9] at hx;exact hx
 have hi:=(GS.1 hxs).1;obtain⟨y,k,y1,y2,y3,y4⟩:=h.log.torn hap hv i hi keep;rw[hxs] at y1;obtain rfl:x=y:=by simpa using y1
 obtain⟨t1,t2,t3⟩:=h.log.trace hap;have hsp:VD (Vk (V5 x keep))=(s0,true)/\UH (Vk (V5 x keep))=0/\J (Vk (V5 x keep)).aa=J d.aa:=by
  have hlo:=X0m h.lay;have hk:=X5O s0.ep;have hin:=X1L h.lay hk;have aQ:=h.lay;have key:∀e:ak,DOk e->J e.aa=J d.aa->(∀j,j<Xo d->Yi e j=Yi d j)->VD e=(s0,true)/\UH e=0/\J e.aa=J d.aa:=fun e dH hl kT=>by
   have s7:=X1L h.lay (k:=0) Oa;have s8:=X1L h.lay (k:=1) Oa;refine⟨?_,X8a dH Oa,hl⟩;have p0:=XcD h.log.ok dH hl h.lay (k:=0) Oa fun j hj=>(kT j Oa).symm;have p1:=XcD h.log.ok dH hl h.lay (k:=1) Oa fun j hj=>(kT j Oa).symm;unfold VD;rw[p0,p1];exact h.pick
  rw[t1] at hi;rw[X3q] at hap;obtain⟨s1,s2,s3,s4⟩:=X3N hap;have iQ:=h.log.tl;have hle:=h.log.len;obtain⟨k1,k2,k3⟩:=X5g (A:=Xv s0.ep m) h.log.ok h.log.f0 h.log.ft Oa Oa s3;by_cases hil:i<=J (V7 d (Xo d:Nat) (J d.aa:Nat) s.tail (Xv s0.ep m))
  ·have fP:=t2 i hil;rw[hxs,Option.some.injEq] at fP;have lP:∀c∈(V7 d (Xo d:Nat) (J d.aa:Nat) s.tail (Xv s0.ep m)).take i,J c=64:=fun c hc=>k2 c (mem_of_mem_take hc);have hlt:J ((V7 d (Xo d:Nat) (J d.aa:Nat) s.tail (Xv s0.ep m)).take i)<=J (V7 d (Xo d:Nat) (J d.aa:Nat) s.tail (Xv s0.ep m)):=by rw[LT];omega
   have hlk:=X2J _ d (((Xo d:Nat):Int).toNat+s.tail.toNat/64) h.log.ok Oa lP;obtain⟨c1,c2,c3⟩:=X70 hlk keep;rw[fP];refine key _ c1 (by rw[c2,(X1n _ _ _).1]) fun j hj=> ?_;exact Xzm h.log.ok h.log.af Oa lP Oa (.inl Oa) keep
  ·have fP:(Yy d (Xo d:Nat) (J d.aa:Nat) s0.ep s.tail m).1[i]? =some (Uc d (Xo d:Nat) (J d.aa:Nat) s0.ep s.tail m).1:=by
    rw[show i=J (V7 d (Xo d:Nat) (J d.aa:Nat) s.tail (Xv s0.ep m))+1 by omega];exact t3
   rw[hxs,Option.some.injEq] at fP;have hL:=h.log.app (m:=m) (by rw[X3q];exact hap);have bz:=h.log.app_len (m:=m) (by rw[X3q];exact hap);obtain⟨c1,c2,c3⟩:=X70 hL.ok keep;rw[fP];refine key _ c1 (by rw[c2,bz]) fun j hj=> ?_;rw[Xr3 hL.ok hL.af Oa keep];exact Xlr h.log (by rw[X3q];exact hap) Oa
 have hok:(Yf s (m.take k)).2=0:=by
  have:=Xa8 (m.take k) s (m.drop k);rw[take_append_drop] at this;by_cases c:(Yf s (m.take k)).2=0
  ·exact c
  ·rw[PI c] at this;rw[this] at aT;exact absurd aT c
 refine⟨k,y2,hok,?_⟩;have uD:Xo (Vk (V5 x keep))=Xo d:=by unfold Xo Xx;rw[hsp.2.2]
 unfold Vs;rw[NI (by rw[hsp.2.1];simp),hsp.1,NI Oc];simp only;rw[uD,hsp.2.2,y4];have oc:=XcF (m.take k) s 0 ⟨Int.le_refl _,Oa⟩ ⟨jn,kS⟩;unfold X2q;simp only;have e:Yf s0 (l++m.take k)=Yf (UD s 0) (m.take k):=by rw[Xa8,h.play,NI Oc]
 rw[e,oc.1,NI (by rw[hok];simp),oc.2 hok,Xlq]
structure Stp where
 save:Bool
 l:List Rcd
def X7w (n:Int) (l:List Stp):Bool:=decide (16<=n/\n<=40/\J l<=8)&&l.all fun p=>X26 p.l
def X2Y (x:ak×Sta) (p:Stp):ak×Sta:=
 let r:=if p.save=true then Up x.1 x.2 else YF x.1 x.2 p.l
 if r.2.2=0 then (r.1,r.2.1) else x
def U4 (n:Int) (l:List Stp):ak×Sta:=l.foldl X2Y ((X0F n).1,(X0F n).2.1)
def Xi8 (hd:DOk d):∀(N F j:Nat),F+N<=J d.aa->j<64*N->(Ug d F N)[j]? =((YZ d ((F+j/64:Nat):Int)).1)[j%64]?
 |0,F,j,_,h=>Oa
 |n+1,F,j,hn,h=>by
  have hl:=X1j hd n F Oa;rw[X95];by_cases q:j<64*n
  ·rw[getElem?_append_left Oa];exact Xi8 hd n F j Oa q
  ·rw[getElem?_append_right Oa,hl,show j/64=n by omega,show j%64=j-64*n by omega]
def Xui (hd:DOk d) (hp:d.pending=[]) (aQ:16<=J d.aa) {T:Nat} (hz:X4x (XV d (Xo d:Nat) (J d.aa:Nat)) T) {i:Nat} (h1:Xo d*64+T<=i) (h2:i<J d.aa*64):
  ∃b,d.aa[i/64]? =some b/\J b=64/\b[i%64]? =some 0:=by
 obtain⟨l1,l2,l3⟩:=X0m aQ;obtain⟨b,hb⟩:∃b,d.aa[i/64]? =some b:=⟨_,getElem?_eq_getElem Oa⟩
 have hv:=(X2j hd.v).2.2.1 b (mem_of_getElem? hb);refine⟨b,hb,hv,?_⟩;have hs:XV d (Xo d:Nat) (J d.aa:Nat)=Ug d (Xo d) (J d.aa-Xo d):=by
  unfold XV;rw[Int.toNat_natCast,show(((J d.aa:Nat):Int)-(Xo d:Nat)).toNat=J d.aa-Xo d by omega]
 rw[hs] at hz;have hlen:=X1j hd (J d.aa-Xo d) (Xo d) Oa;have ha:=Xi8 hd (J d.aa-Xo d) (Xo d) (i-64*Xo d) Oa Oa;rw[show Xo d+(i-64*Xo d)/64=i/64 by omega,show(i-64*Xo d)%64=i%64 by omega,X6C hd Oa] at ha;have kT:Yi d (i/64)=b:=by
  unfold Yi;rw[hp,hb];rfl
 rw[kT] at ha;rw[<-ha];unfold X4x at hz;have h3:((Ug d (Xo d) (J d.aa-Xo d)).drop T)[i-64*Xo d-T]? =some 0:=by
  rw[hz,getElem?_replicate,PI Oa]
 rw[getElem?_drop,show T+(i-64*Xo d-T)=i-64*Xo d by omega] at h3;exact h3
def Xlb (h:X26 l=true):∀r∈l,J (X0e r)<=60000:=fun r hr=>Xh4 (by have:=(Xgx h).2 r hr;omega)
def XiN {l:List Stp} (h:X7w n l=true):16<=n/\n<=40/\J l<=8/\∀p∈l,X26 p.l=true:=by
 unfold X7w at h;rw[Bool.and_eq_true,decide_eq_true_eq,all_eq_true] at h;exact⟨h.1.1,h.1.2.1,h.1.2.2,h.2⟩
def XpP {s:Sta} (g:Good d s0 l s) (he:(Up d s).2.2=0):J (Up d s).1.aa=J d.aa:=by
 obtain⟨hv,_,_,_⟩:=g.kept;obtain⟨_,_,t0,t1,t2,t3,_⟩:=Vz.1 hv;have bz:=g.log.len;unfold Up at he |-;by_cases c1:bW d s≠0
 ·rw[PI c1] at he;exact absurd he c1
 rw[NI c1] at he |-;unfold Vi at he |-;by_cases c2:(Xx d*64:Nat)<J (XQ s.g s.rules)
 ·rw[PI c2] at he;simp at he
 rw[NI c2];have bA:Xx d<=500:=OZ
 have b5:=X7z (XQ s.g s.rules);exact(Xbo ⟨g.log.ok,g.log.af,g.lay,g.log.len,X5O _,Oa⟩ (X7g fun x hx=>by
  simp only[mem_cons,mem_nil_iff,or_false] at hx;rcases hx with rfl|rfl|rfl|rfl
  ·omega
  ·omega
  ·omega
  ·exact b5)).2.2.1
def Xw0 {s:Sta} (g:Good d s0 l s) (he:(YF d s m).2.2=0):J (YF d s m).1.aa=J d.aa:=by
 obtain⟨k1,k2,k3,k4⟩:=g.logged he;have c9:=g.kept.2.1;have hal:=g.log.app_len k3;unfold YF at he |-;by_cases c1:UH d≠0
 ·rw[PI c1] at he;exact absurd he c1
 rw[NI c1];by_cases c2:YH s=false
 ·rw[NI c1,PI c2] at he;simp at he
 rw[NI c2,NI (by simp[k2])];rw[c9];simp only;rw[NI (by simp[k3])];exact hal
def XnX (h1:16<=n) (h2:n<=2000):After n ((X0F n).1,(X0F n).2.1):=by
 obtain⟨h3,h4,h5⟩:=Xea h1 h2;exact⟨⟨_,_,h4,Oc⟩,h4.log.af,Od⟩
def XhN {p:Stp} (h:After n x) (hp:X26 p.l=true):After n (X2Y x p):=by
 obtain⟨s0,m,g,hm⟩:=h.g;unfold X2Y;simp only;by_cases hs:p.save=true
 ·rw[PI hs];by_cases he:(Up x.1 x.2).2.2=0
  ·rw[PI he];obtain⟨k1,k2⟩:=g.save he;exact⟨⟨_,_,k1,Oc⟩,k1.log.af,by have:=XpP g he;have:=h.len;simp only;omega⟩
  ·rw[NI he];exact h
 ·rw[NI hs];by_cases he:(YF x.1 x.2 p.l).2.2=0
  ·rw[PI he];obtain⟨k1,k2,k3,k4⟩:=g.logged he;refine⟨⟨_,_,k1,fun r hr=> ?_⟩,k1.log.af,by have:=Xw0 g he;have:=h.len;simp only;omega⟩;rcases mem_append.1 hr with h|h
   ·exact hm r h
   ·exact Xlb hp r h
  ·rw[NI he];exact h
def XhC:∀(l:List Stp) (x:ak×Sta),After n x->(∀p∈l,X26 p.l=true)->After n (l.foldl X2Y x)
 |[],x,h,_=>h
 |p::l,x,h,hl=>XhC l _ (XhN h (hl p (mem_cons_self ..))) fun q hq=>hl q (mem_cons_of_mem _ hq)
def Xsa (h:After n x):Vs x.1=(x.2,0):=by
 obtain⟨s0,m,g,hm⟩:=h.g;exact g.recov hm
end Go.Fw
