/- Records played keep a state valid; a disk that holds a state, and what is recovered from it; plain Lean. -/
import Derived.Test.YtpbgjcbkhgfmkaaGreatDoorM46
import Derived.Test.YtpbgjcbkhgfmkaaGreatDoorM59
set_option maxHeartbeats 64000000
namespace Go.Fw
open Go List
set_option linter.unusedVariables false
set_option linter.unusedSimpArgs false
variable{d e:ak}{l m:List Rcd}{s s0:Sta}
theorem XjI (hd:DOk d) (he:DOk e) (hl:e.aa.length=d.aa.length) (aL:16<=d.aa.length) {k:Nat} (hk:k<2) (hv:∀j,j=k\/(2+k*Xt d<=j/\j<2+k*Xt d+Xt d)->XI d j=XI e j):Vd e k=Vd d k:=by
 have hs:Xt e=Xt d:=by unfold Xt;rw[hl]
 have hin:=X1l aL hk;have hlo:=Vm aL;have ha:X0D e k=X0D d k:=by
  unfold X0D;rw[hs];exact(X6b hd he hl (Xt d) (2+k*Xt d) (by omega) fun j h1 h2=>hv j (.inr ⟨h1,h2⟩)).symm
 have hr:(Yo e (k:Nat)).1=(Yo d (k:Nat)).1:=by rw[X3A he (by omega),X3A hd (by omega),hv k (.inl rfl)]
 have h1:∀h,X3T e k h↔X3T d k h:=fun h=>by unfold X3T;rw[hs]
 have h2:∀h,X4D e k h=X4D d k h:=fun h=>by unfold X4D;rw[ha]
 unfold Vd;rw[hr];simp only;by_cases c:(YZ (Yo d (k:Nat)).1).2=true/\X3T d k (YZ (Yo d (k:Nat)).1).1
 ·rw[PI c,PI ⟨c.1,(h1 _).2 c.2⟩,h2]
 ·rw[NI c,NI (fun q=>c ⟨q.1,(h1 _).1 q.2⟩)]
theorem XuH (s:Sta) (a b:Int):Uz (Uz s a) b=Uz s b:=rfl
theorem XxE (s:Sta):Uz s s.tail=s:=rfl
theorem XuY {u W:List UInt8} (h:∀x∈u,x≠0):Y5 (u++0::W)=u/\X1o (u++0::W)=true:=by
 constructor
 ·unfold Y5;rw[takeWhile_append_of_pos (fun x hx=>by simpa using h x hx),takeWhile_cons_of_neg (by simp),append_nil]
 ·unfold X1o;simp
theorem Xxe {b:List UInt8} (h:X1o b=true):b.take ((Y5 b).length+1)=Y5 b++[0]:=by
 have hlt:=X88 h;have e:Zq0 b=some 0:=by
  unfold Zq0;have h0:(b.dropWhile fun x=>x !=0).head? =some 0:=by
   have e:b.dropWhile (fun x=>x !=0)=b.drop (Y5 b).length:=(X5E (p:=fun x=>x !=0) b).2;have hne:(b.dropWhile fun x=>x !=0)≠[]:=by
    rw[e];intro q;have:=CG length q;simp only[LD,length_nil] at this;omega
   have:=head?_dropWhile_not (fun x:UInt8=>x !=0) b;cases hh:(b.dropWhile fun x=>x !=0).head? with
   |none=>exact absurd (head?_eq_none_iff.1 hh) hne
   |some y=>
    rw[hh] at this;simpa using this
  rw[(X5E (p:=fun x=>x !=0) b).2,head?_drop] at h0;exact h0
 unfold Zq0 at e;rw[X8q e,<-Xd7]
theorem XiB (ep:Int):∀(n:Nat) (b:List UInt8) (a:Nat),b.length<n->a<=(V6 ep n b a).2/\(V6 ep n b a).2-a<=b.length/\
  ∀(Z:List UInt8) (m:Nat),(b.take ((V6 ep n b a).2-a)++Z).length<m->V6 ep m (b.take ((V6 ep n b a).2-a)++Z) a=((V6 ep n b a).1++(V6 ep (Z.length+1) Z (V6 ep n b a).2).1,(V6 ep (Z.length+1) Z (V6 ep n b a).2).2)
 |0,b,a,h=>absurd h (Nat.not_lt_zero _)
 |n+1,b,a,h=>by
  by_cases c:X1o b=true/\(X0t (Y5 b) ep).2=true
  ·have hlt:=X88 c.1;obtain⟨i1,i2,i3⟩:=XiB ep n (b.drop ((Y5 b).length+1)) (a+((Y5 b).length+1)) (by rw[LD];omega);rw[X6A ep b a n c];simp only;generalize V6 ep n (b.drop ((Y5 b).length+1)) (a+((Y5 b).length+1))=r at*;rw[LD] at i2;refine⟨by omega,by omega,fun Z m hm=> ?_⟩;have ht:b.take (r.2-a)=Y5 b++0::(b.drop ((Y5 b).length+1)).take (r.2-(a+((Y5 b).length+1))):=by
    have e:r.2-a=((Y5 b).length+1)+(r.2-(a+((Y5 b).length+1))):=by omega
    rw[e,take_add,Xxe c.1,AS];rfl
   rw[ht,AS,cons_append] at hm |-;obtain⟨k1,k2⟩:=XuY (W:=(b.drop ((Y5 b).length+1)).take (r.2-(a+((Y5 b).length+1)))++Z) (XfS b);cases m with
   |zero=>omega
   |succ m=>
    rw[X6A ep _ a m ⟨k2,by rw[k1];exact c.2⟩,k1];have hd:(Y5 b++0::((b.drop ((Y5 b).length+1)).take (r.2-(a+((Y5 b).length+1)))++Z)).drop ((Y5 b).length+1)=(b.drop ((Y5 b).length+1)).take (r.2-(a+((Y5 b).length+1)))++Z:=by
     rw[<-drop_drop,drop_left];rfl
    rw[hd,i3 Z m (by simp only[LA,LC] at hm |-;omega)];rfl
  ·rw[X5O ep b a n c];refine⟨Nat.le_refl _,by simp,fun Z m hm=> ?_⟩;simp only[Nat.sub_self,take_zero,nil_append] at hm |-;rw[XbW ep m (Z.length+1) Z a hm (by omega)]
theorem Xg7 (ep:Int) (S:List UInt8):(X05 ep S).2<=S.length/\∀Z,X05 ep (S.take (X05 ep S).2++Z)=((X05 ep S).1++(V6 ep (Z.length+1) Z (X05 ep S).2).1,(V6 ep (Z.length+1) Z (X05 ep S).2).2):=by
 obtain⟨h1,h2,h3⟩:=XiB ep (S.length+1) S 0 (Nat.lt_succ_self _);refine⟨h2,fun Z=> ?_⟩;unfold X05;exact h3 Z _ (Nat.lt_succ_self _)
structure Rec (d:ak) (s0:Sta) (l:List Rcd) (s:Sta):Prop where
 ok:DOk d
 lay:16<=d.aa.length
 v0:YN s0=true
 t0:s0.tail=0
 pick:VW d=(s0,true)
 scan:(X05 s0.ep (Y9 d (X9 d:Nat) (d.aa.length:Nat))).1=l
 tail:s.tail=((X05 s0.ep (Y9 d (X9 d:Nat) (d.aa.length:Nat))).2:Nat)
 play:YA s0 l=(Uz s 0,0)
theorem Rec.of (h:VF d=(s,0)):∃s0 l,Rec d s0 l s:=by
 unfold VF at h;by_cases c1:Uo d≠0
 ·rw[PI c1] at h;exact absurd (CG Prod.snd h) c1
 rw[NI c1] at h;obtain⟨hd,aL⟩:=Xe3 (by simpa using c1);by_cases c2:(VW d).2=false
 ·rw[PI c2] at h;simp at h
 rw[NI c2] at h;have c2:(VW d).2=true:=by simpa using c2
 obtain⟨v0,t0⟩:=XjM c2;obtain⟨v,hr,v1,v2,v3,v4,v5,v6⟩:=Vk.1 v0;unfold X0B at h;rw[NI (by rw[XdR hd aL (by omega) v4];simp)] at h;unfold X47 at h;simp only at h;by_cases c3:(YA (VW d).1 (X05 (VW d).1.ep (Y9 d (X9 d:Nat) (d.aa.length:Nat))).1).2≠0
 ·rw[PI c3] at h;simp at h
 rw[NI c3] at h;simp only[Prod.mk.injEq,and_true] at h;have c3:(YA (VW d).1 (X05 (VW d).1.ep (Y9 d (X9 d:Nat) (d.aa.length:Nat))).1).2=0:=by simpa using c3
 have hk:=XbH _ _ v0 c3;refine⟨(VW d).1,_,hd,aL,v0,t0,Prod.ext rfl c2,rfl,by rw[<-h];rfl,?_⟩;refine Prod.ext ?_ c3;rw[<-h];show _=Uz (Uz _ _) 0;rw[XuH];have e:(YA (VW d).1 (X05 (VW d).1.ep (Y9 d (X9 d:Nat) (d.aa.length:Nat))).1).1.tail=0:=hk.tl.trans t0;conv=>lhs;rw[<-XxE (YA (VW d).1 (X05 (VW d).1.ep (Y9 d (X9 d:Nat) (d.aa.length:Nat))).1).1,e]
theorem Rec.to (h:Rec d s0 l s):VF d=(s,0):=by
 obtain⟨v,hr,v1,v2,v3,v4,v5,v6⟩:=Vk.1 h.v0;unfold VF;rw[NI (by rw[X60 h.ok h.lay];simp),h.pick,NI (by simp)];simp only;unfold X0B;rw[NI (by rw[XdR h.ok h.lay (by omega) v4];simp),h.scan,<-h.tail];unfold X47;simp only;rw[h.play,NI (by simp)];rfl
theorem Rec.len (h:Rec d s0 l s):(Y9 d (X9 d:Nat) (d.aa.length:Nat)).length=64*(d.aa.length-X9 d)/\0<=s.tail/\s.tail<=((d.aa.length-X9 d:Nat):Int)*64:=by
 have hlo:=Vm h.lay;have e:(Y9 d (X9 d:Nat) (d.aa.length:Nat)).length=64*(d.aa.length-X9 d):=by
  unfold Y9;rw[X0Y h.ok _ _ (by omega)];omega
 have hc:=(Xg7 s0.ep (Y9 d (X9 d:Nat) (d.aa.length:Nat))).1;have ht:=h.tail;exact⟨e,by omega,by omega⟩
theorem Rec.kept (h:Rec d s0 l s):YN s=true/\s.ep=s0.ep/\0<=s.tail/\s.tail<=262144:=by
 have k:=XbH l s0 h.v0 (by rw[h.play]);rw[h.play] at k;obtain⟨h1,h2,h3⟩:=h.len;have h4:=(X1U h.ok.v).2.1;have ht:0<=s.tail/\s.tail<=262144:=by omega
 refine⟨?_,k.ep,ht.1,ht.2⟩;have:=k.v
 rwa [show (Uz s 0,(0:Int)).1=Uz s 0 from rfl,XeP ⟨Int.le_refl _,by omega⟩ ht] at this
theorem Rec.other {t:Sta} (h:Rec d s0 l s) (he:DOk e) (hl:e.aa.length=d.aa.length) (hv:∀j,j<X9 d->XI e j=XI d j)
  (hs:X05 s0.ep (Y9 e (X9 d:Nat) (d.aa.length:Nat))=(l++m,t.tail.toNat)) (h0:0<=t.tail) (hp:YA (Uz s 0) m=(Uz t 0,0)):Rec e s0 (l++m) t:=by
 have bD:Xt e=Xt d:=by unfold Xt;rw[hl]
 have hg:X9 e=X9 d:=by unfold X9;rw[bD]
 have aL:=h.lay;have ux:=X1l h.lay (k:=0) (by omega);have uy:=X1l h.lay (k:=1) (by omega);have p0:=XjI h.ok he hl h.lay (k:=0) (by omega) fun j hj=>(hv j (by omega)).symm;have p1:=XjI h.ok he hl h.lay (k:=1) (by omega) fun j hj=>(hv j (by omega)).symm;refine⟨he,by omega,h.v0,h.t0,by unfold VW;rw[p0,p1];exact h.pick,by rw[hg,hl,hs],by rw[hg,hl,hs];simp only;omega,?_⟩;rw[Xde,h.play,NI (by simp)];exact hp
theorem Xwr (hd:DOk d) (aL:16<=d.aa.length) {T:Nat} (hT:T<=64*(d.aa.length-X9 d)):
  (cK d T).length=d.aa.length-(X9 d+T/64)/\(∀c∈cK d T,c.length=64)/\X9 d+T/64+(cK d T).length<=d.aa.length/\
  (U6 d (X9 d) (d.aa.length-X9 d)).take (64*(T/64))++(cK d T).flatten=(U6 d (X9 d) (d.aa.length-X9 d)).take T++replicate (64*(d.aa.length-X9 d)-T) 0:=by
 have hlo:=Vm aL;unfold cK;cases hq:d.aa.length-(X9 d+T/64) with
 |zero=>
  simp only;refine⟨rfl,by simp,by simp only[length_nil];omega,?_⟩;have e:64*(T/64)=T:=by omega
  have e2:64*(d.aa.length-X9 d)-T=0:=by omega
  rw[e,e2];simp
 |succ n=>
  simp only;have hrl:=X6g hd (a:=X9 d+T/64) (by omega);refine⟨by simp,fun c hc=> ?_,by simp only[LC,length_replicate];omega,?_⟩
  ·rcases mem_cons.1 hc with rfl|hc
   ·rw[LA,LT,length_replicate];omega
   ·rw[eq_of_mem_replicate hc];rfl
  ·have e:d.aa.length-X9 d=T/64+(n+1):=by omega
   have bN:T=64*(T/64)+T%64:=by omega
   have hz:(((Yo d ((X9 d+T/64:Nat):Int)).1.take (T%64)++replicate (64-T%64) 0)::replicate n Yy).flatten=(Yo d ((X9 d+T/64:Nat):Int)).1.take (T%64)++replicate (64-T%64+n*64) 0:=by
    rw[flatten_cons,Xh8,AS,replicate_append_replicate]
   rw[hz,e,X6V];have aK:=X0Y hd (T/64) (X9 d) (by omega);rw[take_append_of_le_length (by omega),take_of_length_le (by omega),U6];rw[take_append (l₁:=U6 d (X9 d) (T/64)) (i:=T),take_of_length_le (l:=U6 d (X9 d) (T/64)) (i:=T) (by omega),aK,show T-64*(T/64)=T%64 by omega,take_append_of_le_length (by omega)];rw[AS];congr 3;omega
theorem Rec.clean (h:Rec d s0 l s):(UQ d s).2=0/\Rec (UQ d s).1 s0 l s/\(UQ d s).1.pending=[]/\(UQ d s).1.aa.length=d.aa.length/\X3k (Y9 (UQ d s).1 (X9 d:Nat) (d.aa.length:Nat)) s.tail.toNat:=by
 obtain⟨gO,cJ,iT,lf⟩:=h.kept;obtain⟨l1,l2,l3⟩:=h.len;have hlo:=Vm h.lay;obtain⟨f1,f2,f3,f4⟩:=Xwr h.ok h.lay (T:=s.tail.toNat) (by omega);have hlk:=X1h (cK d s.tail.toNat) d (X9 d+s.tail.toNat/64) h.ok f3 f2;obtain⟨m1,m2,m3⟩:=X2E hlk;rw[(X0m _ _ _).1] at m2;have hst:=Xew (f:=X9 d) (n:=d.aa.length-X9 d) (a:=X9 d+s.tail.toNat/64) (bs:=cK d s.tail.toNat) h.ok (by omega) (by omega) (by omega) f2;have fY:∀j,j<X9 d->XI (Uw (Yc d (X9 d+s.tail.toNat/64) (cK d s.tail.toNat))).1 j=XI d j:=fun j hj=>by
  rw[X5B hlk (by rw[(X0m _ _ _).1];omega)];exact(X2l _ d _ j).1 (.inl (by omega))
 unfold UQ;rw[NI (by rw[X60 h.ok h.lay];simp),NI (by simp[gO]),NI (by omega)];simp only;generalize (Uw (Yc d (X9 d+s.tail.toNat/64) (cK d s.tail.toNat))).1=e at*;have hS:Y9 e (X9 d:Nat) (d.aa.length:Nat)=(Y9 d (X9 d:Nat) (d.aa.length:Nat)).take s.tail.toNat++replicate (64*(d.aa.length-X9 d)-s.tail.toNat) 0:=by
  unfold Y9;rw[Int.toNat_natCast,show((d.aa.length:Int)-(X9 d:Nat)).toNat=d.aa.length-X9 d by omega,hst,Nat.add_sub_cancel_left,f4,drop_of_length_le,append_nil];rw[X0Y h.ok _ _ (by omega)];omega
 have iB:=(Xg7 s0.ep (Y9 d (X9 d:Nat) (d.aa.length:Nat))).2 (replicate (64*(d.aa.length-X9 d)-s.tail.toNat) 0);have jd:=h.tail;have pZ:s.tail.toNat=(X05 s0.ep (Y9 d (X9 d:Nat) (d.aa.length:Nat))).2:=by omega
 rw[<-pZ,Xbu,h.scan] at iB;refine⟨TV,?_,m3,m2,?_⟩
 ·have:=h.other (m:=[]) (t:=s) m1 m2 fY (by rw[hS,iB]) iT rfl;simpa using this
 ·unfold X3k;rw[hS,LA,LT,l1,Nat.min_eq_left (by omega),length_replicate,drop_left' (by rw[LT,l1,Nat.min_eq_left (by omega)])];congr 1;omega
theorem Rec.logged (h:Rec d s0 l s) (hp:d.pending=[]) (hlen:d.aa.length<=2000) (hz:X3k (Y9 d (X9 d:Nat) (d.aa.length:Nat)) s.tail.toNat) (hv:∀r∈m,(X0k r).length<=60000) (he:(Ys d s m).2.2=0):
  Rec (Ys d s m).1 s0 (l++m) (Ys d s m).2.1/\(Ys d s m).1.aa.length=d.aa.length/\(Ys d s m).1.pending=[]:=by
 obtain⟨gO,cJ,iT,lf⟩:=h.kept;obtain⟨l1,l2,l3⟩:=h.len;have hlo:=Vm h.lay;obtain⟨_,_,_,_,v3,v4,_⟩:=Vk.1 h.v0;unfold Ys at he |-;rw[NI (by rw[X60 h.ok h.lay];simp),NI (by simp[gO])] at he |-;by_cases c:(YA s m).2≠0
 ·rw[PI c] at he;exact absurd he c
 rw[NI c] at he |-;have c:(YA s m).2=0:=by simpa using c
 rw[cJ] at he |-;simp only at he |-;by_cases c2:(Um d (X9 d:Nat) (d.aa.length:Nat) s0.ep s.tail m).2.2≠0
 ·rw[PI c2] at he;exact absurd he c2
 rw[NI c2];have c2:(Um d (X9 d:Nat) (d.aa.length:Nat) s0.ep s.tail m).2.2=0:=by simpa using c2
 have mw:VB d:=⟨hlen,by rw[hp];simp⟩
 rw[X8K] at c2;obtain⟨s1,s2,s3,s4⟩:=X4T c2;obtain⟨g1,g2,g3⟩:=Xcn mw c2;obtain⟨k1,k2,k3⟩:=X6R (A:=XZ s0.ep m) h.ok (by omega) (show((X9 d:Nat):Int)<(d.aa.length:Nat) by omega) (by omega) iT s3;have jx:=X1h (X0V d (X9 d:Nat) (d.aa.length:Nat) s.tail (XZ s0.ep m)) d (((X9 d:Nat):Int).toNat+s.tail.toNat/64) h.ok k1 k2;obtain⟨m1,m2,m3⟩:=X2E jx;rw[(X0m _ _ _).1] at m2;have hst:=Xkt (A:=XZ s0.ep m) h.ok (by omega) (show((X9 d:Nat):Int)<(d.aa.length:Nat) by omega) (by omega) iT s3 hz;have fY:∀j,j<X9 d->XI (Uw (Yc d (((X9 d:Nat):Int).toNat+s.tail.toNat/64) (X0V d (X9 d:Nat) (d.aa.length:Nat) s.tail (XZ s0.ep m)))).1 j=XI d j:=fun j hj=>by
  rw[X5B jx (by rw[(X0m _ _ _).1];omega)];exact(X2l _ d _ j).1 (.inl (by omega))
 rw[<-g3] at m1 m2 m3 hst fY;rw[g2];generalize (Um d (X9 d:Nat) (d.aa.length:Nat) s0.ep s.tail m).1=e at*;have iB:=(Xg7 s0.ep (Y9 d (X9 d:Nat) (d.aa.length:Nat))).2 (XZ s0.ep m++replicate ((Y9 d (X9 d:Nat) (d.aa.length:Nat)).length-s.tail.toNat-(XZ s0.ep m).length) 0);have jd:=h.tail;have pZ:s.tail.toNat=(X05 s0.ep (Y9 d (X9 d:Nat) (d.aa.length:Nat))).2:=by omega
 rw[<-pZ,h.scan,<-AS,<-hst] at iB;have hfr:=XeL (by omega) v4 m (replicate ((Y9 d (X9 d:Nat) (d.aa.length:Nat)).length-s.tail.toNat-(XZ s0.ep m).length) 0) s.tail.toNat _ _ (fun r hr=>⟨Xap s2 r hr,hv r hr⟩) (Nat.lt_succ_self (XZ s0.ep m++replicate ((Y9 d (X9 d:Nat) (d.aa.length:Nat)).length-s.tail.toNat-(XZ s0.ep m).length) 0).length) (Nat.lt_succ_self _);rw[Xbu] at hfr;simp only[Nat.succ_eq_add_one] at hfr;rw[hfr] at iB;have bf:=Xfx m s 0 ⟨Int.le_refl _,by omega⟩ ⟨iT,lf⟩;refine⟨(?_:Rec e s0 (l++m) (Uz (YA s m).1 (s.tail+((XZ s0.ep m).length:Nat)))),m2,m3⟩;refine h.other m1 m2 fY ?_ (show(0:Int)<=s.tail+((XZ s0.ep m).length:Nat) by omega) (Prod.ext (bf.2 c) (bf.1.trans c));rw[iB,append_nil];refine Prod.ext rfl ?_;show s.tail.toNat+(XZ s0.ep m).length=(s.tail+((XZ s0.ep m).length:Nat)).toNat;omega
open Go Go.Proofs Tryz
set_option maxRecDepth 100000
theorem Xsd (h:(VF d).2≠0):(VF d).1=Yd:=by
 grind [VF,X47]
theorem XtO (d:ak) (l:List Rcd) (hl:l.length<=9223372036854775807) (hr:∀r∈l,X0z r):Con prog 10 [] [XU d,.d (.sl 10 (l.map Yp))] [] (ab true):=by
 refine ZC1 func10 ntmps10 fun E=> ?_;have ha:=X64;have hsh:=Xbr d;have fP:=Xbi l hl;have aS:Xy Yd= .agg [.d (.sl 3 []),.d (.sl 5 []),ai 0,ai 0,.d (.sl 6 []),ai 0,ai 0,ai 0]:=rfl;by_cases q1:X3n d=true
 case neg=>
  rw[show X3n d=false by simpa using q1] at hsh;obtain⟨secs,ag,on⟩:=d;refine UU ?_
  (show AWP prog E _ _ _;refine X2 ?_;exact(show Xa _ _ _ _ _ from⟨_,St.le_refl _,⟨rfl,TV⟩,X4 _⟩))
 rw[q1] at hsh;by_cases q2:X1i l=true
 case neg=>
  rw[show X1i l=false by simpa using q2] at fP;obtain⟨secs,ag,on⟩:=d;refine UU ?_
  (show AWP prog E _ _ _;refine X2 ?_;exact(show Xa _ _ _ _ _ from⟨_,St.le_refl _,⟨rfl,TV⟩,X4 _⟩))
 rw[q2] at fP;obtain⟨n1,n2⟩:=XaU q1;have hw:VB d:=⟨by omega,by omega⟩
 have hrc:=X6F d hw;by_cases q3:(VF d).2=0
 case neg=>
  have hs:=X46 Yd ⟨X2Y,by simp⟩;rw[Xsd q3] at hrc;generalize (VF d).2=e at*;simp only[aS] at*;clear hw hl hr;obtain⟨secs,ag,on⟩:=d;refine Yw ?_;refine Z3 (af:=hrc) ?_;refine Yf ?_;refine Z3 (af:=hs) ?_;refine W5_ ?_
  (show AWP prog E _ _ _;refine X2 ?_;exact(show Xa _ _ _ _ _ from⟨_,St.le_refl _,⟨rfl,TV⟩,X4 _⟩))
 obtain⟨s,hS⟩:∃s,(VF d).1=s:=⟨_,rfl⟩
 have hR:VF d=(s,0):=Prod.ext hS q3;rw[hR] at hrc;obtain⟨s0,m,hC⟩:=Rec.of hR;have hv:=hC.kept.1;have hh:=X9C hv;obtain⟨k1,k2,k3,k4,k5⟩:=hC.clean;have bE:=XiV d s hh ⟨by omega,by omega⟩;rw[k1] at bE;have bK:VB (UQ d s).1:=⟨by rw[k4];omega,by rw[k3];simp⟩
 have dj:=X6F (UQ d s).1 bK;rw[k2.to] at dj;have jC:=X46 s hh;obtain⟨f1,f2⟩:=XfT q2 hr;have tR:=X7F (UQ d s).1 s l hh bK f2 f1;by_cases q4:(Ys (UQ d s).1 s l).2.2=0
 case neg=>
  generalize (Ys (UQ d s).1 s l).1=Y at*;generalize (Ys (UQ d s).1 s l).2.1=t at*;generalize (Ys (UQ d s).1 s l).2.2=e at*;generalize (UQ d s).1=X at*;clear hw hl hr hC hh k1 k2 k3 k4 k5 hv hR hS bK f1 f2 q3;obtain⟨secs,ag,on⟩:=d;obtain⟨xs,xp,xo⟩:=X;obtain⟨ys,yp,yo⟩:=Y;obtain⟨⟨ns,es,nn,ne⟩,rs,ts,ep,tail⟩:=s;obtain⟨⟨tn,te,tnn,tne⟩,tr,tt,tp,tl⟩:=t;simp only[Xy] at*;refine Yw ?_;refine Z3 (af:=hrc) ?_;refine Vb ?_;refine Z3 (af:=dj) ?_;refine YR ?_;refine Z3 (af:=jC) ?_;refine UD ?_
  (show AWP prog E _ _ _;refine X2 ?_;exact(show Xa _ _ _ _ _ from⟨_,St.le_refl _,⟨rfl,TV⟩,X4 _⟩))
 obtain⟨hL,j1,j2⟩:=k2.logged (m:=l) k3 (by rw[k4];omega) (by rw[show X9 (UQ d s).1=X9 d by unfold X9 Xt;rw[k4],k4];exact k5) (XgM q2) q4;have rM:=X6F (Ys (UQ d s).1 s l).1 ⟨by rw[j1,k4];omega,by rw[j2];simp⟩;rw[hL.to] at rM;have hst:=X46 (Ys (UQ d s).1 s l).2.1 (X9C hL.kept.1);rw[q4] at tR;clear hw hl hr hC hh k1 k2 k3 k4 k5 hv hR hS bK f1 f2 q3 hL j1 j2 q4;generalize (Ys (UQ d s).1 s l).1=Y at*;generalize (Ys (UQ d s).1 s l).2.1=t at*;generalize (UQ d s).1=X at*;obtain⟨secs,ag,on⟩:=d;obtain⟨xs,xp,xo⟩:=X;obtain⟨ys,yp,yo⟩:=Y;obtain⟨⟨ns,es,nn,ne⟩,rs,ts,ep,tail⟩:=s;obtain⟨⟨tn,te,tnn,tne⟩,tr,tt,tp,tl⟩:=t;simp only[Xy] at*;refine Yw ?_;refine Z3 (af:=hrc) ?_;refine Vb ?_;refine Z3 (af:=dj) ?_;refine YR ?_;refine Z3 (af:=jC) ?_;refine UV ?_;refine Z3 (af:=rM) ?_;refine XG ?_;refine Z3 (af:=hst) ?_;refine W6_ ?_
 (show AWP prog E _ _ _;refine X2 ?_;exact(show Xa _ _ _ _ _ from⟨_,St.le_refl _,⟨rfl,TV⟩,X4 _⟩))
end Go.Fw
