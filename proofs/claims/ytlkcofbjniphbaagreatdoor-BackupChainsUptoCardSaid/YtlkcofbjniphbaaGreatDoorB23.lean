/- The reader of records: numbers, names, in plain Lean; the program's. -/
import Derived.Test.YtlkcofbjniphbaaGreatDoorB22
set_option maxHeartbeats 16000000
namespace Go.Fw
open Go Go.Proofs
set_option maxRecDepth 100000
set_option linter.unusedVariables false
set_option linter.unusedSimpArgs false
def rkI (b:List UInt8) (a e limit:Int):Int×Int×Int:=if e≠0 then (0,a,e) else rkS b a.toNat 0 limit
def riS (b:List UInt8) (a e:Int):Int×Int×Int:=if e≠0 then (0,a,e) else XW b a
def rsS (b:List UInt8) (a e:Int):List UInt8×Int×Int:=if e≠0 then ([],a,e) else U2 b a 20
theorem Xdf (b:List UInt8) (a e limit:Int) (hb:b.length≤281474976710656) (ha:e=0→0≤a∧a≤b.length):Con Tryz.prog 107 [(0,oRd b a e)] [.ptr 0 0,ai limit] [(0,oRd b (rkI b a e limit).2.1 (rkI b a e limit).2.2)] (ai (rkI b a e limit).1):=by
 by_cases h:e=0
 ·subst h
  obtain⟨m,rfl⟩:∃m:Nat,a=m:=⟨a.toNat,by have:=ha rfl;omega⟩
  have:=ha rfl
  have hk:=Xox b m 0 limit hb (by omega)
  rw[show rkI b m 0 limit=rkS b m 0 limit by unfold rkI;simp]
  exact hk
 ·unfold rkI
  rw[if_pos h]
  refine Xg (xs:=[ai 0]) Tryz.func107 rfl Tryz.ntmps107 rfl rfl rfl (fun E=> ?_)
  refine XA ?_;refine QCa ?_;exact Qf
theorem X4r (b:List UInt8) (a e:Int) (hb:b.length≤281474976710656):Con Tryz.prog 110 [(0,oRd b a e)] [.ptr 0 0] [(0,oRd b (rsS b a e).2.1 (rsS b a e).2.2)] (XH (rsS b a e).1):=by
 refine Xg (xs:=[XH (rsS b a e).1]) Tryz.func110 rfl Tryz.ntmps110 rfl rfl rfl (fun E=> ?_)
 have hu:=X9C b a 20 hb
 unfold rsS
 generalize U2 b a 20=u at*
 obtain⟨u1,u2,u3⟩:=u
 obtain⟨r,hr⟩:∃r,r=(if e≠0 then (([]:List UInt8),a,e) else (u1,u2,u3)):=⟨_,rfl⟩
 rw[←hr]
 refine XD ?_;refine X1Q rfl (fun hq=> ?_) (fun hq=> ?_);refine Yc ?_;refine Qre ?_;refine XD ?_;(simp[*] at hr;subst hr;exact X1 ⟨_,St.le_refl _,⟨rfl,trivial⟩,Xn ⟨rfl,trivial⟩⟩);refine W6_ ?_;(simp[*] at hr;subst hr;exact X1 ⟨_,St.le_refl _,⟨rfl,trivial⟩,Xn ⟨rfl,trivial⟩⟩)
theorem Xg8 (b:List UInt8) (a m:Nat) (want:Int) (hw:want=5∨want=6) (gl gp:Nat→Int→Val×Int×Int):Vm gl gp m b a want=X53 b a want:=by
 unfold X53 Vm
 split
 ·rfl
 simp only
 have hc:∀gl gp gl' gp' (k:Int),(k=5∨k=6)→YU gl gp b (a+1) k=YU gl' gp' b (a+1) k:=by
  intro _ _ _ _ k hk
  unfold YU
  rw[if_pos (by omega),if_pos (by omega)]
 by_cases h:((((b[(a:Int).toNat]?).getD 0).toNat:Nat):Int)=want
 ·rw[if_neg (c:=8<_∨_) (by omega),if_neg (c:=8<_∨_) (by omega),hc gl gp noG noG _ (by omega)]
 ·rw[if_pos (by omega),if_pos (by omega)]
theorem Xer (b:List UInt8) (a m:Nat) (want:Int) (hm:m≤8) (ha:a≤b.length) (hb:b.length≤281474976710656) (hw:want=5∨want=6):X2m b a (8-m) want (X53 b a want):=by
 rw[←Xg8 b a m want hw noG noG]
 exact Xar b m a want noG noG hm ha hb (fun i q _=>X56 i q) (fun i q _=>X56 i q) (by omega) (by omega) (by omega)
theorem Xdr (b:List UInt8) (hb:b.length≤281474976710656):∀(m a:Nat),m≤8→a≤b.length→X2m b a (8-m) 0 (X0t b m a)
 |0,a,hm,ha=>by
  rw[X2I]
  exact Xar b 0 a 0 (X1U b 0) (VK b) hm ha hb (fun i q _=>X56 i q) (fun i q h=>X5I i q h) (fun _ h=>absurd rfl h) (fun _ i q h=>Xer b q 0 _ hm h hb (by omega)) (fun h=>absurd rfl h)
 |m+1,a,hm,ha=>by
  rw[X2I]
  refine Xar b (m+1) a 0 (X1U b (m+1)) (VK b) hm ha hb (fun i q h=>Xbr m q h) (fun i q h=>X5I i q h) (fun _ _ i q h=> ?_) (fun _ i q h=>Xer b q (m+1) _ hm h hb (by omega)) (fun h=>absurd rfl h)
  have:=Xdr b hb m q (by omega) h
  rw[show (8:Int)-((m+1:Nat):Int)+1=8-(m:Int) by omega]
  exact this
theorem Xlv (b:List UInt8) (hb:b.length≤281474976710656) (a:Nat) (ha:a≤b.length) (r:Val×Int×Int) (hr:X0t b 8 a=r):
  Con Tryz.prog 164 [(101,oRd b a 0)] [.ptr 101 0,ai 0,ai 0] [(101,oRd b r.2.1 r.2.2)] (Xv r.1):=by
 have h:=U0 0 101 (Xdr b hb 8 a (by omega) ha)
 rw[hr] at h
 obtain⟨⟨k,n,d,s,l⟩,x,y⟩:=r
 exact h
theorem Xfu (b:List UInt8) (hb:b.length≤281474976710656) (a:Int):Con Tryz.prog 111 [] [.d (Xk b),ai a] [] (.tup [Xv (Ug b a).1,ai (Ug b a).2.1,ai (Ug b a).2.2]):=by
 refine Xg (xs:=[Xv (Ug b a).1,ai (Ug b a).2.1,ai (Ug b a).2.2]) Tryz.func111 rfl Tryz.ntmps111 rfl rfl rfl (fun E=> ?_)
 by_cases h1:a<0
 ·rw[show Ug b a=(zV,0,1) by unfold Ug;rw[if_pos (.inl h1)]]
  refine Xt ?_;refine QL ?_;exact Qcf
 by_cases h2:(b.length:Int)<a
 ·rw[show Ug b a=(zV,0,1) by unfold Ug;rw[if_pos (.inr h2)]]
  refine Yc ?_;refine QP ?_;exact Qdf
 obtain⟨q,rfl⟩:∃q:Nat,a=q:=⟨a.toNat,by omega⟩
 have hq:q≤b.length:=by omega
 have hv:Ug b q=if (X0t b 8 q).2.2≠0 then (zV,0,(X0t b 8 q).2.2) else X0t b 8 q:=by unfold Ug;rw[if_neg (by omega)]
 have hcon:=Xlv b hb q hq _ rfl
 rw[hv]
 clear hv
 generalize X0t b 8 q=r at*
 obtain⟨⟨k,n,d,s,l⟩,x,y⟩:=r
 simp only[Xv] at hcon
 by_cases h3:y=0
 ·subst h3
  rw[if_neg (by simp)]
  refine QSc ?_;refine Xt ?_;refine Z3 (hcon:=hcon) ?_;refine Xt ?_;refine JF ?_;refine Xt ?_;exact Qef
 ·rw[if_pos h3]
  refine QSc ?_;refine Xt ?_;refine Z3 (hcon:=hcon) ?_;refine Xt ?_;refine Qje ?_;exact Qbf
theorem Xf8 {b:List UInt8}{a e:Int} (h:e≠0):rsS b a e=([],a,e):=if_pos h
theorem XfJ {b:List UInt8}{a e:Int} (h:e≠0):riS b a e=(0,a,e):=if_pos h
def X1e (b:List UInt8) (a e:Int):Rul×Int×Int:=
 let k:=rkI b a e 7
 let n:=rsS b k.2.1 k.2.2
 let y:=rsS b n.2.1 n.2.2
 let s:=rsS b y.2.1 y.2.2
 let d:=rsS b s.2.1 s.2.2
 let i:=riS b d.2.1 d.2.2
 (⟨k.1,i.1,n.1,y.1,s.1,d.1⟩,i.2.1,i.2.2)
theorem XeG {b:List UInt8}{a:Int}:riS b a 0=XW b a:=if_neg (by simp)
theorem Xo8 (b:List UInt8) (a e:Int) (hb:b.length≤281474976710656) (ha:e=0→0≤a∧a≤b.length):Con Tryz.prog 102 [(0,oRd b a e)] [.ptr 0 0] [(0,oRd b (X1e b a e).2.1 (X1e b a e).2.2)] (UN (X1e b a e).1):=by
 refine Xg (xs:=[UN (X1e b a e).1]) Tryz.func102 rfl Tryz.ntmps102 rfl rfl rfl (fun E=> ?_)
 have hk:=Xdf b a e 7 hb ha
 unfold X1e
 generalize rkI b a e 7=k at*
 obtain⟨kd,a1,e1⟩:=k
 simp only at hk ⊢
 have h1:=X4r b a1 e1 hb
 generalize rsS b a1 e1=u1 at*
 obtain⟨s1,a2,e2⟩:=u1
 simp only at h1 ⊢
 have h2:=X4r b a2 e2 hb
 generalize rsS b a2 e2=u2 at*
 obtain⟨s2,a3,e3⟩:=u2
 simp only at h2 ⊢
 have h3:=X4r b a3 e3 hb
 generalize rsS b a3 e3=u3 at*
 obtain⟨s3,a4,e4⟩:=u3
 simp only at h3 ⊢
 have h4:=X4r b a4 e4 hb
 generalize rsS b a4 e4=u4 at*
 obtain⟨s4,a5,e5⟩:=u4
 simp only[UN] at h4 ⊢
 refine W7_ ?_;refine Z3 (hcon:=hk) ?_;refine Xt ?_;refine XnH (hg:=JSa) (hx:=JSb) (hT:=JSb) (hd:=JSb) ?_;refine W3_ ?_
 refine XK (ι:=Nat) (fun i=>i≤4) (fun i=>⟨52,[(0,.ptr 0 0),(2,.ptr 100 0),(3,.ptr 101 0),(14,.bsl 102 4),(15,ai 4),(16,ai i)],match i with
   |0=>[(0,oRd b a1 e1),(100,.box [ai 0,ai 0,XH [],XH [],XH [],XH []]),(101,.box [ai kd,ai 0,XH [],XH [],XH [],XH []]),(102,.box [.ptr 101 2,.ptr 101 3,.ptr 101 4,.ptr 101 5])]
   |1=>[(0,oRd b a2 e2),(100,.box [ai 0,ai 0,XH [],XH [],XH [],XH []]),(101,.box [ai kd,ai 0,XH s1,XH [],XH [],XH []]),(102,.box [.ptr 101 2,.ptr 101 3,.ptr 101 4,.ptr 101 5])]
   |2=>[(0,oRd b a3 e3),(100,.box [ai 0,ai 0,XH [],XH [],XH [],XH []]),(101,.box [ai kd,ai 0,XH s1,XH s2,XH [],XH []]),(102,.box [.ptr 101 2,.ptr 101 3,.ptr 101 4,.ptr 101 5])]
   |3=>[(0,oRd b a4 e4),(100,.box [ai 0,ai 0,XH [],XH [],XH [],XH []]),(101,.box [ai kd,ai 0,XH s1,XH s2,XH s3,XH []]),(102,.box [.ptr 101 2,.ptr 101 3,.ptr 101 4,.ptr 101 5])]
   |_=>[(0,oRd b a5 e5),(100,.box [ai 0,ai 0,XH [],XH [],XH [],XH []]),(101,.box [ai kd,ai 0,XH s1,XH s2,XH s3,XH s4]),(102,.box [.ptr 101 2,.ptr 101 3,.ptr 101 4,.ptr 101 5])]⟩) (fun i=>4-i) 0 (by omega)
  (Xd rfl ⟨JL,JL,JL,JL,JL,JL,trivial⟩ ⟨rfl,rfl,rfl,rfl,trivial⟩) ?_
 intro i hi
 match i,hi with
 |0,_=>
  refine Qff ?_;refine Z3 (hcon:=h1) ?_;refine W7_ ?_;exact⟨1,by omega,by omega,Xd rfl ⟨JL,JL,JL,JL,JL,JL,trivial⟩ ⟨rfl,rfl,rfl,rfl,trivial⟩⟩
 |1,_=>
  refine Qff ?_;refine Z3 (hcon:=h2) ?_;refine W7_ ?_;exact⟨2,by omega,by omega,Xd rfl ⟨JL,JL,JL,JL,JL,JL,trivial⟩ ⟨rfl,rfl,rfl,rfl,trivial⟩⟩
 |2,_=>
  refine Qff ?_;refine Z3 (hcon:=h3) ?_;refine W7_ ?_;exact⟨3,by omega,by omega,Xd rfl ⟨JL,JL,JL,JL,JL,JL,trivial⟩ ⟨rfl,rfl,rfl,rfl,trivial⟩⟩
 |3,_=>
  refine Qff ?_;refine Z3 (hcon:=h4) ?_;refine W7_ ?_;exact⟨4,by omega,by omega,Xd rfl ⟨JL,JL,JL,JL,JL,JL,trivial⟩ ⟨rfl,rfl,rfl,rfl,trivial⟩⟩
 |4,_=>
  by_cases he:e5=0
  ·subst he
   have hi:=XhI b a5 hb
   rw[XeG]
   generalize XW b a5=u5 at*
   obtain⟨n,a6,e6⟩:=u5
   refine W5_ ?_;refine QUc ?_;refine QNc ?_;refine Z3 (hcon:=hi) ?_;refine Us ?_;exact Qgf
  ·rw[XfJ he]
   refine W5_ ?_;refine QUc ?_;refine Qia ?_;exact Qgf
theorem X1H {n:Int} (h:0≤n∧n≤9223372036854775807):(Xm n).length≤10:=by
 rw[X1j h.1]
 exact X0Q (by omega)
theorem Xof {r:Rul} (h:X05 r=0):(X1q r).length≤200:=by
 obtain⟨h1,⟨l1,l2,l3,l4⟩,h3⟩:=X7b h
 have:=VV l1
 have:=VV l2
 have:=VV l3
 have:=VV l4
 have:=X6K h1
 unfold X1q
 simp only[List.length_cons,List.length_append]
 omega
open Go
theorem X8f:∀(l r:List Val),YF (l++r)=YF l++YF r
 |[],r=>rfl
 |v::l,r=>by simp only[List.cons_append,YF,X8f l r,List.append_assoc]
theorem X6c {b:List UInt8}{a:Int} (h:0≤a) (h2:a≤b.length):only b a a []:=⟨h,by omega,h2,by simp⟩
theorem X1h {b:List UInt8}{a m e:Int}{w1 w2:List UInt8} (h1:only b a m w1) (h2:only b m e w2):only b a e (w1++w2):=by
 obtain⟨k1,k2,k3,k4⟩:=h1
 obtain⟨j1,j2,j3,j4⟩:=h2
 refine⟨k1,by omega,j3,?_⟩
 rw[show (e-a).toNat=(m-a).toNat+(e-m).toNat by omega,List.take_add,k4,List.drop_drop,show a.toNat+(m-a).toNat=m.toNat by omega,j4]
theorem Xdp {b:List UInt8}{a:Int}{c:UInt8} (h0:0≤a) (h:b[a.toNat]? =some c):only b a (a+1) [c]:=by
 obtain⟨hl,he⟩:=List.getElem?_eq_some_iff.1 h
 refine⟨h0,by omega,by omega,?_⟩
 rw[show (a+1-a).toNat=1 by omega,List.drop_eq_getElem_cons hl,he]
 rfl
def X3W (b:List UInt8) (g:Nat→Int→Val×Int×Int):Prop:=∀(i:Nat) (q:Int) (x:Val) (e:Int),0≤q→q≤b.length→g i q=(x,e,0)→only b q e (Y3 x)
theorem Xg0 {g:Nat→Int→Val×Int×Int}{b:List UInt8}{a:Int} (hg:X3W b g) (h0:0≤a) (h1:a≤b.length):∀(j:Nat) (l:List Val) (e:Int),Y8 g a j=(l,e,0)→only b a e (YF l)∧l.length=j
 |0,l,e,h=>by
  simp only[Y8,Prod.mk.injEq] at h
  obtain⟨rfl,rfl,_⟩:=h
  exact⟨X6c h0 h1,rfl⟩
 |j+1,l,e,h=>by
  by_cases hz:(Y8 g a j).2.2=0
  ·rw[X30 hz] at h
   have ih:=Xg0 hg h0 h1 j (Y8 g a j).1 (Y8 g a j).2.1 (by rw[←hz])
   generalize (Y8 g a j).1=l0 at*
   generalize (Y8 g a j).2.1=q at*
   obtain⟨⟨i1,i2⟩,i3⟩:=ih
   simp only[Prod.mk.injEq] at h
   obtain⟨rfl,rfl,h3⟩:=h
   have hx:=hg j q (g j q).1 (g j q).2.1 (by omega) (by omega) (by rw[←h3])
   refine⟨?_,by simp[i3]⟩
   rw[X8f]
   have:=X1h ⟨i1,i2⟩ hx
   simpa [YF] using this
  ·rw[X3f hz (j+1) (by omega)] at h
   exact absurd (congrArg (fun r=>r.2.2) h) hz
theorem XdT (c:UInt8):UInt8.ofNat (((c.toNat:Nat):Int)).toNat=c:=by simp
theorem Xo4 {gl gp:Nat→Int→Val×Int×Int}{b:List UInt8}{a k:Int}{v:Val}{e:Int} (hgl:X3W b gl) (hgp:X3W b gp) (h0:0≤a) (h1:a≤b.length) (h:YU gl gp b a k=(v,e,0)):
  ∃w,only b a e w∧Y3 v=UInt8.ofNat k.toNat::w:=by
 unfold YU at h
 split at h
 ·rename_i hk
  simp only[Prod.mk.injEq] at h
  obtain⟨rfl,rfl,h3⟩:=h
  have:=X83 (b:=b) (a:=a) (n:=(XW b a).1) (e:=(XW b a).2.1) (by rw[←h3])
  exact⟨_,this.1,by rw[Y3,if_pos hk]⟩
 rename_i hk1
 split at h
 ·rename_i hk
  subst hk
  simp only at h
  split at h
  ·rename_i h3
   simp only[Prod.mk.injEq] at h
   exact absurd h.2.2 h3
  rename_i h3
  have h3:(XW b a).2.2=0:=by simpa using h3
  simp only[Prod.mk.injEq] at h
  obtain⟨rfl,rfl,h4⟩:=h
  have e1:=X83 (b:=b) (a:=a) (n:=(XW b a).1) (e:=(XW b a).2.1) (by rw[←h3])
  have e2:=X83 (b:=b) (a:=(XW b a).2.1) (n:=(XW b (XW b a).2.1).1) (e:=(XW b (XW b a).2.1).2.1) (by rw[←h4])
  exact⟨_,X1h e1.1 e2.1,by rw[Y3];simp⟩
 rename_i hk3
 split at h
 ·rename_i hk
  subst hk
  simp only[Prod.mk.injEq] at h
  obtain⟨rfl,rfl,h3⟩:=h
  have:=X4G (b:=b) (a:=a) (s:=(U2 b a 100).1) (e:=(U2 b a 100).2.1) (most:=100) (by rw[←h3])
  exact⟨_,this.1,by rw[Y3];simp⟩
 rename_i hk4
 split at h
 ·rename_i hk
  simp only at h
  split at h
  ·rename_i h3
   simp only[Prod.mk.injEq] at h
   exact absurd h.2.2 h3
  rename_i h3
  split at h
  ·simp at h
  have h3:(Xz b a).2.2=0:=by simpa using h3
  have e1:=X3r (b:=b) (a:=a) (n:=(Xz b a).1) (e:=(Xz b a).2.1) (by rw[←h3])
  simp only[Prod.mk.injEq] at h
  obtain⟨rfl,rfl,h4⟩:=h
  have hall:X3W b (if k=8 then gl else gp):=by
   split
   ·exact hgl
   ·exact hgp
  obtain⟨⟨k1,k2,k3,k4⟩,k5,k6,k7⟩:=e1
  have e2:=Xg0 (g:=if k=8 then gl else gp) (b:=b) (a:=(Xz b a).2.1) hall (by omega) (by omega) (Xz b a).1.toNat _ _ (by rw[←h4])
  refine⟨_,X1h ⟨k1,k2,k3,k4⟩ e2.1,?_⟩
  rw[Y3,if_neg hk1,if_neg hk3,if_neg hk4,if_pos hk,e2.2]
  rw[show (((Xz b a).1.toNat:Nat):Int)=(Xz b a).1 by omega]
 rename_i hk7
 simp only[Prod.mk.injEq] at h
 obtain⟨rfl,rfl,_⟩:=h
 exact⟨[],X6c h0 h1,by rw[Y3,if_neg hk1,if_neg hk3,if_neg hk4,if_neg hk7]⟩
theorem XaM {gl gp:Nat→Int→Val×Int×Int}{m:Nat}{b:List UInt8}{a want:Int}{v:Val}{e:Int} (hgl:X3W b gl) (hgp:X3W b gp) (h0:0≤a) (h1:a≤b.length) (h:Vm gl gp m b a want=(v,e,0)):only b a e (Y3 v):=by
 unfold Vm at h
 split at h
 ·simp at h
 rename_i h2
 obtain⟨c,hc⟩:=XI (l:=b) (k:=a.toNat) (by omega)
 rw[hc,Option.getD_some] at h
 simp only at h
 split at h
 ·simp at h
 split at h
 ·simp at h
 obtain⟨w,hw,hp⟩:=Xo4 hgl hgp (by omega) (by omega) h
 rw[hp,XdT]
 exact X1h (Xdp h0 hc) hw
theorem XaV {b:List UInt8}:X3W b noG:=fun i q x e _ _ h=>by simp[noG] at h
theorem Xgz {b:List UInt8}:X3W b (VK b):=fun i q x e h0 h1 h=>by
 unfold VK X53 at h
 exact XaM XaV XaV h0 h1 h
theorem XdY {b:List UInt8}:∀(m:Nat) (a:Int) (v:Val) (e:Int),0≤a→a≤b.length→X0t b m a=(v,e,0)→only b a e (Y3 v)
 |0,a,v,e,h0,h1,h=>by
  rw[X2I] at h
  exact XaM XaV Xgz h0 h1 h
 |m+1,a,v,e,h0,h1,h=>by
  rw[X2I] at h
  exact XaM (gl:=X1U b (m+1)) (fun i q x e h0 h1 h=>XdY m q x e h0 h1 h) Xgz h0 h1 h
theorem XbY {b:List UInt8}{a e:Int}{v:Val} (h:Ug b a=(v,e,0)):only b a e (YN v)∧Xe 8 v=true∧(Y3 v).length≤b.length:=by
 unfold Ug at h
 split at h
 ·simp at h
 simp only at h
 split at h
 ·rename_i h2
  simp only[Prod.mk.injEq] at h
  exact absurd h.2.2 h2
 rename_i h1 h2
 have ho:=XdY 8 a v e (by omega) (by omega) h
 have hv:Xe 8 v=true:=by
  have:=XaE (gl:=X1U b 8) (gp:=VK b) (m:=8) (b:=b) (a:=a) (want:=0) (by rw[←X2I,h])
  rw[←X2I,h] at this
  exact this
 have hl:(Y3 v).length≤b.length:=by
  rw[←ho.2.2.2]
  simp
  omega
 refine⟨?_,hv,hl⟩
 unfold YN
 rw[if_pos hv]
 exact ho
theorem XgV {b:List UInt8}{a limit k a1:Int} (h0:0≤a) (h:rkI b a 0 limit=(k,a1,0)):only b a a1 [UInt8.ofNat k.toNat]∧a1=a+1∧1≤k∧k≤limit:=by
 unfold rkI rkS at h
 rw[if_neg (by simp),if_neg (by simp)] at h
 split at h
 ·simp at h
 ·rename_i h1
  split at h
  ·simp at h
  ·rename_i h2
   obtain⟨c,hc⟩:∃c,b[a.toNat]? =some c:=⟨_,List.getElem?_eq_getElem (by omega)⟩
   rw[hc] at h h2
   simp only[Option.getD_some,Prod.mk.injEq] at h h2
   obtain⟨rfl,rfl,_⟩:=h
   refine⟨?_,by omega,by omega,by omega⟩
   rw[XdT,show((a.toNat:Nat):Int)+1=a+1 by omega]
   exact Xdp h0 hc
theorem Xb0 {b:List UInt8}{a:Int}:rsS b a 0=U2 b a 20:=if_neg (by simp)
theorem X72 {b:List UInt8}{a e m:Int}{s:List UInt8} (h:rsS b a e=(s,m,0)):e=0:=by
 by_cases he:e=0
 ·exact he
 ·rw[Xf8 he] at h
  simp at h
  exact absurd h.2.2 he
theorem XqK {b:List UInt8}{a e n m:Int} (h:riS b a e=(n,m,0)):e=0:=by
 by_cases he:e=0
 ·exact he
 ·rw[XfJ he] at h
  simp at h
  exact absurd h.2.2 he
theorem XgY (c:UInt8) (w:List UInt8):c::w=[c]++w:=rfl
theorem XrT {b:List UInt8}{a at_:Int}{r:Rul} (h0:0≤a) (h:X1e b a 0=(r,at_,0)):only b a at_ (X1q r)∧a<at_:=by
 unfold X1e at h
 simp only at h
 generalize hk:rkI b a 0 7=k at h
 obtain⟨kd,a1,e1⟩:=k
 simp only at h
 generalize h1:rsS b a1 e1=s at h
 obtain⟨s1,a2,e2⟩:=s
 simp only at h
 generalize h2:rsS b a2 e2=s at h
 obtain⟨s2,a3,e3⟩:=s
 simp only at h
 generalize h3:rsS b a3 e3=s at h
 obtain⟨s3,a4,e4⟩:=s
 simp only at h
 generalize h4:rsS b a4 e4=s at h
 obtain⟨s4,a5,e5⟩:=s
 simp only at h
 generalize h5:riS b a5 e5=s at h
 obtain⟨n,a6,e6⟩:=s
 simp only[Prod.mk.injEq] at h
 obtain⟨rfl,rfl,rfl⟩:=h
 obtain rfl:=XqK h5
 obtain rfl:=X72 h4
 obtain rfl:=X72 h3
 obtain rfl:=X72 h2
 obtain rfl:=X72 h1
 rw[Xb0] at h1 h2 h3 h4
 rw[XeG] at h5
 obtain⟨p1,p2,p3,p4⟩:=XgV h0 hk
 have x1:=X4G h1
 have x2:=X4G h2
 have x3:=X4G h3
 have x4:=X4G h4
 have x5:=X83 h5
 refine⟨?_,by omega⟩
 unfold X1q
 simp only
 rw[XgY]
 exact X1h p1 (X1h (X1h (X1h (X1h x1.1 x2.1) x3.1) x4.1) x5.1)
def X1F (b:List UInt8) (a:Int):Rul×Int×Int:=
 if a<0∨(b.length:Int)<a then (zR,0,1) else
  let r:=X1e b a 0
  let e:=if r.2.2=0 then X05 r.1 else r.2.2
  if e≠0 then (zR,0,e) else (r.1,r.2.1,0)
theorem XpA (r:Rul) (ρ:Nat→Nat):(UN r).ren ρ=UN r:=rfl
theorem Xn8 (b:List UInt8) (a e:Int) (hb:b.length≤281474976710656) (ha:e=0→0≤a∧a≤b.length):Con Tryz.prog 102 [(101,oRd b a e)] [.ptr 101 0] [(101,oRd b (X1e b a e).2.1 (X1e b a e).2.2)] (UN (X1e b a e).1):=by
 have h:=U0 0 101 (Xo8 b a e hb ha)
 rw[XpA] at h
 exact h
theorem Xp9 (b:List UInt8) (a:Int) (hb:b.length≤281474976710656):Con Tryz.prog 63 [] [.d (Xk b),ai a] [] (.tup [UN (X1F b a).1,ai (X1F b a).2.1,ai (X1F b a).2.2]):=by
 refine Xg (xs:=[UN (X1F b a).1,ai (X1F b a).2.1,ai (X1F b a).2.2]) Tryz.func63 rfl Tryz.ntmps63 rfl rfl rfl (fun E=> ?_)
 have hlm:(b.map Xc).length=b.length:=by simp
 unfold X1F
 by_cases h1:a<0
 ·rw[if_pos (.inl h1)]
  refine Xt ?_;refine QL ?_;refine Qaf ?_;exact Qhf
 by_cases h2:(b.length:Int)<a
 ·rw[if_pos (.inr h2)]
  have h2':((b.map Xc).length:Int)<a:=by omega
  refine Yc ?_;refine QP ?_;refine QWc ?_;exact Qhf
 rw[if_neg (by omega)]
 have h2':¬((b.map Xc).length:Int)<a:=by omega
 have hr:=Xn8 b a 0 hb (fun _=>by omega)
 have hc:=XbH (X1e b a 0).1
 generalize X1e b a 0=r at*
 obtain⟨c,at_,e⟩:=r
 simp only at hr hc ⊢
 generalize X05 c=ce at*
 obtain⟨k,n,name,key,src,dst⟩:=c
 simp only[UN] at hr hc ⊢
 by_cases he:e=0
 ·subst he
  rw[if_pos rfl]
  by_cases h3:ce=0
  ·subst h3
   rw[if_neg (by simp)]
   refine Qjf ?_;refine Qoe ?_;refine Xt ?_;exact Qhf
  ·rw[if_pos h3]
   refine Qjf ?_;refine Xr ?_;refine Qje ?_;exact Qhf
 ·rw[if_neg he,if_pos he]
  refine Qif ?_;refine QUc ?_;refine Qje ?_;exact Qhf
def Ul (l:List Int):List UInt8:=(l.map Xm).flatten
def Vb (p:Prp):List UInt8:=XX p.key++YN p.v
def Vw {α:Type} (w:α→List UInt8) (l:List α):List UInt8:=Xm l.length++(l.map w).flatten
def Ve (n:Nod):List UInt8:=Xm n.id++(Vw XX n.labels++Vw Vb n.props)
def X0o (e:Edg):List UInt8:=Xm e.id++(Xm e.src++(Xm e.dst++(XX e.typ++Vw Vb e.props)))
def X5i (g:Gra) (rs:List Rul):List (List UInt8):=Ul [g.nn,g.ne,rs.length,g.nodes.length,g.edges.length]::(rs.map UG++g.nodes.map Ve++g.edges.map X0o)
def Yz (l:List (List UInt8)):List UInt8:=(l.map YM).flatten
def U1:List UInt8:=[71,68,66,49]
def X19 (g:Gra) (rs:List Rul):Int:=if YH g≠0 then YH g else if X1k rs=false then 19 else 0
def X51 (g:Gra) (rs:List Rul):List UInt8:=U1++Yz (X5i g rs)
def X36 (g:Gra) (rs:List Rul):List UInt8:=if X19 g rs=0 then X51 g rs else []
structure Rd where
 k:Nat
 c:List UInt8
 a:Int
 e:Int
def Rd.put (s:Rd) (a e:Int):Rd:=⟨s.k,s.c,a,e⟩
def Yu (b:List UInt8) (s:Rd):Rd:=
 if s.e≠0 then s else let r:=UZ (b.drop s.k) 0;⟨if r.2.2=0 then s.k+r.2.1.toNat else s.k,r.1,0,r.2.2⟩
def UJ (s:Rd):Rd:=if s.e=0∧s.a<s.c.length then s.put s.a 2 else s
def VU (b:List UInt8) (s:Rd):Rd:=if s.e=0∧s.k<b.length then s.put s.a 2 else s
def Vc {α:Type} (z:α) (f:List UInt8→Int→α×Int×Int) (s:Rd):α×Rd:=
 if s.e≠0 then (z,s) else let r:=f s.c s.a;(r.1,s.put (if r.2.2=0 then r.2.1 else s.a) r.2.2)
def XL:Rd→Int×Rd:=Vc 0 Xz
def Ut:Rd→List UInt8×Rd:=Vc [] fun c a=>U2 c a 20
def X18:Rd→Val×Rd:=Vc zV Ug
def Vn:Rd→Rul×Rd:=Vc zR X1F
def Y2 {α:Type} (f:Rd→α×Rd):Nat→Rd→List α×Rd
 |0,s=>([],s)
 |n+1,s=>if s.e≠0 then ([],s) else let x:=f s;let r:=Y2 f n x.2;(x.1::r.1,r.2)
def X03 (s:Rd):Prp×Rd:=let k:=Ut s;let v:=X18 k.2;(⟨k.1,v.1⟩,v.2)
def YG {α:Type} (f:Rd→α×Rd) (s:Rd):List α×Rd:=let n:=XL s;Y2 f n.1.toNat n.2
def VT (s:Rd):Nod×Rd:=
 let i:=XL s;let l:=YG Ut i.2;let p:=YG X03 l.2;(⟨i.1,l.1,p.1⟩,p.2)
def UD (s:Rd):Edg×Rd:=
 let i:=XL s;let f:=XL i.2;let t:=XL f.2;let y:=Ut t.2;let p:=YG X03 y.2;(⟨i.1,f.1,t.1,y.1,p.1⟩,p.2)
def Ys {α:Type} (b:List UInt8) (f:Rd→α×Rd) (s:Rd):α×Rd:=let r:=f (Yu b s);(r.1,UJ r.2)
def XcA (b:List UInt8) (s:Rd):(Int×Int×Int×Int×Int)×Rd:=
 Ys b (fun s=>let a:=XL s;let c:=XL a.2;let r:=XL c.2;let n:=XL r.2;let m:=XL n.2;((a.1,c.1,r.1,n.1,m.1),m.2)) s
def X2i (b:List UInt8) (s:Rd):(Gra×List Rul)×Rd:=
 let h:=XcA b s
 let r:=Y2 (Ys b Vn) h.1.2.2.1.toNat h.2
 let n:=Y2 (Ys b VT) h.1.2.2.2.1.toNat r.2
 let m:=Y2 (Ys b UD) h.1.2.2.2.2.toNat n.2
 ((⟨n.1,m.1,h.1.1,h.1.2.1⟩,r.1),VU b m.2)
def X1J (b:List UInt8):Gra×List Rul×Int:=
 let x:=X2i (b.drop 4) ⟨0,[],0,if b.take 4=U1 then 0 else 2⟩
 let e:=if x.2.e≠0 then x.2.e else if YH x.1.1≠0 then YH x.1.1 else if X1k x.1.2=false then 19 else 0
 if e≠0 then (YL,[],e) else (x.1.1,x.1.2,0)
theorem X64 {α:Type}{f:Rd→α×Rd}{n:Nat}{s:Rd} (h:s.e≠0):Y2 f n s=([],s):=by
 cases n with
 |zero=>rfl
 |succ n=>rw[Y2,if_pos h]
theorem XfP {α:Type}{z:α}{f:List UInt8→Int→α×Int×Int}{s:Rd} (h:s.e≠0):Vc z f s=(z,s):=by
 unfold Vc
 rw[if_pos h]
theorem X75 (s t:List UInt8):Con Tryz.prog 154 [] [.d (.v (.string (Xb s))),.d (.v (.string (Xb t)))] [] (ai (Uy s t)):=by
 refine Xg (xs:=[ai (Uy s t)]) Tryz.func154 rfl Tryz.ntmps154 rfl rfl rfl (fun E=> ?_)
 have n1:=X69 s
 have n2:=X69 t
 unfold Uy
 cases h1:Op.bytesLess s t with
 |true=>
  rw[if_pos rfl]
  refine Qlf ?_;refine W1_ ?_;exact QM
 |false=>
  rw[if_neg (by simp)]
  by_cases h2:s=t
  ·rw[if_pos h2]
   have h3:(!(Op.bytesLess s t||decide (s=t)))=false:=by simp[h2]
   refine Qlf ?_;refine QFc ?_;refine X6 (op:= .gtr) (u:= .string _) (v:= .string _) (hg:=JSa) (hx:=JSb) (hy:=JSb) (hr:=JSu) (h1:=JSb) (hd:=JSb) ?_;refine W1_ ?_;exact QV
  ·rw[if_neg h2]
   have h3:(!(Op.bytesLess s t||decide (s=t)))=true:=by simp[h1,h2]
   refine Qlf ?_;refine QFc ?_;refine X6 (op:= .gtr) (u:= .string _) (v:= .string _) (hg:=JSa) (hx:=JSb) (hy:=JSb) (hr:=JSu) (h1:=JSb) (hd:=JSb) ?_;refine W1_ ?_;exact QM
theorem XmL (a b:Rul):X29 a b=orI [Yv a.kind b.kind,Uy a.name b.name,Uy a.key b.key,Yv a.n b.n,Uy a.src b.src,Uy a.dst b.dst]:=by
 unfold X29 Yv
 simp only[orI]
 repeat' split
 all_goals first|rfl|omega|simp_all
theorem XmJ (a b:Rul):Con Tryz.prog 98 [] [UN a,UN b] [] (ai (X29 a b)):=by
 refine Xg (xs:=[ai (X29 a b)]) Tryz.func98 rfl Tryz.ntmps98 rfl rfl rfl (fun E=> ?_)
 have c1:=X4m a.kind b.kind
 have c2:=X75 a.name b.name
 have c3:=X75 a.key b.key
 have c4:=X4m a.n b.n
 have c5:=X75 a.src b.src
 have c6:=X75 a.dst b.dst
 have co:=XfB [Yv a.kind b.kind,Uy a.name b.name,Uy a.key b.key,Yv a.n b.n,Uy a.src b.src,Uy a.dst b.dst] (by simp)
 rw[←XmL] at co
 simp only[List.map_cons,List.map_nil] at co
 generalize X29 a b=o at*
 generalize Yv a.kind b.kind=r1 at*
 generalize Uy a.name b.name=r2 at*
 generalize Uy a.key b.key=r3 at*
 generalize Yv a.n b.n=r4 at*
 generalize Uy a.src b.src=r5 at*
 generalize Uy a.dst b.dst=r6 at*
 obtain⟨k,n,name,key,src,dst⟩:=a
 obtain⟨k',n',name',key',src',dst'⟩:=b
 simp only[UN] at*
 refine Xt ?_;refine Z3 (hcon:=c1) ?_;refine W4_ ?_;refine Z3 (hcon:=c2) ?_;refine W4_ ?_;refine Z3 (hcon:=c3) ?_;refine W4_ ?_;refine Z3 (hcon:=c4) ?_;refine W4_ ?_;refine Z3 (hcon:=c5) ?_;refine W4_ ?_;refine Z3 (hcon:=c6) ?_;refine W1_ ?_;refine Z3 (hcon:=co) ?_;exact Qq
def Ub (r:Rul):List D:=[.v (.int .i64 r.kind),.v (.int .i64 r.n),.v (.string (Xb r.name)),.v (.string (Xb r.key)),.v (.string (Xb r.src)),.v (.string (Xb r.dst))]
theorem Xpu {l:List Rul}{i:Nat}{r:Rul} (h:l[i]? =some r):X2s (Uo l i) (l.drop i)=(decide (X05 r=0∧∀q,Uo l i=some q→X29 q r<0)&&X2s (Uo l (i+1)) (l.drop (i+1))):=by
 obtain⟨hi,h⟩:=List.getElem?_eq_some_iff.1 h
 rw[List.drop_eq_getElem_cons hi,h,X2s,X4I,List.getElem?_eq_getElem hi,h]
theorem XiS (l:List Rul) (hl:l.length≤9223372036854775807):Con Tryz.prog 56 [] [.d (.sl 6 (l.map Ub))] [] (ab (X1k l)):=by
 refine Xg (xs:=[ab (X1k l)]) Tryz.func56 rfl Tryz.ntmps56 rfl rfl rfl (fun E=> ?_)
 have hlm:(l.map Ub).length=l.length:=by simp
 unfold X1k
 generalize hG:X2s none l=G
 refine Xt ?_
 refine XK (fun i:Nat=>i≤l.length∧X2s (Uo l i) (l.drop i)=G) (fun i=>⟨33,[(0,.d (.sl 6 (l.map Ub))),(5,.d (.sl 6 (l.map Ub))),(6,ai (l.map Ub).length),(7,ai i)],[]⟩) (fun i=>l.length-i) 0 ⟨Nat.zero_le _,by simpa [Uo] using hG⟩
  (Xd rfl JM trivial) ?_
 rintro i ⟨hi,hg⟩
 by_cases hil:i<l.length
 case neg=>
  obtain rfl:i=l.length:=by omega
  have hn:¬((l.length:Nat):Int)<(l.map Ub).length:=by omega
  rw[List.drop_length,X2s] at hg
  subst hg
  rw[Bool.true_and,←hlm,show decide ((l.map Ub).length≤40)=decide (((l.map Ub).length:Int)≤40) from decide_eq_decide.2 (by omega)]
  refine W5_ ?_;refine QWb ?_;exact Qp
 have hn:(i:Int)<(l.map Ub).length:=by omega
 obtain⟨x,hx⟩:=XI (l:=l) hil
 have hxc:(l.map Ub)[i]? =some (Ub x):=Y5 hx
 have hc:=XbH x
 rw[Xpu hx] at hg
 by_cases he:X05 x=0
 case neg=>
  rw[decide_eq_false (fun h=>he h.1),Bool.false_and] at hg
  subst hg
  rw[Bool.false_and]
  generalize X05 x=e at*
  obtain⟨k,n,name,key,src,dst⟩:=x
  simp only[UN,Ub] at hc hxc
  refine QHc ?_;refine QJd ?_;refine W2_ ?_;refine Qw ?_;refine QX ?_;refine QY ?_;exact QN
 by_cases h0:i=0
 ·subst h0
  rw[decide_eq_true ⟨he,fun q h=>by simp[Uo] at h⟩,Bool.true_and] at hg
  rw[he] at hc
  obtain⟨k,n,name,key,src,dst⟩:=x
  simp only[UN,Ub] at hc hxc
  refine QHc ?_;refine QJd ?_;refine W5_ ?_;refine QL ?_;refine QTd ?_;refine QZ ?_;exact⟨0+1,⟨by omega,hg⟩,by omega,Xd rfl JM trivial⟩
 obtain⟨j,rfl⟩:∃j,i=j+1:=⟨i-1,by omega⟩
 obtain⟨p,hp⟩:=XI (l:=l) (k:=j) (by omega)
 have hpp:(l.map Ub)[j]? =some (Ub p):=Y5 hp
 have ho:=XmJ p x
 rw[he] at hc
 by_cases hlt:X29 p x<0
 ·rw[decide_eq_true ⟨he,fun q h=>by rw[X4I,hp] at h;injection h with h;rw[←h];exact hlt⟩,Bool.true_and] at hg
  generalize X29 p x=o at*
  obtain⟨k,n,name,key,src,dst⟩:=x
  obtain⟨k',n',name',key',src',dst'⟩:=p
  simp only[UN,Ub] at hc hxc ho hpp
  refine QHc ?_;refine QKd ?_
  (refine Z1 (op:= .sub) (r':= .int .i64 ((j:Nat):Int)) (u:= .int .i64 ((j+1:Nat):Int)) (v:= .int .i64 1) ?_ (hr':=by exact congrArg (Value.int .i64) (show(((j+1:Nat):Int)-1)=(j:Int) by omega)) (hr:=by exact Yl (by unfold XT;omega)))
  refine W3_ ?_;refine Z3 (hcon:=ho) ?_;refine QYd ?_;refine QZ ?_;exact⟨j+1+1,⟨by omega,hg⟩,by omega,Xd rfl JM trivial⟩
 ·rw[decide_eq_false (fun h=>hlt (h.2 p (by rw[X4I,hp]))),Bool.false_and] at hg
  subst hg
  rw[Bool.false_and]
  have hge:X29 p x≥0:=by omega
  generalize X29 p x=o at*
  obtain⟨k,n,name,key,src,dst⟩:=x
  obtain⟨k',n',name',key',src',dst'⟩:=p
  simp only[UN,Ub] at hc hxc ho hpp
  refine QHc ?_;refine QKd ?_
  (refine Z1 (op:= .sub) (r':= .int .i64 ((j:Nat):Int)) (u:= .int .i64 ((j+1:Nat):Int)) (v:= .int .i64 1) ?_ (hr':=by exact congrArg (Value.int .i64) (show(((j+1:Nat):Int)-1)=(j:Int) by omega)) (hr:=by exact Yl (by unfold XT;omega)))
  refine W3_ ?_;refine Z3 (hcon:=ho) ?_;refine QYd ?_;exact QS
theorem XfQ {l:List (List UInt8)}{i:Nat}{a b:List UInt8} (ha:l[i]? =some a) (hb:l[i+1]? =some b):UF (l.drop i)=(!(Op.bytesLess b a||decide (b=a))&&UF (l.drop (i+1))):=by
 obtain⟨hi,rfl⟩:=List.getElem?_eq_some_iff.1 ha
 obtain⟨hi',rfl⟩:=List.getElem?_eq_some_iff.1 hb
 rw[List.drop_eq_getElem_cons hi,List.drop_eq_getElem_cons hi',UF]
theorem XdR {l:List (List UInt8)}{i:Nat} (h:l.length≤i+1):UF (l.drop i)=true:=by
 match hd:l.drop i with
 |[]=>rfl
 |[a]=>rfl
 |a::b::r=>
  have:=congrArg List.length hd
  simp only[List.length_drop,List.length_cons] at this
  omega
theorem Xdl (l:List (List UInt8)) (hl:l.length≤9223372036854775807):Con Tryz.prog 146 [] [.d (.sl 1 (l.map Xl))] [] (ab (UF l)):=by
 refine Xg (xs:=[ab (UF l)]) Tryz.func146 rfl Tryz.ntmps146 rfl rfl rfl (fun E=> ?_)
 have hlm:(l.map Xl).length=l.length:=by simp
 generalize hG:UF l=G
 refine Xj ?_
 refine XK (fun i:Nat=>1≤i∧i≤l.length+1∧UF (l.drop (i-1))=G) (fun i=>⟨20,[(0,.d (.sl 1 (l.map Xl))),(3,ai i)],[]⟩) (fun i=>l.length-i) 1 ⟨by omega,by omega,by simpa using hG⟩
  (Xd rfl ⟨JL,JL,trivial⟩ trivial) ?_
 rintro i ⟨hi,hi2,hg⟩
 by_cases hil:i<l.length
 case neg=>
  have hn:¬(i:Int)<(l.map Xl).length:=by omega
  have hT:G=true:=by rw[←hg,XdR (by omega)]
  subst hT
  exact Qbc
 have hn:(i:Int)<(l.map Xl).length:=by omega
 obtain⟨j,rfl⟩:∃j,i=j+1:=⟨i-1,by omega⟩
 rw[Nat.add_sub_cancel] at hg
 obtain⟨x,hx⟩:=XI (l:=l) hil
 obtain⟨y,hy⟩:=XI (l:=l) (k:=j) (by omega)
 have hxc:(l.map Xl)[j+1]? =some (Xl x):=Y5 hx
 have hyc:(l.map Xl)[j]? =some (Xl y):=Y5 hy
 rw[XfQ hy hx] at hg
 cases hq:(Op.bytesLess x y||decide (x=y)) with
 |false=>
  rw[hq] at hg
  simp only[Bool.not_false,Bool.true_and] at hg
  refine Qi ?_;refine Xi ?_
  (refine Z1 (op:= .sub) (r':= .int .i64 ((j:Nat):Int)) (u:= .int .i64 ((j+1:Nat):Int)) (v:= .int .i64 1) ?_ (hr':=by exact congrArg (Value.int .i64) (show(((j+1:Nat):Int)-1)=(j:Int) by omega)) (hr:=by exact Yl (by unfold XT;omega)))
  refine Qmf ?_;refine QFc ?_;exact Qnf
 |true=>
  rw[hq] at hg
  simp only[Bool.not_true,Bool.false_and] at hg
  subst hg
  refine Qi ?_;refine Xi ?_
  (refine Z1 (op:= .sub) (r':= .int .i64 ((j:Nat):Int)) (u:= .int .i64 ((j+1:Nat):Int)) (v:= .int .i64 1) ?_ (hr':=by exact congrArg (Value.int .i64) (show(((j+1:Nat):Int)-1)=(j:Int) by omega)) (hr:=by exact Yl (by unfold XT;omega)))
  refine Qmf ?_;refine W1_ ?_;exact QM
theorem XrP (s:List UInt8):Con Tryz.prog 145 [] [.d (.v (.string (Xb s)))] [] (ab (!XZ s)):=by
 refine Xg (xs:=[ab (!XZ s)]) Tryz.func145 rfl Tryz.ntmps145 rfl rfl rfl (fun E=> ?_)
 have hn:=X46 s
 refine W7_ ?_;refine QLd ?_;refine W3_ ?_;exact Qp
def X1t:List (List UInt8)→Nat→Int
 |[],_=> -1
 |s::r,i=>if XZ s=false then (i:Int) else X1t r (i+1)
theorem Xou {l:List (List UInt8)}{i:Nat}{x:List UInt8} (h:l[i]? =some x):X1t (l.drop i) i=if XZ x=false then (i:Int) else X1t (l.drop (i+1)) (i+1):=by
 obtain⟨hi,rfl⟩:=List.getElem?_eq_some_iff.1 h
 rw[List.drop_eq_getElem_cons hi,X1t]
theorem Xis:∀(l:List (List UInt8)) (i:Nat),decide (X1t l i≥0)= !l.all XZ
 |[],i=>by simp[X1t]
 |s::r,i=>by
  rw[X1t,List.all_cons]
  cases h:XZ s with
  |false=>simp
  |true=>simp[Xis r (i+1)]
theorem XoR (l:List (List UInt8)) (hl:l.length≤9223372036854775807):Con Tryz.prog 195 [] [.d (.sl 1 (l.map Xl)),.fn 145 []] [] (ai (X1t l 0)):=by
 refine Xg (xs:=[ai (X1t l 0)]) Tryz.func195 rfl Tryz.ntmps195 rfl rfl rfl (fun E=> ?_)
 have hlm:(l.map Xl).length=l.length:=by simp
 generalize hG:X1t l 0=G
 refine Xt ?_
 refine XK (fun i:Nat=>i≤l.length∧X1t (l.drop i) i=G) (fun i=>⟨19,[(0,.d (.sl 1 (l.map Xl))),(1,.fn 145 []),(7,ai (l.map Xl).length),(8,ai i)],[]⟩) (fun i=>l.length-i) 0 ⟨by omega,by simpa using hG⟩
  (Xd rfl ⟨JL,JL,JL,JL,trivial⟩ trivial) ?_
 rintro i ⟨hi,hg⟩
 by_cases hil:i<l.length
 case neg=>
  have hn:¬(i:Int)<(l.map Xl).length:=by omega
  rw[List.drop_of_length_le (by omega),X1t] at hg
  subst hg
  refine W5_ ?_;exact QV
 have hn:(i:Int)<(l.map Xl).length:=by omega
 obtain⟨x,hx⟩:=XI (l:=l) hil
 have hxc:(l.map Xl)[i]? =some (Xl x):=Y5 hx
 have hu:=XrP x
 rw[Xou hx] at hg
 cases hq:XZ x with
 |true=>
  rw[hq] at hg hu
  simp only[Bool.true_eq_false,if_false] at hg
  refine QHc ?_;refine Z5 (hcon:=hu) ?_;refine W1_ ?_;refine Qc ?_;exact⟨i+1,⟨by omega,hg⟩,by omega,Xd rfl ⟨JL,JL,JL,JL,trivial⟩ trivial⟩
 |false=>
  rw[hq] at hg hu
  simp only[if_true] at hg
  subst hg
  refine QHc ?_;refine Z5 (hcon:=hu) ?_;refine W1_ ?_;exact QDa
theorem Xi8 (l:List (List UInt8)) (hl:l.length≤9223372036854775807):Con Tryz.prog 144 [] [.d (.sl 1 (l.map Xl)),.fn 145 []] [] (ab (!l.all XZ)):=by
 refine Xg (xs:=[ab (!l.all XZ)]) Tryz.func144 rfl Tryz.ntmps144 rfl rfl rfl (fun E=> ?_)
 have hi:=XoR l hl
 rw[←Xis l 0]
 generalize X1t l 0=q at*
 refine W8_ ?_;refine Z3 (hcon:=hi) ?_;exact QHd
def X34 (p:Prp):Prop:=p.key.length≤9223372036854775807∧Yp p.v
theorem X3h {α:Type}{l:List α}{i:Nat}{x:α} (h:l[i]? =some x):l.take (i+1)=l.take i++[x]:=by
 obtain⟨hi,rfl⟩:=List.getElem?_eq_some_iff.1 h
 rw[List.take_add_one,List.getElem?_eq_getElem hi];rfl
theorem Xfk {l:List Prp}{i:Nat}{x:Prp} (h:l[i]? =some x):((l.take (i+1)).map Prp.key).map Xl=((l.take i).map Prp.key).map Xl++[Xl x.key]:=by
 rw[X3h h];simp
theorem Xh0 {l:List Prp}{i:Nat}{x:Prp} (h:l[i]? =some x):((l.drop i).map Prp.v).all U5=(U5 x.v&&((l.drop (i+1)).map Prp.v).all U5):=by
 obtain⟨hi,rfl⟩:=List.getElem?_eq_some_iff.1 h
 rw[List.drop_eq_getElem_cons hi,List.map_cons,List.all_cons]
theorem X7A {ls:List (List UInt8)}{ps:List Prp} (h:8<ls.length∨16<ps.length):V2 ls ps=4:=if_pos h
theorem Xe9 {ls:List (List UInt8)}{ps:List Prp} (h1:¬8<ls.length) (h2:¬16<ps.length):V2 ls ps=if ls.all XZ=false∨(ps.map Prp.key).all XZ=false then 6
 else if UF ls=false∨UF (ps.map Prp.key)=false then 26 else if (ps.map Prp.v).all U5=false then 8 else 0:=if_neg (by omega)
theorem XeC (ls:List (List UInt8)) (ps:List Prp) (hls:ls.length≤9223372036854775807) (hok:∀p∈ps,X34 p):Con Tryz.prog 94 [] [.d (.sl 1 (ls.map Xl)),.d (.sl 6 (ps.map Xh))] [] (ai (V2 ls ps)):=by
 refine Xg (xs:=[ai (V2 ls ps)]) Tryz.func94 rfl Tryz.ntmps94 rfl rfl rfl (fun E=> ?_)
 have hlm:(ps.map Xh).length=ps.length:=by simp
 have hlm2:(ls.map Xl).length=ls.length:=by simp
 by_cases h1:8<ls.length
 ·rw[X7A (.inl h1)]
  have h1':(8:Int)<(ls.map Xl).length:=by omega
  refine Xi ?_;exact QEa
 have h1':¬(8:Int)<(ls.map Xl).length:=by omega
 by_cases h2:16<ps.length
 ·rw[X7A (.inr h2)]
  have h2':(16:Int)<(ps.map Xh).length:=by omega
  refine XC ?_;exact QS
 have h2':¬(16:Int)<(ps.map Xh).length:=by omega
 rw[Xe9 h1 h2]
 have hc1:=Xi8 ls hls
 have hc2:=Xi8 (ps.map Prp.key) (by simp only[List.length_map];omega)
 have hr1:=Xdl ls hls
 have hr2:=Xdl (ps.map Prp.key) (by simp only[List.length_map];omega)
 generalize ls.all XZ=n1 at*
 generalize UF ls=r1 at*
 generalize (ps.map Prp.key).all XZ=n2 at*
 generalize UF (ps.map Prp.key)=r2 at*
 generalize hG:(ps.map Prp.v).all U5=G
 refine XC ?_;refine QU ?_;refine Xr ?_;refine Xq (V3 5 130 1 rfl rfl rfl) ?_
 refine XK (fun i:Nat=>i≤ps.length) (fun i=>⟨55,[(0,.d (.sl 1 (ls.map Xl))),(1,.d (.sl 6 (ps.map Xh))),(18,.d (.sl 6 (ps.map Xh))),(19,ai (ps.map Xh).length),(5,.own 130 (((ps.take i).map Prp.key).map Xl).length),(20,ai i)],[(130,.row 1 (((ps.take i).map Prp.key).map Xl))]⟩) (fun i=>ps.length-i) 0 (Nat.zero_le _)
  (Xd rfl JM ⟨rfl,trivial⟩) ?_
 intro i hi
 by_cases hil:i<ps.length
 case pos=>
  have hn:(i:Int)<(ps.map Xh).length:=by omega
  obtain⟨x,hx⟩:=XI (l:=ps) hil
  have hxc:(ps.map Xh)[i]? =some (Xh x):=Y5 hx
  have hroom:(((ps.take i).map Prp.key).map Xl).length≤4294967296:=by simp only[List.length_map,List.length_take];omega
  have hsn:=Xfk hx
  obtain⟨key,⟨vk,vn,vd,vs,vl⟩⟩:=x
  simp only[Xh,U3] at hxc hsn
  refine Qk ?_;refine X87 ?_
  refine⟨i+1,hil,by omega,?_⟩
  rw[hsn]
  exact Xd rfl ⟨JL,JL,JL,JL,AVal.le_of_eq (by refine Eq.trans (b:=AVal.own 130 (_+_)) rfl ?_;simp only[List.length_append,List.length_map,List.length_cons,List.length_nil]),JL,trivial⟩ ⟨rfl,trivial⟩
 obtain rfl:i=ps.length:=by omega
 have hn:¬((ps.length:Nat):Int)<(ps.map Xh).length:=by omega
 rw[List.take_length]
 refine W5_ ?_;refine JF ?_;refine W3_ ?_;refine Qof ?_;refine Xq (Yx 5 130 rfl rfl rfl) ?_
 by_cases b1:n1=false∨n2=false
 ·rw[if_pos b1]
  cases n1<;>cases n2<;>first|(simp at b1;done)|skip
  ·refine W2_ ?_;refine Z3 (hcon:=hc1) ?_;refine W1_ ?_;refine Qv ?_;exact QN
  ·refine W2_ ?_;refine Z3 (hcon:=hc1) ?_;refine W1_ ?_;refine Qv ?_;exact QN
  ·refine W2_ ?_;refine Z3 (hcon:=hc1) ?_;refine W2_ ?_;refine Z3 (hcon:=hc2) ?_;exact QS
 rw[if_neg b1]
 obtain⟨rfl,rfl⟩:n1=true∧n2=true:=by cases n1<;>cases n2<;>simp_all
 by_cases b2:r1=false∨r2=false
 ·rw[if_pos b2]
  cases r1<;>cases r2<;>first|(simp at b2;done)|skip
  ·refine Qpf ?_;exact Qqf
  ·refine Qpf ?_;exact Qqf
  ·refine Qpf ?_;refine W3_ ?_;refine Z3 (hcon:=hr2) ?_;exact QT
 rw[if_neg b2]
 obtain⟨rfl,rfl⟩:r1=true∧r2=true:=by cases r1<;>cases r2<;>simp_all
 refine Qpf ?_;refine W3_ ?_;refine Z3 (hcon:=hr2) ?_;refine W1_ ?_;refine QU ?_;refine W9_ ?_
 clear hi hil hn b1 b2 h1 h2
 refine XK (fun i:Nat=>i≤ps.length∧((ps.drop i).map Prp.v).all U5=G) (fun i=>⟨55,[(1,.d (.sl 6 (ps.map Xh))),(44,.d (.sl 6 (ps.map Xh))),(45,ai (ps.map Xh).length),(46,ai i)],[]⟩) (fun i=>ps.length-i) 0 ⟨by omega,by simpa using hG⟩
  (Xd rfl JM trivial) ?_
 rintro i ⟨hi,hg⟩
 by_cases hil:i<ps.length
 case neg=>
  have hn':¬(i:Int)<(ps.map Xh).length:=by omega
  rw[List.drop_of_length_le (by omega),List.map_nil,List.all_nil] at hg
  subst hg
  rw[if_neg (by simp)]
  refine W5_ ?_;exact QV
 have hn':(i:Int)<(ps.map Xh).length:=by omega
 obtain⟨x,hx⟩:=XI (l:=ps) hil
 have hxc:(ps.map Xh)[i]? =some (Xh x):=Y5 hx
 have hxo:=hok x (List.mem_of_getElem? hx)
 have hu:=XeM x.v
 rw[Xh0 hx] at hg
 generalize U5 x.v=pv at*
 obtain⟨key,⟨vk,vn,vd,vs,vl⟩⟩:=x
 simp only[Xv,Xh,U3] at hu hxc
 cases pv with
 |true=>
  rw[Bool.true_and] at hg
  refine Qk ?_;refine Qse ?_;refine Qzd ?_;exact Qrf
 |false=>
  rw[Bool.false_and] at hg
  subst hg
  rw[if_pos rfl]
  refine Qk ?_;refine Qse ?_;exact Qcc
end Go.Fw
