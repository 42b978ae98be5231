/- Reading values by the reference: content. -/
import Derived.Test.YtlkcofbjniphbaaGreatDoorB49
set_option maxHeartbeats 16000000
namespace Go.Fw
open Go Go.Proofs
set_option maxRecDepth 100000
set_option linter.unusedVariables false
set_option linter.unusedSimpArgs false
def Xcr (b:List UInt8) (a:Int) (k lists:Int) (r:Val×Int×Int):Prop:=
 Con Tryz.prog 269 [] [.d (Xk b),ai a,ai k,ai lists] [] (.tup [Xv r.1,ai r.2.1,ai r.2.2])
theorem XcJ (b:List UInt8) (m k:Nat) (a:Int) (gl gp:Nat→Int→Val×Int×Int) (R:Val×Int×Int) (hm:m≤8) (hb:b.length≤281474976710656) (hk:k≤8)
  (h8:k=8→∀R,R=X3z gl b a 8→X5c b a 8 (8-m) R) (h7:k=7→∀R,R=X3z gp b a 7→X5c b a 7 (8-m) R) (hG:R=UV gl gp b a k):Xcr b a k (8-m) R:=by
 refine Xg (xs:=[Xv R.1,ai R.2.1,ai R.2.2]) Tryz.func269 rfl Tryz.ntmps269 rfl rfl rfl (fun E=> ?_)
 by_cases hk8:k=8
 ·subst hk8
  have hcall:=h8 rfl R (by rw[hG];simp[UV])
  unfold X5c at hcall
  obtain⟨⟨xk,xn,xd,xs,xl⟩,xa,xe⟩:=R
  simp only[Xv] at hcall
  rw[show (((8:Nat):Int))=8 from rfl]
  refine X1a ?_;refine QBe ?_;refine Qna ?_;refine Qja ?_;refine Qb ?_;refine Qke ?_;exact Qef
 by_cases hk7:k=7
 ·subst hk7
  have hcall:=h7 rfl R (by rw[hG];simp[UV])
  unfold X5c at hcall
  obtain⟨⟨xk,xn,xd,xs,xl⟩,xa,xe⟩:=R
  simp only[Xv] at hcall
  rw[show (((7:Nat):Int))=7 from rfl]
  refine X1a ?_;refine QBe ?_;refine Qna ?_;refine Qka ?_;refine Qb ?_;refine Qke ?_;exact Qef
 by_cases hk0:k=0
 ·subst hk0
  obtain rfl:R=(.mk 0 0 0 [] [],(a:Int),0):=by rw[hG];simp[UV,YU]
  rw[show (((0:Nat):Int))=0 from rfl]
  refine X1a ?_;refine QBe ?_;refine Qna ?_;refine Qka ?_;refine Qed ?_;exact Qbf
 by_cases hk1:k=1
 ·subst hk1
  have hn:=X5l b a hb
  rw[show UV gl gp b a ((1:Nat):Int)=(.mk 1 (XW b a).1 0 [] [],(XW b a).2.1,(XW b a).2.2) by simp[UV,YU]] at hG
  generalize XW b a=u at*
  obtain⟨n,a2,e2⟩:=u
  subst hG
  rw[show (((1:Nat):Int))=1 from rfl]
  try simp only at hn
  refine X1a ?_;refine Qsi ?_;exact X1 ⟨_,XF 100 (cs:=[ai 1,ai n,ai 0,.d (.v (.string (Xb []))),ani]) (cs':=[ai 1,ai n,ai 0,.d (.v (.string (Xb []))),.d (.sl 5 [])]) rfl ⟨AVal.le_refl _,AVal.le_refl _,AVal.le_refl _,AVal.le_refl _,AVal.le_nil 5,trivial⟩ rfl,⟨⟨100,0,_,rfl,rfl,.inr ⟨5,_,rfl,rfl,rfl,rfl⟩⟩,rfl,rfl,trivial⟩,X2 _⟩
 by_cases hk2:k=2
 ·subst hk2
  have hn:=X5l b a hb
  rw[show UV gl gp b a ((2:Nat):Int)=(.mk 2 (XW b a).1 0 [] [],(XW b a).2.1,(XW b a).2.2) by simp[UV,YU]] at hG
  generalize XW b a=u at*
  obtain⟨n,a2,e2⟩:=u
  subst hG
  rw[show (((2:Nat):Int))=2 from rfl]
  try simp only at hn
  refine X1a ?_;refine Qc ?_;refine Qsi ?_;exact X1 ⟨_,XF 100 (cs:=[ai 2,ai n,ai 0,.d (.v (.string (Xb []))),ani]) (cs':=[ai 2,ai n,ai 0,.d (.v (.string (Xb []))),.d (.sl 5 [])]) rfl ⟨AVal.le_refl _,AVal.le_refl _,AVal.le_refl _,AVal.le_refl _,AVal.le_nil 5,trivial⟩ rfl,⟨⟨100,0,_,rfl,rfl,.inr ⟨5,_,rfl,rfl,rfl,rfl⟩⟩,rfl,rfl,trivial⟩,X2 _⟩
 by_cases hk5:k=5
 ·subst hk5
  have hn:=X5l b a hb
  rw[show UV gl gp b a ((5:Nat):Int)=(.mk 5 (XW b a).1 0 [] [],(XW b a).2.1,(XW b a).2.2) by simp[UV,YU]] at hG
  generalize XW b a=u at*
  obtain⟨n,a2,e2⟩:=u
  subst hG
  rw[show (((5:Nat):Int))=5 from rfl]
  try simp only at hn
  refine X1a ?_;refine Qna ?_;refine Qsi ?_;exact X1 ⟨_,XF 100 (cs:=[ai 5,ai n,ai 0,.d (.v (.string (Xb []))),ani]) (cs':=[ai 5,ai n,ai 0,.d (.v (.string (Xb []))),.d (.sl 5 [])]) rfl ⟨AVal.le_refl _,AVal.le_refl _,AVal.le_refl _,AVal.le_refl _,AVal.le_nil 5,trivial⟩ rfl,⟨⟨100,0,_,rfl,rfl,.inr ⟨5,_,rfl,rfl,rfl,rfl⟩⟩,rfl,rfl,trivial⟩,X2 _⟩
 by_cases hk6:k=6
 ·subst hk6
  have hn:=X5l b a hb
  rw[show UV gl gp b a ((6:Nat):Int)=(.mk 6 (XW b a).1 0 [] [],(XW b a).2.1,(XW b a).2.2) by simp[UV,YU]] at hG
  generalize XW b a=u at*
  obtain⟨n,a2,e2⟩:=u
  subst hG
  rw[show (((6:Nat):Int))=6 from rfl]
  try simp only at hn
  refine X1a ?_;refine QBe ?_;refine Qe ?_;refine QLd ?_;refine X2a ?_;exact X1 ⟨_,XF 100 (cs:=[ai 6,ai n,ai 0,.d (.v (.string (Xb []))),ani]) (cs':=[ai 6,ai n,ai 0,.d (.v (.string (Xb []))),.d (.sl 5 [])]) rfl ⟨AVal.le_refl _,AVal.le_refl _,AVal.le_refl _,AVal.le_refl _,AVal.le_nil 5,trivial⟩ rfl,⟨⟨100,0,_,rfl,rfl,.inr ⟨5,_,rfl,rfl,rfl,rfl⟩⟩,rfl,rfl,trivial⟩,X2 _⟩
 by_cases hk4:k=4
 ·subst hk4
  have hn:=Xg5 b a 100 hb
  rw[show UV gl gp b a ((4:Nat):Int)=(.mk 4 0 0 (U2 b a 100).1 [],(U2 b a 100).2.1,(U2 b a 100).2.2) by simp[UV,YU]] at hG
  generalize U2 b a 100=u at*
  obtain⟨s,a2,e2⟩:=u
  subst hG
  rw[show (((4:Nat):Int))=4 from rfl]
  try simp only at hn
  refine X1a ?_;refine QBe ?_;refine Qna ?_;refine Qe ?_;refine QLd ?_;refine X2a ?_;exact X1 ⟨_,XF 100 (cs:=[ai 4,ai 0,ai 0,.d (.v (.string (Xb s))),ani]) (cs':=[ai 4,ai 0,ai 0,.d (.v (.string (Xb s))),.d (.sl 5 [])]) rfl ⟨AVal.le_refl _,AVal.le_refl _,AVal.le_refl _,AVal.le_refl _,AVal.le_nil 5,trivial⟩ rfl,⟨⟨100,0,_,rfl,rfl,.inr ⟨5,_,rfl,rfl,rfl,rfl⟩⟩,rfl,rfl,trivial⟩,X2 _⟩
 obtain rfl:k=3:=by omega
 have hn:=X5l b a hb
 have hne:=X7k b a
 rw[show UV gl gp b a ((3:Nat):Int)=if (XW b a).2.2≠0 then (.mk 3 0 0 [] [],(XW b a).2.1,(XW b a).2.2) else (.mk 3 (XW b a).1 (XW b (XW b a).2.1).1 [] [],(XW b (XW b a).2.1).2.1,(XW b (XW b a).2.1).2.2) by simp[UV,YU]] at hG
 have hz:=Xmu (b:=b) (a:=a)
 generalize XW b a=u at*
 obtain⟨n,a2,e2⟩:=u
 simp only at hn hG hne hz
 rw[show (((3:Nat):Int))=3 from rfl]
 by_cases he:e2=0
 ·subst he
  rw[if_neg (by simp)] at hG
  obtain⟨q,hq1,hq2⟩:=hne rfl
  simp only at hq1
  subst hq1
  have hd:=X5l b q hb
  generalize XW b q=u2 at*
  obtain⟨d,a3,e3⟩:=u2
  simp only at hd hG
  subst hG
  refine X1a ?_;refine QBe ?_;refine Qc ?_;refine Qe ?_;refine QLd ?_;refine XC ?_;refine Qc ?_;refine Z3 (hcon:=hd) ?_;refine XrX ?_;exact X1 ⟨_,XF 100 (cs:=[ai 3,ai n,ai d,.d (.v (.string (Xb []))),ani]) (cs':=[ai 3,ai n,ai d,.d (.v (.string (Xb []))),.d (.sl 5 [])]) rfl ⟨AVal.le_refl _,AVal.le_refl _,AVal.le_refl _,AVal.le_refl _,AVal.le_nil 5,trivial⟩ rfl,⟨⟨100,0,_,rfl,rfl,.inr ⟨5,_,rfl,rfl,rfl,rfl⟩⟩,rfl,rfl,trivial⟩,X2 _⟩
 ·rw[if_pos he] at hG
  obtain rfl:=hz he
  subst hG
  refine X1a ?_;refine QBe ?_;refine Qc ?_;refine Qe ?_;refine QLd ?_;refine XC ?_;refine QCd ?_;exact X1 ⟨_,XF 100 (cs:=[ai 3,ai 0,ai 0,.d (.v (.string (Xb []))),ani]) (cs':=[ai 3,ai 0,ai 0,.d (.v (.string (Xb []))),.d (.sl 5 [])]) rfl ⟨AVal.le_refl _,AVal.le_refl _,AVal.le_refl _,AVal.le_refl _,AVal.le_nil 5,trivial⟩ rfl,⟨⟨100,0,_,rfl,rfl,.inr ⟨5,_,rfl,rfl,rfl,rfl⟩⟩,rfl,rfl,trivial⟩,X2 _⟩
theorem X9R (b:List UInt8) (m a:Nat) (want path:Int) (gl gp:Nat→Int→Val×Int×Int) (R:Val×Int×Int) (hm:m≤8) (ha:a≤b.length) (hb:b.length≤281474976710656)
  (hcont:a<b.length→∀k:Nat,k≤8→(k=8→m≠0)→(want≠0→(k:Int)=want)→Xcr b ((a:Int)+1) k (8-m) (UV gl gp b ((a:Int)+1) k))
  (hok:∀k:Int,(UV gl gp b ((a:Int)+1) k).2.2=0→Yp (UV gl gp b ((a:Int)+1) k).1)
  (hp:(path= -1∧want=0)∨∃i:Nat,path=i∧want=5+(i%2:Nat)) (hR:R=X1I (Vm gl gp m b a want)):X44 b a (8-m) path R:=by
 refine Xg (xs:=[Xv R.1,ai R.2.1,ai R.2.2]) Tryz.func253 rfl Tryz.ntmps253 rfl rfl rfl (fun E=> ?_)
 rw[XrV,Int.toNat_natCast] at hR
 by_cases h1:a=b.length
 ·rw[if_pos (by omega)] at hR
  subst hR
  have hai:(a:Int)=b.length:=by omega
  refine QSc ?_;refine W9_ ?_;exact Qdf
 rw[if_neg (by omega)] at hR
 have hai:¬(a:Int)=b.length:=by omega
 obtain⟨c,hc⟩:=XI (l:=b) (k:=a) (by omega)
 rw[hc,Option.getD_some] at hR
 by_cases hg:((c.toNat:Nat):Int)≤8∧(c.toNat=8→m≠0)∧(want≠0→((c.toNat:Nat):Int)=want)
 case neg=>
  rw[if_pos (by omega)] at hR
  subst hR
  by_cases h8:8<((c.toNat:Nat):Int)
  ·refine QSc ?_;refine Qag ?_;refine Yc ?_;refine Qy ?_;refine Qs ?_;refine Qti ?_;refine Qs ?_;refine Qti ?_;exact Qcf
  by_cases hk8:((c.toNat:Nat):Int)=8∧(8:Int)-m≥8
  ·obtain⟨hk1,hk2⟩:=hk8
   refine QSc ?_;refine Qag ?_;refine UY ?_;refine Que ?_;refine Qti ?_;refine Qs ?_;refine Qti ?_;exact Qcf
  rcases hp with ⟨rfl,rfl⟩|⟨i,rfl,rfl⟩
  ·exfalso;omega
  have hi0:(i:Int)≥0:=by omega
  by_cases hk:((c.toNat:Nat):Int)=8
  ·have hk2:¬(8:Int)-m≥8:=fun h=>hk8 ⟨hk,h⟩
   by_cases hi:i%2=0
   ·have hi1:((i%2:Nat):Int)=0:=by omega
    have hi2:((c.toNat:Nat):Int)≠5:=by omega
    refine QSc ?_;refine Qag ?_;refine UY ?_;refine Qcb ?_;refine Qui ?_;refine QYd ?_;refine W3_ ?_;refine Que ?_;refine Qti ?_;exact Qcf
   ·have hi1:((i%2:Nat):Int)≠0:=by omega
    have hi3:((i%2:Nat):Int)=1:=by omega
    have hi2:((c.toNat:Nat):Int)≠6:=by omega
    refine QSc ?_;refine Qag ?_;refine UY ?_;refine Qcb ?_;refine Qui ?_;refine QUd ?_;refine Qxe ?_;refine Qui ?_;refine QYd ?_;refine W3_ ?_;refine Que ?_;exact Qdf
  ·by_cases hi:i%2=0
   ·have hi1:((i%2:Nat):Int)=0:=by omega
    have hi2:((c.toNat:Nat):Int)≠5:=by omega
    refine Qvi ?_;refine Qxe ?_;refine Qui ?_;refine QYd ?_;refine W3_ ?_;refine Que ?_;refine Qti ?_;exact Qcf
   ·have hi1:((i%2:Nat):Int)≠0:=by omega
    have hi3:((i%2:Nat):Int)=1:=by omega
    have hi2:((c.toNat:Nat):Int)≠6:=by omega
    refine Qvi ?_;refine Qxe ?_;refine Qui ?_;refine QUd ?_;refine Qxe ?_;refine Qui ?_;refine QYd ?_;refine W3_ ?_;refine Que ?_;exact Qdf
 obtain⟨hg1,hg2,hg3⟩:=hg
 rw[if_neg (by omega)] at hR
 have hcall:=hcont (by omega) c.toNat (by omega) hg2 hg3
 have hokk:=hok c.toNat
 unfold Xcr at hcall
 generalize UV gl gp b ((a:Int)+1) c.toNat=r at*
 obtain⟨⟨vk,vn,vd,vs,vl⟩,x,e⟩:=r
 have hvalid:=fun he=>X4A (.mk vk vn vd vs vl) (hokk he)
 simp only[Xv] at hcall hvalid hR
 rcases hp with ⟨rfl,rfl⟩|⟨i,rfl,rfl⟩
 ·by_cases hk:((c.toNat:Nat):Int)=8
  ·have hk2:¬(8:Int)-m≥8:=by have:=hg2 (by omega);omega
   by_cases he:e=0
   case neg=>
    rw[if_pos he] at hR
    subst hR
    refine Qwi ?_;refine Qxi ?_;exact Qzi
   subst he
   replace hvalid:=hvalid rfl
   rw[if_neg (by simp)] at hR
   cases hv:Xe 8 (.mk vk vn vd vs vl) with
   |false=>
    rw[hv] at hvalid hR
    rw[if_pos rfl] at hR
    subst hR
    refine Qwi ?_;refine Qxi ?_;refine QAi ?_;exact Qdf
   |true=>
    rw[hv] at hvalid hR
    rw[if_neg (by simp)] at hR
    subst hR
    refine Qwi ?_;refine Qxi ?_;refine QAi ?_;exact Qpi
  ·skip
   by_cases he:e=0
   case neg=>
    rw[if_pos he] at hR
    subst hR
    refine Qvi ?_;refine Qxi ?_;refine Qxi ?_;exact Qzi
   subst he
   replace hvalid:=hvalid rfl
   rw[if_neg (by simp)] at hR
   cases hv:Xe 8 (.mk vk vn vd vs vl) with
   |false=>
    rw[hv] at hvalid hR
    rw[if_pos rfl] at hR
    subst hR
    refine Qvi ?_;refine Qxi ?_;refine Qxi ?_;refine QAi ?_;exact Qdf
   |true=>
    rw[hv] at hvalid hR
    rw[if_neg (by simp)] at hR
    subst hR
    refine Qvi ?_;refine Qxi ?_;refine Qxi ?_;refine QAi ?_;exact Qpi
 have hi0:(i:Int)≥0:=by omega
 have hk:¬((c.toNat:Nat):Int)=8:=by have:=hg3 (by omega);omega
 by_cases hi:i%2=0
 ·have hi1:((i%2:Nat):Int)=0:=by omega
  have hi2:((c.toNat:Nat):Int)=5:=by have:=hg3 (by omega);omega
  have hi3:¬((i%2:Nat):Int)=1:=by omega
  by_cases he:e=0
  case neg=>
   rw[if_pos he] at hR
   subst hR
   refine QBi ?_;exact Qzi
  subst he
  replace hvalid:=hvalid rfl
  rw[if_neg (by simp)] at hR
  cases hv:Xe 8 (.mk vk vn vd vs vl) with
  |false=>
   rw[hv] at hvalid hR
   rw[if_pos rfl] at hR
   subst hR
   refine QBi ?_;refine QAi ?_;exact Qdf
  |true=>
   rw[hv] at hvalid hR
   rw[if_neg (by simp)] at hR
   subst hR
   refine QBi ?_;refine QAi ?_;exact Qpi
 have hi1:¬((i%2:Nat):Int)=0:=by omega
 have hi3:((i%2:Nat):Int)=1:=by omega
 have hi2:((c.toNat:Nat):Int)=6:=by have:=hg3 (by omega);omega
 by_cases he:e=0
 case neg=>
  rw[if_pos he] at hR
  subst hR
  refine QCi ?_;exact Qyi
 subst he
 replace hvalid:=hvalid rfl
 rw[if_neg (by simp)] at hR
 cases hv:Xe 8 (.mk vk vn vd vs vl) with
 |false=>
  rw[hv] at hvalid hR
  rw[if_pos rfl] at hR
  subst hR
  refine QCi ?_;refine QDd ?_;refine Z3 (hcon:=hvalid) ?_;refine W2_ ?_;exact Qdf
 |true=>
  rw[hv] at hvalid hR
  rw[if_neg (by simp)] at hR
  subst hR
  refine QCi ?_;refine QDd ?_;refine Z3 (hcon:=hvalid) ?_;refine W2_ ?_;exact Qpi
theorem XcD (i:Nat) (q:Int) (h:(noG i q).2.2=0):Xe 8 (noG i q).1=true:=by simp[noG] at h
theorem XgM (b:List UInt8) (i:Nat) (q:Int) (h:(VK b i q).2.2=0):Xe 8 (VK b i q).1=true:=XaE h
theorem Xoq (b:List UInt8) (m:Nat) (q:Int) (h:(X0t b m q).2.2=0):Xe 8 (X0t b m q).1=true:=by
 rw[X2I] at h ⊢
 exact XaE h
theorem XeH (b:List UInt8):∀(m i:Nat) (q:Int),(X1U b m i q).2.2=0→Xe 8 (X1U b m i q).1=true
 |0,i,q,h=>XcD i q h
 |m+1,i,q,h=>Xoq b m q h
theorem X9V {gl gp:Nat→Int→Val×Int×Int}{b:List UInt8}{a k:Int} (hgl:∀i q,(gl i q).2.2=0→Xe 8 (gl i q).1=true) (hgp:∀i q,(gp i q).2.2=0→Xe 8 (gp i q).1=true)
  (h:(UV gl gp b a k).2.2=0):Yp (UV gl gp b a k).1:=by
 obtain⟨e1,e2⟩:=Xfm gl gp b a k
 rw[e1] at h
 rw[e2 h]
 exact Xom hgl hgp h
theorem Xdn (b:List UInt8) (hb:b.length≤281474976710656) (m a i:Nat) (hm:m≤8) (ha:a≤b.length):X44 b a (8-m) i (X1I (VK b i a)):=by
 have hw:(5+((i%2:Nat):Int))=5∨(5+((i%2:Nat):Int))=6:=by omega
 unfold VK
 rw[←Xg8 b a m _ hw noG noG]
 refine X9R b m a (5+((i%2:Nat):Int)) i noG noG _ hm ha hb (fun _ k hk _ hkw=> ?_) (fun k h=>X9V XcD XcD h) (.inr ⟨i,rfl,rfl⟩) rfl
 have hk2:=hkw (by omega)
 exact XcJ b m k (a+1) noG noG _ hm hb hk (fun h=>by omega) (fun h=>by omega) rfl
theorem XdA (b:List UInt8) (hb:b.length≤281474976710656):∀(m a:Nat),m≤8→a≤b.length→X44 b a (8-m) (-1) (X1I (X0t b m a))
 |0,a,hm,ha=>by
  rw[X2I]
  exact X9R b 0 a 0 (-1) (X1U b 0) (VK b) _ hm ha hb
   (fun _ k hk h8 _=>XcJ b 0 k (a+1) (X1U b 0) (VK b) _ hm hb hk (fun h=>absurd rfl (h8 h))
    (fun _ R hR=>Xhg b 0 (a+1) (VK b) R hm hb (fun i q h=>X5I i q h) (fun i q h=>Xdn b hb 0 q i hm h) hR) rfl)
   (fun k h=>X9V (XeH b 0) (XgM b) h) (.inl ⟨rfl,rfl⟩) rfl
 |m+1,a,hm,ha=>by
  rw[X2I]
  exact X9R b (m+1) a 0 (-1) (X1U b (m+1)) (VK b) _ hm ha hb
   (fun _ k hk h8 _=>XcJ b (m+1) k (a+1) (X1U b (m+1)) (VK b) _ hm hb hk
    (fun _ R hR=>Xoi b (m+1) (a+1) (X1U b (m+1)) R hm hb (fun i q h=>Xbr m q h) (fun i q h=>by
     have:=XdA b hb m q (by omega) h
     rw[show (8:Int)-((m+1:Nat):Int)+1=8-(m:Int) by omega]
     exact this) hR)
    (fun _ R hR=>Xhg b (m+1) (a+1) (VK b) R hm hb (fun i q h=>X5I i q h) (fun i q h=>Xdn b hb (m+1) q i hm h) hR) rfl)
   (fun k h=>X9V (XeH b (m+1)) (XgM b) h) (.inl ⟨rfl,rfl⟩) rfl
theorem XnJ (b:List UInt8) (a:Int) (h:a<0∨(b.length:Int)<a):Con Tryz.prog 253 [] [.d (Xk b),ai a,ai 0,ai (-1)] [] (.tup [Xv zV,ai 0,ai 1]):=by
 refine Xg (xs:=[Xv zV,ai 0,ai 1]) Tryz.func253 rfl Tryz.ntmps253 rfl rfl rfl (fun E=> ?_)
 by_cases h1:a<0
 ·refine Xt ?_;refine QL ?_;exact Qcf
 ·have h2:(b.length:Int)<a:=by omega
  refine Yc ?_;refine QP ?_;exact Qdf
theorem Xmx (b:List UInt8) (hb:b.length≤281474976710656) (a:Int):Con Tryz.prog 253 [] [.d (Xk b),ai a,ai 0,ai (-1)] [] (.tup [Xv (Ug b a).1,ai (Ug b a).2.1,ai (Ug b a).2.2]):=by
 rw[Xqy]
 by_cases h:a<0∨(b.length:Int)<a
 ·rw[if_pos h];exact XnJ b a h
 ·rw[if_neg h]
  obtain⟨q,rfl⟩:∃q:Nat,a=q:=⟨a.toNat,by omega⟩
  exact XdA b hb 8 q (by omega) (by omega)
theorem Xot (b:List UInt8) (hb:b.length≤281474976710656) (a:Int):Con Tryz.prog 221 [] [.d (Xk b),ai a] [] (.tup [Xv (Ug b a).1,ai (Ug b a).2.1,ai (Ug b a).2.2]):=by
 refine Xg (xs:=[Xv (Ug b a).1,ai (Ug b a).2.1,ai (Ug b a).2.2]) Tryz.func221 rfl Tryz.ntmps221 rfl rfl rfl (fun E=> ?_)
 have h:=Xmx b hb a
 generalize Ug b a=u at*
 obtain⟨⟨k,n,d,s,l⟩,i,e⟩:=u
 simp only[Xv] at h
 refine Xj ?_;refine Z3 (hcon:=h) ?_;refine W7_ ?_;exact Qef
end Go.Fw
