/- Values that are valid, second part. -/
import Derived.Test.YtlkcofbjniphbaaGreatDoorB14
set_option maxHeartbeats 8000000
namespace Go.Fw
open Go Go.Proofs
set_option maxRecDepth 100000
set_option linter.unusedVariables false
set_option linter.unusedSimpArgs false
theorem XrH (v:Val) (ih:∀x∈v.l,X90 x):X90 v:=by
 obtain⟨k,n,d,s,l⟩:=v
 intro m hm
 refine Xg (xs:=[ab (Xe m (.mk k n d s l))]) Tryz.func198 rfl Tryz.ntmps198 rfl rfl rfl (fun E=> ?_)
 have hlen:=X0l l
 simp only[Val.l] at ih
 by_cases hk0:k=0
 ·subst hk0
  by_cases hd0:d=0
  case neg=>
   rw[show Xe m (.mk 0 n d s l)=false by rw[Xe];simp[*]]
   exact Qab
  by_cases hs0:s=[]
  case neg=>
   rw[show Xe m (.mk 0 n d s l)=false by rw[Xe];simp[*]]
   exact Qeb
  by_cases hl0:l.length=0
  case neg=>
   have hl1:0<l.length:=by omega
   rw[show Xe m (.mk 0 n d s l)=false by rw[Xe];simp[*]]
   exact Qjb
  by_cases hn:n=0
  ·rw[show Xe m (.mk 0 n d s l)=true by rw[Xe];simp[*]]
   refine Qlb ?_;refine JD ?_;refine YB ?_;refine Qob ?_;refine Qnb ?_;exact X1 ⟨_,Xw 4 (y:=ab true) (AVal.le_of_eq (by refine Eq.trans (b:=ab (decide (n=0))) rfl ?_;exact congrArg ab (decide_eq_true hn))),⟨rfl,trivial⟩,X2 _⟩
  ·rw[show Xe m (.mk 0 n d s l)=false by rw[Xe];simp[*]]
   refine Qlb ?_;refine JD ?_;refine YB ?_;refine Qob ?_;refine Qnb ?_;exact X1 ⟨_,Xw 4 (y:=ab false) (AVal.le_of_eq (by refine Eq.trans (b:=ab (decide (n=0))) rfl ?_;exact congrArg ab (decide_eq_false hn))),⟨rfl,trivial⟩,X2 _⟩
 by_cases hk1:k=1
 ·subst hk1
  by_cases hd0:d=0
  case neg=>
   rw[show Xe m (.mk 1 n d s l)=false by rw[Xe];simp[*]]
   exact Qab
  by_cases hs0:s=[]
  case neg=>
   rw[show Xe m (.mk 1 n d s l)=false by rw[Xe];simp[*]]
   exact Qeb
  by_cases hl0:l.length=0
  case neg=>
   have hl1:0<l.length:=by omega
   rw[show Xe m (.mk 1 n d s l)=false by rw[Xe];simp[*]]
   exact Qjb
  by_cases hn:n=0
  ·rw[show Xe m (.mk 1 n d s l)=true by rw[Xe];simp[*]]
   refine Qlb ?_;refine JD ?_;refine YB ?_;refine Qpb ?_;refine Qqb ?_;refine Qsb ?_;exact QWa
  by_cases hn1:n=1
  ·rw[show Xe m (.mk 1 n d s l)=true by rw[Xe];simp[*]]
   refine Qlb ?_;refine JD ?_;refine YB ?_;refine Qpb ?_;refine Qqb ?_;refine QRa ?_;refine Qmb ?_;refine QE ?_;refine QKa ?_;exact Qtb
  ·rw[show Xe m (.mk 1 n d s l)=false by rw[Xe];simp[*]]
   refine Qlb ?_;refine JD ?_;refine YB ?_;refine Qpb ?_;refine Qqb ?_;refine QRa ?_;refine Qmb ?_;refine QE ?_;refine QKa ?_;exact Qub
 by_cases hk2:k=2
 ·subst hk2
  by_cases hd0:d=0
  case neg=>
   rw[show Xe m (.mk 2 n d s l)=false by rw[Xe];simp[*]]
   exact Qab
  by_cases hs0:s=[]
  case neg=>
   rw[show Xe m (.mk 2 n d s l)=false by rw[Xe];simp[*]]
   exact Qeb
  by_cases hl0:l.length=0
  case neg=>
   have hl1:0<l.length:=by omega
   rw[show Xe m (.mk 2 n d s l)=false by rw[Xe];simp[*]]
   exact Qjb
  rw[show Xe m (.mk 2 n d s l)=inV n by rw[Xe];simp[inV, *]]
  refine Qlb ?_;refine Qvb ?_;refine Qob ?_;refine Z3 (hcon:=X6i n) ?_;exact QWa
 by_cases hk3:k=3
 ·subst hk3
  by_cases hs0:s=[]
  case neg=>
   rw[show Xe m (.mk 3 n d s l)=false by rw[Xe];simp[*]]
   refine Qyb ?_;exact QZa
  by_cases hl0:l.length=0
  case neg=>
   have hl1:0<l.length:=by omega
   rw[show Xe m (.mk 3 n d s l)=false by rw[Xe];simp[*]]
   refine Qyb ?_;refine Qib ?_;exact QXa
  by_cases hd:2≤d
  ·rw[show Xe m (.mk 3 n d s l)=X0z n d by rw[Xe];simp[*]]
   refine Qyb ?_;refine Qib ?_;refine Qkb ?_;refine Qvb ?_;refine Qpb ?_;refine Qob ?_;refine Qzb ?_;refine QRa ?_;refine QMa ?_;refine Xe7 (hg:=JSa) (hpl:=JSb) (hps:=JSc) (hz:=JSb) (h1:=JSb) (ht:=JSb) (hout:=JSc) (hd:=JSb) ?_;refine Z3 (hcon:=Xqh n d) ?_;refine Qr ?_;exact QWa
  ·rw[show Xe m (.mk 3 n d s l)=false by rw[Xe];simp[*]]
   refine Qyb ?_;refine Qib ?_;refine Qkb ?_;refine Qvb ?_;refine Qpb ?_;refine Qob ?_;refine Qzb ?_;refine QTa ?_;refine QI ?_;exact QWa
 by_cases hk4:k=4
 ·subst hk4
  by_cases hd0:d=0
  case neg=>
   rw[show Xe m (.mk 4 n d s l)=false by rw[Xe];simp[*]]
   exact Qab
  by_cases hl0:l.length=0
  case neg=>
   have hl1:0<l.length:=by omega
   rw[show Xe m (.mk 4 n d s l)=false by rw[Xe];simp[*]]
   refine Qbb ?_;refine Qxb ?_;refine QE ?_;refine Qib ?_;exact QXa
  by_cases hn:n=0
  case neg=>
   rw[show Xe m (.mk 4 n d s l)=false by rw[Xe];simp[*]]
   refine QAb ?_;refine Qqb ?_;refine QBb ?_;refine QBb ?_;exact QWa
  have hsz:(Xb s).size=s.length:=rfl
  by_cases hs:s.length≤100
  case neg=>
   rw[show Xe m (.mk 4 n d s l)=false by rw[Xe];simp[*]]
   refine QAb ?_;refine Qqb ?_;refine QRa ?_;refine XbM (hg:=JSa) (hx:=JSb) (hT:=JSb) (hd:=JSb) ?_;refine QDb ?_;refine QBb ?_;exact QWa
  rw[show Xe m (.mk 4 n d s l)=X0q s by rw[Xe];simp[*]]
  refine QAb ?_;refine Qqb ?_;refine QRa ?_;refine XbM (hg:=JSa) (hx:=JSb) (hT:=JSb) (hd:=JSb) ?_;refine QDb ?_;refine QRa ?_;refine Z3 (hcon:=Xlo s (by omega)) ?_;refine QEb ?_;refine Qr ?_;refine QKa ?_;exact X1 ⟨_,Xw 4 (y:=ab (X0q s)) (AVal.le_of_eq (by refine Eq.trans (b:=ab (decide (X2k s<0))) rfl ?_;exact congrArg ab (by cases hv:X0q s with|true=>exact decide_eq_true (Xhl.2 hv)|false=>exact decide_eq_false (fun h=>by rw[Xhl.1 h] at hv;simp at hv)))),⟨rfl,trivial⟩,X2 _⟩
 by_cases hk5:k=5
 ·subst hk5
  by_cases hd0:d=0
  case neg=>
   rw[show Xe m (.mk 5 n d s l)=false by rw[Xe];simp[*]]
   exact Qab
  by_cases hs0:s=[]
  case neg=>
   rw[show Xe m (.mk 5 n d s l)=false by rw[Xe];simp[*]]
   exact Qeb
  by_cases hl0:l.length=0
  case neg=>
   have hl1:0<l.length:=by omega
   rw[show Xe m (.mk 5 n d s l)=false by rw[Xe];simp[*]]
   exact Qjb
  by_cases hn:1≤n
  case neg=>
   rw[show Xe m (.mk 5 n d s l)=false by rw[Xe];simp[*]]
   refine Qlb ?_;refine Qvb ?_;refine Qpb ?_;refine Qpb ?_;refine Qpb ?_;refine X5 ?_;refine QIa ?_;refine Qnb ?_;refine JT ?_;refine XP ?_;refine QFb ?_;refine Qxb ?_;exact QWa
  rw[show Xe m (.mk 5 n d s l)=decide (n≤1000000) by rw[Xe];simp[*]]
  refine Qlb ?_;refine Qvb ?_;refine Qpb ?_;refine Qpb ?_;refine Qpb ?_;refine X5 ?_;refine QIa ?_;refine Qnb ?_;refine JT ?_;refine XP ?_;refine QFb ?_;refine QRa ?_;refine QDb ?_;exact QWa
 by_cases hk6:k=6
 ·subst hk6
  by_cases hd0:d=0
  case neg=>
   rw[show Xe m (.mk 6 n d s l)=false by rw[Xe];simp[*]]
   exact Qab
  by_cases hs0:s=[]
  case neg=>
   rw[show Xe m (.mk 6 n d s l)=false by rw[Xe];simp[*]]
   exact Qeb
  by_cases hl0:l.length=0
  case neg=>
   have hl1:0<l.length:=by omega
   rw[show Xe m (.mk 6 n d s l)=false by rw[Xe];simp[*]]
   exact Qjb
  by_cases hn:1≤n
  case neg=>
   rw[show Xe m (.mk 6 n d s l)=false by rw[Xe];simp[*]]
   refine Qlb ?_;refine QGb ?_;refine Qnb ?_;refine QFb ?_;refine Qxb ?_;exact QWa
  rw[show Xe m (.mk 6 n d s l)=decide (n≤1000000) by rw[Xe];simp[*]]
  refine Qlb ?_;refine QGb ?_;refine Qnb ?_;refine QFb ?_;refine QRa ?_;refine QDb ?_;exact QWa
 by_cases hk7:k=7
 ·subst hk7
  by_cases hd0:d=0
  case neg=>
   rw[show Xe m (.mk 7 n d s l)=false by rw[Xe];simp[*]]
   exact Qab
  by_cases hs0:s=[]
  case neg=>
   rw[show Xe m (.mk 7 n d s l)=false by rw[Xe];simp[*]]
   exact Qeb
  by_cases hn:n=0
  case neg=>
   rw[show Xe m (.mk 7 n d s l)=false by rw[Xe];simp[*]]
   refine Qbb ?_;refine Qdb ?_;refine Qfb ?_;refine QIb ?_;refine Qpb ?_;refine Qqb ?_;refine Qxb ?_;exact QWa
  rw[show Xe m (.mk 7 n d s l)=VX l by rw[Xe];simp[VX, *]]
  have hp:XbK l:=Xld l ih
  unfold XbK at hp
  refine Qbb ?_;refine Qdb ?_;refine Qfb ?_;refine QIb ?_;refine Qpb ?_;refine Qqb ?_;refine QRa ?_;refine Z3 (hcon:=hp) ?_;refine Qr ?_;exact QWa
 by_cases hk8:k=8
 ·subst hk8
  by_cases hd0:d=0
  case neg=>
   rw[show Xe m (.mk 8 n d s l)=false by rw[Xe];simp[*]]
   exact Qab
  by_cases hs0:s=[]
  case neg=>
   rw[show Xe m (.mk 8 n d s l)=false by rw[Xe];simp[*]]
   exact Qeb
  by_cases hn:n=0
  case neg=>
   rw[show Xe m (.mk 8 n d s l)=false by rw[Xe];simp[*]]
   refine QJb ?_;refine QTa ?_;refine Qr ?_;refine QQa ?_;refine Qv ?_;exact QYa
  by_cases h64:l.length≤64
  case neg=>
   rw[show Xe m (.mk 8 n d s l)=false by rw[Xe];simp[*]]
   refine QKb ?_;refine QQa ?_;refine Qv ?_;exact QYa
  by_cases hm1:1≤m
  case neg=>
   rw[show Xe m (.mk 8 n d s l)=false by rw[Xe];simp[*]]
   refine QKb ?_;refine QLb ?_;refine Qzb ?_;exact QMb
  rw[show Xe m (.mk 8 n d s l)=Vy (m-1) (l.drop 0) by rw[Xe];simp[*]]
  refine QKb ?_;refine QLb ?_;refine Qzb ?_;refine QHb ?_;refine QNb ?_
  refine XK (fun i:Nat=>i≤l.length∧Vy (m-1) (l.drop 0)=Vy (m-1) (l.drop i)) (fun i=>⟨142,[(1,ai (8-m:Nat)),(120,.d (.sl 5 (XU l))),(121,ai l.length),(122,ai i)],[]⟩) (fun i=>l.length-i) 0 ⟨by omega,rfl⟩
   (Xd rfl ⟨JL,JL,(by refine AVal.le_of_eq ?_;refine Eq.trans (b:=ai ((XU l).length:Nat)) rfl ?_;rw[hlen]),JL,trivial⟩ trivial) ?_
  rintro i ⟨hi,hpv⟩
  by_cases hlt:i<l.length
  ·obtain⟨x,hx⟩:=XI (l:=l) hlt
   have hgx:=X3O hx
   have hvx:=ih x (List.mem_of_getElem? hx) (m-1) (by omega)
   have hst:=XgH (m:=m-1) hx
   have e8:nj (8-m+1)=nj (8-(m-1)):=congrArg nj (by omega)
   obtain⟨k',n',d',s',q'⟩:=x
   simp only[Xv] at hvx
   rw[U3] at hgx
   cases hvv:Xe (m-1) (.mk k' n' d' s' q') with
   |true=>
    rw[hvv] at hvx
    rw[hvv,Bool.true_and] at hst
    refine QPb ?_;refine QIa ?_;refine QQb ?_;refine UB (γ:=100) (hg:=JSa) (hz:=JSb) (h1:=JSb) (hdead:=JSb) (hf:=JSb) (hd:=JSb) ?_;refine QRb ?_;refine QIa ?_;refine X9J (hg:=JSa) (hx:=JSb) (hL:=JSb) (hsz:=JSc) (ht:=JSb) (hy:=JSc) (hlen:=JSb) (hd:=JSb) ?_;refine QQa ?_;(refine Z1 (op:= .add) (r':=nj (8-(m-1))) (u:=nj (8-m)) (v:=nj 1) ?_ (hr':=by exact e8) (hr:=by exact Ym (by rw[XJ];omega)));refine Z3 (hcon:=hvx) ?_;refine Z6 ?_;refine QSb ?_;exact⟨i+1,⟨by omega,hpv.trans hst⟩,by omega,Xd rfl ⟨JL,JL,JL,JL,trivial⟩ trivial⟩
   |false=>
    rw[hvv] at hvx
    rw[hvv,Bool.false_and] at hst
    rw[hpv,hst]
    refine QPb ?_;refine QIa ?_;refine QQb ?_;refine UB (γ:=100) (hg:=JSa) (hz:=JSb) (h1:=JSb) (hdead:=JSb) (hf:=JSb) (hd:=JSb) ?_;refine QRb ?_;refine QIa ?_;refine X9J (hg:=JSa) (hx:=JSb) (hL:=JSb) (hsz:=JSc) (ht:=JSb) (hy:=JSc) (hlen:=JSb) (hd:=JSb) ?_;refine QQa ?_;(refine Z1 (op:= .add) (r':=nj (8-(m-1))) (u:=nj (8-m)) (v:=nj 1) ?_ (hr':=by exact e8) (hr:=by exact Ym (by rw[XJ];omega)));refine Z3 (hcon:=hvx) ?_;refine Z6 ?_;exact QXa
  obtain rfl:i=l.length:=by omega
  rw[hpv,List.drop_length,Vy]
  refine QTb ?_;refine QIa ?_;exact QWa
 by_cases hd0:d=0
 case neg=>
  rw[show Xe m (.mk k n d s l)=false by rw[Xe];simp[*]]
  exact Qab
 by_cases hs0:s=[]
 case neg=>
  rw[show Xe m (.mk k n d s l)=false by rw[Xe];simp[*]]
  exact Qeb
 by_cases hl0:l.length=0
 case neg=>
  have hl1:0<l.length:=by omega
  rw[show Xe m (.mk k n d s l)=false by rw[Xe];simp[*]]
  exact Qjb
 rw[show Xe m (.mk k n d s l)=false by rw[Xe];simp[*]]
 refine Qlb ?_;refine QGb ?_;refine Qnb ?_;refine JF ?_;refine Qpb ?_;refine Qpb ?_;refine XP ?_;refine QIa ?_;exact QWa
end Go.Fw
