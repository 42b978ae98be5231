/- Ninth part: the walk's rule for a call; weakening of states; more operations. -/
import Derived.Laws.BytesString
import Derived.Test.YtpbgjcbkhgfmkaaGreatDoorM47
import Derived.Test.YtpbgjcbkhgfmkaaGreatDoorM49
set_option maxHeartbeats 16000000
namespace Go.Fw
open Go List
set_option linter.unusedVariables false
set_option linter.unusedSimpArgs false
section
variable {P:Program}{ops:Array Oper}{draw:Bool}{K:XW->St->Prop}{rest:List Oper}{l:XW}{S:St}
variable {d:Nat}{ty:TypeId}{pos:String}{ah:Array Edge}{gd:Option (Nat×Bool)}
end
theorem XhW {P:Program}{E:Env}{c:Code}{S:St}{Q:Exit->St->Prop} (γ j:Nat) {sz:Nat}{cs:List AVal}{xs:List (List D)} (hL:S.obj γ= .box cs) (hj:cs[j]? =some (.d (.sl sz xs))) (h:xs.length<=9223372036854775807->AWP P E c S Q):AWP P E c S Q:=by
 refine⟨fun a w hs=> ?_⟩;obtain⟨g,hg⟩:=hs;have ho:=hg.1.obj γ;rw[hL] at ho;obtain⟨vs,e,fr,_,_,h3,_⟩:=ho;obtain⟨u,_,hu⟩:=VQ h3 j _ hj;simp only[AVal.sat] at hu;exact(h (Xdu hu)).run a w ⟨g,hg⟩
open Go Go.Proofs Tryz
set_option maxRecDepth 100000
theorem X3S (d:ak):Con prog 136 [] [XU d] [] (ai (V8 d)):=by
 obtain⟨secs,ag,on⟩:=d;refine ZC1 func136 ntmps136 fun E=> ?_;cases hv:Ux ⟨secs,ag,on⟩ with
 |true=>
  cases on with
  |true=>
   rw[show V8 ⟨secs,ag,true⟩=0 by simp only[V8,hv];rfl];refine W9_ ?_;refine Z3 (af:=X5f ⟨secs,ag,true⟩) ?_;refine Yv ?_;exact Zr0
  |false=>
   rw[show V8 ⟨secs,ag,false⟩=22 by simp only[V8,hv];rfl];refine W9_ ?_;refine Z3 (af:=X5f ⟨secs,ag,false⟩) ?_;refine Yg ?_;exact Zr0
 |false=>
  rw[show V8 ⟨secs,ag,on⟩=1 by simp only[V8,hv];rfl];refine W9_ ?_;refine Z3 (af:=X5f ⟨secs,ag,on⟩) ?_;exact QI
theorem X7j (d:ak) (a:Int) (b:List UInt8) (hl:Vp d) (bu:b.length<=4096):Con prog 82 [] [XU d,ai a,.d (Xg b)] [] (X0O (XU (Vs d a b).1) (Vs d a b).2):=by
 refine ZCt func82 ntmps82 fun E=> ?_;by_cases hu:V8 d=0
 ·have hp:=hl.2.1;by_cases h1:a<0
  ·rw[show Vs d a b=(YU,1) by simp[Vs,hu];omega];refine Qhe ?_;exact Qpc
  by_cases h2:(d.aa.length:Int)<=a
  ·rw[show Vs d a b=(YU,1) by simp[Vs,hu];omega];refine Qhe ?_;exact Qpc
  by_cases h3:b.length≠64
  ·rw[show Vs d a b=(YU,1) by simp[Vs,hu];omega];refine Qhe ?_;exact Qpc
  have h3:b.length=64:=by simpa using h3
  rw[show Vs d a b=(⟨d.aa,d.pending++[⟨a,b⟩],d.on⟩,0) by simp only[Vs,hu];rw[NI (by simp),PI ⟨by omega,by omega,h3⟩]];refine Qhe ?_;refine UV ?_;refine Z3 (af:=X6U d hl) ?_;refine XA ?_;refine Za (γ:=103) ?_;refine QDb ?_;refine X8 (XP 131 rfl) ?_;refine X8 (X03 101 0 130 (cs:=[.own 130 d.aa.length,.own 131 ((d.pending.map cWr).length+1),ab d.on]) (sz:=1) (xs:=d.aa.map XV) rfl rfl rfl (by simp)) ?_;refine X8 (X03 101 1 131 (cs:=[.d (XL d.aa),.own 131 ((d.pending.map cWr).length+1),ab d.on]) (sz:=2) (xs:=(d.pending++[(⟨a,b⟩:Wr)]).map cWr) rfl rfl (by refine Eq.trans (b:=AObj.froz 2 (_++[[_,.sl 1 ([]++_)]])) rfl ?_;simp) (by simp)) ?_;exact Qlc
 ·rw[show Vs d a b=(YU,V8 d) by simp[Vs,hu]];refine Qhe ?_;exact Qoc
theorem Xlg (d:ak) (a:Int) (hl:Vp d):Con prog 81 [] [XU d,ai a] [] (X0O (.d (Xg (Yo d a).1)) (Yo d a).2):=by
 refine ZCt func81 ntmps81 fun E=> ?_;by_cases hu:V8 d=0
 ·have hp:=hl.2.1;by_cases h1:a<0
  ·rw[show Yo d a=([],1) by simp[Yo,hu];omega];refine Qhe ?_;exact Qtc
  by_cases h2:(d.aa.length:Int)<=a
  ·rw[show Yo d a=([],1) by simp[Yo,hu];omega];refine Qhe ?_;exact Qtc
  obtain⟨k,rfl⟩:∃k:Nat,a=k:=⟨a.toNat,by omega⟩
  obtain⟨s,hs⟩:=Xu (l:=d.aa) (k:=k) (by omega);have aK:=hl.2.2.1 s (mem_of_getElem? hs);refine Qhe ?_;refine X17 ?_;have hok:=X4e (X9z hu).1;have rA:=hok.1 s (mem_of_getElem? hs);rw[show Yo d (k:Int)=(Vx d.pending k s d.pending.length,0) by unfold Yo;rw[NI (by simpa using hu),PI (by omega),Int.toNat_natCast,hs];rfl]
  refine Xn (fun j:Nat=>j<=d.pending.length) (fun j=>⟨52,[(1,ai k),(2,.ptr 100 0),(7,.d (Xg (Vx d.pending k s j))),(8,ai j)],[(100,.box [.d (XL d.aa),.d (XS d.pending),ab d.on])]⟩) (fun j=>d.pending.length-j) 0 (by omega)
   (Xb rfl ⟨JL,JL,JL,JL,TV⟩ ⟨rfl,TV⟩) ?_
  intro j hj;by_cases hlt:j<d.pending.length
  ·obtain⟨⟨at_,b⟩,hw⟩:=Xu (l:=d.pending) (k:=j) hlt;by_cases aY:at_=(k:Int)
   ·subst aY;refine X17 ?_;refine⟨j+1,by omega,by omega,Xb rfl ⟨JL,JL,(by refine AVal.le_of_eq ?_;refine Eq.trans (b:=AVal.d (Xg b)) rfl ?_;simp[Vx,hw]),JL,TV⟩ ⟨rfl,TV⟩⟩
   ·refine UP ?_;refine⟨j+1,by omega,by omega,Xb rfl ⟨JL,JL,(by refine AVal.le_of_eq ?_;refine Eq.trans (b:=AVal.d (Xg (Vx d.pending k s j))) rfl ?_;simp[Vx,hw,aY]),JL,TV⟩ ⟨rfl,TV⟩⟩
  obtain rfl:j=d.pending.length:=by omega
  have bu:=X7D (a:=(k:Int)) hok rA d.pending.length;refine YR ?_;refine X8 (XP 101 rfl) ?_;refine X8 (Y7 4 101 rfl rfl (by simp)) ?_;exact X2 ⟨_,Xe 4 (y:= .d (Xg (Vx d.pending k s d.pending.length))) (AVal.le_of_eq (by refine Eq.trans (b:=AVal.d (.sl 1 ([]++_))) rfl ?_;simp)),⟨rfl,rfl,TV⟩,X4 _⟩
 ·rw[show Yo d a=([],V8 d) by simp[Yo,hu]];refine Qhe ?_;refine XG ?_;exact Qsc
theorem Xke {rows:List (List UInt8)}{ag:List Wr}{kv kv':Nat->Int}:∀n,(∀k,k<n->kv k=kv' k)->UW rows ag kv n=UW rows ag kv' n
 |0,_=>rfl
 |n+1,h=>by
  simp only[UW];rw[Xke n (fun k hk=>h k (by omega)),h n (by omega)]
theorem Xuz (d:ak):V5 d (UO (replicate d.pending.length 64))=V5 d (fun _=>64):=
 Xke _ fun k hk=>by simp[UO,hk]
theorem X8M (d:ak) (hl:Vp d):Con prog 84 [] [XU d] [] (X0O (XU (Uw d).1) (Uw d).2):=by
 refine ZCt func84 ntmps84 fun E=> ?_;by_cases hu:V8 d=0
 ·have hp:=hl.2.1;have hok:=X4e (X9z hu).1;rw[show Uw d=(⟨V5 d (UO (replicate d.pending.length 64)),[],d.on⟩,0) by rw[Xuz];simp[Uw,hu]];refine Qhe ?_;refine YR ?_;refine X8 (Uu 5 132 1 rfl rfl rfl) ?_
  refine Xn (fun k:Nat=>k<=d.pending.length) (fun k=>⟨26,[(1,.ptr 100 0),(2,.ptr 101 0),(5,.own 132 k),(6,ai k)],[(100,.box [.d (XL d.aa),.d (XS d.pending),ab d.on]),(101,.box [aq,aq,ab false]),(132,.row 1 ((replicate k 64).map X7z))]⟩) (fun k=>d.pending.length-k) 0 (by omega)
   (Xb rfl ⟨JL,JL,JL,JL,TV⟩ ⟨rfl,rfl,rfl,TV⟩) ?_
  intro k hk;by_cases hlt:k<d.pending.length
  ·refine Yq ?_;refine⟨k+1,by omega,by omega,Xb rfl ⟨JL,JL,JL,JL,TV⟩ ⟨rfl,rfl,?_,TV⟩⟩;refine Eq.trans (b:=AObj.row 1 (_++[X7z 64])) rfl ?_;rw[replicate_succ',map_append];rfl
  obtain rfl:k=d.pending.length:=by omega
  refine X8 (XP 132 rfl) ?_;refine X8 (Y7 5 132 rfl rfl (by simp)) ?_;refine Yx ?_;refine Z3 (af:=XlX d (replicate d.pending.length 64) hl hok) ?_;exact Qmc
 ·rw[show Uw d=(YU,V8 d) by simp[Uw,hu]];refine Qhe ?_;exact Qoc
theorem X9j (x:ak):Con prog 19 [] [XU x,XU x] [] (ab true):=by
 obtain⟨s,p,on⟩:=x;refine ZC1 func19 ntmps19 fun E=> ?_;refine QV ?_
 refine Xn (fun k:Nat=>k<=s.length) (fun k=>⟨87,[(2,.ptr 100 0),(3,.ptr 101 0),(5,ai k)],[(100,.box [.d (XL s),.d (XS p),ab on]),(101,.box [.d (XL s),.d (XS p),ab on])]⟩) (fun k=>s.length-k) 0 (by omega)
  (Xb rfl ⟨JL,JL,JL,TV⟩ ⟨rfl,rfl,TV⟩) ?_
 intro k hk;refine XhW 100 0 (cs:=[.d (XL s),.d (XS p),ab on]) (sz:=1) (xs:=s.map XV) rfl rfl fun hle=> ?_;rw[LM] at hle;by_cases hlt:k<s.length
 ·obtain⟨b,hb⟩:=Xu (l:=s) hlt;refine X07 ?_;exact⟨k+1,by omega,by omega,Xb rfl ⟨JL,JL,JL,TV⟩ ⟨rfl,rfl,TV⟩⟩
 obtain rfl:k=s.length:=by omega
 refine Yv ?_
 refine Xn (fun k:Nat=>k<=p.length) (fun k=>⟨87,[(2,.ptr 100 0),(3,.ptr 101 0),(6,ai k)],[(100,.box [.d (XL s),.d (XS p),ab on]),(101,.box [.d (XL s),.d (XS p),ab on])]⟩) (fun k=>p.length-k) 0 (by omega)
  (Xb rfl ⟨JL,JL,JL,TV⟩ ⟨rfl,rfl,TV⟩) ?_
 intro k hk;refine XhW 100 1 (cs:=[.d (XL s),.d (XS p),ab on]) (sz:=2) (xs:=p.map cWr) rfl rfl fun hle=> ?_;rw[LM] at hle;by_cases hlt:k<p.length
 ·obtain⟨w,hw⟩:=Xu (l:=p) hlt;refine X7 ?_;refine XQ ?_;exact⟨k+1,by omega,by omega,Xb rfl ⟨JL,JL,JL,TV⟩ ⟨rfl,rfl,TV⟩⟩
 obtain rfl:k=p.length:=by omega
 exact QW
theorem XdQ (d:ak):Con prog 48 [] [XU d] [] (ai (Uo d)):=by
 refine ZC1 func48 ntmps48 fun E=> ?_;have h1:=X5f d;have h2:=X56 (d.aa.length:Nat);obtain⟨r,hr⟩:∃r,r=Uo d:=⟨_,rfl⟩
 rw[<-hr];unfold Uo at hr;generalize VA (d.aa.length:Nat)=L at*;obtain⟨L1,L2,L3⟩:=L;simp only at h2 hr;generalize Ux d=v at*;have hm:(d.aa.map XV).length=d.aa.length:=by simp
 obtain⟨secs,ag,on⟩:=d;simp only at*;rw[<-hm] at h2;refine XR ?_;refine YJ rfl (fun hq=> ?_) (fun hq=> ?_);refine W4_ ?_;(clear h1 h2;(try simp only at*);simp[*] at hr;subst hr;(show AWP prog E _ _ _;refine X2 ?_;exact(show Xa _ _ _ _ _ from⟨_,St.le_refl _,⟨rfl,TV⟩,X4 _⟩)));refine W8_ ?_;refine YJ rfl (fun hq=> ?_) (fun hq=> ?_);refine W4_ ?_;(clear h1 h2;(try simp only at*);simp[*] at hr;subst hr;(show AWP prog E _ _ _;refine X2 ?_;exact(show Xa _ _ _ _ _ from⟨_,St.le_refl _,⟨rfl,TV⟩,X4 _⟩)));refine Ye ?_;refine YJ rfl (fun hq=> ?_) (fun hq=> ?_);refine W4_ ?_;(clear h1 h2;(try simp only at*);simp[*] at hr;subst hr;(show AWP prog E _ _ _;refine X2 ?_;exact(show Xa _ _ _ _ _ from⟨_,St.le_refl _,⟨rfl,TV⟩,X4 _⟩)));refine W5_ ?_
 (clear h1 h2;(try simp only at*);simp[*] at hr;subst hr;(show AWP prog E _ _ _;refine X2 ?_;exact(show Xa _ _ _ _ _ from⟨_,St.le_refl _,⟨rfl,TV⟩,X4 _⟩)))
def X2U (b:List UInt8):List UInt8:=b++replicate (64-b.length) 0
theorem Xnz (b:List UInt8) (hb:b.length<=64):Con prog 83 [] [.d (Xg b)] [(130,.row 1 ((X2U b).map X5))] (.own 130 64):=by
 refine ZC1 func83 ntmps83 fun E=> ?_;unfold Xg;have hE:∀n,b.length+n=64->X2U b=b++replicate n 0:=fun n h=>by unfold X2U;rw[show 64-b.length=n by omega]
 have ie:(b.map X5).length=b.length:=LM ..;refine W6_ ?_;refine QKa ?_;refine W6_ ?_
 refine Xn (fun i:Nat=>b.length+i<=64) (fun i=>⟨14,[(2,aq),(3,.own 130 (b.length+i))],[(130,.row 1 ((b++replicate i 0).map X5))]⟩) (fun i=>64-(b.length+i)) 0 (by omega)
  (Xb rfl ⟨JL,AVal.le_of_eq (by refine Eq.trans (b:=AVal.own 130 (0+(b.map X5).length)) rfl ?_;rw[ie,Nat.zero_add];rfl),TV⟩ ⟨(by refine Eq.trans (b:=AObj.row 1 ([]++b.map X5)) rfl ?_;simp),TV⟩) ?_
 intro i hi;have hrl:((b++replicate i 0).map X5).length=b.length+i:=by rw[LM,LA,length_replicate]
 by_cases hil:b.length+i<64
 ·have hn:((b.length+i:Nat):Int)<64:=by omega
  have hst:(b++replicate (i+1) 0).map X5=(b++replicate i 0).map X5++[[.v (.int .u8 0)]]:=by
   rw[replicate_succ',<-AS,map_append];rfl
  refine Yg ?_;refine⟨i+1,by omega,by omega,?_⟩;rw[hst];exact Xb rfl ⟨JL,AVal.le_of_eq (by refine Eq.trans (b:=AVal.own 130 (((b++replicate i 0).map X5).length+1)) rfl ?_;rw[hrl,Nat.add_assoc]),TV⟩ ⟨rfl,TV⟩
 have hn:¬((b.length+i:Nat):Int)<64:=by omega
 rw[hE i (by omega)];refine XG ?_;exact X2 ⟨_,Xe 2 (y:= .own 130 64) (AVal.le_of_eq (by refine Eq.trans (b:=AVal.own 130 (b.length+i)) rfl ?_;rw[show b.length+i=64 by omega])),⟨rfl,TV⟩,Xj ⟨rfl,TV⟩⟩
theorem Xvb {b:List UInt8} (hb:b.length<=64):(X2U b).length=64:=by
 unfold X2U;rw[LA,length_replicate];omega
theorem XaA (b:List UInt8) (hb:b.length<=64):Con prog 83 [] [.d (Xg b)] [] (.d (Xg (X2U b))):=(Xnz b hb).data (by rw[LM,Xvb hb])
end Go.Fw
