/- The disk: W40g. -/
import Derived.Test.YtpbgjcbkhgfmkaaGreatDoorM38
set_option maxHeartbeats 8000000
namespace Go.Fw
open Go Go.Proofs Tryz List
set_option maxRecDepth 100000
set_option linter.unusedVariables false
set_option linter.unusedSimpArgs false
abbrev X7z (x:Int):List D:=[.v (.int .i64 x)]
abbrev X7W (l:List Int):D:= .sl 1 (l.map X7z)
def UO (keep:List Int) (i:Nat):Int:=(keep[i]?).getD 0
theorem X5f (d:ak):Con prog 57 [] [XU d] [] (ab (Ux d)):=by
 obtain⟨secs,ag,on⟩:=d;refine ZC1 func57 ntmps57 fun E=> ?_;by_cases hok:1<=secs.length/\secs.length<=4096/\(on=true\/ag.length=0)
 case neg=>
  have hv:Ux ⟨secs,ag,on⟩=false:=by simp only[Ux,decide_eq_false_iff_not];exact fun h=>hok ⟨h.1,h.2.1,h.2.2.1⟩
  rw[hv];by_cases h1:secs.length<1
  ·refine UU ?_;refine Qm ?_;exact QD
  by_cases h2:4096<secs.length
  ·refine UU ?_;refine Qm ?_;exact QD
  have h3:0<ag.length:=by
   rcases Nat.eq_zero_or_pos ag.length with h|h
   ·exact(hok ⟨by omega,by omega,.inr h⟩).elim
   ·exact h
  cases on with
  |true=>exact(hok ⟨by omega,by omega,.inl rfl⟩).elim
  |false=>
   refine UX ?_;exact Zr0
 obtain⟨k1,k2,k3⟩:=hok;refine XgE 0 1 rfl rfl (fun cN=> ?_);simp only[LM] at cN;refine X8n ?_;refine W3_ ?_;refine JD ?_;refine Xk0 ⟨70,[(1,.ptr 100 0)],[(100,.box [.d (XL secs),.d (XS ag),ab on])]⟩ ?_ ?_
 ·cases on with
  |true=>
   exact Qec
  |false=>
   have k4:ag.length=0:=by simpa using k3
   exact Qec
 refine W6_ ?_
 refine Xn (fun k:Nat=>k<=secs.length/\∀(i:Nat) s,i<k->secs[i]? =some s->s.length=64) (fun k=>⟨70,[(1,.ptr 100 0),(3,ai k)],[(100,.box [.d (XL secs),.d (XS ag),ab on])]⟩) (fun k=>secs.length-k) 0 ⟨by omega,by omega⟩
  (Xb rfl ⟨JL,JL,TV⟩ ⟨rfl,TV⟩) ?_
 rintro k ⟨hk,hp⟩;by_cases hlt:k<secs.length
 ·obtain⟨s,hs⟩:=Xu (l:=secs) (k:=k) (by omega);by_cases h3:s.length≠64
  ·have hv:=Xnl (ag:=ag) (on:=on) hs h3;rw[hv];refine YY ?_;exact Zr0
  ·have h3:s.length=64:=by simpa using h3
   refine Vb ?_;refine⟨k+1,⟨by omega,fun i t hi ht=> ?_⟩,by omega,Xb rfl ⟨JL,JL,TV⟩ ⟨rfl,TV⟩⟩;by_cases hik:i=k
   ·subst hik;rw[hs] at ht;cases ht;omega
   ·exact hp i t (by omega) ht
 obtain rfl:k=secs.length:=by omega
 have gE:∀s∈secs,s.length=64:=XaP fun i x hx=>hp i x (GS.1 hx).1 hx;refine Yv ?_
 refine Xn (fun k:Nat=>k<=ag.length/\∀(i:Nat) w,i<k->ag[i]? =some w->0<=w.at_/\w.at_<secs.length/\w.b.length=64) (fun k=>⟨70,[(1,.ptr 100 0),(4,ai k)],[(100,.box [.d (XL secs),.d (XS ag),ab on])]⟩) (fun k=>ag.length-k) 0 ⟨by omega,by omega⟩
  (Xb rfl ⟨JL,JL,TV⟩ ⟨rfl,TV⟩) ?_
 rintro k ⟨hk,hq⟩;by_cases hlt:k<ag.length
 ·obtain⟨w,hw⟩:=Xu (l:=ag) (k:=k) (by omega);by_cases hb:0<=w.at_/\w.at_<secs.length/\w.b.length=64
  ·obtain⟨b1,b2,b3⟩:=hb;refine X7 ?_;refine XA ?_;refine⟨k+1,⟨by omega,fun i t hi ht=> ?_⟩,by omega,Xb rfl ⟨JL,JL,TV⟩ ⟨rfl,TV⟩⟩;by_cases hik:i=k
   ·subst hik;rw[hw] at ht;cases ht;exact⟨b1,b2,b3⟩
   ·exact hq i t (by omega) ht
  ·have hv:=Xml (secs:=secs) (on:=on) hw hb;rw[hv];by_cases c3:w.b.length≠64
   ·exact QXb
   have c3:w.b.length=64:=by simpa using c3
   by_cases c1:w.at_<0
   ·exact QXb
   have c2:(secs.length:Int)<=w.at_:=by omega
   exact QXb
 obtain rfl:k=ag.length:=by omega
 have oP:∀w∈ag,0<=w.at_/\w.at_<secs.length/\w.b.length=64:=XaP fun i x hx=>hq i x (GS.1 hx).1 hx;have hv:Ux ⟨secs,ag,on⟩=true:=by
  simp only[Ux,decide_eq_true_eq];exact⟨k1,k2,k3,gE,oP⟩
 rw[hv];exact QW
theorem X6U (d:ak) (hl:Vp d):Con prog 56 [] [XU d] [(130,.row 1 (d.aa.map XV)),(131,.row 2 (d.pending.map cWr))] (.agg [.own 130 d.aa.length,.own 131 d.pending.length,ab d.on]):=by
 obtain⟨secs,ag,on⟩:=d;obtain⟨b7,bM,jH,l9⟩:=hl;simp only at b7 bM jH l9;refine ZC1 func56 ntmps56 fun E=> ?_;refine YR ?_;refine X8 (X2y 102 0 130 1 (cs:=[aq,aq,ab on]) rfl rfl rfl rfl rfl) ?_;refine X8 (X2y 102 1 131 2 (cs:=[.own 130 0,aq,ab on]) rfl rfl rfl rfl rfl) ?_
 refine Xn (fun k:Nat=>k<=secs.length) (fun k=>⟨56,[(1,.ptr 100 0),(2,.ptr 101 0),(3,.ptr 102 0),(4,ai k)],[(100,.box [.d (XL secs),.d (XS ag),ab on]),(101,.box [aq,aq,ab false]),(102,.box [.own 130 k,.own 131 0,ab on]),(130,.row 1 ((secs.take k).map XV)),(131,.row 2 [])]⟩) (fun k=>secs.length-k) 0 (by omega)
  (Xb rfl ⟨JL,JL,JL,JL,TV⟩ ⟨rfl,rfl,rfl,rfl,rfl,TV⟩) ?_
 intro k hk;by_cases hlt:k<secs.length
 ·obtain⟨s,hs⟩:=Xu (l:=secs) (k:=k) (by omega);have aK:s.length<=4096:=jH s (mem_of_getElem? hs);refine Yw ?_;refine Za (γ:=103) ?_;refine XA ?_;refine⟨k+1,by omega,by omega,Xb rfl ⟨JL,JL,JL,JL,TV⟩ ⟨rfl,rfl,?_,?_,rfl,TV⟩⟩
  ·refine Eq.trans (b:=AObj.box [.own 130 _,.own 131 0,ab on]) rfl ?_;congr 3;simp;omega
  ·refine Eq.trans (b:=AObj.row 1 (_++[[.sl 1 ([]++_)]])) rfl ?_;rw[Xc3 hs];simp
 obtain rfl:k=secs.length:=by omega
 refine Yv ?_
 refine Xn (fun k:Nat=>k<=ag.length) (fun k=>⟨56,[(1,.ptr 100 0),(2,.ptr 101 0),(3,.ptr 102 0),(5,ai k)],[(100,.box [.d (XL secs),.d (XS ag),ab on]),(101,.box [aq,aq,ab false]),(102,.box [.own 130 secs.length,.own 131 k,ab on]),(130,.row 1 (secs.map XV)),(131,.row 2 ((ag.take k).map cWr))]⟩) (fun k=>ag.length-k) 0 (by omega)
  (Xb rfl ⟨JL,JL,JL,JL,TV⟩ ⟨rfl,rfl,rfl,(by refine Eq.trans (b:=AObj.row 1 _) rfl ?_;simp),rfl,TV⟩) ?_
 intro k hk;by_cases hlt:k<ag.length
 ·obtain⟨w,hw⟩:=Xu (l:=ag) (k:=k) (by omega);have sZ:w.b.length<=4096:=l9 w (mem_of_getElem? hw);refine YT ?_;refine Za (γ:=103) ?_;refine XK ?_;refine⟨k+1,by omega,by omega,Xb rfl ⟨JL,JL,JL,JL,TV⟩ ⟨rfl,rfl,?_,rfl,?_,TV⟩⟩
  ·refine Eq.trans (b:=AObj.box [.own 130 secs.length,.own 131 _,ab on]) rfl ?_;congr 4;simp;omega
  ·refine Eq.trans (b:=AObj.row 2 (_++[[_,.sl 1 ([]++_)]])) rfl ?_;rw[Xc3 hw];simp
 obtain rfl:k=ag.length:=by omega
 refine Yg ?_;refine X2 ⟨_,St.le_refl _,⟨⟨101,0,_,rfl,rfl,.inr ⟨3,_,rfl,rfl,rfl,rfl⟩⟩,TV⟩,Xj ⟨rfl,?_,TV⟩⟩;refine Eq.trans (b:=AObj.row 2 _) rfl ?_;simp
theorem XkH (a b:List UInt8) (k:Nat) (ha:a.length<=4096) (hb:b.length<=4096) (hk:k<=a.length) (hk2:k<=b.length):Con prog 97 [] [.d (Xg a),ai k,.d (Xg b)] [] (.d (Xg (a.take k++b.drop k))):=by
 refine ZC1 func97 ntmps97 fun E=> ?_;refine Yw ?_;refine X8 (XP 100 rfl) ?_;refine X8 (Y7 6 100 rfl rfl (by simp)) ?_;exact X2 ⟨_,Xe 6 (y:= .d (Xg (a.take k++b.drop k))) (AVal.le_of_eq (by refine Eq.trans (b:=AVal.d (.sl 1 (([]++_)++_))) rfl ?_;simp[take_of_length_le])),⟨rfl,TV⟩,X4 _⟩
theorem XcQ {α β:Type} (f:α->β):∀{l:List α}{a:Nat} (y:α),a<l.length->(l.map f).take a++[f y]++(l.map f).drop (a+1)=(l.set a y).map f
 |x::l,0,y,_=>by simp
 |x::l,a+1,y,h=>by
  have:=XcQ f (l:=l) (a:=a) y (by simpa using h);simpa using this
theorem XlX (d:ak) (keep:List Int) (hl:Vp d) (hok:okW d.aa d.pending):Con prog 58 [] [XU d,.d (X7W keep)] [] (XU ⟨V5 d (UO keep),[],d.on⟩):=by
 have hp:=hl.2.1;refine ZC1 func58 ntmps58 fun E=> ?_;refine W8_ ?_;refine Z3 (af:=X6U d hl) ?_;refine W9_ ?_
 refine Xn (fun k:Nat=>k<=d.pending.length) (fun k=>⟨50,[(1,.d (X7W keep)),(2,.ptr 100 0),(4,.ptr 101 0),(5,.ptr 102 0),(6,ai k)],[(100,.box [.d (XL d.aa),.d (XS d.pending),ab d.on]),(101,.box [aq,aq,ab false]),(102,.box [.own 130 d.aa.length,.own 131 d.pending.length,ab d.on]),(130,.row 1 ((UW d.aa d.pending (UO keep) k).map XV)),(131,.row 2 (d.pending.map cWr))]⟩) (fun k=>d.pending.length-k) 0 (by omega)
  (Xb rfl ⟨JL,JL,JL,JL,JL,TV⟩ ⟨rfl,rfl,rfl,rfl,rfl,TV⟩) ?_
 intro k hk;by_cases hlt:k<d.pending.length
 ·obtain⟨⟨at_,b⟩,hw⟩:=Xu (l:=d.pending) (k:=k) (by omega);obtain⟨b1,b2,b3⟩:=hok.2 _ (mem_of_getElem? hw);simp only at b1 b2 b3;obtain⟨a,rfl⟩:∃a:Nat,at_=a:=⟨at_.toNat,by omega⟩
  have bf:=X3U d.aa d.pending (UO keep) k;obtain⟨r,hr⟩:=Xu (l:=UW d.aa d.pending (UO keep) k) (k:=a) (by omega);have hrl:=X5W (UO keep) hok k r (mem_of_getElem? hr);have hc:=X8b (UO keep k);have hst:=XgU hw hr;by_cases hkk:k<keep.length
  ·obtain⟨x,hx⟩:=Xu (l:=keep) (k:=k) hkk;have hks:UO keep k=x:=by simp[UO,hx]
   rw[hks] at hc hst;refine UV ?_;refine X8S (fy x) (Xkh x) rfl rfl rfl (by(first|((exact True.intro))|((exact⟨rfl,rfl⟩))|((exact⟨rfl,CG ab (by(first|((rfl))|((assumption))|((simp only[LM,LT,LA,decide_eq_true_eq,decide_eq_false_iff_not,ne_eq,Classical.not_not];omega))|((simp<;>fail))|((simp[*]<;>fail))|((simp;omega))|fail))⟩))|fail)) ?_;refine XY ?_;refine Z3 (af:=XkH b r (fy x) (by omega) (by omega) (by omega) (by omega)) ?_;refine W8_ ?_;refine⟨k+1,by omega,by omega,Xb rfl ⟨JL,JL,JL,JL,JL,TV⟩ ⟨rfl,rfl,rfl,?_,rfl,TV⟩⟩;refine Eq.trans (b:=AObj.row 1 (take a _++[XV _]++drop (a+1) _)) rfl ?_;rw[XcQ XV _ (by omega),hst]
  ·have hks:UO keep k=0:=by simp[UO,Nat.not_lt.1 hkk]
   rw[hks] at hc hst;refine QX ?_;refine Z3 (af:=XkH b r 0 (by omega) (by omega) (by omega) (by omega)) ?_;refine W8_ ?_;refine⟨k+1,by omega,by omega,Xb rfl ⟨JL,JL,JL,JL,JL,TV⟩ ⟨rfl,rfl,rfl,?_,rfl,TV⟩⟩;refine Eq.trans (b:=AObj.row 1 (take a _++[XV _]++drop (a+1) _)) rfl ?_;rw[XcQ XV _ (by omega),hst];rfl
 obtain rfl:k=d.pending.length:=by omega
 refine Ye ?_;refine Qwb ?_;refine X8 (X03 101 0 130 (cs:=[.own 130 d.aa.length,aq,ab d.on]) (sz:=1) (xs:=(V5 d (UO keep)).map XV) rfl rfl rfl (by rw[LM];exact(X3U _ _ _ _).symm)) ?_;exact X2 ⟨_,Xq 101 (cs:=[.d (XL (V5 d (UO keep))),aq,ab d.on]) (cs':=[.d (XL (V5 d (UO keep))),.d (XS []),ab d.on]) rfl ⟨AVal.le_refl _,AVal.le_nil 2,AVal.le_refl _,TV⟩ rfl,⟨⟨101,0,_,rfl,rfl,.inr ⟨3,_,rfl,rfl,rfl,rfl⟩⟩,TV⟩,X4 _⟩
open Go
theorem Xag {d:ak}{b:List UInt8}{K:Nat}{ep ts:Int} (hf:d.aa.length<=2000) (hb:b.length<=Xt d*64):(svT d b K ep ts).length<=100000:=by
 have hpf:=X68 hb;have hzl:=XaB d;have bD:Xt d<=500:=by unfold Xt;omega
 unfold svT;simp only[LA,X8g,LC,length_nil];omega
end Go.Fw
