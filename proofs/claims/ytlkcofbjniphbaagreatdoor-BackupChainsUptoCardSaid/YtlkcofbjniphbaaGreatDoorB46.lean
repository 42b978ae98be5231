/- Small histories; the laws Onto, Since and Chains. -/
import Derived.Test.YtlkcofbjniphbaaGreatDoorB45
set_option maxHeartbeats 16000000
namespace Go.Fw
open Go Go.Proofs
set_option maxRecDepth 100000
set_option linter.unusedVariables false
set_option linter.unusedSimpArgs false
theorem Xaw:∀(a b:List Cmt),Ud (a++b)=Ud a+Ud b
 |[],b=>by simp[Ud]
 |c::r,b=>by rw[List.cons_append,Ud,Ud,Xaw r b];omega
theorem Xp2 {l:List Cmt}{i:Nat}{x:Cmt} (h:l[i]? =some x):Ud (l.take (i+1))=Ud (l.take i)+(1+x.l.length):=by
 rw[X3h h,Xaw]
 simp[Ud]
theorem Xs0 (l:List Cmt) (n:Nat):Ud (l.take n)≤Ud l:=by
 have:=Xaw (l.take n) (l.drop n)
 rw[List.take_append_drop] at this
 omega
def X4D (h:Hist):Bool:=decide ((Ud h.cs:Int)≤60)&&X5a h.g 30 40
theorem Xgg {h:Hist} (hh:HistHold h) (hs:X4D h=true):HistFit h∧Ud h.cs≤60:=by
 unfold X4D at hs
 simp only[Bool.and_eq_true,decide_eq_true_eq] at hs
 have ht:Ud h.cs≤60:=by omega
 exact⟨⟨hh,fun c hc=>by have:=X6R hc;omega⟩,ht⟩
theorem Xft (h:Hist) (hf:HistHold h) (ht:Ud h.cs≤4611686018427387904):Con Tryz.prog 11 [] [YS h] [] (ab (X4D h)):=by
 refine Xg (xs:=[ab (X4D h)]) Tryz.func11 rfl Tryz.ntmps11 rfl rfl rfl (fun E=> ?_)
 obtain⟨base,g,cs⟩:=h
 have hsm:=Xh2 g 30 40 hf.g
 have hl:=hf.cl
 simp only at hsm hl ht
 have hlm:=X1E cs
 unfold X4D
 simp only
 clear hf
 generalize X5a g 30 40=sm at*
 obtain⟨ns,es,nn,ne⟩:=g
 simp only[YS,XG] at*
 refine XA ?_
 refine XK (fun i:Nat=>i≤cs.length) (fun i=>⟨29,[(1,.ptr 100 0),(3,ai (Ud (cs.take i):Nat)),(4,ai i)],[(100,.box [ai base,.d (.sl 3 (ns.map Xp)),.d (.sl 5 (es.map Xs)),ai nn,ai ne,.d (.sl 2 (cs.map XV))])]⟩) (fun i=>cs.length-i) 0 (Nat.zero_le _)
  (Xd rfl JM ⟨rfl,trivial⟩) ?_
 intro i hi
 by_cases hil:i<cs.length
 case neg=>
  obtain rfl:i=cs.length:=by omega
  have hn:¬((cs.length:Nat):Int)<(cs.map XV).length:=by omega
  rw[List.take_length]
  by_cases c:((Ud cs:Nat):Int)≤60
  ·rw[decide_eq_true c,Bool.true_and]
   refine W9_ ?_;refine QWb ?_;refine Z3 (hcon:=hsm) ?_;refine Qz ?_
   (show AWP Tryz.prog E _ _ _;refine X1 ?_;exact(show Xy _ _ _ _ _ from⟨_,St.le_refl _,⟨rfl,trivial⟩,X2 _⟩))
  ·rw[decide_eq_false c,Bool.false_and]
   refine W9_ ?_;refine Qia ?_;refine Qw ?_;refine QF ?_
   (show AWP Tryz.prog E _ _ _;refine X1 ?_;exact(show Xy _ _ _ _ _ from⟨_,St.le_refl _,⟨rfl,trivial⟩,X2 _⟩))
 have hn:(i:Int)<(cs.map XV).length:=by omega
 obtain⟨x,hxx⟩:=XI (l:=cs) hil
 have hxc:(cs.map XV)[i]? =some (XV x):=Y5 hxx
 have hst:=Xp2 hxx
 have hle:=Xs0 cs (i+1)
 rw[hst] at hle
 obtain⟨xt,xl⟩:=x
 simp only[XV] at hxc hst hle
 have hxlm:(xl.map Y1).length=xl.length:=by simp
 clear hxx hsm
 generalize hm:Ud (cs.take i)=m at*
 clear hm
 refine QRf ?_;refine UY ?_
 refine⟨i+1,hil,by omega,?_⟩
 rw[hst]
 exact Xd rfl ⟨JL,AVal.le_of_eq (by refine Eq.trans (b:=ai (((m:Int)+1)+((xl.map Y1).length:Nat))) rfl ?_;exact congrArg ai (by omega)),JL,trivial⟩ ⟨rfl,trivial⟩
section
variable {H:Type}{enc:TypeId×Value→H}{W:World}
theorem Xgo {α:Type}:∀l:List α,l.length≤X3y (fun _=>1) l
 |[]=>Nat.zero_le _
 |x::l=>by have:=Xgo l;rw[X3y,List.length_cons];omega
theorem Xic:∀l:List Cmt,Ud l≤X3y (fun c:Cmt=>1+c.l.length) l
 |[]=>Nat.zero_le _
 |x::l=>by have:=Xic l;rw[X3y,Ud];omega
theorem XlO:OpensM enc Tryz.prog W 69 Xhi (fun l=>l.length) (fun l=>[.sl 10 (l.map Y1)]):=
 (Xf1 Tryz.underlying69 Xf5 (by decide) XjJ.one).to id fun l h=>⟨h,by have:=Xgo l;simp only[id];omega,rfl⟩
theorem XlV:OpensM enc Tryz.prog W 82 X7C (fun c=>1+c.l.length) XV:=
 (XiF Tryz.underlying82 XiQ
  (X6o rfl X12 (X0O Tryz.underlying3).one (X6o rfl Xns XlO Xg6))).to
  (fun r=>⟨r.1,r.2.1⟩) fun r h=>⟨⟨h.2.1,h.1⟩,by simp only;omega,rfl⟩
theorem Xqb:OpensM enc Tryz.prog W 34 (fun l:List Cmt=>(∀c∈l,X7C c)∧l.length≤9223372036854775807) Ud (fun l=>[.sl 2 (l.map XV)]):=
 (Xf1 Tryz.underlying34 XiQ (by decide) XlV).to id fun l h=>⟨h,by have:=Xic l;simp only[id];omega,rfl⟩
theorem Xdg:OpensM enc Tryz.prog W 36 HistHold (fun h=>Ud h.cs) Xd2:=
 (XiF Tryz.underlying36 Xjc
  (X6o rfl X12 (X0O Tryz.underlying3).one (X6o rfl Xij Xd3.one (X6o rfl Xp0 Xqb Xg6)))).to
  (fun r=>⟨r.1,r.2.1,r.2.2.1⟩) fun r h=>⟨⟨h.2.1,h.2.2.1.2,h.2.2.1.1⟩,by simp only;omega,by
   obtain⟨b,g,cs,u⟩:=r
   rfl⟩
end
end Go.Fw
