/- Strings compared: at least. -/
import Derived.Test.YtfmfekakaeafhaaGreatDoorP12
set_option linter.all false
namespace Go.Fw
open Go List
open List renaming length->J
section
variable {P:Program}{t:TypeId}{x y:Operand}{a b:List UInt8}
def Xrn (w:World):(do eqGuard .geq t x y (.string (X7 a)) (.string (X7 b));binOp .geq t (.string (X7 a)) (.string (X7 b)):Sem Value).run P w= .ok (.bool (!(Op.bytesLess a b))) w:=by
 simp[go_sem,binOp,Op.stringOp,X57]
end
def JSm {p:Prop} (h:p:=by exact Xrn):p:=h
variable{i k:Nat}
section
variable {α κ:Type}{lt:κ->κ->Bool}{key:α->κ} [DecidableEq κ]
def X3c (lt:κ->κ->Bool) (key:α->κ) (l:List α) (k:κ) (ns:List α):Bool->List α
 |true=>l.filter fun x=> !decide (key x=k)
 |false=>UY lt key l k ns
def Xe9 {l:List α}{k:κ}{ns:List α}{x:α}{b:Bool} (h:l[i]? =some x) (hi:lt (key x) k=true->key x≠k):
  X3c lt key (l.drop i) k ns b=(if b=false/\lt (key x) k=false then ns else [])++(if key x=k then [] else [x])++X3c lt key (l.drop (i+1)) k ns (b|| !lt (key x) k):=by
 obtain⟨hlt,h⟩:=GS.1 h;rw[drop_eq_getElem_cons hlt,h];cases b with
 |true=>
  simp only[X3c,Bool.true_or,filter_cons];by_cases q:key x=k<;>simp[q]
 |false=>
  by_cases p:lt (key x) k=true
  ·simp only[X3c,Bool.false_or,p,Bool.not_true];rw[NI Oc,NI (hi p)];simp[UY,p]
  ·have p:lt (key x) k=false:=by simpa using p
   simp only[X3c,Bool.false_or,p,Bool.not_false];rw[PI Oc];unfold UY;rw[takeWhile_cons_of_neg (by simp[p]),dropWhile_cons_of_neg (by simp[p]),filter_cons];by_cases q:key x=k<;>simp[q]
theorem Xey {k:κ}{ns:List α} (b:Bool):X3c lt key [] k ns b=if b=true then [] else ns:=by
 cases b<;>simp[X3c,UY]
def Xfa {l:List α}{k:κ}{x:α} (h:l[i]? =some x):UX key (l.drop i) k=(if key x=k then [] else [x])++UX key (l.drop (i+1)) k:=by
 obtain⟨hlt,h⟩:=GS.1 h;rw[drop_eq_getElem_cons hlt,h];unfold UX;rw[filter_cons];by_cases q:key x=k<;>simp[q]
def XdZ (l:List α) (k:κ):J (UX key l k)<=J l:=length_filter_le _ _
end
abbrev AD:=Int×Int×Int
def cAD (a:AD):List D:=[.v (.int .i64 a.1),.v (.int .i64 a.2.1),.v (.int .i64 a.2.2)]
def ltA (a b:AD):Bool:=decide (a.2.1<b.2.1)||(decide (a.2.1=b.2.1)&&decide (a.2.2<b.2.2))
def X48 (out:List AD) (a:AD):Nat->Nat
 |0=>0
 |k+1=>match out[k]? with
  |some b=>if ltA a b then X48 out a k else k+1
  |none=>k+1
def X3g (out:List AD) (a:AD):List AD:=out.take (X48 out a (J out))++a::out.drop (X48 out a (J out))
def XlH (out:List AD) (a:AD):∀k,X48 out a k<=k
 |0=>Nat.le_refl _
 |k+1=>by
  rw[X48];cases h:out[k]? with
  |none=>exact Nat.le_refl _
  |some b=>
   simp only;split
   ·exact Nat.le_succ_of_le (XlH out a k)
   ·exact Nat.le_refl _
variable{a b:AD}{out:List AD}
def Xps (h:out[k]? =some b):X48 out a (k+1)=if ltA a b then X48 out a k else k+1:=by rw[X48,h]
theorem XlT (out:List AD) (a:AD):J (X3g out a)=J out+1:=by
 have:=XlH out a (J out);unfold X3g;rw[LA,LC,LT,LD];omega
def Vv (out:List AD) (a:AD) (k:Nat):List AD:=if k=J out then out++[a] else out.take (k+1)++out.drop k
def XdP (h:k<=J out):J (Vv out a k)=J out+1:=by
 unfold Vv;split
 ·simp
 ·rw[LA,LT,LD];omega
def Xvo (h:out[k]? =some b):(Vv out a (k+1))[k]? =some b:=by
 have hl:=(GS.1 h).1;unfold Vv;split
 ·rw[getElem?_append_left hl];exact h
 ·rw[getElem?_append_left Oz,getElem?_take,PI Oa];exact h
def Xrl (h:out[k]? =some b):(Vv out a (k+1)).set (k+1) b=Vv out a k:=by
 obtain⟨hl,hb⟩:=GS.1 h;have e:Vv out a k=out.take (k+1)++out.drop k:=by unfold Vv;rw[NI Oa]
 have ed:out.drop k=b::out.drop (k+1):=by rw[drop_eq_getElem_cons hl,hb]
 rw[e];unfold Vv;split
 ·rename_i q;rw[set_append_right _ _ Oa,q,Nat.sub_self,set_cons_zero,take_length,ed,show k+1=J out from q,drop_length]
 ·rename_i q;have hk:k+1<J out:=by omega
  rw[show k+1+1=(k+1)+1 from rfl,take_succ_eq_append_getElem hk,AS,set_append_right _ _ Oz,LT,Nat.min_eq_left Oa,Nat.sub_self,ed];rfl
def XxQ (h:k<=J out):(Vv out a k).set k a=out.take k++a::out.drop k:=by
 unfold Vv;split
 ·rename_i q;subst q;rw[set_append_right _ _ (Nat.le_refl _),Nat.sub_self,set_cons_zero,take_length,drop_length]
 ·rename_i q;have hk:k<J out:=by omega
  rw[take_succ_eq_append_getElem hk,AS,set_append_right _ _ Oz,LT,Nat.min_eq_left Oa,Nat.sub_self];rfl
def X4a (e:Edg) (id:Int):AD:=if e.src=id then (id,e.dst,e.id) else if e.dst=id then (id,e.src,e.id) else (0,0,0)
def isA (e:Edg) (id:Int):Bool:=decide (e.src=id)||decide (e.dst=id)
def X2d (id:Int):List AD->List Edg->List AD
 |out,[]=>out
 |out,e::r=>if isA e id then X2d id (X3g out (X4a e id)) r else X2d id out r
def Xyk {id:Int}{l:List Edg}{e:Edg} (h:l[i]? =some e):X2d id out (l.drop i)=if isA e id then X2d id (X3g out (X4a e id)) (l.drop (i+1)) else X2d id out (l.drop (i+1)):=by
 obtain⟨hl,h⟩:=GS.1 h;rw[drop_eq_getElem_cons hl,h,X2d]
theorem XcA (id:Int):∀(l:List Edg) (out:List AD),J (X2d id out l)=J out+l.countP fun e=>isA e id
 |[],out=>by simp[X2d]
 |e::r,out=>by
  rw[X2d,countP_cons];split
  ·rw[XcA id r,XlT];omega
  ·rw[XcA id r];omega
def Xtr (l:List Edg) (id:Int):decide (0<J (X2d id [] l))=X2b l id:=by
 rw[XcA,length_nil,Nat.zero_add];unfold X2b;rw[Bool.eq_iff_iff];simp only[decide_eq_true_eq,any_eq_true];rw[countP_pos_iff];simp only[isA,Bool.or_eq_true,decide_eq_true_eq]
end Go.Fw
