/- Raising an error; the editor's searches; a property set. -/
import Derived.Test.YtpbgjcbkhgfmkaaGreatDoorM27
import Derived.Test.YtpbgjcbkhgfmkaaGreatDoorM28
set_option maxHeartbeats 32000000
namespace Go.Fw
open Go Go.Proofs Tryz List
set_option maxRecDepth 100000
set_option linter.unusedVariables false
set_option linter.unusedSimpArgs false
def X0w (e:Int):List PanicEntry:=[{v:= .iface 216 (.int .i64 e),recovered:=false}]
theorem VR (e:Int):Con prog 244 [] [ab true,ai e] [] (.tup []):=by
 refine X0I (xs:=[]) func244 rfl ntmps244 rfl rfl rfl (fun E=> ?_);refine W7_ ?_;exact⟨_,St.le_refl _,TV,X4 _⟩
theorem X2q (e:Int):X0c prog 244 [] [ab false,ai e] (X0w e):=by
 refine X1Q func244 rfl ntmps244 rfl (fun E=> ?_);refine W6_ ?_;refine Xq2 2 rfl (fun _=>rfl) ?_;refine W1_ ?_;refine Xo1 (hg:=JSa) (hx:=JSb) (ht:=JSb) (hd:=JSb) ?_;exact .done (fun h=>Bool.noConfusion h) rfl
abbrev edL (rn:List RN) (re:List RE) (nn ne:Int):List (Nat×AObj):=[(0,.box [.own 3 rn.length,.own 4 re.length,ai nn,ai ne]),(3,.row 3 (rn.map cRN)),(4,.row 5 (re.map cRE))]
theorem X0X (rn:List RN) (re:List RE) (nn ne:Int) (id:Int) (hl:rn.length<=4294967296) (hr:YW ltI kRN rn):
  Con prog 243 (edL rn re nn ne) [.ptr 0 0,ai id] (edL rn re nn ne) (.tup [ai (Xo ltI kRN rn id),ab (XD kRN rn id)]):=by
 refine ZCt func243 ntmps243 fun E=> ?_;have hc:=X5l 3 (Xug rn id hl hr);rw[LM] at hc;generalize Xo ltI kRN rn id=a at*;generalize XD kRN rn id=b at*;refine YR ?_;exact X2 ⟨_,St.le_refl _,⟨rfl,rfl,TV⟩,Xj ⟨rfl,rfl,rfl,TV⟩⟩
theorem X4u (rn:List RN) (re:List RE) (nn ne:Int) (id:Int) (hl:re.length<=4294967296) (hr:YW ltI kRE re):
  Con prog 251 (edL rn re nn ne) [.ptr 0 0,ai id] (edL rn re nn ne) (.tup [ai (Xo ltI kRE re id),ab (XD kRE re id)]):=by
 refine ZCt func251 ntmps251 fun E=> ?_;have hc:=X5l 4 (Xui re id hl hr);rw[LM] at hc;generalize Xo ltI kRE re id=a at*;generalize XD kRE re id=b at*;refine YR ?_;exact X2 ⟨_,St.le_refl _,⟨rfl,rfl,TV⟩,Xj ⟨rfl,rfl,rfl,TV⟩⟩
theorem XeO (p:Prp):(Xd p).length=6:=by obtain⟨k,⟨a,b,c,d,e⟩⟩:=p;rfl
theorem Xq9 (ps:List Prp):∀x∈ps.map Xd,x.length=6:=fun x hx=>by obtain⟨p,_,rfl⟩:=mem_map.1 hx;exact XeO p
variable{i j o q sz:Nat}{C:List (Option D)}{y:AVal}{R:List (List D)}{r:List D}{S:St}
theorem Xgz {xs:List (List D)}{T:List (Option D)}{a b c b':List D} (h:∀x∈xs,x.length=sz) (hx:xs[i]? =some (a++b++c)) (ho:a.length=o) (hb:b'.length=b.length):
  Yi (fl (xs.set i (a++b'++c))++T) none=(Yi (fl xs++T) none).take (i*sz+o)++b'.map .d++(Yi (fl xs++T) none).drop (i*sz+o+(b'.map AVal.d).length):=by
 have hi:i<xs.length:=(GS.1 hx).1;have iO:xs[i]=a++b++c:=by rw[getElem?_eq_getElem hi] at hx;simpa using hx
 have hl:(a++b++c).length=sz:=by rw[<-iO];exact h _ (getElem_mem hi)
 have e1:xs=xs.take i++(a++b++c)::xs.drop (i+1):=by rw[<-iO,<-drop_eq_getElem_cons hi,take_append_drop]
 have lt:(xs.take i).length=i:=by rw[LT];omega
 have e2:xs.set i (a++b'++c)=xs.take i++(a++b'++c)::xs.drop (i+1):=by
  conv=>lhs;rw[e1]
  rw[set_append_right _ _ (by omega),lt,Nat.sub_self];rfl
 have f1:∀m:List D,Yi (fl (xs.take i++(a++m++c)::xs.drop (i+1))++T) none=((fl (xs.take i)).map oA++a.map .d)++(m.map .d++(c.map .d++((fl (xs.drop (i+1))).map oA++T.map oA))):=by
  intro m;have hc:∀l:List D,(l.map some).map oA=l.map .d:=fun l=>by rw[map_map];rfl
  rw[show xs.take i++(a++m++c)::xs.drop (i+1)=xs.take i++([a++m++c]++xs.drop (i+1)) from rfl,XnN,XnN];simp only[Yi,map_append,AS];have:(fl [a++(m++c)]).map oA=a.map .d++(m.map .d++c.map .d):=by simp only[fl,flatten_cons,flatten_nil,append_nil,hc,map_append]
  rw[this];simp only[AS]
 have la:((fl (xs.take i)).map oA++a.map AVal.d).length=i*sz+o:=by
  have:((fl (xs.take i)).map oA).length=i*sz:=by rw[LM,Vg (X2s h i),lt]
  rw[LA,this,LM,ho]
 have part:∀(A M M' R:List AVal) (n:Nat),A.length=n->M'.length=M.length->A++(M'++R)=(A++(M++R)).take n++M'++(A++(M++R)).drop (n+M'.length):=by
  intro A M M' R n h1 h2;rw[take_left' h1,<-drop_drop,drop_left' h1,h2,drop_left' rfl,AS]
 have e3:=f1 b;rw[<-e1] at e3;rw[e2,f1 b',e3];exact part _ _ _ _ _ la (by rw[LM,LM,hb])
section
variable (ps:List Prp) (key:List UInt8) (v:Val)
theorem XlA (hr:YW aA Prp.key ps) (hl:ps.length<=16) (hok:(Ud ps key v).length<=16):
  Con prog 250 [(1,.row 6 (ps.map Xd))] [.own 1 ps.length,.d (.v (.string (X6 key))),XC v] [(1,.dead),(110,.row 6 ((Ud ps key v).map Xd))] (.own 110 (Ud ps key v).length):=by
 refine ZC1 func250 ntmps250 fun E=> ?_;have hc:=X5l 1 (Xhn ps key (by omega) hr);rw[LM] at hc;have hz:=XfM v;have hb:=X10 (k:=key) X1t hr;have hle:=X5p (lt:=aA) (key:=Prp.key) ps key;have h6:=Xq9 ps;have hlm:(ps.map Xd).length=ps.length:=LM ..;by_cases b:XD Prp.key ps key=true
 case pos=>
  rw[b] at hc hb;obtain⟨x,hx,hk⟩:=decide_eq_true_iff.1 hb.symm;have hi:Xo aA Prp.key ps key<ps.length:=(GS.1 hx).1;by_cases z:V4 v=true
  ·have eS:Ud ps key v=ps.take (Xo aA Prp.key ps key)++ps.drop (Xo aA Prp.key ps key+1):=by
    unfold Ud;rw[PI z,X7P X1t hr hx hk,append_nil]
   rw[z] at hz;have eL:(Ud ps key v).length=ps.length-1:=by rw[eS,LA,LT,LD];omega
   have eM:(Ud ps key v).map Xd=(ps.map Xd).take (Xo aA Prp.key ps key)++(ps.map Xd).drop (Xo aA Prp.key ps key+1):=by rw[eS,map_append,map_take,map_drop]
   rw[eL,eM];have hd:=XwD (ps.map Xd) (Xo aA Prp.key ps key) h6 (by omega) (by omega);rw[hlm] at hd;clear hb hx hk eS eL eM z hok hr h6 hlm;generalize Xo aA Prp.key ps key=i at*;generalize ps.map Xd=xs at*;obtain⟨k0,k1,k2,k3,k4⟩:=v;simp only[XC,X15] at*;refine UD ?_;refine QZc ?_;refine Z3 (af:=hd) ?_;refine W2_ ?_
   (show AWP prog E _ _ _;refine X2 ?_;exact(show Xa _ _ _ _ _ from⟨_,St.le_refl _,⟨rfl,TV⟩,Xj ⟨rfl,rfl,TV⟩⟩))
  ·have z:V4 v=false:=by simpa using z
   have eS:Ud ps key v=ps.take (Xo aA Prp.key ps key)++[⟨key,v⟩]++ps.drop (Xo aA Prp.key ps key+1):=by
    unfold Ud;rw[NI (by simp[z]),X7P X1t hr hx hk]
   rw[z] at hz;have iO:ps[Xo aA Prp.key ps key]? =some x:=hx;obtain⟨xk,xv⟩:=x;obtain rfl:xk=key:=hk;have eL:(Ud ps xk v).length=ps.length:=by rw[eS,LA,LA,LT,LD,length_singleton];omega
   generalize hI:Xo aA Prp.key ps xk=i at*;have e1:ps.take i++[⟨xk,v⟩]++ps.drop (i+1)=ps.set i ⟨xk,v⟩:=by
    conv=>rhs;rw[<-take_append_drop i ps,drop_eq_getElem_cons hi]
    rw[set_append_right _ _ (by rw[LT];omega),LT,Nat.min_eq_left (by omega),Nat.sub_self,AS];rfl
   have eM:(Ud ps xk v).map Xd=(ps.map Xd).set i (Xd ⟨xk,v⟩):=by rw[eS,e1,map_set]
   rw[eL,eM];have au:(ps.map Xd)[i]? =some ([.v (.string (X6 xk))]++UT xv++[]):=by rw[getElem?_map,iO];simp[Xd]
   have tu:(UT v).length=(UT xv).length:=by cases v;cases xv;rfl
   have cO:=fun T=>Xgz (T:=T) (b':=UT v) h6 au rfl tu;have bI:∀y∈(ps.map Xd).set i (Xd ⟨xk,v⟩),y.length=6:=fun y hy=>by
    rcases mem_or_eq_of_mem_set hy with hy|rfl
    ·exact h6 y hy
    ·exact XeO _
   have hfl:=fun T=>take_left' (l₂:=T) (Vg bI);rw[length_set,hlm] at hfl;have aK:((ps.map Xd).set i (Xd ⟨xk,v⟩)).length=ps.length:=by rw[length_set,hlm]
   have cZ:Xd ⟨xk,v⟩=[.v (.string (X6 xk))]++UT v++[]:=by simp[Xd]
   clear hb hx eS eL eM z hok hr au e1 iO hI;rw[<-cZ] at cO;generalize uR:(ps.map Xd).set i (Xd ⟨xk,v⟩)=X' at*;generalize ps.map Xd=xs at*;obtain⟨k0,k1,k2,k3,k4⟩:=v;simp only[XC,X15] at*;refine YR ?_;show AWP prog E _ _ _;refine X2Z 0 1 120 rfl (by omega) rfl hlm.symm rfl rfl (fun c k aI aW bL _=> ?_);have cO:Yi (fl X'++replicate k none) none=(Yi (fl xs++replicate k none) none).take (0+i*6+1)++[ai k0,ai k1,ai k2,.d (.v (.string (X6 k3))),.d (.sl 5 (XX k4))]++(Yi (fl xs++replicate k none) none).drop (0+i*6+1+5):=by rw[Nat.zero_add];exact cO _
   have hfl:=hfl (replicate k none);have hT:(replicate k (none:Option D)).length=k:=length_replicate;generalize replicate k (none:Option D)=T at*;have hlen:(map some xs.flatten++T).length=xs.length*6+k:=by rw[LA,hT];exact CG (· +k) (Vg h6)
   have hlen':(map some X'.flatten++T).length=xs.length*6+k:=by rw[LA,hT];exact(CG (· +k) (Vg bI)).trans (by rw[aK,hlm])
   have hcap:c*6<=(fl X'++T).length:=by show c*6<=(map some X'.flatten++T).length;omega
   have hbd:0+i*6+1+5<=(map some xs.flatten++T).length:=by omega
   refine U1 ?_;refine Zh (sz:=6) ?_;refine W1_ ?_;(refine Zi (cs':=fl X'++T) (ho':=none) ?_ (hcs:= ?hcs53);(case hcs53=>exact cO));refine W6_ ?_;show AWP prog E _ _ _;refine X8 (X14 6 120 110 X' (by conv=>lhs;whnf) (by conv=>lhs;whnf) hfl aK bI (by omega) aW hcap rfl rfl) ?_
   (show AWP prog E _ _ _;refine X2 ?_;exact(show Xa _ _ _ _ _ from⟨_,St.le_refl _,⟨rfl,TV⟩,Xj ⟨rfl,rfl,TV⟩⟩))
 have b:XD Prp.key ps key=false:=by simpa using b
 rw[b] at hc;by_cases z:V4 v=true
 ·have eS:Ud ps key v=ps:=by
   unfold Ud;rw[PI z,X4U b,append_nil,take_append_drop]
  rw[z] at hz;rw[eS];clear hb z hok hr h6 eS b;generalize Xo aA Prp.key ps key=i at*;generalize ps.map Xd=xs at*;obtain⟨k0,k1,k2,k3,k4⟩:=v;simp only[XC,X15] at*;refine X7 ?_;show AWP prog E _ _ _;refine X8 (X84 6 1 110 rfl rfl hlm.symm rfl rfl) ?_
  (show AWP prog E _ _ _;refine X2 ?_;exact(show Xa _ _ _ _ _ from⟨_,St.le_refl _,⟨rfl,TV⟩,Xj ⟨rfl,rfl,TV⟩⟩))
 have z:V4 v=false:=by simpa using z
 have eS:Ud ps key v=ps.take (Xo aA Prp.key ps key)++[⟨key,v⟩]++ps.drop (Xo aA Prp.key ps key):=by
  unfold Ud;rw[NI (by simp[z]),X4U b]
 rw[z] at hz;have eL:(Ud ps key v).length=ps.length+1:=by rw[eS,LA,LA,LT,LD,length_singleton];omega
 have eM:(Ud ps key v).map Xd=(ps.map Xd).take (Xo aA Prp.key ps key)++Xd ⟨key,v⟩::(ps.map Xd).drop (Xo aA Prp.key ps key):=by
  rw[eS,map_append,map_append,map_take,map_drop,AS];rfl
 have hlt:(ps.length:Int)<16:=by omega
 rw[eL,eM];have hd:=XxA (ps.map Xd) (Xo aA Prp.key ps key) (Xd ⟨key,v⟩) h6 (XeO _) (by omega) (by omega);have hm:=VR 20;rw[hlm] at hd;clear hb eS eL eM z hok hr h6 b;generalize Xo aA Prp.key ps key=i at*;generalize ps.map Xd=xs at*;obtain⟨k0,k1,k2,k3,k4⟩:=v;simp only[XC,X15,Xd,UT] at*;have hlt':(xs.length:Int)<16:=by omega
 have eH:ps.length=xs.length:=hlm.symm;refine Qo ?_;refine Zj (op:= .lss) (r':= .bool true) (u:= .int .i64 (xs.length:Nat)) (v:= .int .i64 16) ?_ (hr':=by exact CG Value.bool (DT hlt'));refine XA ?_;refine Z3 (af:=hd) ?_;refine W2_ ?_
 (show AWP prog E _ _ _;refine X2 ?_;exact(show Xa _ _ _ _ _ from⟨_,St.le_refl _,⟨rfl,TV⟩,Xj ⟨rfl,rfl,TV⟩⟩))
theorem Xm5 (hr:YW aA Prp.key ps) (hl:ps.length<=16) (hok:¬(Ud ps key v).length<=16):
  X0c prog 250 [(121,.row 6 (ps.map Xd))] [.own 121 ps.length,.d (.v (.string (X6 key))),XC v] (X0w 20):=by
 refine X1Q func250 rfl ntmps250 rfl (fun E=> ?_);have hc:=X5l 121 (Xhn ps key (by omega) hr);rw[LM] at hc;have hz:=XfM v;have hlm:(ps.map Xd).length=ps.length:=LM ..;have z:V4 v=false:=by
  by_cases z:V4 v=true
  ·refine absurd ?_ hok;unfold Ud;rw[PI z];have:=X5K (lt:=aA) (key:=Prp.key) (l:=ps) (k:=key) (ns:=[]);simp only[length_nil] at this;omega
  ·simpa using z
 have b:XD Prp.key ps key=false:=by
  by_cases b:XD Prp.key ps key=true
  ·refine absurd ?_ hok;unfold Ud;rw[NI (by simp[z]),Xf4 X1t hr b];exact hl
  ·simpa using b
 have aL:¬(ps.length:Int)<16:=by
  intro q;refine hok ?_;unfold Ud;rw[NI (by simp[z])];have:=X5K (lt:=aA) (key:=Prp.key) (l:=ps) (k:=key) (ns:=[⟨key,v⟩]);simp only[length_singleton] at this;omega
 rw[z] at hz;rw[b] at hc;clear z b hok hr;generalize Xo aA Prp.key ps key=i at*;generalize ps.map Xd=xs at*;obtain⟨k0,k1,k2,k3,k4⟩:=v;simp only[XC,X15] at*;refine QMa ?_;refine X2h 3 rfl (fun _=>rfl) ?_;have qV:¬(xs.length:Int)<16:=by omega
 have eH:ps.length=xs.length:=hlm.symm;refine W2_ ?_;refine Zj (op:= .lss) (r':= .bool false) (u:= .int .i64 (xs.length:Nat)) (v:= .int .i64 16) ?_ (hr':=by exact CG Value.bool (DF qV))
 (refine .done (fun h=>Bool.noConfusion h) ?_;apply X2n (af:=X2q 20);(case hxs=>exact rfl);(case hys=>conv=>lhs;whnf);(case hle=>((repeat (first|exact trivial|refine⟨(by(first|((exact AVal.le_refl _))|((exact AVal.le_nil _))|((refine AVal.le_agg ?_;((repeat (first|exact trivial|refine⟨(by(first|((exact AVal.le_refl _))|((exact AVal.le_nil _))|((refine AVal.le_of_eq ?_;(conv=>lhs;whnf);(first|((rfl))|((simp<;>fail))|fail)))|fail)),?_⟩|fail))<;>fail)))|((refine AVal.le_of_eq ?_;(conv=>lhs;whnf);(first|((rfl))|((simp<;>fail))|fail)))|fail)),?_⟩|fail))<;>fail));(case hf=>exact rfl);(case bH=>(repeat (first|exact trivial|refine⟨rfl,?_⟩|fail))<;>fail))
end
open Go
abbrev X0J:Value:= .slice none 0 0
def cNN (n:Nod):List NC:=[.d (.v (.int .i64 n.id)),.r 1 (n.labels.map Xf),.r 6 (n.props.map Xd)]
def cNE (e:Edg):List NC:=[.d (.v (.int .i64 e.id)),.d (.v (.int .i64 e.src)),.d (.v (.int .i64 e.dst)),.d (.v (.string (X6 e.typ))),.r 6 (e.props.map Xd)]
abbrev XN:=Nod×Value×Value
abbrev XE:=Edg×Value
def rXN (x:XN):RN:=(x.1.id,.v x.2.1,.v x.2.2)
def rXE (x:XE):RE:=(x.1.id,x.1.src,x.1.dst,x.1.typ,.v x.2)
def bXN (x:XN):List Hd:=[(x.2.1,1,x.1.labels.map Xf),(x.2.2,6,x.1.props.map Xd)]
def bXE (x:XE):List Hd:=[(x.2,6,x.1.props.map Xd)]
def Y0 (xs:List XN):List Hd:=(xs.map bXN).flatten
def U0 (xs:List XE):List Hd:=(xs.map bXE).flatten
theorem XgS:∀xs:List XN,X0G ((xs.map fun x=>cNN x.1).flatten) ((xs.map fun x=>cRN (rXN x)).flatten) (Y0 xs)
 |[]=>trivial
 |x::xs=>by
  have ih:=XgS xs;simp only[Y0,map_cons,flatten_cons] at ih |-;exact⟨rfl,rfl,rfl,rfl,rfl,ih⟩
theorem XjS:∀xs:List XE,X0G ((xs.map fun x=>cNE x.1).flatten) ((xs.map fun x=>cRE (rXE x)).flatten) (U0 xs)
 |[]=>trivial
 |x::xs=>by
  have ih:=XjS xs;simp only[U0,map_cons,flatten_cons] at ih |-;exact⟨rfl,rfl,rfl,rfl,rfl,rfl,ih⟩
theorem Xm6:∀(ns:List Nod) (rows:List (List D)) (hs:List Hd),rows.length=ns.length->(∀x∈rows,x.length=3)->X0G (ns.map cNN).flatten rows.flatten hs->
  ∃xs:List XN,ns=xs.map (·.1)/\rows=(xs.map rXN).map cRN/\hs=Y0 xs
 |[],[],hs,_,_,h=>by
  cases hs with
  |nil=>exact⟨[],rfl,rfl,rfl⟩
  |cons k hs=>exact h.elim
 |[],_::_,_,h,_,_=>by simp at h
 |_::_,[],_,h,_,_=>by simp at h
 |n::ns,r::rows,hs,hl,hz,h=>by
  have h3:=hz r (by simp)
  match r,h3 with
  |[a,b,c],_=>
   simp only[map_cons,flatten_cons,cNN,cons_append,nil_append] at h
   match hs,h with
   |[],h=>simp[X0G] at h
   |[_],h=>simp[X0G] at h
   |p::q::hs,h=>
    obtain⟨rfl,rfl,hp,rfl,hq,h⟩:=h;obtain⟨xs,rfl,rfl,rfl⟩:=Xm6 ns rows hs (by simpa using hl) (fun x hx=>hz x (by simp[hx])) h;refine⟨(n,p.1,q.1)::xs,rfl,rfl,?_⟩;obtain⟨p1,p2⟩:=p;obtain⟨q1,q2⟩:=q;simp only at hp hq;subst hp hq;rfl
theorem Xhy:∀(ns:List Edg) (rows:List (List D)) (hs:List Hd),rows.length=ns.length->(∀x∈rows,x.length=5)->X0G (ns.map cNE).flatten rows.flatten hs->
  ∃xs:List XE,ns=xs.map (·.1)/\rows=(xs.map rXE).map cRE/\hs=U0 xs
 |[],[],hs,_,_,h=>by
  cases hs with
  |nil=>exact⟨[],rfl,rfl,rfl⟩
  |cons k hs=>exact h.elim
 |[],_::_,_,h,_,_=>by simp at h
 |_::_,[],_,h,_,_=>by simp at h
 |n::ns,r::rows,hs,hl,hz,h=>by
  have h3:=hz r (by simp)
  match r,h3 with
  |[a,b,c,d,e],_=>
   simp only[map_cons,flatten_cons,cNE,cons_append,nil_append] at h
   match hs,h with
   |[],h=>simp[X0G] at h
   |p::hs,h=>
    obtain⟨rfl,rfl,rfl,rfl,rfl,hp,h⟩:=h;obtain⟨xs,rfl,rfl,rfl⟩:=Xhy ns rows hs (by simpa using hl) (fun x hx=>hz x (by simp[hx])) h;refine⟨(n,p.1)::xs,rfl,rfl,?_⟩;obtain⟨p1,p2⟩:=p;simp only at hp;subst hp;rfl
theorem X7l (xs ys:List XN):Y0 (xs++ys)=Y0 xs++Y0 ys:=by simp[Y0]
theorem X9R (xs ys:List XE):U0 (xs++ys)=U0 xs++U0 ys:=by simp[U0]
theorem Xdc (x:XN) (xs:List XN):Y0 (x::xs)=(x.2.1,1,x.1.labels.map Xf)::(x.2.2,6,x.1.props.map Xd)::Y0 xs:=rfl
theorem XmA (x:XE) (xs:List XE):U0 (x::xs)=(x.2,6,x.1.props.map Xd)::U0 xs:=rfl
abbrev edS (g:Gra):List (Nat×AObj):=[(0,.box [.own 3 g.nodes.length,.own 4 g.aj.length,ai g.nn,ai g.ne]),(3,.nest 3 (g.nodes.map cNN)),(4,.nest 5 (g.aj.map cNE))]
abbrev edN (g:Gra):List (Nat×AObj):=[(0,.box [.own 110 g.nodes.length,.own 4 g.aj.length,ai g.nn,ai g.ne]),(3,.dead),(4,.nest 5 (g.aj.map cNE)),(110,.nest 3 (g.nodes.map cNN))]
abbrev edE (g:Gra):List (Nat×AObj):=[(0,.box [.own 3 g.nodes.length,.own 110 g.aj.length,ai g.nn,ai g.ne]),(3,.nest 3 (g.nodes.map cNN)),(4,.dead),(110,.nest 5 (g.aj.map cNE))]
section
variable {P:Program}{E:Env}{c:Code}{S:St}{Q:Exit->St->Prop}
theorem X0y {ns:List Nod}{es:List Edg} (hN:S.obj 3= .nest 3 (ns.map cNN)) (hE:S.obj 4= .nest 5 (es.map cNE)) (qW:S.obj 210= .dead) (qX:S.obj 211= .dead)
  (h:∀(xs:List XN) (ys:List XE),ns=xs.map (·.1)->es=ys.map (·.1)->AWP P E c ⟨S.n,S.τ,(4,.row 5 ((ys.map rXE).map cRE))::(211,.bag (U0 ys))::(3,.row 3 ((xs.map rXN).map cRN))::(210,.bag (Y0 xs))::S.L⟩ Q):AWP P E c S Q:=by
 refine Xkd 3 210 hN qW fun rows hs h1 h2 h3=> ?_;obtain⟨xs,rfl,rfl,rfl⟩:=Xm6 ns rows hs (by simpa using h1) h3 h2;refine Xkd 4 211 (sz:=5) (xs:=es.map cNE) ?_ ?_ fun pF bV k1 k2 k3=> ?_
 ·show Xp _ _ _=_;rw[Yz _ _ _ (by decide),Yz _ _ _ (by decide)];exact hE
 ·show Xp _ _ _=_;rw[Yz _ _ _ (by decide),Yz _ _ _ (by decide)];exact qX
 ·obtain⟨ys,rfl,rfl,rfl⟩:=Xhy es pF bV (by simpa using k1) k3 k2;exact h xs ys rfl rfl
end
theorem X4w (γ δ:Nat) (xs:List XN) (hL:S.obj γ= .row 3 ((xs.map rXN).map cRN)) (hB:S.obj δ= .bag (Y0 xs)):S.le ⟨S.n,S.τ,(γ,.nest 3 ((xs.map (·.1)).map cNN))::(δ,.dead)::S.L⟩:=
 XiM γ δ ((xs.map (·.1)).map cNN) hL hB (by simp) (by
  have:=XgS xs;rw[map_map,map_map];exact this)
theorem X4r (γ δ:Nat) (xs:List XE) (hL:S.obj γ= .row 5 ((xs.map rXE).map cRE)) (hB:S.obj δ= .bag (U0 xs)):S.le ⟨S.n,S.τ,(γ,.nest 5 ((xs.map (·.1)).map cNE))::(δ,.dead)::S.L⟩:=
 XiM γ δ ((xs.map (·.1)).map cNE) hL hB (by simp) (by
  have:=XjS xs;rw[map_map,map_map];exact this)
theorem X0N (xs:List XN) (n:Int):Xo ltI kRN (xs.map rXN) n=Xo ltI Nod.id (xs.map (·.1)) n:=by
 unfold Xo;induction xs with
 |nil=>rfl
 |cons x xs ih=>
  simp only[map_cons,takeWhile_cons];have:ltI (kRN (rXN x)) n=ltI x.1.id n:=rfl;rw[this];split
  ·simp only[LC,ih]
  ·rfl
theorem X13 (xs:List XN) (n:Int):XD kRN (xs.map rXN) n=XD Nod.id (xs.map (·.1)) n:=by
 unfold XD;rw[any_map,any_map];rfl
theorem X0R (xs:List XN):YW ltI kRN (xs.map rXN)↔YW ltI Nod.id (xs.map (·.1)):=by
 unfold YW;rw[pairwise_map,pairwise_map];rfl
theorem X4m (xs:List XE) (n:Int):Xo ltI kRE (xs.map rXE) n=Xo ltI Edg.id (xs.map (·.1)) n:=by
 unfold Xo;induction xs with
 |nil=>rfl
 |cons x xs ih=>
  simp only[map_cons,takeWhile_cons];have:ltI (kRE (rXE x)) n=ltI x.1.id n:=rfl;rw[this];split
  ·simp only[LC,ih]
  ·rfl
theorem X4F (xs:List XE) (n:Int):XD kRE (xs.map rXE) n=XD Edg.id (xs.map (·.1)) n:=by
 unfold XD;rw[any_map,any_map];rfl
theorem X4c (xs:List XE):YW ltI kRE (xs.map rXE)↔YW ltI Edg.id (xs.map (·.1)):=by
 unfold YW;rw[pairwise_map,pairwise_map];rfl
theorem Xfk {α:Type}{xs:List α}{v:α} (hi:i<=xs.length):(xs.take i++v::xs.drop i).length=xs.length+1:=by rw[LA,LC,LT,LD];omega
theorem X4Q (rn:List RN):∀x∈rn.map cRN,x.length=3:=fun x hx=>by obtain⟨p,_,rfl⟩:=mem_map.1 hx;rfl
theorem X6B (re:List RE):∀x∈re.map cRE,x.length=5:=fun x hx=>by obtain⟨p,_,rfl⟩:=mem_map.1 hx;rfl
theorem Xv4 (g:Gra) (c:Chg) (hg:GV g) (hc:1<=c.id/\c.id<=1000000) (ho:c.op=1) (q1:XD Nod.id g.nodes c.id=false) (q2:g.nodes.length<2000):
  Con prog 180 (edS g) [.ptr 0 0,Xz c] (edN (VJ g ⟨c.id,[],[]⟩)) (.tup []):=by
 obtain⟨ns,es,nn,ne⟩:=g;have aB:=hg.ns;have dF:=hg.nn;simp only at q1 q2 aB dF;have e0:VJ ⟨ns,es,nn,ne⟩ ⟨c.id,[],[]⟩=⟨ns.take (Xo ltI Nod.id ns c.id)++[⟨c.id,[],[]⟩]++ns.drop (Xo ltI Nod.id ns c.id),es,max nn (c.id+1),ne⟩:=by
  unfold VJ;simp only;rw[X4U q1]
 rw[e0];have hle:=X5p (lt:=ltI) (key:=Nod.id) ns c.id;refine X0I (xs:=[]) func180 rfl ntmps180 rfl rfl rfl (fun E=> ?_);refine X0y rfl rfl rfl rfl (fun xs ys h1 h2=> ?_);subst h1 h2;have hN:=X0X (xs.map rXN) (ys.map rXE) nn ne c.id (by simp at q2 |-;omega) ((X0R xs).2 aB);rw[X0N,X13,q1] at hN;simp only[edL,LM] at hN q2 hle;generalize Xo ltI Nod.id (xs.map (·.1)) c.id=i at*;have hI:Con prog 245 [(3,.row 3 ((xs.map rXN).map cRN))] [.own 3 ((xs.map rXN).map cRN).length,ai (i:Nat),.d (.sl 3 [[.v (.int .i64 c.id),.v (.slice none 0 0),.v (.slice none 0 0)]])] [(3,.dead),(110,.row 3 (((xs.map rXN).map cRN).take i++[.v (.int .i64 c.id),.v (.slice none 0 0),.v (.slice none 0 0)]::((xs.map rXN).map cRN).drop i))] (.own 110 (((xs.map rXN).map cRN).length+1)):=
  YK 1 3 (Xq3 ((xs.map rXN).map cRN) i [.v (.int .i64 c.id),.v (.slice none 0 0),.v (.slice none 0 0)] (X4Q _) rfl (by simp;omega) (by simp;omega))
 have fD:=VR 7;have gJ:=VR 20;have eX:(xs.map (·.1)).take i++[⟨c.id,[],[]⟩]++(xs.map (·.1)).drop i=(xs.take i++((⟨c.id,[],[]⟩:Nod),X0J,X0J)::xs.drop i).map (·.1):=by
  simp[map_take,map_drop]
 have eL:(xs.take i++((⟨c.id,[],[]⟩:Nod),X0J,X0J)::xs.drop i).length=xs.length+1:=Xfk hle;have eR:((xs.map rXN).map cRN).take i++[.v (.int .i64 c.id),.v (.slice none 0 0),.v (.slice none 0 0)]::((xs.map rXN).map cRN).drop i=((xs.take i++((⟨c.id,[],[]⟩:Nod),X0J,X0J)::xs.drop i).map rXN).map cRN:=by
  simp[map_take,map_drop,rXN,cRN]
 have eB:Y0 (xs.take i)++(X0J,1,[])::(X0J,6,[])::Y0 (xs.drop i)=Y0 (xs.take i++((⟨c.id,[],[]⟩:Nod),X0J,X0J)::xs.drop i):=by rw[X7l,Xdc];rfl
 have bQ:Y0 xs=Y0 (xs.take i)++Y0 (xs.drop i):=by rw[<-X7l,take_append_drop]
 rw[eX];have ay:((xs.map rXN).map cRN).length=xs.length:=by simp
 rw[ay] at hI;simp only[edN,edS,LM,eL];have fX:(((xs.map rXN).map cRN).length:Int)<2000:=by rw[ay];omega
 have iS:xs.length=((xs.map rXN).map cRN).length:=ay.symm;clear hg aB e0 eX eL;generalize hR:(xs.map rXN).map cRN=R at*;generalize hX:xs.take i++((⟨c.id,[],[]⟩:Nod),X0J,X0J)::xs.drop i=X at*;obtain⟨op,id,src,dst,name,⟨k0,k1,k2,k3,k4⟩⟩:=c
 try simp only at*
 subst ho;simp only[Xz,Us] at*;refine Qad ?_;refine Yf ?_;refine Z3 (af:=fD) ?_;refine W9_ ?_;refine Zj (op:= .lss) (r':= .bool true) (u:= .int .i64 (R.length:Nat)) (v:= .int .i64 2000) ?_ (hr':=by exact CG Value.bool (DT fX));refine Z3 (af:=gJ) ?_;refine X0Z ?_;show AWP prog E _ _ _;refine X8 (Xfe 210 6 (Y0 (xs.take i)) (Y0 (xs.drop i)) (by refine Eq.trans (b:= .bag (Y0 xs)) (by conv=>lhs;whnf) (by rw[bQ]))) ?_;refine X8 (Xfe 210 1 (Y0 (xs.take i)) ((X0J,6,[])::Y0 (xs.drop i)) (by conv=>lhs;whnf)) ?_;refine X8 (X4w 110 210 X (by refine Eq.trans (b:= .row 3 (R.take i++[.v (.int .i64 id),.v (.slice none 0 0),.v (.slice none 0 0)]::R.drop i)) (by conv=>lhs;whnf) (by rw[eR])) (by refine Eq.trans (b:= .bag (Y0 (xs.take i)++(X0J,1,[])::(X0J,6,[])::Y0 (xs.drop i))) (by conv=>lhs;whnf) (by rw[eB]))) ?_;refine X8 (X4r 4 211 ys (by conv=>lhs;whnf) (by conv=>lhs;whnf)) ?_
 (show AWP prog E _ _ _;refine X2 ?_;exact(show Xa _ _ _ _ _ from⟨_,St.le_refl _,TV,Xj ⟨rfl,rfl,rfl,rfl,TV⟩⟩))
theorem XbL {α:Type}{l:List α}{x:α} (h:l[i]? =some x):l=l.take i++x::l.drop (i+1):=by
 obtain⟨hi,rfl⟩:=GS.1 h;rw[<-drop_eq_getElem_cons hi,take_append_drop]
theorem Xdj {α:Type}{key:α->Int}{l:List α}{k:Int} (hs:YW ltI key l) (hh:XD key l k=true):∃x,l[Xo ltI key l k]? =some x/\key x=k:=by
 rw[X10 UY hs] at hh;exact decide_eq_true_iff.1 hh
theorem X4h {P:Program}{rs:List ResultVar}{Lo:List (Nat×AObj)}{xs:List AVal}{T U:St} (h:T.le U) (k:Xa P rs Lo xs U):Xa P rs Lo xs T:=
 ⟨k.choose,fun E a w hs=>k.choose_spec.1 E a w (h E a w hs),k.choose_spec.2⟩
theorem Xpr (g:Gra) (c:Chg) (hg:GV g) (ho:c.op=2) (q1:XD Nod.id g.nodes c.id=true) (q2:X1O g.aj c.id=false):
  Con prog 180 (edS g) [.ptr 0 0,Xz c] (edN {g with nodes:=UL Nod.id g.nodes c.id}) (.tup []):=by
 obtain⟨ns,es,nn,ne⟩:=g;have aB:=hg.ns;have ax:=hg.nl;have hel:=hg.el;simp only at q1 q2 aB ax hel;obtain⟨x0,hx0,bY⟩:=Xdj aB q1;have e0:UL Nod.id ns c.id=ns.take (Xo ltI Nod.id ns c.id)++ns.drop (Xo ltI Nod.id ns c.id+1):=Xcu UY aB hx0 bY;simp only;rw[e0];have hle:Xo ltI Nod.id ns c.id<ns.length:=(GS.1 hx0).1;refine X0I (xs:=[]) func180 rfl ntmps180 rfl rfl rfl (fun E=> ?_);refine X0y rfl rfl rfl rfl (fun xs ys h1 h2=> ?_);subst h1 h2;have hN:=X0X (xs.map rXN) (ys.map rXE) nn ne c.id (by simp at ax |-;omega) ((X0R xs).2 aB);rw[X0N,X13,q1] at hN;simp only[edL,LM] at hN ax hle hel;generalize Xo ltI Nod.id (xs.map (·.1)) c.id=i at*;have hD:Con prog 246 [(3,.row 3 ((xs.map rXN).map cRN))] [.own 3 ((xs.map rXN).map cRN).length,ai (i:Nat),ai ((i+1:Nat):Int)] [(3,.dead),(110,.row 3 (((xs.map rXN).map cRN).take i++((xs.map rXN).map cRN).drop (i+1)))] (.own 110 (((xs.map rXN).map cRN).length-1)):=
  YK 1 3 (XpB ((xs.map rXN).map cRN) i (X4Q _) (by simp;omega) (by simp;omega))
 have cq:=VR 10;have lS:=VR 12;have eX:(xs.map (·.1)).take i++(xs.map (·.1)).drop (i+1)=(xs.take i++xs.drop (i+1)).map (·.1):=by simp[map_take,map_drop]
 have eL:(xs.take i++xs.drop (i+1)).length=xs.length-1:=by rw[LA,LT,LD];omega
 have eR:((xs.map rXN).map cRN).take i++((xs.map rXN).map cRN).drop (i+1)=((xs.take i++xs.drop (i+1)).map rXN).map cRN:=by simp[map_take,map_drop]
 obtain⟨y0,hy0⟩:∃y,xs[i]? =some y:=⟨_,getElem?_eq_getElem hle⟩
 have bQ:Y0 xs=Y0 (xs.take i)++(y0.2.1,1,y0.1.labels.map Xf)::(y0.2.2,6,y0.1.props.map Xd)::Y0 (xs.drop (i+1)):=by
  conv=>lhs;rw[XbL hy0,X7l,Xdc]
 have eB:Y0 (xs.take i)++Y0 (xs.drop (i+1))=Y0 (xs.take i++xs.drop (i+1)):=(X7l _ _).symm;rw[eX];have ay:((xs.map rXN).map cRN).length=xs.length:=by simp
 rw[ay] at hD;simp only[edN,edS,LM,eL];have iS:xs.length=((xs.map rXN).map cRN).length:=ay.symm;have lT:((ys.map rXE).map cRE).length=ys.length:=by simp
 have ld:=X6B (ys.map rXE);have jv:∀k:Nat,k<ys.length->∃y:XE,((ys.map rXE).map cRE)[k]? =some (cRE (rXE y))/\y.1.src≠c.id/\y.1.dst≠c.id:=by
  intro k hk;refine⟨ys[k],by simp[getElem?_map,getElem?_eq_getElem hk],?_⟩;unfold X1O at q2;have:=(any_eq_false.1 q2) ys[k].1 (mem_map.2 ⟨ys[k],getElem_mem hk,rfl⟩);simpa using this
 clear hg aB e0 eX eL hx0 bY q1 q2 hy0;generalize hR:(xs.map rXN).map cRN=R at*;generalize lU:(ys.map rXE).map cRE=RE' at*;generalize hX:xs.take i++xs.drop (i+1)=X at*;obtain⟨op,id,src,dst,name,⟨k0,k1,k2,k3,k4⟩⟩:=c;simp only at ho jv;subst ho;simp only[Xz,Us] at*;have uo:ys.length=RE'.length:=lT.symm;refine Qad ?_;refine Yf ?_;refine Z3 (af:=cq) ?_;refine W9_ ?_;refine Qbd ?_;refine XY ?_;refine Xn (fun k:Nat=>k<=RE'.length) (fun k=>⟨183,[(0,.ptr 0 0),(3,.ptr 100 0),(4,ai (i:Nat)),(91,.own 4 ys.length),(92,ai RE'.length),(93,ai k)],[(0,.box [.own 3 xs.length,.own 4 ys.length,ai nn,ai ne]),(3,.row 3 R),(210,.bag (Y0 xs)),(4,.row 5 RE'),(211,.bag (U0 ys)),(100,.box [ai 2,ai id,ai src,ai dst,.d (.v (.string (X6 name))),ai k0,ai k1,ai k2,.d (.v (.string (X6 k3))),.d (.sl 5 (XX k4))])]⟩) (fun k=>RE'.length-k) 0 (Nat.zero_le _) (ZL0) ?_;intro k hk;by_cases aE:k<RE'.length
 case pos=>
  have g6:(k:Int)<RE'.length:=by omega
  obtain⟨y,hy,n1,n2⟩:=jv k (by omega);have hpart:(RE'.flatten.drop (k*5)).take 5=[.v (.int .i64 y.1.id),.v (.int .i64 y.1.src),.v (.int .i64 y.1.dst),.v (.string (X6 y.1.typ)),.v y.2]:=by
   have:=X8C ld hy (o:=0) (q:=5) (by omega);simpa [cRE,rXE] using this
  have hroom:k*5+5<=RE'.length*5:=by omega
  refine Qcd ?_;refine W8_ ?_;refine Qdd ?_;refine Zk (op:= .neq) (r':= .bool true) (u:= .int .i64 y.1.dst) (v:= .int .i64 id) ?_ (hr':=by exact CG Value.bool (DT n2));refine W1_ ?_;refine Z3 (af:=lS) ?_;refine W5_ ?_;clear lT ay hD hR lU hX bQ eB eR jv ld;exact⟨k+1,by omega,by omega,ZL0⟩
 have g6:¬(k:Int)<RE'.length:=by omega
 clear lT ay ld jv;refine Yg ?_;refine QZc ?_;refine W6_ ?_;show Xa _ _ _ _ _;refine X4h (Xe7 210 (Y0 (xs.take i)) ((y0.2.2,6,y0.1.props.map Xd)::Y0 (xs.drop (i+1))) (y0.2.1,1,y0.1.labels.map Xf) (by refine Eq.trans (b:= .bag (Y0 xs)) (by conv=>lhs;whnf) (by rw[bQ]))) ?_;refine X4h (Xe7 210 (Y0 (xs.take i)) (Y0 (xs.drop (i+1))) (y0.2.2,6,y0.1.props.map Xd) (by conv=>lhs;whnf)) ?_;refine X4h (X4w 110 210 X (by refine Eq.trans (b:= .row 3 (R.take i++R.drop (i+1))) (by conv=>lhs;whnf) (by rw[eR])) (by refine Eq.trans (b:= .bag (Y0 (xs.take i)++Y0 (xs.drop (i+1)))) (by conv=>lhs;whnf) (by rw[eB]))) ?_;refine X4h (X4r 4 211 ys (by refine Eq.trans (b:= .row 5 RE') (by conv=>lhs;whnf) (by rw[lU])) (by conv=>lhs;whnf)) ?_;exact Qed
theorem Xdn {α:Type}{sz i o:Nat}{v:α}:∀{R:List (List α)}{q:Nat}{r:List α},(∀x∈R,x.length=sz)->R[q]? =some r->o<sz->(R.set q (r.set o v)).flatten=R.flatten.set (q*sz+o) v
 |[],q,r,_,h,_=>by simp at h
 |x::R,0,r,hz,h,ho=>by
  simp only[LC,Nat.zero_lt_succ,getElem?_cons_zero,Option.some.injEq] at h;subst h;have:=hz x (by simp);rw[set_cons_zero,flatten_cons,flatten_cons,Nat.zero_mul,Nat.zero_add,set_append_left _ _ (by omega)]
 |x::R,q+1,r,hz,h,ho=>by
  have hx:=hz x (by simp);rw[getElem?_cons_succ] at h;have ih:=Xdn (v:=v) (i:=i) (fun y hy=>hz y (by simp[hy])) h ho;rw[set_cons_succ,flatten_cons,flatten_cons,ih,set_append_right _ _ (by rw[hx,Nat.add_mul];omega),hx];congr 2;rw[Nat.add_mul];omega
theorem XbT {α:Type}{d:α}:∀{R:List (List α)}{q:Nat}{r:List α},(∀x∈R,x.length=sz)->R[q]? =some r->r[o]? =some d->R.flatten[q*sz+o]? =some d
 |[],q,r,_,h,_=>by simp at h
 |x::R,0,r,hz,h,ho=>by
  simp only[LC,Nat.zero_lt_succ,getElem?_cons_zero,Option.some.injEq] at h;subst h;rw[flatten_cons,Nat.zero_mul,Nat.zero_add,getElem?_append_left (GS.1 ho).1];exact ho
 |x::R,q+1,r,hz,h,ho=>by
  have hx:=hz x (by simp);rw[getElem?_cons_succ] at h;have ih:=XbT (fun y hy=>hz y (by simp[hy])) h ho;rw[flatten_cons,getElem?_append_right (by rw[hx,Nat.add_mul];omega),hx,<-ih];congr 1;rw[Nat.add_mul];omega
theorem X4l {d:D} (T:List (Option D)) (hz:∀x∈R,x.length=sz) (hq:R[q]? =some r) (ho:r[o]? =some d):(R.flatten.map some++T)[q*sz+o]? =some (some d):=by
 have h:=XbT hz hq ho;have hl:q*sz+o<R.flatten.length:=(GS.1 h).1;rw[getElem?_append_left (by rw[LM];exact hl),getElem?_map,h];rfl
theorem Xai {n:Nat}{d:D} (T:List (Option D)) (hz:∀x∈R,x.length=sz) (hq:R[q]? =some r) (ho:o<r.length) (hn:n=R.length):
  ((R.flatten.map some++T).set (q*sz+o) (some d)).take (n*sz)=(R.set q (r.set o d)).flatten.map some:=by
 have hr:r.length=sz:=hz r (mem_of_getElem? hq);have h:=XbT hz hq (getElem?_eq_getElem ho);have hl:q*sz+o<R.flatten.length:=(GS.1 h).1;have hfl:R.flatten.length=n*sz:=by
  subst hn;exact Eq.trans (by rw[<-length_map (f:=some)]) (Vg hz)
 rw[Xdn (i:=0) hz hq (by omega),map_set,set_append_left _ _ (by rw[LM];exact hl),take_left' (by rw[length_set,LM];exact hfl)]
theorem X2f {k:Nat} (hz:∀x∈R,x.length=sz):(R.flatten.map some++replicate k (none:Option D)).length=R.length*sz+k:=by
 rw[LA,length_replicate];exact CG (· +k) (Vg hz)
theorem X57 (h:j<C.length):(Yi C (some (j,y)))[j]? =some y:=by
 simp only[Yi];rw[getElem?_set_self (by rw[LM];exact h)]
theorem Xia {α:Type}{y z:α}:∀{l:List α}{j:Nat},j<l.length->l.set j z=(l.set j y).take j++[z]++(l.set j y).drop (j+1)
 |[],j,h=>by simp at h
 |x::l,0,h=>rfl
 |x::l,j+1,h=>by
  have ih:=Xia (y:=y) (z:=z) (l:=l) (j:=j) (by simpa using h);rw[set_cons_succ,set_cons_succ,take_succ_cons,drop_succ_cons,cons_append,cons_append,<-ih]
theorem X94 {z:AVal} (h:j<C.length):Yi C (some (j,z))=(Yi C (some (j,y))).take j++[z]++(Yi C (some (j,y))).drop (j+1):=
 Xia (by rw[LM];exact h)
end Go.Fw
