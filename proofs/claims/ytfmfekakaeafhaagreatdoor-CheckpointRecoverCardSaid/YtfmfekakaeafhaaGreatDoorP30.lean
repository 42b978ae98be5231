/- Raising an error; the editor's searches; a property set. -/
import Derived.Test.YtfmfekakaeafhaaGreatDoorP23
import Derived.Test.YtfmfekakaeafhaaGreatDoorP27
set_option linter.all false
set_option maxHeartbeats 32000000
namespace Go.Fw
open Go Go.Proofs Tryz List
open List renaming length->J
set_option maxRecDepth 100000
def X0R (e:Int):List PanicEntry:=[{v:= .iface 262 (.int .i64 e),recovered:=false}]
def X08 (e:Int):Con prog 282 [] [ab true,ai e] [] (.tup []):=by
 refine VQ (xs:=[]) func282 rfl ntmps282 rfl rfl rfl (fun E=> ?_);refine W7_ ?_;exact⟨_,ZzS,TV,X5 _⟩
def X2G (e:Int):X0d prog 282 [] [ab false,ai e] (X0R e):=by
 refine X21 func282 rfl ntmps282 rfl (fun E=> ?_);refine W6_ ?_;refine Xxe 2 rfl (fun _=>rfl) ?_;refine W1_ ?_;refine Xuz (hg:=JSa) (hx:=JSb) (ht:=JSb) (hd:=JSb) ?_;exact .done (fun h=>Bool.noConfusion h) rfl
abbrev edL (rn:List RN) (re:List RE) (nn ne:Int):List (Nat×AObj):=[(0,.box [.own 3 (J rn),.own 4 (J re),ai nn,ai ne]),(3,.row 3 (rn.map cRN)),(4,.row 5 (re.map cRE))]
def X1b (rn:List RN) (re:List RE) (nn ne:Int) (id:Int) (hl:J rn<=4294967296) (hr:YP ltI kRN rn):
  Con prog 281 (edL rn re nn ne) [.ptr 0 0,ai id] (edL rn re nn ne) (.tup [ai (Xr ltI kRN rn id),ab (XF kRN rn id)]):=by
 refine ZCt func281 ntmps281 fun E=> ?_;have hc:=X5F 3 (Xuq rn id hl hr);rw[LM] at hc;generalize Xr ltI kRN rn id=a at*;generalize XF kRN rn id=b at*;refine YS ?_;exact X3 ⟨_,ZzS,⟨rfl,rfl,TV⟩,Xm ⟨rfl,rfl,rfl,TV⟩⟩
def X4R (rn:List RN) (re:List RE) (nn ne:Int) (id:Int) (hl:J re<=4294967296) (hr:YP ltI kRE re):
  Con prog 289 (edL rn re nn ne) [.ptr 0 0,ai id] (edL rn re nn ne) (.tup [ai (Xr ltI kRE re id),ab (XF kRE re id)]):=by
 refine ZCt func289 ntmps289 fun E=> ?_;have hc:=X5F 4 (XpD re id hl hr);rw[LM] at hc;generalize Xr ltI kRE re id=a at*;generalize XF kRE re id=b at*;refine YS ?_;exact X3 ⟨_,ZzS,⟨rfl,rfl,TV⟩,Xm ⟨rfl,rfl,rfl,TV⟩⟩
def Xfn (p:Prp):J (Xb p)=6:=by obtain⟨k,⟨a,b,c,d,e⟩⟩:=p;rfl
def Xv8 (ps:List Prp):∀x∈ps.map Xb,J x=6:=fun x hx=>by obtain⟨p,_,rfl⟩:=mem_map.1 hx;exact Xfn p
variable{i j o q sz:Nat}{C:List (Option D)}{R:List (List D)}{r:List D}{S:St}{es:List Edg}{ns:List Nod}{k ne nn:Int}
def XnG {xs:List (List D)}{T:List (Option D)}{a b c b':List D} (h:∀x∈xs,J x=sz) (hx:xs[i]? =some (a++b++c)) (ho:J a=o) (hb:J b'=J b):
  Yj (fl (xs.set i (a++b'++c))++T) none=(Yj (fl xs++T) none).take (i*sz+o)++b'.map .d++(Yj (fl xs++T) none).drop (i*sz+o+J (b'.map AVal.d)):=by
 have hi:i<J xs:=(GS.1 hx).1;have iY:xs[i]=a++b++c:=by rw[getElem?_eq_getElem hi] at hx;simpa using hx
 have hl:J (a++b++c)=sz:=by rw[<-iY];exact h _ (getElem_mem hi)
 have e1:xs=xs.take i++(a++b++c)::xs.drop (i+1):=by rw[<-iY,<-drop_eq_getElem_cons hi,take_append_drop]
 have lt:J (xs.take i)=i:=Oz
 have e2:xs.set i (a++b'++c)=xs.take i++(a++b'++c)::xs.drop (i+1):=by
  conv=>lhs;rw[e1]
  rw[set_append_right _ _ Oa,lt,Nat.sub_self];rfl
 have f1:∀m:List D,Yj (fl (xs.take i++(a++m++c)::xs.drop (i+1))++T) none=((fl (xs.take i)).map oA++a.map .d)++(m.map .d++(c.map .d++((fl (xs.drop (i+1))).map oA++T.map oA))):=by
  intro m;have hc:∀l:List D,(l.map some).map oA=l.map .d:=fun l=>by rw[map_map];rfl
  rw[show xs.take i++(a++m++c)::xs.drop (i+1)=xs.take i++([a++m++c]++xs.drop (i+1)) from rfl,Xks,Xks];simp only[Yj,map_append,AS];have:(fl [a++(m++c)]).map oA=a.map .d++(m.map .d++c.map .d):=by simp only[fl,flatten_cons,flatten_nil,append_nil,hc,map_append]
  rw[this];simp only[AS]
 have la:J ((fl (xs.take i)).map oA++a.map AVal.d)=i*sz+o:=by
  have:J ((fl (xs.take i)).map oA)=i*sz:=by rw[LM,X0Y (X3Q h i),lt]
  rw[LA,this,LM,ho]
 have part:∀(A M M' R:List AVal) (n:Nat),J A=n->J M'=J M->A++(M'++R)=(A++(M++R)).take n++M'++(A++(M++R)).drop (n+J M'):=by
  intro A M M' R n h1 h2;rw[take_left' h1,<-drop_drop,drop_left' h1,h2,drop_left' rfl,AS]
 have e3:=f1 b;rw[<-e1] at e3;rw[e2,f1 b',e3];exact part _ _ _ _ _ la (by rw[LM,LM,hb])
section
variable (ps:List Prp) (key:List UInt8) (v:Val)
def Xlc (hr:YP aC Prp.key ps) (hl:J ps<=16) (hok:J (Uh ps key v)<=16):
  Con prog 288 [(1,.row 6 (ps.map Xb))] [.own 1 (J ps),.d (.v (.string (X7 key))),Xt v] [(1,.dead),(110,.row 6 ((Uh ps key v).map Xb))] (.own 110 (J (Uh ps key v))):=by
 refine ZC1 func288 ntmps288 fun E=> ?_;have hc:=X5F 1 (Xld ps key Oa hr);rw[LM] at hc;have hz:=Xf7 v;have hb:=X1f (k:=key) X2a hr;have hle:=X6A (lt:=aC) (key:=Prp.key) ps key;have h6:=Xv8 ps;have hlm:J (ps.map Xb)=J ps:=LM ..;by_cases b:XF Prp.key ps key=true
 case pos=>
  rw[b] at hc hb;obtain⟨x,hx,hk⟩:=decide_eq_true_iff.1 hb.symm;have hi:Xr aC Prp.key ps key<J ps:=(GS.1 hx).1;by_cases z:Vf v=true
  ·have eS:Uh ps key v=ps.take (Xr aC Prp.key ps key)++ps.drop (Xr aC Prp.key ps key+1):=by
    unfold Uh;rw[PI z,X8M X2a hr hx hk,append_nil]
   rw[z] at hz;have eL:J (Uh ps key v)=J ps-1:=by rw[eS,LA,LT,LD];omega
   have eM:(Uh ps key v).map Xb=(ps.map Xb).take (Xr aC Prp.key ps key)++(ps.map Xb).drop (Xr aC Prp.key ps key+1):=by rw[eS,map_append,map_take,map_drop]
   rw[eL,eM];have hd:=Xw8 (ps.map Xb) (Xr aC Prp.key ps key) h6 Oa Oa;rw[hlm] at hd;clear hb hx hk eS eL eM z hok hr h6 hlm;generalize Xr aC Prp.key ps key=i at*;generalize ps.map Xb=xs at*;obtain⟨k0,k1,k2,k3,k4⟩:=v;simp only[Xt,X1q] at*;refine UA ?_;refine QZc ?_;refine Z5 (ag:=hd) ?_;refine W2_ ?_
   (exact Zz1 rfl ⟨_,ZzS,⟨rfl,TV⟩,Xm ⟨rfl,rfl,TV⟩⟩)
  ·have z:Vf v=false:=by simpa using z
   have eS:Uh ps key v=ps.take (Xr aC Prp.key ps key)++[⟨key,v⟩]++ps.drop (Xr aC Prp.key ps key+1):=by
    unfold Uh;rw[NI (by simp[z]),X8M X2a hr hx hk]
   rw[z] at hz;have iY:ps[Xr aC Prp.key ps key]? =some x:=hx;obtain⟨xk,xv⟩:=x;obtain rfl:xk=key:=hk;have eL:J (Uh ps xk v)=J ps:=by rw[eS,LA,LA,LT,LD,length_singleton];omega
   generalize hI:Xr aC Prp.key ps xk=i at*;have e1:ps.take i++[⟨xk,v⟩]++ps.drop (i+1)=ps.set i ⟨xk,v⟩:=by
    conv=>rhs;rw[<-take_append_drop i ps,drop_eq_getElem_cons hi]
    rw[set_append_right _ _ Oz,LT,Nat.min_eq_left Oa,Nat.sub_self,AS];rfl
   have eM:(Uh ps xk v).map Xb=(ps.map Xb).set i (Xb ⟨xk,v⟩):=by rw[eS,e1,map_set]
   rw[eL,eM];have au:(ps.map Xb)[i]? =some ([.v (.string (X7 xk))]++UB xv++[]):=by rw[getElem?_map,iY];simp[Xb]
   have tT:J (UB v)=J (UB xv):=by cases v;cases xv;rfl
   have cW:=fun T=>XnG (T:=T) (b':=UB v) h6 au rfl tT;have bK:∀y∈(ps.map Xb).set i (Xb ⟨xk,v⟩),J y=6:=fun y hy=>by
    rcases mem_or_eq_of_mem_set hy with hy|rfl
    ·exact h6 y hy
    ·exact Xfn _
   have hfl:=fun T=>take_left' (l₂:=T) (X0Y bK);rw[length_set,hlm] at hfl;have aL:J ((ps.map Xb).set i (Xb ⟨xk,v⟩))=J ps:=by rw[length_set,hlm]
   have dG:Xb ⟨xk,v⟩=[.v (.string (X7 xk))]++UB v++[]:=by simp[Xb]
   clear hb hx eS eL eM z hok hr au e1 iY hI;rw[<-dG] at cW;generalize vC:(ps.map Xb).set i (Xb ⟨xk,v⟩)=X' at*;generalize ps.map Xb=xs at*;obtain⟨k0,k1,k2,k3,k4⟩:=v;simp only[Xt,X1q] at*;refine YS ?_;show AWP prog E _ _ _;refine X3J 0 1 120 rfl Oa rfl hlm.symm rfl rfl (fun c k aO bC bZ _=> ?_);have cW:Yj (fl X'++replicate k none) none=(Yj (fl xs++replicate k none) none).take (0+i*6+1)++[ai k0,ai k1,ai k2,.d (.v (.string (X7 k3))),.d (.sl 5 (XR k4))]++(Yj (fl xs++replicate k none) none).drop (0+i*6+1+5):=by rw[Nat.zero_add];exact cW _
   have hfl:=hfl (replicate k none);have hT:J (replicate k (none:Option D))=k:=length_replicate;generalize replicate k (none:Option D)=T at*;have hlen:J (map some xs.flatten++T)=J xs*6+k:=by rw[LA,hT];exact CG (· +k) (X0Y h6)
   have hlen':J (map some X'.flatten++T)=J xs*6+k:=by rw[LA,hT];exact(CG (· +k) (X0Y bK)).trans (by rw[aL,hlm])
   have hcap:c*6<=J (fl X'++T):=by show c*6<=J (map some X'.flatten++T);omega
   have hbd:0+i*6+1+5<=J (map some xs.flatten++T):=Oa
   refine YT ?_;refine Zi (sz:=6) ?_;refine W1_ ?_;(refine Zj (cs':=fl X'++T) (ho':=none) ?_ (hcs:= ?aM);(case aM=>exact cW));refine W6_ ?_;show AWP prog E _ _ _;refine X8 (X1x 6 120 110 X' Og Og hfl aL bK Oa bC hcap rfl rfl) ?_
   (exact Zz1 rfl ⟨_,ZzS,⟨rfl,TV⟩,Xm ⟨rfl,rfl,TV⟩⟩)
 have b:XF Prp.key ps key=false:=by simpa using b
 rw[b] at hc;by_cases z:Vf v=true
 ·have eS:Uh ps key v=ps:=by
   unfold Uh;rw[PI z,X5u b,append_nil,take_append_drop]
  rw[z] at hz;rw[eS];clear hb z hok hr h6 eS b;generalize Xr aC Prp.key ps key=i at*;generalize ps.map Xb=xs at*;obtain⟨k0,k1,k2,k3,k4⟩:=v;simp only[Xt,X1q] at*;refine X4 ?_;show AWP prog E _ _ _;refine X8 (X8G 6 1 110 rfl rfl hlm.symm rfl rfl) ?_
  (exact Zz1 rfl ⟨_,ZzS,⟨rfl,TV⟩,Xm ⟨rfl,rfl,TV⟩⟩)
 have z:Vf v=false:=by simpa using z
 have eS:Uh ps key v=ps.take (Xr aC Prp.key ps key)++[⟨key,v⟩]++ps.drop (Xr aC Prp.key ps key):=by
  unfold Uh;rw[NI (by simp[z]),X5u b]
 rw[z] at hz;have eL:J (Uh ps key v)=J ps+1:=by rw[eS,LA,LA,LT,LD,length_singleton];omega
 have eM:(Uh ps key v).map Xb=(ps.map Xb).take (Xr aC Prp.key ps key)++Xb ⟨key,v⟩::(ps.map Xb).drop (Xr aC Prp.key ps key):=by
  rw[eS,map_append,map_append,map_take,map_drop,AS];rfl
 have hlt:(J ps:Int)<16:=Oa
 rw[eL,eM];have hd:=XyE (ps.map Xb) (Xr aC Prp.key ps key) (Xb ⟨key,v⟩) h6 (Xfn _) Oa Oa;have hm:=X08 20;rw[hlm] at hd;clear hb eS eL eM z hok hr h6 b;generalize Xr aC Prp.key ps key=i at*;generalize ps.map Xb=xs at*;obtain⟨k0,k1,k2,k3,k4⟩:=v;simp only[Xt,X1q,Xb,UB] at*;have hlt':(J xs:Int)<16:=Oa
 have dI:J ps=J xs:=hlm.symm;refine QS ?_;refine Zk (op:= .lss) (r':= .bool true) (u:= .int .i64 (J xs:Nat)) (v:= .int .i64 16) ?_ (hr':=by exact CG Value.bool (DT hlt'));refine XA ?_;refine Z5 (ag:=hd) ?_;refine W2_ ?_
 (exact Zz1 rfl ⟨_,ZzS,⟨rfl,TV⟩,Xm ⟨rfl,rfl,TV⟩⟩)
def Xl5 (hr:YP aC Prp.key ps) (hl:J ps<=16) (hok:¬J (Uh ps key v)<=16):
  X0d prog 288 [(121,.row 6 (ps.map Xb))] [.own 121 (J ps),.d (.v (.string (X7 key))),Xt v] (X0R 20):=by
 refine X21 func288 rfl ntmps288 rfl (fun E=> ?_);have hc:=X5F 121 (Xld ps key Oa hr);rw[LM] at hc;have hz:=Xf7 v;have hlm:J (ps.map Xb)=J ps:=LM ..;have z:Vf v=false:=by
  by_cases z:Vf v=true
  ·refine absurd ?_ hok;unfold Uh;rw[PI z];have:=X6G (lt:=aC) (key:=Prp.key) (l:=ps) (k:=key) (ns:=[]);simp only[length_nil] at this;omega
  ·simpa using z
 have b:XF Prp.key ps key=false:=by
  by_cases b:XF Prp.key ps key=true
  ·refine absurd ?_ hok;unfold Uh;rw[NI (by simp[z]),XgG X2a hr b];exact hl
  ·simpa using b
 have aQ:¬(J ps:Int)<16:=by
  intro q;refine hok ?_;unfold Uh;rw[NI (by simp[z])];have:=X6G (lt:=aC) (key:=Prp.key) (l:=ps) (k:=key) (ns:=[⟨key,v⟩]);simp only[length_singleton] at this;omega
 rw[z] at hz;rw[b] at hc;clear z b hok hr;generalize Xr aC Prp.key ps key=i at*;generalize ps.map Xb=xs at*;obtain⟨k0,k1,k2,k3,k4⟩:=v;simp only[Xt,X1q] at*;refine Qua ?_;refine X2D 3 rfl (fun _=>rfl) ?_;have rC:¬(J xs:Int)<16:=Oa
 have dI:J ps=J xs:=hlm.symm;refine W2_ ?_;refine Zk (op:= .lss) (r':= .bool false) (u:= .int .i64 (J xs:Nat)) (v:= .int .i64 16) ?_ (hr':=by exact CG Value.bool (DF rC))
 (refine .done (fun h=>Bool.noConfusion h) ?_;apply X2K (ag:=X2G 20);(case hxs=>exact rfl);(case hys=>conv=>lhs;whnf);(case hle=>((repeat (first|exact trivial|refine⟨Ob,?_⟩|fail))<;>fail));(case hf=>exact rfl);(case bB=>exact JAd))
end
open Go
open List renaming length->J
abbrev X13:Value:= .slice none 0 0
def cNN (n:Nod):List NC:=[.d (.v (.int .i64 n.id)),.r 1 (n.labels.map Xf),.r 6 (n.props.map Xb)]
def cNE (e:Edg):List NC:=[.d (.v (.int .i64 e.id)),.d (.v (.int .i64 e.src)),.d (.v (.int .i64 e.dst)),.d (.v (.string (X7 e.typ))),.r 6 (e.props.map Xb)]
abbrev XN:=Nod×Value×Value
abbrev XE:=Edg×Value
def rXN (x:XN):RN:=(x.1.id,.v x.2.1,.v x.2.2)
def rXE (x:XE):RE:=(x.1.id,x.1.src,x.1.dst,x.1.typ,.v x.2)
def bXN (x:XN):List Hd:=[(x.2.1,1,x.1.labels.map Xf),(x.2.2,6,x.1.props.map Xb)]
def bXE (x:XE):List Hd:=[(x.2,6,x.1.props.map Xb)]
def Y7 (xs:List XN):List Hd:=(xs.map bXN).flatten
def U2 (xs:List XE):List Hd:=(xs.map bXE).flatten
def XlE:∀xs:List XN,X15 ((xs.map fun x=>cNN x.1).flatten) ((xs.map fun x=>cRN (rXN x)).flatten) (Y7 xs)
 |[]=>trivial
 |x::xs=>by
  have ih:=XlE xs;simp only[Y7,map_cons,flatten_cons] at ih |-;exact⟨rfl,rfl,rfl,rfl,rfl,ih⟩
def XjY:∀xs:List XE,X15 ((xs.map fun x=>cNE x.1).flatten) ((xs.map fun x=>cRE (rXE x)).flatten) (U2 xs)
 |[]=>trivial
 |x::xs=>by
  have ih:=XjY xs;simp only[U2,map_cons,flatten_cons] at ih |-;exact⟨rfl,rfl,rfl,rfl,rfl,rfl,ih⟩
def XkF:∀(ns:List Nod) (rows:List (List D)) (hs:List Hd),J rows=J ns->(∀x∈rows,J x=3)->X15 (ns.map cNN).flatten rows.flatten hs->
  ∃xs:List XN,ns=xs.map (·.1)/\rows=(xs.map rXN).map cRN/\hs=Y7 xs
 |[],[],hs,_,_,h=>by
  cases hs with
  |nil=>exact⟨[],rfl,rfl,rfl⟩
  |cons k hs=>exact h.elim
 |[],_::_,_,h,_,_=>OQ
 |_::_,[],_,h,_,_=>OQ
 |n::ns,r::rows,hs,hl,hz,h=>by
  have h3:=hz r Oc
  match r,h3 with
  |[a,b,c],_=>
   simp only[map_cons,flatten_cons,cNN,cons_append,nil_append] at h
   match hs,h with
   |[],h=>simp[X15] at h
   |[_],h=>simp[X15] at h
   |p::q::hs,h=>
    obtain⟨rfl,rfl,hp,rfl,hq,h⟩:=h;obtain⟨xs,rfl,rfl,rfl⟩:=XkF ns rows hs (by simpa using hl) (fun x hx=>hz x JA) h;refine⟨(n,p.1,q.1)::xs,rfl,rfl,?_⟩;obtain⟨p1,p2⟩:=p;obtain⟨q1,q2⟩:=q;simp only at hp hq;subst hp hq;rfl
def XhO:∀(ns:List Edg) (rows:List (List D)) (hs:List Hd),J rows=J ns->(∀x∈rows,J x=5)->X15 (ns.map cNE).flatten rows.flatten hs->
  ∃xs:List XE,ns=xs.map (·.1)/\rows=(xs.map rXE).map cRE/\hs=U2 xs
 |[],[],hs,_,_,h=>by
  cases hs with
  |nil=>exact⟨[],rfl,rfl,rfl⟩
  |cons k hs=>exact h.elim
 |[],_::_,_,h,_,_=>OQ
 |_::_,[],_,h,_,_=>OQ
 |n::ns,r::rows,hs,hl,hz,h=>by
  have h3:=hz r Oc
  match r,h3 with
  |[a,b,c,d,e],_=>
   simp only[map_cons,flatten_cons,cNE,cons_append,nil_append] at h
   match hs,h with
   |[],h=>simp[X15] at h
   |p::hs,h=>
    obtain⟨rfl,rfl,rfl,rfl,rfl,hp,h⟩:=h;obtain⟨xs,rfl,rfl,rfl⟩:=XhO ns rows hs (by simpa using hl) (fun x hx=>hz x JA) h;refine⟨(n,p.1)::xs,rfl,rfl,?_⟩;obtain⟨p1,p2⟩:=p;simp only at hp;subst hp;rfl
theorem X8K (xs ys:List XN):Y7 (xs++ys)=Y7 xs++Y7 ys:=by simp[Y7]
theorem X9r (xs ys:List XE):U2 (xs++ys)=U2 xs++U2 ys:=by simp[U2]
theorem XfE (x:XN) (xs:List XN):Y7 (x::xs)=(x.2.1,1,x.1.labels.map Xf)::(x.2.2,6,x.1.props.map Xb)::Y7 xs:=rfl
theorem XjM (x:XE) (xs:List XE):U2 (x::xs)=(x.2,6,x.1.props.map Xb)::U2 xs:=rfl
abbrev edS (g:Gra):List (Nat×AObj):=[(0,.box [.own 3 (J g.nodes),.own 4 (J g.aj),ai g.nn,ai g.ne]),(3,.nest 3 (g.nodes.map cNN)),(4,.nest 5 (g.aj.map cNE))]
abbrev edN (g:Gra):List (Nat×AObj):=[(0,.box [.own 110 (J g.nodes),.own 4 (J g.aj),ai g.nn,ai g.ne]),(3,.dead),(4,.nest 5 (g.aj.map cNE)),(110,.nest 3 (g.nodes.map cNN))]
abbrev edE (g:Gra):List (Nat×AObj):=[(0,.box [.own 3 (J g.nodes),.own 110 (J g.aj),ai g.nn,ai g.ne]),(3,.nest 3 (g.nodes.map cNN)),(4,.dead),(110,.nest 5 (g.aj.map cNE))]
section
variable {P:Program}{E:Env}{c:Code}{S:St}{Q:Exit->St->Prop}
def X0T (hN:S.obj 3= .nest 3 (ns.map cNN)) (hE:S.obj 4= .nest 5 (es.map cNE)) (rD:S.obj 210= .dead) (rE:S.obj 211= .dead)
  (h:∀(xs:List XN) (ys:List XE),ns=xs.map (·.1)->es=ys.map (·.1)->AWP P E c ⟨S.n,S.τ,(4,.row 5 ((ys.map rXE).map cRE))::(211,.bag (U2 ys))::(3,.row 3 ((xs.map rXN).map cRN))::(210,.bag (Y7 xs))::S.L⟩ Q):AWP P E c S Q:=by
 refine XlY 3 210 hN rD fun rows hs h1 h2 h3=> ?_;obtain⟨xs,rfl,rfl,rfl⟩:=XkF ns rows hs Iq h3 h2;refine XlY 4 211 (sz:=5) (xs:=es.map cNE) ?_ ?_ fun pU cV k1 k2 k3=> ?_
 ·show Xs _ _ _=_;rw[YC _ _ _ Oi,YC _ _ _ Oi];exact hE
 ·show Xs _ _ _=_;rw[YC _ _ _ Oi,YC _ _ _ Oi];exact rE
 ·obtain⟨ys,rfl,rfl,rfl⟩:=XhO es pU cV (by simpa using k1) k3 k2;exact h xs ys rfl rfl
end
def X4L (γ δ:Nat) (xs:List XN) (hL:S.obj γ= .row 3 ((xs.map rXN).map cRN)) (hB:S.obj δ= .bag (Y7 xs)):S.le ⟨S.n,S.τ,(γ,.nest 3 ((xs.map (·.1)).map cNN))::(δ,.dead)::S.L⟩:=
 XmZ γ δ ((xs.map (·.1)).map cNN) hL hB Oc (by
  have:=XlE xs;rw[map_map,map_map];exact this)
def X4o (γ δ:Nat) (xs:List XE) (hL:S.obj γ= .row 5 ((xs.map rXE).map cRE)) (hB:S.obj δ= .bag (U2 xs)):S.le ⟨S.n,S.τ,(γ,.nest 5 ((xs.map (·.1)).map cNE))::(δ,.dead)::S.L⟩:=
 XmZ γ δ ((xs.map (·.1)).map cNE) hL hB Oc (by
  have:=XjY xs;rw[map_map,map_map];exact this)
theorem X1l (xs:List XN) (n:Int):Xr ltI kRN (xs.map rXN) n=Xr ltI Nod.id (xs.map (·.1)) n:=by
 unfold Xr;induction xs with
 |nil=>rfl
 |cons x xs ih=>
  simp only[map_cons,takeWhile_cons];have:ltI (kRN (rXN x)) n=ltI x.1.id n:=rfl;rw[this];split
  ·simp only[LC,ih]
  ·rfl
theorem X1i (xs:List XN) (n:Int):XF kRN (xs.map rXN) n=XF Nod.id (xs.map (·.1)) n:=by
 unfold XF;rw[any_map,any_map];rfl
def X19 (xs:List XN):YP ltI kRN (xs.map rXN)↔YP ltI Nod.id (xs.map (·.1)):=by
 unfold YP;rw[pairwise_map,pairwise_map];rfl
theorem X4u (xs:List XE) (n:Int):Xr ltI kRE (xs.map rXE) n=Xr ltI Edg.id (xs.map (·.1)) n:=by
 unfold Xr;induction xs with
 |nil=>rfl
 |cons x xs ih=>
  simp only[map_cons,takeWhile_cons];have:ltI (kRE (rXE x)) n=ltI x.1.id n:=rfl;rw[this];split
  ·simp only[LC,ih]
  ·rfl
theorem X58 (xs:List XE) (n:Int):XF kRE (xs.map rXE) n=XF Edg.id (xs.map (·.1)) n:=by
 unfold XF;rw[any_map,any_map];rfl
def X53 (xs:List XE):YP ltI kRE (xs.map rXE)↔YP ltI Edg.id (xs.map (·.1)):=by
 unfold YP;rw[pairwise_map,pairwise_map];rfl
def Xfr {α:Type}{xs:List α}{v:α} (hi:i<=J xs):J (xs.take i++v::xs.drop i)=J xs+1:=by rw[LA,LC,LT,LD];omega
def X4v (rn:List RN):∀x∈rn.map cRN,J x=3:=fun x hx=>by obtain⟨p,_,rfl⟩:=mem_map.1 hx;rfl
def X6Y (re:List RE):∀x∈re.map cRE,J x=5:=fun x hx=>by obtain⟨p,_,rfl⟩:=mem_map.1 hx;rfl
def Xxy (g:Gra) (c:Chg) (hg:GV g) (hc:1<=c.id/\c.id<=1000000) (ho:c.op=1) (q1:XF Nod.id g.nodes c.id=false) (q2:J g.nodes<2000):
  Con prog 237 (edS g) [.ptr 0 0,Xu c] (edN (VB g ⟨c.id,[],[]⟩)) (.tup []):=by
 obtain⟨ns,es,nn,ne⟩:=g;have aB:=hg.ns;have dB:=hg.nn;simp only at q1 q2 aB dB;have e0:VB ⟨ns,es,nn,ne⟩ ⟨c.id,[],[]⟩=⟨ns.take (Xr ltI Nod.id ns c.id)++[⟨c.id,[],[]⟩]++ns.drop (Xr ltI Nod.id ns c.id),es,max nn (c.id+1),ne⟩:=by
  unfold VB;simp only;rw[X5u q1]
 rw[e0];have hle:=X6A (lt:=ltI) (key:=Nod.id) ns c.id;refine VQ (xs:=[]) func237 rfl ntmps237 rfl rfl rfl (fun E=> ?_);refine X0T rfl rfl rfl rfl (fun xs ys h1 h2=> ?_);subst h1 h2;have hN:=X1b (xs.map rXN) (ys.map rXE) nn ne c.id (by simp at q2 |-;omega) ((X19 xs).2 aB);rw[X1l,X1i,q1] at hN;simp only[edL,LM] at hN q2 hle;generalize Xr ltI Nod.id (xs.map (·.1)) c.id=i at*;have hI:Con prog 283 [(3,.row 3 ((xs.map rXN).map cRN))] [.own 3 (J ((xs.map rXN).map cRN)),ai (i:Nat),.d (.sl 3 [[.v (.int .i64 c.id),.v (.slice none 0 0),.v (.slice none 0 0)]])] [(3,.dead),(110,.row 3 (((xs.map rXN).map cRN).take i++[.v (.int .i64 c.id),.v (.slice none 0 0),.v (.slice none 0 0)]::((xs.map rXN).map cRN).drop i))] (.own 110 (J ((xs.map rXN).map cRN)+1)):=
  YU 1 3 (XwR ((xs.map rXN).map cRN) i [.v (.int .i64 c.id),.v (.slice none 0 0),.v (.slice none 0 0)] (X4v _) rfl Ou Ou)
 have gQ:=X08 7;have jI:=X08 20;have eX:(xs.map (·.1)).take i++[⟨c.id,[],[]⟩]++(xs.map (·.1)).drop i=(xs.take i++((⟨c.id,[],[]⟩:Nod),X13,X13)::xs.drop i).map (·.1):=by
  simp[map_take,map_drop]
 have eL:J (xs.take i++((⟨c.id,[],[]⟩:Nod),X13,X13)::xs.drop i)=J xs+1:=Xfr hle;have eR:((xs.map rXN).map cRN).take i++[.v (.int .i64 c.id),.v (.slice none 0 0),.v (.slice none 0 0)]::((xs.map rXN).map cRN).drop i=((xs.take i++((⟨c.id,[],[]⟩:Nod),X13,X13)::xs.drop i).map rXN).map cRN:=by
  simp[map_take,map_drop,rXN,cRN]
 have eB:Y7 (xs.take i)++(X13,1,[])::(X13,6,[])::Y7 (xs.drop i)=Y7 (xs.take i++((⟨c.id,[],[]⟩:Nod),X13,X13)::xs.drop i):=by rw[X8K,XfE];rfl
 have bO:Y7 xs=Y7 (xs.take i)++Y7 (xs.drop i):=by rw[<-X8K,take_append_drop]
 rw[eX];have ay:J ((xs.map rXN).map cRN)=J xs:=Oc
 rw[ay] at hI;simp only[edN,edS,LM,eL];have gz:(J ((xs.map rXN).map cRN):Int)<2000:=by rw[ay];omega
 have jd:J xs=J ((xs.map rXN).map cRN):=ay.symm;clear hg aB e0 eX eL;generalize hR:(xs.map rXN).map cRN=R at*;generalize hX:xs.take i++((⟨c.id,[],[]⟩:Nod),X13,X13)::xs.drop i=X at*;obtain⟨op,id,src,dst,name,⟨k0,k1,k2,k3,k4⟩⟩:=c
 try simp only at*
 subst ho;simp only[Xu,Uv] at*;refine Qad ?_;refine Yh ?_;refine Z5 (ag:=gQ) ?_;refine W9_ ?_;refine Zk (op:= .lss) (r':= .bool true) (u:= .int .i64 (J R:Nat)) (v:= .int .i64 2000) ?_ (hr':=by exact CG Value.bool (DT gz));refine Z5 (ag:=jI) ?_;refine X17 ?_;show AWP prog E _ _ _;refine X8 (Xfv 210 6 (Y7 (xs.take i)) (Y7 (xs.drop i)) Id) ?_;refine X8 (Xfv 210 1 (Y7 (xs.take i)) ((X13,6,[])::Y7 (xs.drop i)) Og) ?_;refine X8 (X4L 110 210 X (by refine Eq.trans (b:= .row 3 (R.take i++[.v (.int .i64 id),.v (.slice none 0 0),.v (.slice none 0 0)]::R.drop i)) Og JB) (by refine Eq.trans (b:= .bag (Y7 (xs.take i)++(X13,1,[])::(X13,6,[])::Y7 (xs.drop i))) Og JC)) ?_;refine X8 (X4o 4 211 ys Og Og) ?_
 (exact Zz1 rfl ⟨_,ZzS,TV,Xm ⟨rfl,rfl,rfl,rfl,TV⟩⟩)
def Xdm {α:Type}{l:List α}{x:α} (h:l[i]? =some x):l=l.take i++x::l.drop (i+1):=by
 obtain⟨hi,rfl⟩:=GS.1 h;rw[<-drop_eq_getElem_cons hi,take_append_drop]
def XeG {α:Type}{key:α->Int}{l:List α} (hs:YP ltI key l) (hh:XF key l k=true):∃x,l[Xr ltI key l k]? =some x/\key x=k:=by
 rw[X1f Vp hs] at hh;exact decide_eq_true_iff.1 hh
def X4I {P:Program}{rs:List ResultVar}{Lo:List (Nat×AObj)}{xs:List AVal}{T U:St} (h:T.le U) (k:Vw P rs Lo xs U):Vw P rs Lo xs T:=
 ⟨k.choose,fun E a w hs=>k.choose_spec.1 E a w (h E a w hs),k.choose_spec.2⟩
def XrP (g:Gra) (c:Chg) (hg:GV g) (ho:c.op=2) (q1:XF Nod.id g.nodes c.id=true) (q2:X2b g.aj c.id=false):
  Con prog 237 (edS g) [.ptr 0 0,Xu c] (edN {g with nodes:=UX Nod.id g.nodes c.id}) (.tup []):=by
 obtain⟨ns,es,nn,ne⟩:=g;have aB:=hg.ns;have ax:=hg.nl;have hel:=hg.el;simp only at q1 q2 aB ax hel;obtain⟨x0,hx0,bT⟩:=XeG aB q1;have e0:UX Nod.id ns c.id=ns.take (Xr ltI Nod.id ns c.id)++ns.drop (Xr ltI Nod.id ns c.id+1):=Xdz Vp aB hx0 bT;simp only;rw[e0];have hle:Xr ltI Nod.id ns c.id<J ns:=(GS.1 hx0).1;refine VQ (xs:=[]) func237 rfl ntmps237 rfl rfl rfl (fun E=> ?_);refine X0T rfl rfl rfl rfl (fun xs ys h1 h2=> ?_);subst h1 h2;have hN:=X1b (xs.map rXN) (ys.map rXE) nn ne c.id Ow ((X19 xs).2 aB);rw[X1l,X1i,q1] at hN;simp only[edL,LM] at hN ax hle hel;generalize Xr ltI Nod.id (xs.map (·.1)) c.id=i at*;have hD:Con prog 284 [(3,.row 3 ((xs.map rXN).map cRN))] [.own 3 (J ((xs.map rXN).map cRN)),ai (i:Nat),ai ((i+1:Nat):Int)] [(3,.dead),(110,.row 3 (((xs.map rXN).map cRN).take i++((xs.map rXN).map cRN).drop (i+1)))] (.own 110 (J ((xs.map rXN).map cRN)-1)):=
  YU 1 3 (Xwm ((xs.map rXN).map cRN) i (X4v _) Ou Ou)
 have cX:=X08 10;have mo:=X08 12;have eX:(xs.map (·.1)).take i++(xs.map (·.1)).drop (i+1)=(xs.take i++xs.drop (i+1)).map (·.1):=IP
 have eL:J (xs.take i++xs.drop (i+1))=J xs-1:=by rw[LA,LT,LD];omega
 have eR:((xs.map rXN).map cRN).take i++((xs.map rXN).map cRN).drop (i+1)=((xs.take i++xs.drop (i+1)).map rXN).map cRN:=IP
 obtain⟨y0,hy0⟩:∃y,xs[i]? =some y:=⟨_,getElem?_eq_getElem hle⟩
 have bO:Y7 xs=Y7 (xs.take i)++(y0.2.1,1,y0.1.labels.map Xf)::(y0.2.2,6,y0.1.props.map Xb)::Y7 (xs.drop (i+1)):=by
  conv=>lhs;rw[Xdm hy0,X8K,XfE]
 have eB:Y7 (xs.take i)++Y7 (xs.drop (i+1))=Y7 (xs.take i++xs.drop (i+1)):=(X8K _ _).symm;rw[eX];have ay:J ((xs.map rXN).map cRN)=J xs:=Oc
 rw[ay] at hD;simp only[edN,edS,LM,eL];have jd:J xs=J ((xs.map rXN).map cRN):=ay.symm;have kG:J ((ys.map rXE).map cRE)=J ys:=Oc
 have lK:=X6Y (ys.map rXE);have jJ:∀k:Nat,k<J ys->∃y:XE,((ys.map rXE).map cRE)[k]? =some (cRE (rXE y))/\y.1.src≠c.id/\y.1.dst≠c.id:=by
  intro k hk;refine⟨ys[k],by simp[getElem?_map,getElem?_eq_getElem hk],?_⟩;unfold X2b at q2;have:=(any_eq_false.1 q2) ys[k].1 (mem_map.2 ⟨ys[k],getElem_mem hk,rfl⟩);simpa using this
 clear hg aB e0 eX eL hx0 bT q1 q2 hy0;generalize hR:(xs.map rXN).map cRN=R at*;generalize mq:(ys.map rXE).map cRE=RE' at*;generalize hX:xs.take i++xs.drop (i+1)=X at*;obtain⟨op,id,src,dst,name,⟨k0,k1,k2,k3,k4⟩⟩:=c;simp only at ho jJ;subst ho;simp only[Xu,Uv] at*;have uY:J ys=J RE':=kG.symm;refine Qad ?_;refine Yh ?_;refine Z5 (ag:=cX) ?_;refine W9_ ?_;refine Qbd ?_;refine XM ?_;refine Xl (fun k:Nat=>k<=J RE') (fun k=>⟨183,[(0,.ptr 0 0),(3,.ptr 100 0),(4,ai (i:Nat)),(91,.own 4 (J ys)),(92,ai (J RE')),(93,ai k)],[(0,.box [.own 3 (J xs),.own 4 (J ys),ai nn,ai ne]),(3,.row 3 R),(210,.bag (Y7 xs)),(4,.row 5 RE'),(211,.bag (U2 ys)),(100,.box [ai 2,ai id,ai src,ai dst,.d (.v (.string (X7 name))),ai k0,ai k1,ai k2,.d (.v (.string (X7 k3))),.d (.sl 5 (XR k4))])]⟩) (fun k=>J RE'-k) 0 (Nat.zero_le _) (ZL0) ?_;intro k hk;by_cases aG:k<J RE'
 case pos=>
  have gE:(k:Int)<J RE':=Oa
  obtain⟨y,hy,n1,n2⟩:=jJ k Oa;have hpart:(RE'.flatten.drop (k*5)).take 5=[.v (.int .i64 y.1.id),.v (.int .i64 y.1.src),.v (.int .i64 y.1.dst),.v (.string (X7 y.1.typ)),.v y.2]:=by
   have:=X9U lK hy (o:=0) (q:=5) Oa;simpa [cRE,rXE] using this
  have hroom:k*5+5<=J RE'*5:=Oa
  refine Qcd ?_;refine W8_ ?_;refine Qdd ?_;refine Zl (op:= .neq) (r':= .bool true) (u:= .int .i64 y.1.dst) (v:= .int .i64 id) ?_ (hr':=by exact CG Value.bool (DT n2));refine W1_ ?_;refine Z5 (ag:=mo) ?_;refine W5_ ?_;clear kG ay hD hR mq hX bO eB eR jJ lK;exact⟨k+1,Oa,Oa,ZL0⟩
 have gE:¬(k:Int)<J RE':=Oa
 clear kG ay lK jJ;refine Yr ?_;refine QZc ?_;refine W6_ ?_;show Vw _ _ _ _ _;refine X4I (Xhq 210 (Y7 (xs.take i)) ((y0.2.2,6,y0.1.props.map Xb)::Y7 (xs.drop (i+1))) (y0.2.1,1,y0.1.labels.map Xf) Id) ?_;refine X4I (Xhq 210 (Y7 (xs.take i)) (Y7 (xs.drop (i+1))) (y0.2.2,6,y0.1.props.map Xb) Og) ?_;refine X4I (X4L 110 210 X (by refine Eq.trans (b:= .row 3 (R.take i++R.drop (i+1))) Og JB) (by refine Eq.trans (b:= .bag (Y7 (xs.take i)++Y7 (xs.drop (i+1)))) Og JC)) ?_;refine X4I (X4o 4 211 ys (by refine Eq.trans (b:= .row 5 RE') Og (by rw[mq])) Og) ?_;exact Qed
def Xgs {α:Type}{sz i o:Nat}{v:α}:∀{R:List (List α)}{q:Nat}{r:List α},(∀x∈R,J x=sz)->R[q]? =some r->o<sz->(R.set q (r.set o v)).flatten=R.flatten.set (q*sz+o) v
 |[],q,r,_,h,_=>OQ
 |x::R,0,r,hz,h,ho=>by
  simp only[LC,Nat.zero_lt_succ,getElem?_cons_zero,Option.some.injEq] at h;subst h;have:=hz x Oc;rw[set_cons_zero,flatten_cons,flatten_cons,Nat.zero_mul,Nat.zero_add,set_append_left _ _ Oa]
 |x::R,q+1,r,hz,h,ho=>by
  have hx:=hz x Oc;rw[getElem?_cons_succ] at h;have ih:=Xgs (v:=v) (i:=i) (fun y hy=>hz y I6) h ho;rw[set_cons_succ,flatten_cons,flatten_cons,ih,set_append_right _ _ (by rw[hx,Nat.add_mul];omega),hx];congr 2;rw[Nat.add_mul];omega
def XcT {α:Type}{d:α}:∀{R:List (List α)}{q:Nat}{r:List α},(∀x∈R,J x=sz)->R[q]? =some r->r[o]? =some d->R.flatten[q*sz+o]? =some d
 |[],q,r,_,h,_=>OQ
 |x::R,0,r,hz,h,ho=>by
  simp only[LC,Nat.zero_lt_succ,getElem?_cons_zero,Option.some.injEq] at h;subst h;rw[flatten_cons,Nat.zero_mul,Nat.zero_add,getElem?_append_left (GS.1 ho).1];exact ho
 |x::R,q+1,r,hz,h,ho=>by
  have hx:=hz x Oc;rw[getElem?_cons_succ] at h;have ih:=XcT (fun y hy=>hz y I6) h ho;rw[flatten_cons,getElem?_append_right (by rw[hx,Nat.add_mul];omega),hx,<-ih];congr 1;rw[Nat.add_mul];omega
def X4t {d:D} (T:List (Option D)) (hz:∀x∈R,J x=sz) (hq:R[q]? =some r) (ho:r[o]? =some d):(R.flatten.map some++T)[q*sz+o]? =some (some d):=by
 have h:=XcT hz hq ho;have hl:q*sz+o<J R.flatten:=(GS.1 h).1;rw[getElem?_append_left (by rw[LM];exact hl),getElem?_map,h];rfl
def XbL {n:Nat}{d:D} (T:List (Option D)) (hz:∀x∈R,J x=sz) (hq:R[q]? =some r) (ho:o<J r) (hn:n=J R):
  ((R.flatten.map some++T).set (q*sz+o) (some d)).take (n*sz)=(R.set q (r.set o d)).flatten.map some:=by
 have hr:J r=sz:=hz r (mem_of_getElem? hq);have h:=XcT hz hq (getElem?_eq_getElem ho);have hl:q*sz+o<J R.flatten:=(GS.1 h).1;have hfl:J R.flatten=n*sz:=by
  subst hn;exact Eq.trans (by rw[<-length_map (f:=some)]) (X0Y hz)
 rw[Xgs (i:=0) hz hq Oa,map_set,set_append_left _ _ (by rw[LM];exact hl),take_left' (by rw[length_set,LM];exact hfl)]
def X2P {k:Nat} (hz:∀x∈R,J x=sz):J (R.flatten.map some++replicate k (none:Option D))=J R*sz+k:=by
 rw[LA,length_replicate];exact CG (· +k) (X0Y hz)
def X5k {y:AVal} (h:j<J C):(Yj C (some (j,y)))[j]? =some y:=by
 simp only[Yj];rw[getElem?_set_self (by rw[LM];exact h)]
def XkG {α:Type}{y z:α}:∀{l:List α}{j:Nat},j<J l->l.set j z=(l.set j y).take j++[z]++(l.set j y).drop (j+1)
 |[],j,h=>OQ
 |x::l,0,h=>rfl
 |x::l,j+1,h=>by
  have ih:=XkG (y:=y) (z:=z) (l:=l) (j:=j) O2;rw[set_cons_succ,set_cons_succ,take_succ_cons,drop_succ_cons,cons_append,cons_append,<-ih]
def Xai {y z:AVal} (h:j<J C):Yj C (some (j,z))=(Yj C (some (j,y))).take j++[z]++(Yj C (some (j,y))).drop (j+1):=
 XkG (by rw[LM];exact h)
def XcO {α:Type}{n:α}:∀{l:List α}{i:Nat},i<J l->l.set i n=l.take i++[n]++l.drop (i+1)
 |[],i,h=>OQ
 |x::l,0,h=>rfl
 |x::l,i+1,h=>by
  rw[set_cons_succ,XcO O2,take_succ_cons,drop_succ_cons];rfl
def XeM {x n:Nod} (hg:GV ⟨ns,es,nn,ne⟩) (hx:ns[Xr ltI Nod.id ns k]? =some x) (hk:x.id=k) (hn:n.id=k):
  VB ⟨ns,es,nn,ne⟩ n=⟨ns.set (Xr ltI Nod.id ns k) n,es,nn,ne⟩:=by
 have h1:=(hg.nodes x (mem_of_getElem? hx)).2.1;simp only at h1;have hlt:=(GS.1 hx).1;unfold VB;simp only;have eF:max nn (n.id+1)=nn:=Oa
 subst hn;rw[X8M Vp hg.ns hx hk,eF];simp only;rw[XcO hlt]
variable{xs:List XN}{y:XN}
def X6q (h:xs[i]? =some y):Y7 xs=Y7 (xs.take i)++(y.2.1,1,y.1.labels.map Xf)::(y.2.2,6,y.1.props.map Xb)::Y7 (xs.drop (i+1)):=by
 conv=>lhs;rw[Xdm h,X8K,XfE]
variable{x:XN}
def XfB (h:xs[i]? =some x):Y7 (xs.take i)++(y.2.1,1,y.1.labels.map Xf)::(y.2.2,6,y.1.props.map Xb)::Y7 (xs.drop (i+1))=Y7 (xs.set i y):=by
 have hi:=(GS.1 h).1;have h2:(xs.set i y)[i]? =some y:=getElem?_set_self hi;rw[X6q h2,take_set_of_le (Nat.le_refl i),drop_set_of_lt Oa]
def Xf2 (h:xs[i]? =some x):((xs.map rXN).map cRN).set i (cRN (rXN y))=((xs.set i y).map rXN).map cRN:=by
 rw[map_set,map_set]
def Xt2 (g:Gra) (c:Chg) (x:Nod) (hg:GV g) (ho:c.op=3) (hx:VT g.nodes c.id=some x) (q1:XF Yp x.labels c.name=false) (q2:J x.labels<8):
  Con prog 237 (edS g) [.ptr 0 0,Xu c] (edN (VB g ⟨x.id,UY aC Yp x.labels c.name [c.name],x.props⟩)) (.tup []):=by
 have bu:=X5B hx;rw[X7d hg] at hx;obtain⟨ns,es,nn,ne⟩:=g;have aB:=hg.ns;have ax:=hg.nl;have hlr:=(hg.nodes x bu.1).2.2.lr;simp only at hx aB ax;obtain⟨x',hx',bE⟩:=Option.bind_eq_some_iff.1 hx;obtain⟨hk,rfl⟩:x'.id=c.id/\x'=x:=by by_cases e:x'.id=c.id<;>simp[e] at bE |-;exact bE
 have q0:XF Nod.id ns c.id=true:=OG
 rw[XeM hg hx' hk Jr];rw[X5u q1];have hle:Xr ltI Nod.id ns c.id<J ns:=(GS.1 hx').1;refine VQ (xs:=[]) func237 rfl ntmps237 rfl rfl rfl (fun E=> ?_);refine Xdv ?_;refine X0T rfl rfl rfl rfl (fun xs ys h1 h2=> ?_);subst h1 h2;have hN:=X1b (xs.map rXN) (ys.map rXE) nn ne c.id Ow ((X19 xs).2 aB);rw[X1l,X1i,q0] at hN;simp only[edL,LM] at hN ax hle;generalize Xr ltI Nod.id (xs.map (·.1)) c.id=i at*;obtain⟨⟨x1,u,v⟩,hy0,rfl⟩:∃y:XN,xs[i]? =some y/\y.1=x':=by
  exact Yt10
 simp only at*;have cX:=X08 10;have gQ:=X08 7;have jI:=X08 20;have hS:=X5F 121 (X9H x1.labels c.name Oa hlr);have bz:J (x1.labels.map Xf)=J x1.labels:=Oc
 have hal:=X6A (lt:=aC) (key:=Yp) x1.labels c.name;rw[q1,bz] at hS;have hI:=YU 110 122 (YU 1 121 (Xra (x1.labels.map Xf) (Xr aC Yp x1.labels c.name) [.v (.string (X7 c.name))] (fun x hx=>by obtain⟨p,_,rfl⟩:=mem_map.1 hx;rfl) rfl Oa Oa));rw[bz] at hI;have hI:Con prog 286 [(121,.row 1 (x1.labels.map Xf))] [.own 121 (J x1.labels),ai (Xr aC Yp x1.labels c.name:Nat),.d (.sl 1 [[.v (.string (X7 c.name))]])] [(121,.dead),(122,.row 1 ((x1.labels.map Xf).take (Xr aC Yp x1.labels c.name)++[.v (.string (X7 c.name))]::(x1.labels.map Xf).drop (Xr aC Yp x1.labels c.name)))] (.own 122 (J x1.labels+1)):=hI;have eI:(x1.labels.map Xf).take (Xr aC Yp x1.labels c.name)++[.v (.string (X7 c.name))]::(x1.labels.map Xf).drop (Xr aC Yp x1.labels c.name)=(x1.labels.take (Xr aC Yp x1.labels c.name)++[c.name]++x1.labels.drop (Xr aC Yp x1.labels c.name)).map Xf:=by
  simp[map_take,map_drop,Xf]
 rw[eI] at hI;have pV:J (x1.labels.take (Xr aC Yp x1.labels c.name)++[c.name]++x1.labels.drop (Xr aC Yp x1.labels c.name))=J x1.labels+1:=by
  rw[AS];exact Xfr hal
 generalize x1.labels.take (Xr aC Yp x1.labels c.name)++[c.name]++x1.labels.drop (Xr aC Yp x1.labels c.name)=ls' at*;generalize Xr aC Yp x1.labels c.name=p at*;have pW:(J (x1.labels.map Xf):Int)<8:=Oj
 have eR:∀u',((xs.map rXN).map cRN).set i ([.v (.int .i64 x1.id),.v u',.v v])=((xs.set i ((⟨x1.id,ls',x1.props⟩:Nod),u',v)).map rXN).map cRN:=fun u'=>Xf2 hy0 (y:=((⟨x1.id,ls',x1.props⟩:Nod),u',v));have eB:∀u',Y7 (xs.take i)++(u',1,ls'.map Xf)::(v,6,x1.props.map Xb)::Y7 (xs.drop (i+1))=Y7 (xs.set i ((⟨x1.id,ls',x1.props⟩:Nod),u',v)):=fun u'=>XfB hy0 (y:=((⟨x1.id,ls',x1.props⟩:Nod),u',v));have bO:=X6q hy0;simp only at bO;have eX:∀u',(xs.map (·.1)).set i ⟨x1.id,ls',x1.props⟩=(xs.set i ((⟨x1.id,ls',x1.props⟩:Nod),u',v)).map (·.1):=fun u'=>by rw[map_set]
 have vD:∀u':Value,J (xs.set i ((⟨x1.id,ls',x1.props⟩:Nod),u',v))=J xs:=fun u'=>Oc
 have ay:J xs=J ((xs.map rXN).map cRN):=Oc
 have fo:((xs.map rXN).map cRN)[i]? =some [.v (.int .i64 x1.id),.v u,.v v]:=by
  rw[getElem?_map,getElem?_map,hy0];rfl
 have aW:=X4v (xs.map rXN);simp only[edN,edS,LM];clear hg aB hx hx' bE bu hlr q0 q1 ax;generalize hR:(xs.map rXN).map cRN=R at*;have hlm:J (x1.labels.map Xf)=J x1.labels:=Oc
 generalize ax:J x1.labels=nl at*;obtain⟨op,id,src,dst,name,⟨k0,k1,k2,k3,k4⟩⟩:=c;simp only at ho;subst ho;simp only[Xu,Uv] at*;refine Qfd ?_;show AWP prog E _ _ _;refine X3T 0 0 3 120 rfl Oa rfl rfl ay rfl rfl (fun cp k aO bC bZ _=> ?_);refine X8 (X5S 120 210 (i*3+1) 121 rfl (X4t _ aW fo rfl) (Eq.trans (b:= .bag (Y7 xs)) Og (by rw[bO])) rfl rfl) ?_;rw[hlm];have je:=X2P (k:=k) aW;have bK:=fun u':Value=>XbL (n:=J xs) (replicate k none) aW fo (o:=1) (d:= .v u') Oc ay;simp only[set_cons_succ,set_cons_zero] at bK;generalize map some R.flatten++replicate k none=C at*;have hj:i*3+1<J C:=Oa
 have hrd:=X5k (y:= .own 121 nl) hj;have cO:=Xai (y:= .own 121 nl) (z:= .own 122 (nl+1)) hj;have cY:0+i*3+1=i*3+1:=Oa
 have fT:=Eq.trans (CG (fun z=>(Yj C (some (_,.own 121 nl)))[z]?) cY) hrd;have hbd:0+i*3+1+1<=J C:=Oa
 have bP:J R=J xs:=ay.symm;clear ay bz ax;have dI:=hlm.symm;refine Qid ?_;refine XK ?_;refine Z5 (ag:=gQ) ?_;refine W6_ ?_;refine Qhd ?_;refine W1_ ?_;refine Zk (op:= .lss) (r':= .bool true) (u:= .int .i64 (J (x1.labels.map Xf):Nat)) (v:= .int .i64 8) ?_ (hr':=by exact CG Value.bool (DT pW));refine Z5 (ag:=jI) ?_;refine W6_ ?_;refine Qjd ?_;refine Z5 (ag:=hI) ?_;refine W2_ ?_;(refine Zj (cs':=C) (ho':=some (i*3+1,.own 122 (nl+1))) ?_ (hcs:= ?aM);(case aM=>exact IQ));refine W1_ ?_;show clo _ _ _ _;refine Xcn 120 210 (i*3+1) 122 (Y7 (xs.take i)) ((v,6,x1.props.map Xb)::Y7 (xs.drop (i+1))) Og hj Og Og (by rw[LM,pV]) (fun u'=> ?_);have hcap:cp*3<=J (C.set (i*3+1) (some (.v u'))):=Jb
 refine X3D (X8O 0 0 120 110 (R.set i [.v (.int .i64 x1.id),.v u',.v v]) Og Og rfl (bK u') IR (fun y hy=>by
  rcases mem_or_eq_of_mem_set hy with hy|rfl
  ·exact aW y hy
  ·rfl) Oa bC hcap rfl rfl) ?_
 refine X3D (X4L 110 210 (xs.set i ((⟨x1.id,ls',x1.props⟩:Nod),u',v)) (by refine Eq.trans (b:= .row 3 (R.set i [.v (.int .i64 x1.id),.v u',.v v])) Og JB) OF) ?_;refine X3D (X4o 4 211 ys Og Og) ?_;refine XcL (show Vw _ _ _ _ _ from⟨_,ZzS,TV,?_⟩);rw[eX u',LM,length_set];exact Xm ⟨rfl,rfl,rfl,rfl,TV⟩
def Xwr (g:Gra) (c:Chg) (x:Nod) (hg:GV g) (ho:c.op=4) (hx:VT g.nodes c.id=some x) (q1:XF Yp x.labels c.name=true):
  Con prog 237 (edS g) [.ptr 0 0,Xu c] (edN (VB g ⟨x.id,UX Yp x.labels c.name,x.props⟩)) (.tup []):=by
 have bu:=X5B hx;rw[X7d hg] at hx;obtain⟨ns,es,nn,ne⟩:=g;have aB:=hg.ns;have ax:=hg.nl;have aE:=(hg.nodes x bu.1).2.2;simp only at hx aB ax;obtain⟨x',hx',bE⟩:=Option.bind_eq_some_iff.1 hx;obtain⟨hk,rfl⟩:x'.id=c.id/\x'=x:=by by_cases e:x'.id=c.id<;>simp[e] at bE |-;exact bE
 have q0:XF Nod.id ns c.id=true:=OG
 rw[XeM hg hx' hk Jr];have hle:Xr ltI Nod.id ns c.id<J ns:=(GS.1 hx').1;refine VQ (xs:=[]) func237 rfl ntmps237 rfl rfl rfl (fun E=> ?_);refine Xdv ?_;refine X0T rfl rfl rfl rfl (fun xs ys h1 h2=> ?_);subst h1 h2;have hN:=X1b (xs.map rXN) (ys.map rXE) nn ne c.id Ow ((X19 xs).2 aB);rw[X1l,X1i,q0] at hN;simp only[edL,LM] at hN ax hle;generalize Xr ltI Nod.id (xs.map (·.1)) c.id=i at*;obtain⟨⟨x1,u,v⟩,hy0,rfl⟩:∃y:XN,xs[i]? =some y/\y.1=x':=by
  exact Yt10
 simp only at*;have cX:=X08 10;have hlr:=aE.lr;have pX:=aE.ll;have rF:=X08 23;have hS:=X5F 121 (X9H x1.labels c.name Oa hlr);have bz:J (x1.labels.map Xf)=J x1.labels:=Oc
 obtain⟨z0,bH,rG⟩:∃z,x1.labels[Xr aC Yp x1.labels c.name]? =some z/\Yp z=c.name:=by
  have h:=q1;rw[X1f X2a hlr] at h;exact decide_eq_true_iff.1 h
 have hal:Xr aC Yp x1.labels c.name<J x1.labels:=(GS.1 bH).1;rw[q1,bz] at hS;rw[Xdz X2a hlr bH rG];have hI:=YU 110 122 (YU 1 121 (Xvq (x1.labels.map Xf) (Xr aC Yp x1.labels c.name) (fun x hx=>by obtain⟨p,_,rfl⟩:=mem_map.1 hx;rfl) Oa Oa));rw[bz] at hI;have hI:Con prog 287 [(121,.row 1 (x1.labels.map Xf))] [.own 121 (J x1.labels),ai (Xr aC Yp x1.labels c.name:Nat),ai ((Xr aC Yp x1.labels c.name+1:Nat):Int)] [(121,.dead),(122,.row 1 ((x1.labels.map Xf).take (Xr aC Yp x1.labels c.name)++(x1.labels.map Xf).drop (Xr aC Yp x1.labels c.name+1)))] (.own 122 (J x1.labels-1)):=hI;have eI:(x1.labels.map Xf).take (Xr aC Yp x1.labels c.name)++(x1.labels.map Xf).drop (Xr aC Yp x1.labels c.name+1)=(x1.labels.take (Xr aC Yp x1.labels c.name)++x1.labels.drop (Xr aC Yp x1.labels c.name+1)).map Xf:=by
  simp[map_take,map_drop]
 rw[eI] at hI;have pV:J (x1.labels.take (Xr aC Yp x1.labels c.name)++x1.labels.drop (Xr aC Yp x1.labels c.name+1))=J x1.labels-1:=by
  rw[LA,LT,LD];omega
 clear bH rG q1 eI hlr;generalize x1.labels.take (Xr aC Yp x1.labels c.name)++x1.labels.drop (Xr aC Yp x1.labels c.name+1)=ls' at*;generalize Xr aC Yp x1.labels c.name=p at*;have eR:∀u',((xs.map rXN).map cRN).set i ([.v (.int .i64 x1.id),.v u',.v v])=((xs.set i ((⟨x1.id,ls',x1.props⟩:Nod),u',v)).map rXN).map cRN:=fun u'=>Xf2 hy0 (y:=((⟨x1.id,ls',x1.props⟩:Nod),u',v));have eB:∀u',Y7 (xs.take i)++(u',1,ls'.map Xf)::(v,6,x1.props.map Xb)::Y7 (xs.drop (i+1))=Y7 (xs.set i ((⟨x1.id,ls',x1.props⟩:Nod),u',v)):=fun u'=>XfB hy0 (y:=((⟨x1.id,ls',x1.props⟩:Nod),u',v));have bO:=X6q hy0;simp only at bO;have eX:∀u',(xs.map (·.1)).set i ⟨x1.id,ls',x1.props⟩=(xs.set i ((⟨x1.id,ls',x1.props⟩:Nod),u',v)).map (·.1):=fun u'=>by rw[map_set]
 have ay:J xs=J ((xs.map rXN).map cRN):=Oc
 have fo:((xs.map rXN).map cRN)[i]? =some [.v (.int .i64 x1.id),.v u,.v v]:=by
  rw[getElem?_map,getElem?_map,hy0];rfl
 have aW:=X4v (xs.map rXN);simp only[edN,edS,LM];clear hg aB hx hx' bE bu aE q0 ax;generalize hR:(xs.map rXN).map cRN=R at*;have hlm:J (x1.labels.map Xf)=J x1.labels:=Oc
 generalize ax:J x1.labels=nl at*;obtain⟨op,id,src,dst,name,⟨k0,k1,k2,k3,k4⟩⟩:=c;simp only at ho;subst ho;simp only[Xu,Uv,Xt,X1q] at*;refine Qfd ?_;show AWP prog E _ _ _;refine X3T 0 0 3 120 rfl Oa rfl rfl ay rfl rfl (fun cp k aO bC bZ _=> ?_);refine Qkd ?_;rw[hlm];have je:=X2P (k:=k) aW;have bK:=fun u':Value=>XbL (n:=J xs) (replicate k none) aW fo (o:=1) (d:= .v u') Oc ay;simp only[set_cons_succ,set_cons_zero] at bK;generalize map some R.flatten++replicate k none=C at*;have hj:i*3+1<J C:=Oa
 have hrd:=X5k (y:= .own 121 nl) hj;have cO:=Xai (y:= .own 121 nl) (z:= .own 122 (nl-1)) hj;have cY:0+i*3+1=i*3+1:=Oa
 have fT:=Eq.trans (CG (fun z=>(Yj C (some (_,.own 121 nl)))[z]?) cY) hrd;have hbd:0+i*3+1+1<=J C:=Oa
 have bP:J R=J xs:=ay.symm;clear ay ax bz;have dI:=hlm.symm;refine Qgd ?_;refine UK ?_;refine Qhd ?_;refine XG ?_;refine Z5 (ag:=rF) ?_;refine W6_ ?_;refine Qhd ?_;refine W2_ ?_;refine ZBa ((p:Nat)) (1) (((p+1:Nat):Int)) ?_ (e:=rfl);refine Z5 (ag:=hI) ?_;refine W2_ ?_;(refine Zj (cs':=C) (ho':=some (i*3+1,.own 122 (nl-1))) ?_ (hcs:= ?aM);(case aM=>exact IQ));refine W1_ ?_;show clo _ _ _ _;refine Xcn 120 210 (i*3+1) 122 (Y7 (xs.take i)) ((v,6,x1.props.map Xb)::Y7 (xs.drop (i+1))) Og hj Og Og (by rw[LM,pV]) (fun u'=> ?_);have hcap:cp*3<=J (C.set (i*3+1) (some (.v u'))):=Jb
 refine X3D (X8O 0 0 120 110 (R.set i ([.v (.int .i64 x1.id),.v u',.v v])) Og Og rfl (bK u') IR (fun y hy=>by
  rcases mem_or_eq_of_mem_set hy with hy|rfl
  ·exact aW y hy
  ·rfl) Oa bC hcap rfl rfl) ?_
 refine X3D (X4L 110 210 (xs.set i ((⟨x1.id,ls',x1.props⟩:Nod),u',v)) (by refine Eq.trans (b:= .row 3 (R.set i ([.v (.int .i64 x1.id),.v u',.v v]))) Og JB) OF) ?_;refine X3D (X4o 4 211 ys Og Og) ?_;refine XcL (show Vw _ _ _ _ _ from⟨_,ZzS,TV,?_⟩);rw[eX u',LM,length_set];exact Xm ⟨rfl,rfl,rfl,rfl,TV⟩
def Xwe (g:Gra) (c:Chg) (x:Nod) (hg:GV g) (ho:c.op=5) (hx:VT g.nodes c.id=some x) (q1:J (Uh x.props c.name c.v)<=16):
  Con prog 237 (edS g) [.ptr 0 0,Xu c] (edN (VB g ⟨x.id,x.labels,Uh x.props c.name c.v⟩)) (.tup []):=by
 have bu:=X5B hx;rw[X7d hg] at hx;obtain⟨ns,es,nn,ne⟩:=g;have aB:=hg.ns;have ax:=hg.nl;have aE:=(hg.nodes x bu.1).2.2;simp only at hx aB ax;obtain⟨x',hx',bE⟩:=Option.bind_eq_some_iff.1 hx;obtain⟨hk,rfl⟩:x'.id=c.id/\x'=x:=by by_cases e:x'.id=c.id<;>simp[e] at bE |-;exact bE
 have q0:XF Nod.id ns c.id=true:=OG
 rw[XeM hg hx' hk Jr];have hle:Xr ltI Nod.id ns c.id<J ns:=(GS.1 hx').1;refine VQ (xs:=[]) func237 rfl ntmps237 rfl rfl rfl (fun E=> ?_);refine Xdv ?_;refine X0T rfl rfl rfl rfl (fun xs ys h1 h2=> ?_);subst h1 h2;have hN:=X1b (xs.map rXN) (ys.map rXE) nn ne c.id Ow ((X19 xs).2 aB);rw[X1l,X1i,q0] at hN;simp only[edL,LM] at hN ax hle;generalize Xr ltI Nod.id (xs.map (·.1)) c.id=i at*;obtain⟨⟨x1,u,v⟩,hy0,rfl⟩:∃y:XN,xs[i]? =some y/\y.1=x':=by
  exact Yt10
 simp only at*;have cX:=X08 10;have hS:=YU 110 122 (YU 1 121 (Xlc x1.props c.name c.v aE.pr aE.pl q1));have hS:Con prog 288 [(121,.row 6 (x1.props.map Xb))] [.own 121 (J x1.props),.d (.v (.string (X7 c.name))),Xt c.v] [(121,.dead),(122,.row 6 ((Uh x1.props c.name c.v).map Xb))] (.own 122 (J (Uh x1.props c.name c.v))):=by
  clear q1;rcases c with ⟨_,_,_,_,_,⟨_,_,_,_,_⟩⟩;exact hS
 clear q1;generalize Uh x1.props c.name c.v=ps' at*;have eR:∀u',((xs.map rXN).map cRN).set i ([.v (.int .i64 x1.id),.v u,.v u'])=((xs.set i ((⟨x1.id,x1.labels,ps'⟩:Nod),u,u')).map rXN).map cRN:=fun u'=>Xf2 hy0 (y:=((⟨x1.id,x1.labels,ps'⟩:Nod),u,u'));have eB:∀u',(Y7 (xs.take i)++[(u,1,x1.labels.map Xf)])++(u',6,ps'.map Xb)::Y7 (xs.drop (i+1))=Y7 (xs.set i ((⟨x1.id,x1.labels,ps'⟩:Nod),u,u')):=fun u'=>Eq.trans (by rw[AS];rfl)<|XfB hy0 (y:=((⟨x1.id,x1.labels,ps'⟩:Nod),u,u'))
 have bO:=X6q hy0;simp only at bO;have eX:∀u',(xs.map (·.1)).set i ⟨x1.id,x1.labels,ps'⟩=(xs.set i ((⟨x1.id,x1.labels,ps'⟩:Nod),u,u')).map (·.1):=fun u'=>by rw[map_set]
 have ay:J xs=J ((xs.map rXN).map cRN):=Oc
 have fo:((xs.map rXN).map cRN)[i]? =some [.v (.int .i64 x1.id),.v u,.v v]:=by
  rw[getElem?_map,getElem?_map,hy0];rfl
 have aW:=X4v (xs.map rXN);simp only[edN,edS,LM];clear hg aB hx hx' bE bu aE q0 ax;generalize hR:(xs.map rXN).map cRN=R at*;have hlm:J (x1.props.map Xb)=J x1.props:=Oc
 generalize ax:J x1.props=nl at*;obtain⟨op,id,src,dst,name,⟨k0,k1,k2,k3,k4⟩⟩:=c;simp only at ho;subst ho;simp only[Xu,Uv,Xt,X1q] at*;refine Qad ?_;refine Y5 ?_;show AWP prog E _ _ _;refine X3T 0 0 3 120 rfl Oa rfl rfl ay rfl rfl (fun cp k aO bC bZ _=> ?_);refine Qld ?_;rw[hlm];have je:=X2P (k:=k) aW;have bK:=fun u':Value=>XbL (n:=J xs) (replicate k none) aW fo (o:=2) (d:= .v u') Oc ay;simp only[set_cons_succ,set_cons_zero] at bK;generalize map some R.flatten++replicate k none=C at*;have hj:i*3+2<J C:=Oa
 have hrd:=X5k (y:= .own 121 nl) hj;have cO:=Xai (y:= .own 121 nl) (z:= .own 122 (J ps')) hj;have cY:0+i*3+2=i*3+2:=Oa
 have fT:=Eq.trans (CG (fun z=>(Yj C (some (_,.own 121 nl)))[z]?) cY) hrd;have hbd:0+i*3+2+1<=J C:=Oa
 have bP:J R=J xs:=ay.symm;clear ay ax;have dI:=hlm.symm;refine Qgd ?_;refine UK ?_;refine Qjd ?_;refine Z5 (ag:=hS) ?_;refine W2_ ?_;(refine Zj (cs':=C) (ho':=some (i*3+2,.own 122 (J ps'))) ?_ (hcs:= ?aM);(case aM=>exact IQ));refine W1_ ?_;show clo _ _ _ _;refine Xcn 120 210 (i*3+2) 122 (Y7 (xs.take i)++[(u,1,x1.labels.map Xf)]) (Y7 (xs.drop (i+1))) Og hj Og Og (by rw[LM]) (fun u'=> ?_);have hcap:cp*3<=J (C.set (i*3+2) (some (.v u'))):=Jb
 refine X3D (X8O 0 0 120 110 (R.set i ([.v (.int .i64 x1.id),.v u,.v u'])) Og Og rfl (bK u') IR (fun y hy=>by
  rcases mem_or_eq_of_mem_set hy with hy|rfl
  ·exact aW y hy
  ·rfl) Oa bC hcap rfl rfl) ?_
 refine X3D (X4L 110 210 (xs.set i ((⟨x1.id,x1.labels,ps'⟩:Nod),u,u')) (by refine Eq.trans (b:= .row 3 (R.set i ([.v (.int .i64 x1.id),.v u,.v u']))) Og JB) (by refine Eq.trans (b:= .bag ((Y7 (xs.take i)++[(u,1,x1.labels.map Xf)])++(u',6,ps'.map Xb)::Y7 (xs.drop (i+1)))) Og JC)) ?_;refine X3D (X4o 4 211 ys Og Og) ?_;refine XcL (show Vw _ _ _ _ _ from⟨_,ZzS,TV,?_⟩);rw[eX u',LM,length_set];exact Xm ⟨rfl,rfl,rfl,rfl,TV⟩
def Xyu (g:Gra) (c:Chg) (hg:GV g) (hc:1<=c.id/\c.id<=1000000) (ho:c.op=6) (q1:XF Edg.id g.aj c.id=false) (qs:XF Nod.id g.nodes c.src=true) (qd:XF Nod.id g.nodes c.dst=true) (q2:J g.aj<4000):
  Con prog 238 (edS g) [.ptr 0 0,Xu c] (edE (X1v g ⟨c.id,c.src,c.dst,c.name,[]⟩)) (.tup []):=by
 obtain⟨ns,es,nn,ne⟩:=g;have aB:=hg.ns;have ax:=hg.nl;have aP:=hg.es;have hne:=hg.ne;simp only at q1 qs qd q2 aB aP ax hne;have e0:X1v ⟨ns,es,nn,ne⟩ ⟨c.id,c.src,c.dst,c.name,[]⟩=⟨ns,es.take (Xr ltI Edg.id es c.id)++[⟨c.id,c.src,c.dst,c.name,[]⟩]++es.drop (Xr ltI Edg.id es c.id),nn,max ne (c.id+1)⟩:=by
  unfold X1v;simp only;rw[X5u q1]
 rw[e0];have hle:=X6A (lt:=ltI) (key:=Edg.id) es c.id;refine VQ (xs:=[]) func238 rfl ntmps238 rfl rfl rfl (fun E=> ?_);refine X0T rfl rfl rfl rfl (fun xs ys h1 h2=> ?_);subst h1 h2;have hE:=X4R (xs.map rXN) (ys.map rXE) nn ne c.id (by simp at q2 |-;omega) ((X53 ys).2 aP);have gK:=X1b (xs.map rXN) (ys.map rXE) nn ne c.src Ow ((X19 xs).2 aB);have gL:=X1b (xs.map rXN) (ys.map rXE) nn ne c.dst Ow ((X19 xs).2 aB);rw[X4u,X58,q1] at hE;rw[X1l,X1i,qs] at gK;rw[X1l,X1i,qd] at gL;simp only[edL,LM] at hE gK gL q2 hle;generalize Xr ltI Edg.id (ys.map (·.1)) c.id=i at*;have hI:Con prog 290 [(4,.row 5 ((ys.map rXE).map cRE))] [.own 4 (J ((ys.map rXE).map cRE)),ai (i:Nat),.d (.sl 5 [[.v (.int .i64 c.id),.v (.int .i64 c.src),.v (.int .i64 c.dst),.v (.string (X7 c.name)),.v (.slice none 0 0)]])] [(4,.dead),(110,.row 5 (((ys.map rXE).map cRE).take i++[.v (.int .i64 c.id),.v (.int .i64 c.src),.v (.int .i64 c.dst),.v (.string (X7 c.name)),.v (.slice none 0 0)]::((ys.map rXE).map cRE).drop i))] (.own 110 (J ((ys.map rXE).map cRE)+1)):=
  YU 1 4 (Xxs ((ys.map rXE).map cRE) i [.v (.int .i64 c.id),.v (.int .i64 c.src),.v (.int .i64 c.dst),.v (.string (X7 c.name)),.v (.slice none 0 0)] (X6Y _) rfl Ou Ou)
 have gQ:=X08 7;have cX:=X08 10;have jI:=X08 20;have eX:(ys.map (·.1)).take i++[⟨c.id,c.src,c.dst,c.name,[]⟩]++(ys.map (·.1)).drop i=(ys.take i++((⟨c.id,c.src,c.dst,c.name,[]⟩:Edg),X13)::ys.drop i).map (·.1):=by
  simp[map_take,map_drop]
 have eL:J (ys.take i++((⟨c.id,c.src,c.dst,c.name,[]⟩:Edg),X13)::ys.drop i)=J ys+1:=Xfr hle;have eR:((ys.map rXE).map cRE).take i++[.v (.int .i64 c.id),.v (.int .i64 c.src),.v (.int .i64 c.dst),.v (.string (X7 c.name)),.v (.slice none 0 0)]::((ys.map rXE).map cRE).drop i=((ys.take i++((⟨c.id,c.src,c.dst,c.name,[]⟩:Edg),X13)::ys.drop i).map rXE).map cRE:=by
  simp[map_take,map_drop,rXE,cRE]
 have eB:U2 (ys.take i)++(X13,6,[])::U2 (ys.drop i)=U2 (ys.take i++((⟨c.id,c.src,c.dst,c.name,[]⟩:Edg),X13)::ys.drop i):=by rw[X9r,XjM];rfl
 have bO:U2 ys=U2 (ys.take i)++U2 (ys.drop i):=by rw[<-X9r,take_append_drop]
 rw[eX];have ay:J ((ys.map rXE).map cRE)=J ys:=Oc
 rw[ay] at hI;simp only[edE,edS,LM,eL];have gz:(J ((ys.map rXE).map cRE):Int)<4000:=by rw[ay];omega
 have jd:J ys=J ((ys.map rXE).map cRE):=ay.symm;clear hg aB aP e0 eX eL ax;generalize hR:(ys.map rXE).map cRE=R at*;generalize hX:ys.take i++((⟨c.id,c.src,c.dst,c.name,[]⟩:Edg),X13)::ys.drop i=X at*;obtain⟨op,id,src,dst,name,⟨k0,k1,k2,k3,k4⟩⟩:=c
 try simp only at*
 subst ho;simp only[Xu,Uv] at*;refine Qmd ?_;refine YJ ?_;refine Z5 (ag:=gQ) ?_;refine W6_ ?_;refine Qnd ?_;refine XG ?_;refine Z5 (ag:=cX) ?_;refine W9_ ?_;refine Zk (op:= .lss) (r':= .bool true) (u:= .int .i64 (J R:Nat)) (v:= .int .i64 4000) ?_ (hr':=by exact CG Value.bool (DT gz));refine Z5 (ag:=jI) ?_;refine QW ?_;show Vw _ _ _ _ _;refine X4I (Xfv 211 6 (U2 (ys.take i)) (U2 (ys.drop i)) Ie) ?_;refine X4I (X4o 110 211 X (by refine Eq.trans (b:= .row 5 (R.take i++[.v (.int .i64 id),.v (.int .i64 src),.v (.int .i64 dst),.v (.string (X7 name)),.v (.slice none 0 0)]::R.drop i)) Og JB) (by refine Eq.trans (b:= .bag (U2 (ys.take i)++(X13,6,[])::U2 (ys.drop i))) Og JC)) ?_;refine X4I (X4L 3 210 xs Og Og) ?_;exact Qed
def Xcv {xs:List XE}{y:XE} (h:xs[i]? =some y):U2 xs=U2 (xs.take i)++(y.2,6,y.1.props.map Xb)::U2 (xs.drop (i+1)):=by
 conv=>lhs;rw[Xdm h,X9r,XjM]
def Xpv {xs:List XE}{y x:XE} (h:xs[i]? =some x):U2 (xs.take i)++(y.2,6,y.1.props.map Xb)::U2 (xs.drop (i+1))=U2 (xs.set i y):=by
 have hi:=(GS.1 h).1;have h2:(xs.set i y)[i]? =some y:=getElem?_set_self hi;rw[Xcv h2,take_set_of_le (Nat.le_refl i),drop_set_of_lt Oa]
def Xrh {xs:List XE}{x y:XE} (h:xs[i]? =some x):((xs.map rXE).map cRE).set i (cRE (rXE y))=((xs.set i y).map rXE).map cRE:=by
 rw[map_set,map_set]
def XuF {x n:Edg} (hg:GV ⟨ns,es,nn,ne⟩) (hx:es[Xr ltI Edg.id es k]? =some x) (hk:x.id=k) (hn:n.id=k):
  X1v ⟨ns,es,nn,ne⟩ n=⟨ns,es.set (Xr ltI Edg.id es k) n,nn,ne⟩:=by
 have h1:=(hg.aj x (mem_of_getElem? hx)).2.1;simp only at h1;have hlt:=(GS.1 hx).1;unfold X1v;simp only;have eF:max ne (n.id+1)=ne:=Oa
 subst hn;rw[X8M Vp hg.es hx hk,eF];simp only;rw[XcO hlt]
def Xwx (g:Gra) (c:Chg) (hg:GV g) (ho:c.op=7) (q1:XF Edg.id g.aj c.id=true):
  Con prog 238 (edS g) [.ptr 0 0,Xu c] (edE {g with aj:=UX Edg.id g.aj c.id}) (.tup []):=by
 obtain⟨ns,es,nn,ne⟩:=g;have aP:=hg.es;have hel:=hg.el;simp only at q1 aP hel;obtain⟨x0,hx0,bT⟩:=XeG aP q1;have e0:UX Edg.id es c.id=es.take (Xr ltI Edg.id es c.id)++es.drop (Xr ltI Edg.id es c.id+1):=Xdz Vp aP hx0 bT;simp only;rw[e0];have hle:Xr ltI Edg.id es c.id<J es:=(GS.1 hx0).1;refine VQ (xs:=[]) func238 rfl ntmps238 rfl rfl rfl (fun E=> ?_);refine X0T rfl rfl rfl rfl (fun xs ys h1 h2=> ?_);subst h1 h2;have hE:=X4R (xs.map rXN) (ys.map rXE) nn ne c.id OW ((X53 ys).2 aP);rw[X4u,X58,q1] at hE;simp only[edL,LM] at hE hel hle;generalize Xr ltI Edg.id (ys.map (·.1)) c.id=i at*;have hD:Con prog 291 [(4,.row 5 ((ys.map rXE).map cRE))] [.own 4 (J ((ys.map rXE).map cRE)),ai (i:Nat),ai ((i+1:Nat):Int)] [(4,.dead),(110,.row 5 (((ys.map rXE).map cRE).take i++((ys.map rXE).map cRE).drop (i+1)))] (.own 110 (J ((ys.map rXE).map cRE)-1)):=
  YU 1 4 (XyJ ((ys.map rXE).map cRE) i (X6Y _) Ou Ou)
 have oM:=X08 11;have eX:(ys.map (·.1)).take i++(ys.map (·.1)).drop (i+1)=(ys.take i++ys.drop (i+1)).map (·.1):=IP
 have eL:J (ys.take i++ys.drop (i+1))=J ys-1:=by rw[LA,LT,LD];omega
 have eR:((ys.map rXE).map cRE).take i++((ys.map rXE).map cRE).drop (i+1)=((ys.take i++ys.drop (i+1)).map rXE).map cRE:=IP
 obtain⟨y0,hy0⟩:∃y,ys[i]? =some y:=⟨_,getElem?_eq_getElem hle⟩
 have bO:=Xcv hy0;have eB:U2 (ys.take i)++U2 (ys.drop (i+1))=U2 (ys.take i++ys.drop (i+1)):=(X9r _ _).symm;rw[eX];have ay:J ((ys.map rXE).map cRE)=J ys:=Oc
 rw[ay] at hD;simp only[edE,edS,LM,eL];have jd:J ys=J ((ys.map rXE).map cRE):=ay.symm;clear hg aP e0 eX eL hx0 bT q1 hy0 ay;generalize hR:(ys.map rXE).map cRE=R at*;generalize hX:ys.take i++ys.drop (i+1)=X at*;obtain⟨op,id,src,dst,name,⟨k0,k1,k2,k3,k4⟩⟩:=c;simp only at ho;subst ho;simp only[Xu,Uv] at*;refine Qmd ?_;refine X1B ?_;refine QZc ?_;refine W6_ ?_;show Vw _ _ _ _ _;refine X4I (Xhq 211 (U2 (ys.take i)) (U2 (ys.drop (i+1))) (y0.2,6,y0.1.props.map Xb) Ie) ?_;refine X4I (X4o 110 211 X (by refine Eq.trans (b:= .row 5 (R.take i++R.drop (i+1))) Og JB) (by refine Eq.trans (b:= .bag (U2 (ys.take i)++U2 (ys.drop (i+1)))) Og JC)) ?_;refine X4I (X4L 3 210 xs Og Og) ?_;exact Qed
end Go.Fw
