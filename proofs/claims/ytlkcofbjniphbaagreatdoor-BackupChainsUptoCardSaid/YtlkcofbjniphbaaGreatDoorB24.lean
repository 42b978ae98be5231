/- Bytes, rules, strings and properties compared with themselves. -/
import Derived.Test.YtlkcofbjniphbaaGreatDoorB23
set_option maxHeartbeats 8000000
namespace Go.Fw
open Go Go.Proofs
set_option maxRecDepth 100000
set_option linter.unusedVariables false
set_option linter.unusedSimpArgs false
theorem XnC (l:List (List UInt8)) (hl:l.length≤9223372036854775807):Con Tryz.prog 80 [] [.d (.sl 1 (l.map Xl)),.d (.sl 1 (l.map Xl))] [] (ab true):=by
 refine Xg (xs:=[ab true]) Tryz.func80 rfl Tryz.ntmps80 rfl rfl rfl (fun E=> ?_)
 have hlm:(l.map Xl).length=l.length:=by simp
 refine Xr ?_;refine Qma ?_
 refine XK (fun i:Nat=>i≤l.length) (fun i=>⟨26,[(0,.d (.sl 1 (l.map Xl))),(1,.d (.sl 1 (l.map Xl))),(5,ai i)],[]⟩) (fun i=>l.length-i) 0 (Nat.zero_le _)
  (Xd rfl JM trivial) ?_
 intro i hi
 by_cases hil:i<l.length
 case neg=>
  obtain rfl:i=l.length:=by omega
  have hn:¬((l.length:Nat):Int)<(l.map Xl).length:=by omega
  exact Qbc
 have hn:(i:Int)<(l.map Xl).length:=by omega
 obtain⟨x,hx⟩:=XI (l:=l) hil
 have hxc:(l.map Xl)[i]? =some (Xl x):=Y5 hx
 clear hx
 refine Qi ?_;refine XA ?_;refine Qia ?_;exact⟨i+1,hil,by omega,Xd rfl JM trivial⟩
theorem XeF (l:List Prp) (hok:∀p∈l,Yp p.v) (hl:l.length≤9223372036854775807):Con Tryz.prog 81 [] [.d (.sl 6 (l.map Xh)),.d (.sl 6 (l.map Xh))] [] (ab true):=by
 refine Xg (xs:=[ab true]) Tryz.func81 rfl Tryz.ntmps81 rfl rfl rfl (fun E=> ?_)
 have hlm:(l.map Xh).length=l.length:=by simp
 refine Xr ?_;refine Qma ?_
 refine XK (fun i:Nat=>i≤l.length) (fun i=>⟨42,[(0,.d (.sl 6 (l.map Xh))),(1,.d (.sl 6 (l.map Xh))),(5,ai i)],[]⟩) (fun i=>l.length-i) 0 (Nat.zero_le _)
  (Xd rfl JM trivial) ?_
 intro i hi
 by_cases hil:i<l.length
 case neg=>
  obtain rfl:i=l.length:=by omega
  have hn:¬((l.length:Nat):Int)<(l.map Xh).length:=by omega
  exact Qbc
 have hn:(i:Int)<(l.map Xh).length:=by omega
 obtain⟨x,hx⟩:=XI (l:=l) hil
 have hxc:(l.map Xh)[i]? =some (Xh x):=Y5 hx
 have ho:=X9x x.v (hok x (List.mem_of_getElem? hx))
 unfold X4S at ho
 obtain⟨key,⟨vk,vn,vd,vs,vl⟩⟩:=x
 simp only[Xh,U3,Xv] at hxc ho
 clear hx
 refine Qi ?_;refine X1g ?_;refine Z3 (hcon:=ho) ?_;refine W1_ ?_;refine QVb ?_;exact⟨i+1,hil,by omega,Xd rfl JM trivial⟩
end Go.Fw
