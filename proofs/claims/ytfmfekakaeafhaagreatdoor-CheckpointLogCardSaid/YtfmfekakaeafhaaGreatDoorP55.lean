/- The law's runs. -/
import Derived.Test.YtfmfekakaeafhaaGreatDoorP51
import Derived.Test.YtfmfekakaeafhaaGreatDoorP52
import Derived.Test.YtfmfekakaeafhaaGreatDoorP54
set_option linter.all false
namespace Go.Fw
open Go Go.Proofs List
open List renaming length->J
set_option maxRecDepth 100000
def XgK {l:List Rcd} (h:X26 l=true) (hr:∀r∈l,X0z r):(∀r∈l,X6T r)/\J l<=1000:=
 ⟨fun r h1=>⟨hr r h1,by have:=(Xgx h).2 r h1;omega⟩,by have:=(Xgx h).1;omega⟩
end Go.Fw
