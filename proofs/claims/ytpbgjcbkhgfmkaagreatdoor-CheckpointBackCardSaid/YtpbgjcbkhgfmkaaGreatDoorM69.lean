/- The law CheckpointBack. -/
import Derived.Test.YtpbgjcbkhgfmkaaGreatDoorM56
set_option maxHeartbeats 32000000
namespace Go.Fw
open Go Go.Proofs Tryz List
set_option maxRecDepth 100000
set_option linter.unusedVariables false
set_option linter.unusedSimpArgs false
theorem XqJ (n:Int) (l:List Stp) (h:StpsOk l):Con prog 8 [] [ai n,.d (.sl 2 (l.map X0F))] [] (ab true):=by
 refine ZC1 func8 ntmps8 fun E=> ?_;have hb:=Xgo n l h.len h.rl;have ha:=X64;by_cases q:X4X n l=true
 case neg=>
  rw[show X4X n l=false by simpa using q] at hb;refine Yf ?_
  (show AWP prog E _ _ _;refine X2 ?_;exact(show Xa _ _ _ _ _ from⟨_,St.le_refl _,⟨rfl,TV⟩,X4 _⟩))
 have hf:=Xgu n l q h.ok;rw[q] at hb;generalize (Un n l).1=X at*;generalize (Un n l).2=Y at*;unfold X5b at hf;refine X00 ?_
 (show AWP prog E _ _ _;refine X2 ?_;exact(show Xa _ _ _ _ _ from⟨_,St.le_refl _,⟨rfl,TV⟩,X4 _⟩))
end Go.Fw
