/- The violations of a rule, by the reference; lists of pairs. -/
import Derived.KernelRfl
import Derived.Test.YtbhleedlnaakkaaGreatK25
set_option maxHeartbeats 16000000
namespace Go.Fw
open Go Go.Proofs
set_option maxRecDepth 100000
set_option linter.unusedVariables false
set_option linter.unusedSimpArgs false
theorem X8d (l : List (Int × Int)) (hl : l.length ≤ 9223372036854775807) : Con Tryz.prog 22 [] [.d (.sl 2 (l.map Xc)), .d (.sl 2 (l.map Xc))] [] (ab true) := by
 refine Xa (xs := [ab true]) Tryz.func22 rfl Tryz.ntmps22 rfl rfl rfl (fun E => ?_)
 have hlm : (l.map Xc).length = l.length := by simp
 refine X0 ?_; refine JR ?_; refine Z0 ?_; refine JD ?_; refine X0 ?_; refine X0 ?_; refine JR ?_; refine Z1 ?_; refine Zd ?_; refine Z1 ?_; refine Zd ?_; refine Zv ?_; refine JD ?_; refine JF ?_
 refine X3 ?_; refine X0 ?_; refine X0 ?_; refine JR ?_; refine Z0 ?_; refine JD ?_; refine X4 ?_
 refine Xt (fun i : Nat => i ≤ l.length) (fun i => ⟨26, [(0, .d (.sl 2 (l.map Xc))), (1, .d (.sl 2 (l.map Xc))), (5, ai i)], []⟩) (fun i => l.length - i) 0 (Nat.zero_le _)
  (X6 rfl JM trivial) ?_
 intro i hi
 by_cases hil : i < l.length
 case neg =>
  obtain rfl : i = l.length := by omega
  have hn : ¬ ((l.length : Nat) : Int) < (l.map Xc).length := by omega
  refine X0 ?_; refine X0 ?_; refine JR ?_; refine Z1 ?_; refine Z1 ?_; refine Zd ?_; refine Z8 ?_; refine JD ?_; refine JF ?_; refine Xp ?_; refine X0 ?_; refine JR ?_; refine Z0 ?_; refine JD ?_
  exact X1 ⟨_, St.le_refl _, ⟨rfl, trivial⟩, X2 _⟩
 have hn : (i : Int) < (l.map Xc).length := by omega
 obtain ⟨x, hx⟩ := Xm (l := l) hil
 have hxc : (l.map Xc)[i]? = some (Xc x) := Xq hx
 obtain ⟨x1, x2⟩ := x
 simp only [Xc] at hxc
 clear hx
 have hz := VW [.int .i64 x1, .int .i64 x2] [.i .i64, .i .i64] rfl
 refine X0 ?_; refine X0 ?_; refine JR ?_; refine Z1 ?_; refine Z1 ?_; refine Zd ?_; refine Z8 ?_; refine JD ?_; refine JT ?_; refine X3 ?_; refine X0 ?_; refine X4 ?_; refine X0 ?_
 refine JR ?_; refine Z1 ?_; refine Z1 ?_; refine Zj ?_; refine ZK ?_; refine Z1 ?_; refine Z1 ?_; refine Zj ?_; refine ZK ?_
 refine Z0j (us := [.int .i64 x1, .int .i64 x2]) (vs := [.int .i64 x1, .int .i64 x2]) (r := true) ?_ (hk := by exact X1y) (hr := by exact hz); refine JD ?_; refine JF ?_; refine X3 ?_; refine JR ?_
 refine Z1 ?_; refine Zb ?_; refine Z0 ?_; refine JD ?_
 exact ⟨i + 1, hil, by omega, X6 rfl JM trivial⟩
end Go.Fw
namespace Go.Fw
open Go Go.Proofs
set_option maxRecDepth 100000
set_option linter.unusedVariables false
set_option linter.unusedSimpArgs false
theorem X8i (r : Rul) (g : Gra) (hg : GraHold g) : Con Tryz.prog 7 [] [Xv r, Xr g] [] (ab true) := by
 refine Xa (xs := [ab true]) Tryz.func7 rfl Tryz.ntmps7 rfl rfl rfl (fun E => ?_)
 have ha := X4J
 have hfw := X4R g hg
 have h1 := X0p r g hg
 have h2 := X3p r g hg
 have hlen := X2M (r := r) (g := g)
 have h3 := X8d (ofS r g) (by omega)
 generalize X0M g = fw at *
 generalize ofS r g = l at *
 clear hg hlen
 obtain ⟨ns, es, nn, ne⟩ := g
 obtain ⟨rk, rn, rname, rkey, rsrc, rdst⟩ := r
 simp only [Xv, Xr] at *
 cases fw with
 | false =>
  refine X0 ?_; refine JR ?_; refine ZA (γ := 100) ?_; refine ZA (γ := 101) ?_; refine Z0 ?_; refine JD ?_; refine X0 ?_; refine X0 ?_; refine JR ?_; refine ZL ?_; refine Z9 (hcon := hfw) ?_; refine Zu ?_
  refine JD ?_; refine JT ?_; refine X0 ?_; refine JR ?_; refine Z9 (hcon := ha) ?_; refine Z0 ?_; refine JD ?_
  (show AWP Tryz.prog E _ _ _; refine X1 ?_; exact (show Xd _ _ _ _ _ from ⟨_, St.le_refl _, ⟨rfl, trivial⟩, X2 _⟩))
 | true =>
  refine X0 ?_; refine JR ?_; refine ZA (γ := 100) ?_; refine ZA (γ := 101) ?_; refine Z0 ?_; refine JD ?_; refine X0 ?_; refine X0 ?_; refine JR ?_; refine ZL ?_; refine Z9 (hcon := hfw) ?_; refine Zu ?_
  refine JD ?_; refine JF ?_; refine X3 ?_; refine X0 ?_; refine JR ?_; refine ZL ?_; refine ZL ?_; refine Z9 (hcon := h1) ?_; refine ZL ?_; refine ZL ?_; refine Z9 (hcon := h2) ?_; refine Z9 (hcon := h3) ?_
  refine Z1 ?_; refine Z9 (hcon := ha) ?_; refine Zn ?_; refine Z0 ?_; refine JD ?_
  (show AWP Tryz.prog E _ _ _; refine X1 ?_; exact (show Xd _ _ _ _ _ from ⟨_, St.le_refl _, ⟨rfl, trivial⟩, X2 _⟩))
end Go.Fw
namespace Go.Fw
open Go Go.Proofs
set_option linter.unusedVariables false
theorem X7x (r : Rul) : Xv r = .agg ((X3C r).map .d) := rfl
end Go.Fw
