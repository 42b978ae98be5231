/- Records compared with themselves; the law about reading. -/
import Derived.KernelRfl
import Derived.Test.YtbhleedlnaakkaaGreatL20
import Derived.Test.YtbhleedlnaakkaaGreatL21
set_option maxHeartbeats 32000000
namespace Go.Fw
open Go Go.Proofs
set_option maxRecDepth 100000
set_option linter.unusedVariables false
set_option linter.unusedSimpArgs false
theorem X9K : ∀ (k : SK) (u : Value), Y7 u = some k → Uu u u = true := by
 intro k u h
 cases u <;> simp [Y7] at h <;> simp [Uu]
theorem X15 (us : List Value) (ks : List SK) (h : us.map Y7 = ks.map some) : Yv us us = true := by
 induction us generalizing ks with
 | nil => rfl
 | cons u us ih =>
  cases ks with
  | nil => simp at h
  | cons k ks =>
   simp only [List.map_cons, List.cons.injEq] at h
   unfold Yv
   rw [X9K k u h.1, ih ks h.2]
   rfl
end Go.Fw
namespace Go.Fw
open Go Go.Proofs
set_option maxRecDepth 100000
set_option linter.unusedVariables false
set_option linter.unusedSimpArgs false
theorem X0X : UF Tryz.prog 69 = some [.i .i64, .i .i64] := by kernel_rfl
theorem X4N : UF Tryz.prog 110 = some [.i .i64, .i .i64, .i .i64] := by kernel_rfl
end Go.Fw
namespace Go.Fw
open Go Go.Proofs
set_option maxRecDepth 100000
set_option linter.unusedVariables false
set_option linter.unusedSimpArgs false
theorem Xaa {acc rest tot : List Vio} (h : acc ++ rest = tot) (hl : tot.length ≤ 160000000) : (acc.map Yb).length ≤ 160000000 := by
 have := congrArg List.length h
 simp only [List.length_append] at this
 rw [List.length_map]
 omega
theorem X1C (s : List Rul) (g : Gra) (hg : GraHold g) (hs : s.length ≤ 9223372036854775807) : Con Tryz.prog 26 [] [.d (.sl 6 (s.map XI)), Xp g] [] (.d (.sl 3 ((Yl s g).map Yb))) := by
 refine X9 (xs := [.d (.sl 3 ((Yl s g).map Yb))]) Tryz.func26 rfl Tryz.ntmps26 rfl rfl rfl (fun E => ?_)
 have hv := X8t s hs
 have hc := X5b g hg
 cases hsv : Uj s with
 | false =>
  rw [hsv] at hv
  rw [show Yl s g = [] from if_pos (.inl hsv)]
  clear hc hg
  obtain ⟨ns, es, nn, ne⟩ := g
  simp only [Xp, List.map_nil] at *
  refine X0 ?_; refine JR ?_; refine ZA (γ := 100) ?_; refine Z0 ?_; refine JD ?_; refine X0 ?_; refine X0 ?_; refine JR ?_; refine Z1 ?_; refine Z9 (hcon := hv) ?_; refine Zu ?_; refine Z1 ?_; refine Zo ?_
  refine Zo ?_; refine Zo ?_; refine Zn ?_; refine JD ?_; refine JT ?_; refine X0 ?_; refine JR ?_; refine Z0 ?_; refine JD ?_
  (show AWP Tryz.prog E _ _ _; refine X1 ?_; exact (show Xk _ _ _ _ _ from ⟨_, Xe 4 (y := .d (.sl 3 [])) (AVal.le_nil 3), ⟨rfl, trivial⟩, X2 _⟩))
 | true =>
 rw [hsv] at hv
 by_cases c2 : XC g = 0
 case neg =>
  rw [show Yl s g = [] from if_pos (.inr c2)]
  generalize XC g = e2 at *
  clear hg
  obtain ⟨ns, es, nn, ne⟩ := g
  simp only [Xp, List.map_nil] at *
  refine X0 ?_; refine JR ?_; refine ZA (γ := 100) ?_; refine Z0 ?_; refine JD ?_; refine X0 ?_; refine X0 ?_; refine JR ?_; refine Z1 ?_; refine Z9 (hcon := hv) ?_; refine Zu ?_; refine Z1 ?_; refine ZL ?_
  refine Z9 (hcon := hc) ?_; refine Zv ?_; refine Zq ?_; refine JD ?_; refine JT ?_; refine X0 ?_; refine JR ?_; refine Z0 ?_; refine JD ?_
  (show AWP Tryz.prog E _ _ _; refine X1 ?_; exact (show Xk _ _ _ _ _ from ⟨_, Xe 4 (y := .d (.sl 3 [])) (AVal.le_nil 3), ⟨rfl, trivial⟩, X2 _⟩))
 have hf := X0q c2
 have hof := fun r => X5J r g hf
 rw [c2] at hc
 have hmax := X59 (s := s) (g := g)
 have hlen := (X1J hsv).1
 have hT := X2p hsv c2
 generalize Yl s g = T at *
 have hpl : ∀ r : Rul, (ofV r g).length ≤ 4000000 := fun r => X4l hf
 generalize hF : (fun r : Rul => ofV r g) = F at *
 have hFr : ∀ r, ofV r g = F r := fun r => by rw [← hF]
 simp only [hFr] at hof hpl
 clear hF hFr hg c2 hf hsv
 obtain ⟨ns, es, nn, ne⟩ := g
 simp only [Xp] at *
 have hsm : (s.map XI).length = s.length := by simp
 refine X0 ?_; refine JR ?_; refine ZA (γ := 100) ?_; refine Z0 ?_; refine JD ?_; refine X0 ?_; refine X0 ?_; refine JR ?_; refine Z1 ?_; refine Z9 (hcon := hv) ?_; refine Zu ?_; refine Z1 ?_; refine ZL ?_
 refine Z9 (hcon := hc) ?_; refine Zv ?_; refine Zq ?_; refine JD ?_; refine JF ?_; refine X3 ?_; refine X0 ?_; refine JR ?_; refine Z0 ?_; refine JD ?_; refine X0 ?_; refine X0 ?_; refine JR ?_
 refine Z1 ?_; refine Zd ?_; refine Z1 ?_; refine JD ?_; refine X4 ?_
 clear hv hc
 refine XV (V0 5 130 3 rfl rfl rfl) ?_
 refine Xs (ι := Nat × List Vio) (fun q => q.1 ≤ s.length ∧ q.2 ++ Yd F q.1 (s.drop q.1) = T) (fun q => ⟨45, [(3, .ptr 100 0), (5, .own 130 (q.2.map Yb).length), (18, .d (.sl 6 (s.map XI))), (19, ai (s.map XI).length), (20, ai q.1)], [(100, .box [.d (.sl 3 (ns.map X8)), .d (.sl 5 (es.map Xi)), ai nn, ai ne]), (130, .row 3 (q.2.map Yb))]⟩) (fun q => s.length - q.1) (0, []) ⟨Nat.zero_le _, by rw [hT]; rfl⟩
  (X7 rfl JM ⟨rfl, rfl, trivial⟩) ?_
 rintro ⟨i, acc⟩ ⟨hi, hg⟩
 simp only at hi hg
 by_cases hil : i < s.length
 case neg =>
  rw [List.drop_of_length_le (by omega), Yd, List.append_nil] at hg
  have hn : ¬ (i : Int) < (s.map XI).length := by omega
  refine X0 ?_; refine JR ?_; refine Z8 ?_; refine JD ?_; refine X0 ?_; refine JF ?_; refine Xo ?_; refine X0 ?_; refine JR ?_; refine Z1 ?_; refine Z0 ?_; refine JD ?_
  rw [← hg]
  clear hT hg
  refine XV (Up 130 rfl) ?_
  refine XV (Uo 4 130 rfl rfl rfl) ?_
  (show AWP Tryz.prog E _ _ _; refine X1 ?_; exact (show Xk _ _ _ _ _ from ⟨_, St.le_refl _, ⟨rfl, trivial⟩, X2 _⟩))
 have hn : (i : Int) < (s.map XI).length := by omega
 obtain ⟨x, hx⟩ := Xm (l := s) hil
 have hxc : (s.map XI)[i]? = some (XI x) := Xr hx
 rw [Xbk hx] at hg
 have hox := hof x
 have hLl := hpl x
 generalize hTL : Yd F (i + 1) (s.drop (i + 1)) = TL at *
 generalize F x = L at *
 obtain ⟨rk, rn, rname, rkey, rsrc, rdst⟩ := x
 simp only [Y0, XI] at hox hxc
 clear hx hof hT
 refine X0 ?_; refine JR ?_; refine Z8 ?_; refine JD ?_; refine X0 ?_; refine JT ?_; refine X3 ?_; refine X0 ?_; refine X4 ?_; refine X0 ?_; refine JR ?_; refine Z1 ?_; refine Zj ?_
 refine ZK ?_; refine Zw (γ := 101) ?_; refine Z0 ?_; refine Zy ?_; refine JD ?_; refine X0 ?_; refine JR ?_; refine ZL ?_; refine ZL ?_; refine Z9 (hcon := hox) ?_; refine Zd ?_; refine Z1 ?_; refine JD ?_
 refine X4 ?_
 refine Xs (ι := Nat × List Vio) (fun q => q.1 ≤ L.length ∧ q.2 ++ (Vs i (L.drop q.1) ++ TL) = T) (fun q => ⟨45, [(3, .ptr 100 0), (5, .own 130 (q.2.map Yb).length), (6, ai i), (18, .d (.sl 6 (s.map XI))), (19, ai (s.map XI).length), (20, ai i), (27, .d (.sl 2 (L.map Xf))), (28, ai (L.map Xf).length), (29, ai q.1)], [(100, .box [.d (.sl 3 (ns.map X8)), .d (.sl 5 (es.map Xi)), ai nn, ai ne]), (130, .row 3 (q.2.map Yb))]⟩) (fun q => L.length - q.1) (0, acc) ⟨Nat.zero_le _, by simpa using hg⟩
  (X7 rfl JM ⟨rfl, rfl, trivial⟩) ?_
 clear hg
 rintro ⟨k, acc2⟩ ⟨hk, hg⟩
 simp only at hk hg
 have hroom := Xaa hg hmax
 have hLm : (L.map Xf).length = L.length := by simp
 by_cases hkl : k < L.length
 case neg =>
  rw [List.drop_of_length_le (by omega)] at hg
  have hg : acc2 ++ TL = T := hg
  have hn2 : ¬ (k : Int) < (L.map Xf).length := by omega
  refine X0 ?_; refine JR ?_; refine Z8 ?_; refine JD ?_; refine X0 ?_; refine JF ?_; refine Xo ?_; refine JR ?_; refine Zb ?_; refine Z1 ?_; refine JD ?_
  exact ⟨(i + 1, acc2), ⟨by show i + 1 ≤ s.length; omega, by show acc2 ++ Yd F (i + 1) (s.drop (i + 1)) = T; rw [hTL]; exact hg⟩, by show s.length - (i + 1) < s.length - i; omega, X7 rfl JM ⟨rfl, rfl, trivial⟩⟩
 have hn2 : (k : Int) < (L.map Xf).length := by omega
 obtain ⟨p, hp⟩ := Xm (l := L) hkl
 have hpc : (L.map Xf)[k]? = some (Xf p) := Xr hp
 rw [X8P hp] at hg
 obtain ⟨pa, pb⟩ := p
 simp only [Xf] at hpc hg
 clear hp hxc hox
 have happ : (acc2 ++ [(⟨(i : Nat), pa, pb⟩ : Vio)]).map Yb = acc2.map Yb ++ [Yb ⟨(i : Nat), pa, pb⟩] := by simp
 refine X0 ?_; refine JR ?_; refine Z8 ?_; refine JD ?_; refine X0 ?_; refine JT ?_; refine X3 ?_; refine X0 ?_; refine X4 ?_; refine X0 ?_; refine JR ?_; refine Zj ?_; refine ZK ?_
 refine Zw (γ := 101) ?_; refine Zy ?_; refine JD ?_; refine JR ?_; refine Z1 ?_; refine Z1 ?_; refine Z0k (n := 2) (sz := 1) (k := 0) ?_; refine ZC ?_; refine Z0k (n := 2) (sz := 1) (k := 1) ?_; refine ZC ?_
 refine Zx ?_; refine Z5 ?_; refine Z6 ?_; refine Z0 ?_; refine JD ?_; refine JR ?_; refine Zb ?_; refine Z1 ?_; refine JD ?_
 refine ⟨(k + 1, acc2 ++ [⟨(i : Nat), pa, pb⟩]), ⟨by show k + 1 ≤ L.length; omega, by simpa using hg⟩, by show L.length - (k + 1) < L.length - k; omega, ?_⟩
 dsimp only
 rw [happ]
 exact X7 rfl ⟨JL, AVal.le_of_eq (by refine Eq.trans (b := AVal.own 130 (_ + _)) rfl ?_; simp only [List.length_append, List.length_map, List.length_cons, List.length_nil]), JL, JL, JL, JL, JL, JL, JL, trivial⟩ ⟨rfl, rfl, trivial⟩
theorem XaE (s : List Rul) (g : Gra) (hg : GraHold g) (hs : s.length ≤ 9223372036854775807) : Con Tryz.prog 28 [] [.d (.sl 6 (s.map XI)), Xp g] [] (ai (VM s g)) := by
 refine X9 (xs := [ai (VM s g)]) Tryz.func28 rfl Tryz.ntmps28 rfl rfl rfl (fun E => ?_)
 have ha := X1C s g hg hs
 cases hl : Yl s g with
 | nil =>
  rw [Xay hl]
  rw [hl] at ha
  clear hg
  obtain ⟨ns, es, nn, ne⟩ := g
  simp only [Xp, List.map_nil] at *
  refine X0 ?_; refine JR ?_; refine ZA (γ := 100) ?_; refine Z0 ?_; refine JD ?_; refine X0 ?_; refine JR ?_; refine Z1 ?_; refine ZL ?_; refine Z9 (hcon := ha) ?_; refine Z0 ?_; refine JD ?_; refine X0 ?_
  refine X0 ?_; refine JR ?_; refine Z1 ?_; refine Zd ?_; refine Zl ?_; refine JD ?_; refine JT ?_; refine X0 ?_; refine JR ?_; refine Z0 ?_; refine JD ?_
  (show AWP Tryz.prog E _ _ _; refine X1 ?_; exact (show Xk _ _ _ _ _ from ⟨_, St.le_refl _, ⟨rfl, trivial⟩, X2 _⟩))
 | cons v r =>
  obtain ⟨k, x, e, hk, hfi⟩ := X9n hl
  rw [hfi]
  rw [hl] at ha
  have hfa := X9R x.kind
  have hxc : (s.map XI)[k]? = some (XI x) := Xr hk
  have hkl : k < (s.map XI).length := (List.getElem?_eq_some_iff.1 hxc).1
  generalize X00 x.kind = z at *
  obtain ⟨va, vb, vc⟩ := v
  simp only at e
  subst e
  obtain ⟨rk, rn, rname, rkey, rsrc, rdst⟩ := x
  clear hg hl hk hfi
  obtain ⟨ns, es, nn, ne⟩ := g
  simp only [Xp, List.map_cons, Yb, XI] at *
  have h0 : (([.v (.int .i64 (k : Nat)), .v (.int .i64 vb), .v (.int .i64 vc)] : List D) :: r.map Yb)[0]? = some [.v (.int .i64 (k : Nat)), .v (.int .i64 vb), .v (.int .i64 vc)] := rfl
  have hne : ¬ ((([.v (.int .i64 (k : Nat)), .v (.int .i64 vb), .v (.int .i64 vc)] : List D) :: r.map Yb).length : Int) = 0 := by simp only [List.length_cons]; omega
  generalize hR : ([.v (.int .i64 (k : Nat)), .v (.int .i64 vb), .v (.int .i64 vc)] : List D) :: r.map Yb = R at *
  refine X0 ?_; refine JR ?_; refine ZA (γ := 100) ?_; refine Z0 ?_; refine JD ?_; refine X0 ?_; refine JR ?_; refine Z1 ?_; refine ZL ?_; refine Z9 (hcon := ha) ?_; refine Z0 ?_; refine JD ?_; refine X0 ?_
  refine X0 ?_; refine JR ?_; refine Z1 ?_; refine Zd ?_; refine Zl ?_; refine JD ?_; refine JF ?_; refine X3 ?_; refine X0 ?_; refine JR ?_; refine Z1 ?_; refine Z1 ?_; refine Zj ?_; refine ZN ?_
  refine Zk ?_; refine Zj ?_; refine ZN ?_; refine Zk ?_; refine Z9 (hcon := hfa) ?_; refine Z0 ?_; refine JD ?_
  (show AWP Tryz.prog E _ _ _; refine X1 ?_; exact (show Xk _ _ _ _ _ from ⟨_, St.le_refl _, ⟨rfl, trivial⟩, X2 _⟩))
end Go.Fw
namespace Go.Fw
open Go Go.Proofs
set_option maxRecDepth 100000
set_option linter.unusedVariables false
set_option linter.unusedSimpArgs false
def exK : List Prp := [⟨[107], .mk 2 5 0 [] []⟩]
def Yp : Gra := ⟨[⟨1, [[65]], exK⟩, ⟨2, [[65], [66]], exK⟩], [⟨1, 1, 2, [84], []⟩], 3, 2⟩
theorem X0t : GraHold Yp := ⟨by decide, by decide, by
 intro n hn
 have hn : n = ⟨1, [[65]], exK⟩ ∨ n = ⟨2, [[65], [66]], exK⟩ := by simpa [Yp] using hn
 rcases hn with rfl | rfl
 ·refine ⟨by decide, by simp, by decide, ?_⟩
  intro p hp
  obtain rfl : p = ⟨[107], .mk 2 5 0 [] []⟩ := by simpa [exK] using hp
  exact ⟨by decide, by simp [XY, Ub]⟩
 ·refine ⟨by decide, by simp, by decide, ?_⟩
  intro p hp
  obtain rfl : p = ⟨[107], .mk 2 5 0 [] []⟩ := by simpa [exK] using hp
  exact ⟨by decide, by simp [XY, Ub]⟩, by
 intro e he
 obtain rfl : e = ⟨1, 1, 2, [84], []⟩ := by simpa [Yp] using he
 exact ⟨by decide, by decide, by simp⟩⟩
abbrev exU : Rul := ⟨1, 0, [65], [107], [], []⟩
theorem X8V : ofS exU Yp = [(1, 2)] := by kernel_rfl
theorem X9o : ofS ⟨6, 0, [84], [], [66], []⟩ Yp = [(1, 0)] := by kernel_rfl
theorem XaL : ofS ⟨6, 0, [84], [], [65], []⟩ Yp = [] := by kernel_rfl
theorem XbJ : ofS ⟨7, 0, [84], [], [], []⟩ Yp = [(1, 0)] := by kernel_rfl
theorem XbN : Yl [exU] Yp = [⟨0, 1, 2⟩] := by kernel_rfl
theorem Xa5 : VM [exU] Yp = 13 := by kernel_rfl
def X1l (n : Nod) : Bool := decide (n.labels.length ≤ 20 ∧ n.props.length ≤ 20)
def X1j (e : Edg) : Bool := decide (e.props.length ≤ 20)
def Vu (g : Gra) : Bool := if 60 < g.nodes.length ∨ 100 < g.edges.length then false else g.nodes.all X1l && g.edges.all X1j
theorem X7J : Con Tryz.prog 73 [] [] [] (Xp Yp) := by
 refine X9 (xs := [Xp Yp]) Tryz.func73 rfl Tryz.ntmps73 rfl rfl rfl (fun E => ?_)
 simp only [Xp, Yp, exK, X8, Xi, Xg, Y8, Xl, XG, List.map_cons, List.map_nil]
 refine X0 ?_; refine JR ?_; refine Zw (γ := 100) ?_; refine JD ?_; refine X0 ?_; refine JR ?_; refine Zx ?_; refine Zx ?_; refine Z5 ?_; refine Z0 ?_; refine JD ?_; refine X0 ?_
 refine XV (Xe 1 (y := .d (.sl 6 [[.v (.string (X6 [107])), .v (.int .i64 2), .v (.int .i64 5), .v (.int .i64 0), .v (.string (X6 [])), .sl 5 []]])) (AVal.le_d (X5s (X40 (UK (V7 _) (UK (V7 _) (UK (V7 _) (UK (V7 _) (UK (V7 _) (UK (X4q 5) X42)))))) rfl (X5m 6))))) ?_
 refine JR ?_; refine Z5 ?_; refine Z1 ?_; refine Zx ?_; refine Z5 ?_; refine Z1 ?_; refine Zx ?_; refine Z5 ?_; refine Z0 ?_; refine JD ?_; refine X0 ?_; refine JR ?_; refine Z1 ?_; refine Zx ?_; refine Z5 ?_
 refine Zx ?_; refine Zy ?_; refine JD ?_
 exact X1 ⟨_, VJ 100 (cs' := [.d (.sl 3 [[.v (.int .i64 1), .sl 1 [[.v (.string (X6 [65]))]], .sl 6 [[.v (.string (X6 [107])), .v (.int .i64 2), .v (.int .i64 5), .v (.int .i64 0), .v (.string (X6 [])), .sl 5 []]]], [.v (.int .i64 2), .sl 1 [[.v (.string (X6 [65]))], [.v (.string (X6 [66]))]], .sl 6 [[.v (.string (X6 [107])), .v (.int .i64 2), .v (.int .i64 5), .v (.int .i64 0), .v (.string (X6 [])), .sl 5 []]]]]), .d (.sl 5 [[.v (.int .i64 1), .v (.int .i64 1), .v (.int .i64 2), .v (.string (X6 [84])), .sl 6 []]]), ai 3, ai 2]) rfl ⟨AVal.le_refl _, AVal.le_d (X5s (X40 (UK (V7 _) (UK (V7 _) (UK (V7 _) (UK (V7 _) (UK (X4q 6) X42))))) rfl (X5m 5))), AVal.le_refl _, AVal.le_refl _, trivial⟩ rfl, ⟨⟨100, 0, _, rfl, rfl, .inr ⟨4, _, rfl, rfl, rfl, rfl⟩⟩, trivial⟩, X2 _⟩
end Go.Fw
namespace Go.Fw
open Go Go.Proofs
set_option maxRecDepth 100000
set_option linter.unusedVariables false
set_option linter.unusedSimpArgs false
theorem X3z : Con Tryz.prog 21 [] [] [] (ab true) := by
 refine X9 (xs := [ab true]) Tryz.func21 rfl Tryz.ntmps21 rfl rfl rfl (fun E => ?_)
 have h0 := X7J
 have h1 := X0Y exU Yp X0t
 have h2 := X0Y ⟨6, 0, [84], [], [66], []⟩ Yp X0t
 have h3 := X0Y ⟨6, 0, [84], [], [65], []⟩ Yp X0t
 have h4 := X0Y ⟨7, 0, [84], [], [], []⟩ Yp X0t
 have h5 := X1C [exU] Yp X0t (by simp)
 have h6 := XaE [exU] Yp X0t (by simp)
 rw [X8V] at h1
 rw [X9o] at h2
 rw [XaL] at h3
 rw [XbJ] at h4
 rw [XbN] at h5
 rw [Xa5] at h6
 simp only [Xp, Y0, Xf, Yb, XI, List.map_cons, List.map_nil] at h0 h1 h2 h3 h4 h5 h6
 generalize Yp.nodes.map X8 = X at *
 generalize Yp.edges.map Xi = Y at *
 generalize Yp.nn = nn at *
 generalize Yp.ne = ne at *
 refine X0 ?_; refine JR ?_; refine Z0 ?_; refine JD ?_; refine X0 ?_; refine JR ?_; refine Zx ?_; refine Zw (γ := 100) ?_; refine Zy ?_; refine JD ?_; refine X0 ?_; refine JR ?_; refine ZL ?_
 refine Z9 (hcon := h0) ?_; refine Z9 (hcon := h1) ?_; refine Z0 ?_; refine JD ?_; refine X0 ?_
 refine JR ?_; refine Zx ?_; refine Z9 (hcon := h0) ?_; refine Z9 (hcon := h2) ?_; refine Z0 ?_; refine JD ?_; refine X0 ?_
 refine JR ?_; refine Zx ?_; refine Z9 (hcon := h0) ?_; refine Z9 (hcon := h3) ?_; refine Z0 ?_; refine JD ?_; refine X0 ?_
 refine JR ?_; refine Zx ?_; refine Z9 (hcon := h0) ?_; refine Z9 (hcon := h4) ?_; refine Z0 ?_; refine JD ?_; refine X0 ?_
 refine JR ?_; refine ZL ?_; refine Z5 ?_; refine Z9 (hcon := h0) ?_; refine Z9 (hcon := h5) ?_; refine Z0 ?_; refine JD ?_; refine X0 ?_
 clear h1 h2 h3 h4 h5
 refine XV (X7 (n := 82) (τ := [(1, .ptr 100 0), (2, .d (.sl 2 [[.v (.int .i64 1), .v (.int .i64 2)]])), (3, .d (.sl 2 [[.v (.int .i64 1), .v (.int .i64 0)]])), (4, .d (.sl 2 [])), (5, .d (.sl 2 [[.v (.int .i64 1), .v (.int .i64 0)]])), (6, .d (.sl 3 [[.v (.int .i64 0), .v (.int .i64 1), .v (.int .i64 2)]]))]) (L := [(100, .box [ai 1, ai 0, Xt [65], Xt [107], Xt [], Xt []])]) rfl JM ⟨rfl, trivial⟩) ?_
 refine JR ?_; refine Z1 ?_; refine Zd ?_; refine Zl ?_; refine Z1 ?_; refine Z1 ?_; refine Zj ?_; refine ZK ?_; refine Zx ?_
 refine Z07 (us := [.int .i64 1, .int .i64 2]) (vs := [.int .i64 1, .int .i64 2]) (r := true) ?_ (hk := by exact X0X) (hr := by exact X15 [.int .i64 1, .int .i64 2] [.i .i64, .i .i64] rfl); refine Zn ?_
 refine Z1 ?_; refine Z1 ?_; refine Zd ?_; refine Zl ?_; refine Zn ?_; refine Z1 ?_; refine Z1 ?_; refine Zj ?_; refine ZK ?_; refine Zx ?_
 refine Z07 (us := [.int .i64 1, .int .i64 0]) (vs := [.int .i64 1, .int .i64 0]) (r := true) ?_ (hk := by exact X0X) (hr := by exact X15 [.int .i64 1, .int .i64 0] [.i .i64, .i .i64] rfl); refine Zn ?_
 refine Z1 ?_; refine Z1 ?_; refine Zd ?_; refine Zl ?_; refine Zn ?_; refine Z1 ?_; refine Z1 ?_; refine Zd ?_; refine Zl ?_; refine Zn ?_; refine Z1 ?_; refine Z1 ?_; refine Zj ?_; refine ZK ?_; refine Zx ?_
 refine Z07 (us := [.int .i64 1, .int .i64 0]) (vs := [.int .i64 1, .int .i64 0]) (r := true) ?_ (hk := by exact X0X) (hr := by exact X15 [.int .i64 1, .int .i64 0] [.i .i64, .i .i64] rfl); refine Zn ?_
 refine Z1 ?_; refine Z1 ?_; refine Zd ?_; refine Zl ?_; refine Zn ?_; refine Z1 ?_; refine Z1 ?_; refine Zj ?_; refine ZK ?_; refine Zx ?_
 refine Z07 (us := [.int .i64 0, .int .i64 1, .int .i64 2]) (vs := [.int .i64 0, .int .i64 1, .int .i64 2]) (r := true) ?_ (hk := by exact X4N) (hr := by exact X15 [.int .i64 0, .int .i64 1, .int .i64 2] [.i .i64, .i .i64, .i .i64] rfl)
 refine Zn ?_; refine Z1 ?_; refine ZL ?_; refine Z5 ?_; refine Z9 (hcon := h0) ?_; refine Z9 (hcon := h6) ?_; refine Zl ?_; refine Zn ?_; refine Z0 ?_
 refine .done (fun _ => by kernel_rfl) ?_
 skip
 exact X1 ⟨_, St.le_refl _, ⟨rfl, trivial⟩, X2 _⟩
end Go.Fw
namespace Go.Fw
open Go Go.Proofs
set_option maxRecDepth 100000
set_option linter.unusedVariables false
set_option linter.unusedSimpArgs false
theorem X5l (g : Gra) (hg : GraHold g) : Con Tryz.prog 20 [] [Xp g] [] (ab (Vu g)) := by
 refine X9 (xs := [ab (Vu g)]) Tryz.func20 rfl Tryz.ntmps20 rfl rfl rfl (fun E => ?_)
 have hh1 := hg.nl
 have hh2 := hg.el
 clear hg
 obtain ⟨ns, es, nn, ne⟩ := g
 simp only [Xp] at hh1 hh2 ⊢
 have hln : (ns.map X8).length = ns.length := by simp
 have hle : (es.map Xi).length = es.length := by simp
 unfold Vu
 simp only
 by_cases c1 : 60 < ns.length
 ·rw [if_pos (.inl c1)]
  have c1' : (60 : Int) < (ns.map X8).length := by omega
  refine X0 ?_; refine JR ?_; refine ZA (γ := 100) ?_; refine Z0 ?_; refine JD ?_; refine X0 ?_; refine X0 ?_; refine JR ?_; refine ZB ?_; refine ZC ?_; refine Zd ?_; refine Zs ?_; refine Z1 ?_; refine Zo ?_
  refine Zo ?_; refine Zo ?_; refine Zo ?_; refine Zn ?_; refine JD ?_; refine JT ?_; refine X0 ?_; refine JR ?_; refine Z0 ?_; refine JD ?_
  (show AWP Tryz.prog E _ _ _; refine X1 ?_; exact (show Xk _ _ _ _ _ from ⟨_, St.le_refl _, ⟨rfl, trivial⟩, X2 _⟩))
 have c1' : ¬ (60 : Int) < (ns.map X8).length := by omega
 by_cases c2 : 100 < es.length
 ·rw [if_pos (.inr c2)]
  have c2' : (100 : Int) < (es.map Xi).length := by omega
  refine X0 ?_; refine JR ?_; refine ZA (γ := 100) ?_; refine Z0 ?_; refine JD ?_; refine X0 ?_; refine X0 ?_; refine JR ?_; refine ZB ?_; refine ZC ?_; refine Zd ?_; refine Zs ?_; refine Z1 ?_; refine ZB ?_
  refine ZC ?_; refine Zd ?_; refine Zs ?_; refine Zq ?_; refine JD ?_; refine JT ?_; refine X0 ?_; refine JR ?_; refine Z0 ?_; refine JD ?_
  (show AWP Tryz.prog E _ _ _; refine X1 ?_; exact (show Xk _ _ _ _ _ from ⟨_, St.le_refl _, ⟨rfl, trivial⟩, X2 _⟩))
 have c2' : ¬ (100 : Int) < (es.map Xi).length := by omega
 rw [if_neg (fun h => h.elim c1 c2)]
 generalize hFN : ns.all X1l = FN
 generalize hFE : es.all X1j = FE
 refine X0 ?_; refine JR ?_; refine ZA (γ := 100) ?_; refine Z0 ?_; refine JD ?_; refine X0 ?_; refine X0 ?_; refine JR ?_; refine ZB ?_; refine ZC ?_; refine Zd ?_; refine Zs ?_; refine Z1 ?_; refine ZB ?_
 refine ZC ?_; refine Zd ?_; refine Zs ?_; refine Zq ?_; refine JD ?_; refine JF ?_; refine X3 ?_; refine X0 ?_; refine X0 ?_; refine JR ?_; refine Z0 ?_; refine JD ?_; refine X4 ?_
 clear c1' c2'
 refine Xs (fun i : Nat => i ≤ ns.length ∧ (ns.drop i).all X1l = FN) (fun i => ⟨55, [(1, .ptr 100 0), (3, ai i)], [(100, .box [.d (.sl 3 (ns.map X8)), .d (.sl 5 (es.map Xi)), ai nn, ai ne])]⟩) (fun i => ns.length - i) 0 ⟨Nat.zero_le _, by simpa using hFN⟩
  (X7 rfl JM ⟨rfl, trivial⟩) ?_
 rintro i ⟨hi, hg⟩
 by_cases hil : i < ns.length
 case pos =>
  have hn : (i : Int) < (ns.map X8).length := by omega
  obtain ⟨x, hx⟩ := Xm (l := ns) hil
  have hxc : (ns.map X8)[i]? = some (X8 x) := Xr hx
  rw [X2y hx] at hg
  obtain ⟨xid, labels, props⟩ := x
  have hlm1 : (labels.map Xl).length = labels.length := by simp
  have hlm2 : (props.map Xg).length = props.length := by simp
  simp only [X8] at hxc
  unfold X1l at hg
  simp only at hg
  clear hx hFN
  by_cases d1 : 20 < labels.length
  ·have d1' : (20 : Int) < (labels.map Xl).length := by omega
   obtain rfl : FN = false := by rw [← hg, decide_eq_false (fun h => by omega)]; rfl
   rw [Bool.false_and]
   clear hg
   refine X0 ?_; refine X0 ?_; refine JR ?_; refine Z1 ?_; refine ZB ?_; refine ZC ?_; refine Zd ?_; refine Z8 ?_; refine JD ?_; refine JT ?_; refine X3 ?_; refine X0 ?_; refine X4 ?_
   refine X0 ?_; refine JR ?_; refine ZB ?_; refine ZC ?_; refine Z1 ?_; refine Zj ?_; refine ZN ?_; refine Zk ?_; refine Zd ?_; refine Zs ?_; refine Z1 ?_; refine Zo ?_; refine Zo ?_; refine Zo ?_; refine Zo ?_
   refine Zo ?_; refine Zo ?_; refine Zo ?_; refine Zo ?_; refine Zn ?_; refine JD ?_; refine JT ?_; refine X0 ?_; refine JR ?_; refine Z0 ?_; refine JD ?_
   (show AWP Tryz.prog E _ _ _; refine X1 ?_; exact (show Xk _ _ _ _ _ from ⟨_, St.le_refl _, ⟨rfl, trivial⟩, X2 _⟩))
  have d1' : ¬ (20 : Int) < (labels.map Xl).length := by omega
  by_cases d2 : 20 < props.length
  ·have d2' : (20 : Int) < (props.map Xg).length := by omega
   obtain rfl : FN = false := by rw [← hg, decide_eq_false (fun h => by omega)]; rfl
   rw [Bool.false_and]
   clear hg
   refine X0 ?_; refine X0 ?_; refine JR ?_; refine Z1 ?_; refine ZB ?_; refine ZC ?_; refine Zd ?_; refine Z8 ?_; refine JD ?_; refine JT ?_; refine X3 ?_; refine X0 ?_; refine X4 ?_
   refine X0 ?_; refine JR ?_; refine ZB ?_; refine ZC ?_; refine Z1 ?_; refine Zj ?_; refine ZN ?_; refine Zk ?_; refine Zd ?_; refine Zs ?_; refine Z1 ?_; refine ZB ?_; refine ZC ?_; refine Z1 ?_; refine Zj ?_
   refine ZN ?_; refine Zk ?_; refine Zd ?_; refine Zs ?_; refine Zq ?_; refine JD ?_; refine JT ?_; refine X0 ?_; refine JR ?_; refine Z0 ?_; refine JD ?_
   (show AWP Tryz.prog E _ _ _; refine X1 ?_; exact (show Xk _ _ _ _ _ from ⟨_, St.le_refl _, ⟨rfl, trivial⟩, X2 _⟩))
  have d2' : ¬ (20 : Int) < (props.map Xg).length := by omega
  rw [decide_eq_true ⟨by omega, by omega⟩, Bool.true_and] at hg
  refine X0 ?_; refine X0 ?_; refine JR ?_; refine Z1 ?_; refine ZB ?_; refine ZC ?_; refine Zd ?_; refine Z8 ?_; refine JD ?_; refine JT ?_; refine X3 ?_; refine X0 ?_; refine X4 ?_
  refine X0 ?_; refine JR ?_; refine ZB ?_; refine ZC ?_; refine Z1 ?_; refine Zj ?_; refine ZN ?_; refine Zk ?_; refine Zd ?_; refine Zs ?_; refine Z1 ?_; refine ZB ?_; refine ZC ?_; refine Z1 ?_; refine Zj ?_
  refine ZN ?_; refine Zk ?_; refine Zd ?_; refine Zs ?_; refine Zq ?_; refine JD ?_; refine JF ?_; refine X3 ?_; refine JR ?_; refine Z1 ?_; refine Zb ?_; refine Z0 ?_; refine JD ?_
  exact ⟨i + 1, ⟨by omega, hg⟩, by omega, X7 rfl JM ⟨rfl, trivial⟩⟩
 rw [List.drop_of_length_le (by omega), List.all_nil] at hg
 subst hg
 rw [Bool.true_and]
 have hn : ¬ (i : Int) < (ns.map X8).length := by omega
 refine X0 ?_; refine X0 ?_; refine JR ?_; refine Z1 ?_; refine ZB ?_; refine ZC ?_; refine Zd ?_; refine Z8 ?_; refine JD ?_; refine JF ?_; refine Xo ?_; refine X0 ?_; refine X0 ?_; refine JR ?_
 refine Z0 ?_; refine JD ?_; refine X4 ?_
 clear hn hFN hi hil
 refine Xs (fun i : Nat => i ≤ es.length ∧ (es.drop i).all X1j = FE) (fun i => ⟨55, [(1, .ptr 100 0), (4, ai i)], [(100, .box [.d (.sl 3 (ns.map X8)), .d (.sl 5 (es.map Xi)), ai nn, ai ne])]⟩) (fun i => es.length - i) 0 ⟨Nat.zero_le _, by simpa using hFE⟩
  (X7 rfl JM ⟨rfl, trivial⟩) ?_
 clear i
 rintro i ⟨hi, hg⟩
 by_cases hil : i < es.length
 case neg =>
  rw [List.drop_of_length_le (by omega), List.all_nil] at hg
  subst hg
  have hn : ¬ (i : Int) < (es.map Xi).length := by omega
  refine X0 ?_; refine X0 ?_; refine JR ?_; refine Z1 ?_; refine ZB ?_; refine ZC ?_; refine Zd ?_; refine Z8 ?_; refine JD ?_; refine JF ?_; refine Xo ?_; refine X0 ?_; refine JR ?_; refine Z0 ?_
  refine JD ?_
  (show AWP Tryz.prog E _ _ _; refine X1 ?_; exact (show Xk _ _ _ _ _ from ⟨_, St.le_refl _, ⟨rfl, trivial⟩, X2 _⟩))
 have hn : (i : Int) < (es.map Xi).length := by omega
 obtain ⟨x, hx⟩ := Xm (l := es) hil
 have hxc : (es.map Xi)[i]? = some (Xi x) := Xr hx
 rw [X2y hx] at hg
 obtain ⟨xid, src, dst, typ, props⟩ := x
 have hlm2 : (props.map Xg).length = props.length := by simp
 simp only [Xi] at hxc
 unfold X1j at hg
 simp only at hg
 clear hx hFE
 by_cases d2 : 20 < props.length
 ·have d2' : (20 : Int) < (props.map Xg).length := by omega
  obtain rfl : FE = false := by rw [← hg, decide_eq_false (fun h => by omega)]; rfl
  clear hg
  refine X0 ?_; refine X0 ?_; refine JR ?_; refine Z1 ?_; refine ZB ?_; refine ZC ?_; refine Zd ?_; refine Z8 ?_; refine JD ?_; refine JT ?_; refine X3 ?_; refine X0 ?_; refine X4 ?_
  refine X0 ?_; refine JR ?_; refine ZB ?_; refine ZC ?_; refine Z1 ?_; refine Zj ?_; refine ZN ?_; refine Zk ?_; refine Zd ?_; refine Zs ?_; refine JD ?_; refine JT ?_; refine X0 ?_; refine JR ?_; refine Z0 ?_
  refine JD ?_
  (show AWP Tryz.prog E _ _ _; refine X1 ?_; exact (show Xk _ _ _ _ _ from ⟨_, St.le_refl _, ⟨rfl, trivial⟩, X2 _⟩))
 have d2' : ¬ (20 : Int) < (props.map Xg).length := by omega
 rw [decide_eq_true (by omega), Bool.true_and] at hg
 refine X0 ?_; refine X0 ?_; refine JR ?_; refine Z1 ?_; refine ZB ?_; refine ZC ?_; refine Zd ?_; refine Z8 ?_; refine JD ?_; refine JT ?_; refine X3 ?_; refine X0 ?_; refine X4 ?_
 refine X0 ?_; refine JR ?_; refine ZB ?_; refine ZC ?_; refine Z1 ?_; refine Zj ?_; refine ZN ?_; refine Zk ?_; refine Zd ?_; refine Zs ?_; refine JD ?_; refine JF ?_; refine X3 ?_; refine JR ?_; refine Z1 ?_
 refine Zb ?_; refine Z0 ?_; refine JD ?_
 exact ⟨i + 1, ⟨by omega, hg⟩, by omega, X7 rfl JM ⟨rfl, trivial⟩⟩
end Go.Fw
namespace Go.Fw
open Go Go.Proofs
set_option linter.unusedVariables false
theorem UD : Tryz.prog.cellsOf 3 = 1 := by kernel_rfl
theorem Vr : Tryz.prog.cellsOf 9 = 1 := by kernel_rfl
theorem X7h : Tryz.prog.cellsOf 57 = 1 := by kernel_rfl
theorem X2u : Tryz.prog.cellsOf 59 = 5 := by kernel_rfl
section
variable {H : Type} {enc : TypeId × Value → H} {W : World}
theorem X58 : ∀ n, OpensN enc Tryz.prog W n 59 XY Y8
 | 0 => ⟨fun cs x hx => by simp [DataW.trod] at hx⟩
 | n + 1 =>
  (X7b Tryz.underlying59 X2u (fun m hm =>
   X0x rfl UD ((UN Tryz.underlying3).at m) (X0x rfl UD ((UN Tryz.underlying3).at m) (X0x rfl UD ((UN Tryz.underlying3).at m)
    (X0x rfl Vr ((V5 Tryz.underlying9).at m)
     (X0x rfl X7h (X02 (p := XY) (f := Y8) Tryz.underlying57 X2u (by decide) (fun m' hm' => X58 m')) X7j)))))).to
   (fun r => .mk r.1 r.2.1 r.2.2.1 r.2.2.2.1 r.2.2.2.2.1) fun r h => ⟨by rw [XY]; exact ⟨h.2.2.2.1, h.2.2.2.2.1.2, X5p h.2.2.2.2.1.1⟩, by rw [Y8, X0C]; rfl⟩
termination_by n => n
decreasing_by omega
theorem X95 : Opens enc Tryz.prog W 59 XY Y8 := X0v X58
end
end Go.Fw
namespace Go.Fw
open Go Go.Proofs
set_option linter.unusedVariables false
theorem Xac : Tryz.prog.cellsOf 63 = 1 := by kernel_rfl
theorem X6v : Tryz.prog.cellsOf 64 = 1 := by kernel_rfl
theorem X8Y : Tryz.prog.cellsOf 22 = 1 := by kernel_rfl
theorem X9G : Tryz.prog.cellsOf 23 = 1 := by kernel_rfl
theorem X6L : Tryz.prog.cellsOf 80 = 6 := by kernel_rfl
theorem X6a : Tryz.prog.cellsOf 66 = 3 := by kernel_rfl
theorem X5h : Tryz.prog.cellsOf 77 = 5 := by kernel_rfl
theorem Xbj : Tryz.prog.cellsOf 25 = 4 := by kernel_rfl
def X5r (g : Gra) : List D := [.sl 3 (g.nodes.map X8), .sl 5 (g.edges.map Xi), .v (.int .i64 g.nn), .v (.int .i64 g.ne)]
theorem X6q (g : Gra) : Xp g = .agg ((X5r g).map .d) := rfl
section
variable {H : Type} {enc : TypeId × Value → H} {W : World}
theorem X7r : Opens enc Tryz.prog W 80 X0h Xg :=
 (X0P Tryz.underlying80 X6L
  (YA rfl Vr (V5 Tryz.underlying9) (YA rfl X2u X95 X1b))).to
  (fun r => ⟨r.1, r.2.1⟩) fun r h => ⟨⟨h.1, h.2.1⟩, by
   obtain ⟨k, v, u⟩ := r
   cases v
   simp [Xg, Y8]⟩
theorem X5e : Opens enc Tryz.prog W 64 (fun l : List Prp => (∀ c ∈ l, X0h c) ∧ l.length ≤ 9223372036854775807) (fun l => [.sl 6 (l.map Xg)]) :=
 X0v fun n => X02 Tryz.underlying64 X6L (by decide) fun m _ => X7r.at m
theorem XaT : Opens enc Tryz.prog W 63 (fun l : List (List UInt8) => (∀ c ∈ l, c.length ≤ 9223372036854775807) ∧ l.length ≤ 9223372036854775807) (fun l => [.sl 1 (l.map Xl)]) :=
 X0v fun n => X02 Tryz.underlying63 Vr (by decide) fun m _ => (V5 Tryz.underlying9).at m
theorem Xbt : Opens enc Tryz.prog W 66 X1L X8 :=
 (X0P Tryz.underlying66 X6a
  (YA rfl UD (UN Tryz.underlying3) (YA rfl Xac XaT (YA rfl X6v X5e X1b)))).to
  (fun r => ⟨r.1, r.2.1, r.2.2.1⟩) fun r h => ⟨⟨h.2.1.2, h.2.1.1, h.2.2.1.2, h.2.2.1.1⟩, rfl⟩
theorem Xar : Opens enc Tryz.prog W 77 X2e Xi :=
 (X0P Tryz.underlying77 X5h
  (YA rfl UD (UN Tryz.underlying3) (YA rfl UD (UN Tryz.underlying3) (YA rfl UD (UN Tryz.underlying3)
   (YA rfl Vr (V5 Tryz.underlying9) (YA rfl X6v X5e X1b)))))).to
  (fun r => ⟨r.1, r.2.1, r.2.2.1, r.2.2.2.1, r.2.2.2.2.1⟩) fun r h => ⟨⟨h.2.2.2.1, h.2.2.2.2.1.2, h.2.2.2.2.1.1⟩, rfl⟩
theorem X9H : Opens enc Tryz.prog W 22 (fun l : List Nod => (∀ c ∈ l, X1L c) ∧ l.length ≤ 9223372036854775807) (fun l => [.sl 3 (l.map X8)]) :=
 X0v fun n => X02 Tryz.underlying22 X6a (by decide) fun m _ => Xbt.at m
theorem XaB : Opens enc Tryz.prog W 23 (fun l : List Edg => (∀ c ∈ l, X2e c) ∧ l.length ≤ 9223372036854775807) (fun l => [.sl 5 (l.map Xi)]) :=
 X0v fun n => X02 Tryz.underlying23 X5h (by decide) fun m _ => Xar.at m
theorem X5V : Opens enc Tryz.prog W 25 GraHold X5r :=
 (X0P Tryz.underlying25 Xbj
  (YA rfl X8Y X9H (YA rfl X9G XaB (YA rfl UD (UN Tryz.underlying3) (YA rfl UD (UN Tryz.underlying3) X1b))))).to
  (fun r => ⟨r.1, r.2.1, r.2.2.1, r.2.2.2.1⟩) fun r h => ⟨⟨h.1.2, h.2.1.2, h.1.1, h.2.1.1⟩, rfl⟩
end
end Go.Fw
