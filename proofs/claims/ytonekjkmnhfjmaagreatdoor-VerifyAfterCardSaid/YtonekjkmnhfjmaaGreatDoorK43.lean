/- Records compared with themselves; the law about reading. -/
import Derived.Test.YtonekjkmnhfjmaaGreatDoorK41
import Derived.Test.YtonekjkmnhfjmaaGreatDoorK42
set_option maxHeartbeats 32000000
namespace Go.Fw
open Go Go.Proofs
set_option maxRecDepth 100000
set_option linter.unusedVariables false
set_option linter.unusedSimpArgs false
theorem Xf5 : ∀ (k : SK) (u : Value), YR u = some k → X0k u u = true := by
 intro k u h
 cases u <;> simp [YR] at h <;> simp [X0k]
theorem X2P (us : List Value) (ks : List SK) (h : us.map YR = ks.map some) : Vc us us = true := by
 induction us generalizing ks with
 | nil => rfl
 | cons u us ih =>
  cases ks with
  | nil => simp at h
  | cons k ks =>
   simp only [List.map_cons, List.cons.injEq] at h
   unfold Vc
   rw [Xf5 k u h.1, ih ks h.2]
   rfl
theorem XiD (r : Rul) (g : Gra) (hg : GraHold g) : Con Tryz.prog 125 [] [XU r, Xj g] [] (.d (.sl 2 ((ofS r g).map Xo))) := by
 refine Xc (xs := [.d (.sl 2 ((ofS r g).map Xo))]) Tryz.func125 rfl Tryz.ntmps125 rfl rfl rfl (fun E => ?_)
 have h1 := Xb8 r
 have h2 := Xbm g hg
 unfold ofS
 by_cases c1 : Ut r = 0
 case neg =>
  rw [if_pos (.inl c1)]
  generalize Ut r = e1 at *
  clear h2 hg
  obtain ⟨ns, es, nn, ne⟩ := g
  obtain ⟨rk, rn, rname, rkey, rsrc, rdst⟩ := r
  simp only [XU, Xj, List.map_nil] at *
  refine Qae ?_; refine QAb ?_; refine ZH ?_; refine QV ?_; refine Qcf ?_
  (show AWP Tryz.prog E _ _ _; refine X1 ?_; exact (show Xd _ _ _ _ _ from ⟨_, Xr 4 (y := .d (.sl 2 [])) (AVal.le_nil 2), ⟨rfl, trivial⟩, X3 _⟩))
 by_cases c2 : Yh g = 0
 case neg =>
  rw [if_pos (.inr c2)]
  rw [c1] at h1
  generalize Yh g = e2 at *
  clear hg c1
  obtain ⟨ns, es, nn, ne⟩ := g
  obtain ⟨rk, rn, rname, rkey, rsrc, rdst⟩ := r
  simp only [XU, Xj, List.map_nil] at *
  refine QOh ?_; refine ZE ?_; refine Qcf ?_
  (show AWP Tryz.prog E _ _ _; refine X1 ?_; exact (show Xd _ _ _ _ _ from ⟨_, Xr 4 (y := .d (.sl 2 [])) (AVal.le_nil 2), ⟨rfl, trivial⟩, X3 _⟩))
 rw [if_neg (fun h => h.elim (fun q => q c1) (fun q => q c2))]
 have hf := X4b c2
 have hk := Xhv c1
 have h3 := Xfq r g hf
 have h4 := Xdg r g hf
 have h5 := XeR r g hf
 rw [X2Y] at h3
 rw [c1] at h1
 rw [c2] at h2
 clear hg c2 hf
 unfold ofV X3K
 by_cases k1 : r.kind = 1
 ·rw [if_pos k1]
  generalize UN (YD r g.nodes) = l at *
  clear h4 h5 c1
  obtain ⟨ns, es, nn, ne⟩ := g
  obtain ⟨rk, rn, rname, rkey, rsrc, rdst⟩ := r
  simp only [XU, Xj] at *
  refine QOh ?_; refine Qxc ?_; refine Qzc ?_; refine Qne ?_; refine Zr (hcon := h3) ?_; refine Qb ?_
  (show AWP Tryz.prog E _ _ _; refine X1 ?_; exact (show Xd _ _ _ _ _ from ⟨_, St.le_refl _, ⟨rfl, trivial⟩, X3 _⟩))
 rw [if_neg k1]
 by_cases k7 : r.kind = 7
 ·rw [if_neg (by omega), if_pos k7]
  rw [Xfw k7] at h5
  generalize UK r g.edges g.nodes = l at *
  clear h3 h4 c1
  obtain ⟨ns, es, nn, ne⟩ := g
  obtain ⟨rk, rn, rname, rkey, rsrc, rdst⟩ := r
  simp only [XU, Xj] at *
  have z4 : ¬ rk = 4 := by omega
  have z5 : ¬ rk = 5 := by omega
  have z6 : ¬ rk = 6 := by omega
  refine Qli ?_; refine QJa ?_; refine X2 ?_; refine Qne ?_; refine Zr (hcon := h5) ?_; refine Qb ?_
  (show AWP Tryz.prog E _ _ _; refine X1 ?_; exact (show Xd _ _ _ _ _ from ⟨_, St.le_refl _, ⟨rfl, trivial⟩, X3 _⟩))
 by_cases k2 : r.kind = 2 ∨ r.kind = 3
 ·rw [if_pos k2]
  rw [Xcn k7] at h5
  generalize Uz r g.nodes = l at *
  clear h3 h4 c1
  obtain ⟨ns, es, nn, ne⟩ := g
  obtain ⟨rk, rn, rname, rkey, rsrc, rdst⟩ := r
  simp only [XU, Xj] at *
  have z4 : ¬ rk = 4 := by omega
  have z5 : ¬ rk = 5 := by omega
  have z6 : ¬ rk = 6 := by omega
  refine Qli ?_; refine QJa ?_; refine X2 ?_; refine Qne ?_; refine Zr (hcon := h5) ?_; refine Qb ?_
  (show AWP Tryz.prog E _ _ _; refine X1 ?_; exact (show Xd _ _ _ _ _ from ⟨_, St.le_refl _, ⟨rfl, trivial⟩, X3 _⟩))
 rw [if_neg k2, if_neg k7]
 generalize XR r g.nodes g.edges = l at *
 clear h3 h5 c1
 obtain ⟨ns, es, nn, ne⟩ := g
 obtain ⟨rk, rn, rname, rkey, rsrc, rdst⟩ := r
 simp only [XU, Xj] at *
 by_cases z4 : rk = 4
 ·refine Qli ?_; refine QAa ?_; refine QNh ?_
  (show AWP Tryz.prog E _ _ _; refine X1 ?_; exact (show Xd _ _ _ _ _ from ⟨_, St.le_refl _, ⟨rfl, trivial⟩, X3 _⟩))
 by_cases z5 : rk = 5
 ·refine Qli ?_; refine QHa ?_; refine QNh ?_
  (show AWP Tryz.prog E _ _ _; refine X1 ?_; exact (show Xd _ _ _ _ _ from ⟨_, St.le_refl _, ⟨rfl, trivial⟩, X3 _⟩))
 have z6 : rk = 6 := by omega
 refine Qli ?_; refine QIa ?_; refine QNh ?_
 (show AWP Tryz.prog E _ _ _; refine X1 ?_; exact (show Xd _ _ _ _ _ from ⟨_, St.le_refl _, ⟨rfl, trivial⟩, X3 _⟩))
theorem X6b : X0b Tryz.prog 104 = some [.i .i64, .i .i64] := by kernel_rfl
theorem XbC : X0b Tryz.prog 106 = some [.i .i64, .i .i64, .i .i64] := by kernel_rfl
theorem Xi8 (l : List Vio) (hl : l.length ≤ 9223372036854775807) : Con Tryz.prog 41 [] [.d (.sl 3 (l.map Ye)), .d (.sl 3 (l.map Ye))] [] (ab true) := by
 refine Xc (xs := [ab true]) Tryz.func41 rfl Tryz.ntmps41 rfl rfl rfl (fun E => ?_)
 have hlm : (l.map Ye).length = l.length := by simp
 refine QU ?_; refine Z3 ?_; refine Z1 ?_; refine Z3 ?_; refine QOd ?_; refine QZa ?_
 refine Xz (fun i : Nat => i ≤ l.length) (fun i => ⟨26, [(0, .d (.sl 3 (l.map Ye))), (1, .d (.sl 3 (l.map Ye))), (5, ai i)], []⟩) (fun i => l.length - i) 0 (Nat.zero_le _)
  (X6 rfl JM trivial) ?_
 intro i hi
 by_cases hil : i < l.length
 case neg =>
  obtain rfl : i = l.length := by omega
  have hn : ¬ ((l.length : Nat) : Int) < (l.map Ye).length := by omega
  exact Qhd
 have hn : (i : Int) < (l.map Ye).length := by omega
 obtain ⟨x, hx⟩ := Xs (l := l) hil
 have hxc : (l.map Ye)[i]? = some (Ye x) := Xx hx
 obtain ⟨x1, x2, x3⟩ := x
 simp only [Ye] at hxc
 clear hx
 have hz := X2P [.int .i64 x1, .int .i64 x2, .int .i64 x3] [.i .i64, .i .i64, .i .i64] rfl
 refine Qid ?_; refine Qdc ?_; refine Qq ?_; refine Qdc ?_; refine Z0F (us := [.int .i64 x1, .int .i64 x2, .int .i64 x3]) (vs := [.int .i64 x1, .int .i64 x2, .int .i64 x3]) (r := true) ?_ (hk := by exact XbC) (hr := by exact hz); refine Qkb ?_; exact ⟨i + 1, hil, by omega, X6 rfl JM trivial⟩
theorem Xbg {acc rest tot : List Vio} (h : acc ++ rest = tot) (hl : tot.length ≤ 160000000) : (acc.map Ye).length ≤ 160000000 := by
 have := congrArg List.length h
 simp only [List.length_append] at this
 rw [List.length_map]
 omega
theorem X7E (s : List Rul) (g : Gra) (hg : GraHold g) (hs : s.length ≤ 9223372036854775807) : Con Tryz.prog 72 [] [.d (.sl 6 (s.map XI)), Xj g] [] (.d (.sl 3 ((U4 s g).map Ye))) := by
 refine Xc (xs := [.d (.sl 3 ((U4 s g).map Ye))]) Tryz.func72 rfl Tryz.ntmps72 rfl rfl rfl (fun E => ?_)
 have hv := Xe7 s hs
 have hc := X5k g hg
 cases hsv : Ve s with
 | false =>
  rw [hsv] at hv
  rw [show U4 s g = [] from if_pos (.inl hsv)]
  clear hc hg
  obtain ⟨ns, es, nn, ne⟩ := g
  simp only [Xj, List.map_nil] at *
  refine Qmi ?_; refine QV ?_; refine Qcf ?_
  (show AWP Tryz.prog E _ _ _; refine X1 ?_; exact (show Xd _ _ _ _ _ from ⟨_, Xr 4 (y := .d (.sl 3 [])) (AVal.le_nil 3), ⟨rfl, trivial⟩, X3 _⟩))
 | true =>
 rw [hsv] at hv
 by_cases c2 : Yh g = 0
 case neg =>
  rw [show U4 s g = [] from if_pos (.inr c2)]
  generalize Yh g = e2 at *
  clear hg
  obtain ⟨ns, es, nn, ne⟩ := g
  simp only [Xj, List.map_nil] at *
  refine Qmi ?_; refine Qjc ?_; refine Qof ?_; refine ZE ?_; refine Qcf ?_
  (show AWP Tryz.prog E _ _ _; refine X1 ?_; exact (show Xd _ _ _ _ _ from ⟨_, Xr 4 (y := .d (.sl 3 [])) (AVal.le_nil 3), ⟨rfl, trivial⟩, X3 _⟩))
 have hf := X4b c2
 have hof := fun r => XbA r g hf
 rw [c2] at hc
 have hmax := X7h (s := s) (g := g)
 have hlen := (X4A hsv).1
 have hT := Xhj hsv c2
 generalize U4 s g = T at *
 have hpl : ∀ r : Rul, (ofV r g).length ≤ 4000000 := fun r => X8W hf
 generalize hF : (fun r : Rul => ofV r g) = F at *
 have hFr : ∀ r, ofV r g = F r := fun r => by rw [← hF]
 simp only [hFr] at hof hpl
 clear hF hFr hg c2 hf hsv
 obtain ⟨ns, es, nn, ne⟩ := g
 simp only [Xj] at *
 have hsm : (s.map XI).length = s.length := by simp
 refine Qmi ?_; refine Qjc ?_; refine Qof ?_; refine Qga ?_; refine QU ?_; refine Qcc ?_
 clear hv hc
 refine Xk (U1 5 130 3 rfl rfl rfl) ?_
 refine Xz (ι := Nat × List Vio) (fun q => q.1 ≤ s.length ∧ q.2 ++ YN F q.1 (s.drop q.1) = T) (fun q => ⟨45, [(3, .ptr 100 0), (5, .own 130 (q.2.map Ye).length), (18, .d (.sl 6 (s.map XI))), (19, ai (s.map XI).length), (20, ai q.1)], [(100, .box [.d (.sl 3 (ns.map X9)), .d (.sl 5 (es.map Xf)), ai nn, ai ne]), (130, .row 3 (q.2.map Ye))]⟩) (fun q => s.length - q.1) (0, []) ⟨Nat.zero_le _, by rw [hT]; rfl⟩
  (X6 rfl JM ⟨rfl, rfl, trivial⟩) ?_
 rintro ⟨i, acc⟩ ⟨hi, hg⟩
 simp only at hi hg
 by_cases hil : i < s.length
 case neg =>
  rw [List.drop_of_length_le (by omega), YN, List.append_nil] at hg
  have hn : ¬ (i : Int) < (s.map XI).length := by omega
  refine Qka ?_; refine Qzb ?_
  rw [← hg]
  clear hT hg
  refine Xk (Yt 130 rfl) ?_; refine Xk (Ys 4 130 rfl rfl rfl) ?_
  (show AWP Tryz.prog E _ _ _; refine X1 ?_; exact (show Xd _ _ _ _ _ from ⟨_, St.le_refl _, ⟨rfl, trivial⟩, X3 _⟩))
 have hn : (i : Int) < (s.map XI).length := by omega
 obtain ⟨x, hx⟩ := Xs (l := s) hil
 have hxc : (s.map XI)[i]? = some (XI x) := Xx hx
 rw [X8J hx] at hg
 have hox := hof x
 have hLl := hpl x
 generalize hTL : YN F (i + 1) (s.drop (i + 1)) = TL at *
 generalize F x = L at *
 obtain ⟨rk, rn, rname, rkey, rsrc, rdst⟩ := x
 simp only [XU, XI] at hox hxc
 clear hx hof hT
 refine Qna ?_; refine Qdc ?_; refine ZI (γ := 101) ?_; refine Z0 ?_; refine Qec ?_; refine Qne ?_; refine Zr (hcon := hox) ?_; refine Qcc ?_
 refine Xz (ι := Nat × List Vio) (fun q => q.1 ≤ L.length ∧ q.2 ++ (X13 i (L.drop q.1) ++ TL) = T) (fun q => ⟨45, [(3, .ptr 100 0), (5, .own 130 (q.2.map Ye).length), (6, ai i), (18, .d (.sl 6 (s.map XI))), (19, ai (s.map XI).length), (20, ai i), (27, .d (.sl 2 (L.map Xo))), (28, ai (L.map Xo).length), (29, ai q.1)], [(100, .box [.d (.sl 3 (ns.map X9)), .d (.sl 5 (es.map Xf)), ai nn, ai ne]), (130, .row 3 (q.2.map Ye))]⟩) (fun q => L.length - q.1) (0, acc) ⟨Nat.zero_le _, by simpa using hg⟩
  (X6 rfl JM ⟨rfl, rfl, trivial⟩) ?_
 clear hg
 rintro ⟨k, acc2⟩ ⟨hk, hg⟩
 simp only at hk hg
 have hroom := Xbg hg hmax
 have hLm : (L.map Xo).length = L.length := by simp
 by_cases hkl : k < L.length
 case neg =>
  rw [List.drop_of_length_le (by omega)] at hg
  have hg : acc2 ++ TL = T := hg
  have hn2 : ¬ (k : Int) < (L.map Xo).length := by omega
  refine Qka ?_; refine Qsa ?_; exact Qni
 have hn2 : (k : Int) < (L.map Xo).length := by omega
 obtain ⟨p, hp⟩ := Xs (l := L) hkl
 have hpc : (L.map Xo)[k]? = some (Xo p) := Xx hp
 rw [X8R hp] at hg
 obtain ⟨pa, pb⟩ := p
 simp only [Xo] at hpc hg
 clear hp hxc hox
 have happ : (acc2 ++ [(⟨(i : Nat), pa, pb⟩ : Vio)]).map Ye = acc2.map Ye ++ [Ye ⟨(i : Nat), pa, pb⟩] := by simp
 refine QUg ?_; refine Qz ?_; refine Z0G (n := 2) (sz := 1) (k := 0) ?_; refine ZO ?_; refine Z0G (n := 2) (sz := 1) (k := 1) ?_; refine ZO ?_; refine ZJ ?_; refine Qvf ?_
 refine ⟨(k + 1, acc2 ++ [⟨(i : Nat), pa, pb⟩]), ⟨by show k + 1 ≤ L.length; omega, by simpa using hg⟩, by show L.length - (k + 1) < L.length - k; omega, ?_⟩
 dsimp only
 rw [happ]
 exact X6 rfl ⟨JL, AVal.le_of_eq (by refine Eq.trans (b := AVal.own 130 (_ + _)) rfl ?_; simp only [List.length_append, List.length_map, List.length_cons, List.length_nil]), JL, JL, JL, JL, JL, JL, JL, trivial⟩ ⟨rfl, rfl, trivial⟩
theorem XdQ (s : List Rul) (g : Gra) (hg : GraHold g) (hs : s.length ≤ 9223372036854775807) : Con Tryz.prog 74 [] [.d (.sl 6 (s.map XI)), Xj g] [] (.d (.sl 3 ((U4 s g).map Ye))) := by
 refine Xc (xs := [.d (.sl 3 ((U4 s g).map Ye))]) Tryz.func74 rfl Tryz.ntmps74 rfl rfl rfl (fun E => ?_)
 have hv := XcU s hs
 have hc := X5k g hg
 cases hsv : Ve s with
 | false =>
  rw [hsv] at hv
  rw [show U4 s g = [] from if_pos (.inl hsv)]
  clear hc hg
  obtain ⟨ns, es, nn, ne⟩ := g
  simp only [Xj, List.map_nil] at *
  refine Qmi ?_; refine Qcf ?_
  (show AWP Tryz.prog E _ _ _; refine X1 ?_; exact (show Xd _ _ _ _ _ from ⟨_, Xr 4 (y := .d (.sl 3 [])) (AVal.le_nil 3), ⟨rfl, trivial⟩, X3 _⟩))
 | true =>
 rw [hsv] at hv
 have hof := fun r => XiD r g hg
 clear hc
 have hmax := X7h (s := s) (g := g)
 have hlen := (X4A hsv).1
 have hT := X72 (g := g) hsv
 generalize U4 s g = T at *
 have hpl : ∀ r : Rul, (ofS r g).length ≤ 4000000 := fun r => X7T
 generalize hF : (fun r : Rul => ofS r g) = F at *
 have hFr : ∀ r, ofS r g = F r := fun r => by rw [← hF]
 simp only [hFr] at hof hpl
 clear hF hFr hg hsv
 obtain ⟨ns, es, nn, ne⟩ := g
 simp only [Xj] at *
 have hsm : (s.map XI).length = s.length := by simp
 refine QHb ?_; refine Qh ?_; refine Qce ?_; refine QXc ?_
 clear hv
 refine Xk (U1 5 130 3 rfl rfl rfl) ?_
 refine Xz (ι := Nat × List Vio) (fun q => q.1 ≤ s.length ∧ q.2 ++ YN F q.1 (s.drop q.1) = T) (fun q => ⟨46, [(0, .d (.sl 6 (s.map XI))), (3, .ptr 100 0), (5, .own 130 (q.2.map Ye).length), (6, ai q.1)], [(100, .box [.d (.sl 3 (ns.map X9)), .d (.sl 5 (es.map Xf)), ai nn, ai ne]), (130, .row 3 (q.2.map Ye))]⟩) (fun q => s.length - q.1) (0, []) ⟨Nat.zero_le _, by rw [hT]; rfl⟩
  (X6 rfl JM ⟨rfl, rfl, trivial⟩) ?_
 rintro ⟨i, acc⟩ ⟨hi, hg⟩
 simp only at hi hg
 by_cases hil : i < s.length
 case neg =>
  rw [List.drop_of_length_le (by omega), YN, List.append_nil] at hg
  have hn : ¬ (i : Int) < (s.map XI).length := by omega
  refine Qgd ?_; refine Qzb ?_
  rw [← hg]
  clear hT hg
  refine Xk (Yt 130 rfl) ?_; refine Xk (Ys 4 130 rfl rfl rfl) ?_
  (show AWP Tryz.prog E _ _ _; refine X1 ?_; exact (show Xd _ _ _ _ _ from ⟨_, St.le_refl _, ⟨rfl, trivial⟩, X3 _⟩))
 have hn : (i : Int) < (s.map XI).length := by omega
 obtain ⟨x, hx⟩ := Xs (l := s) hil
 have hxc : (s.map XI)[i]? = some (XI x) := Xx hx
 rw [X8J hx] at hg
 have hox := hof x
 have hLl := hpl x
 generalize hTL : YN F (i + 1) (s.drop (i + 1)) = TL at *
 generalize F x = L at *
 obtain ⟨rk, rn, rname, rkey, rsrc, rdst⟩ := x
 simp only [XU, XI] at hox hxc
 clear hx hof hT
 refine Qid ?_; refine Qdc ?_; refine ZX ?_; refine Zr (hcon := hox) ?_; refine Qb ?_; refine Qc ?_; refine X4 ?_
 refine Xz (ι := Nat × List Vio) (fun q => q.1 ≤ L.length ∧ q.2 ++ (X13 i (L.drop q.1) ++ TL) = T) (fun q => ⟨46, [(0, .d (.sl 6 (s.map XI))), (3, .ptr 100 0), (5, .own 130 (q.2.map Ye).length), (6, ai i), (7, .d (.sl 2 (L.map Xo))), (8, ai q.1)], [(100, .box [.d (.sl 3 (ns.map X9)), .d (.sl 5 (es.map Xf)), ai nn, ai ne]), (130, .row 3 (q.2.map Ye))]⟩) (fun q => L.length - q.1) (0, acc) ⟨Nat.zero_le _, by simpa using hg⟩
  (X6 rfl JM ⟨rfl, rfl, trivial⟩) ?_
 clear hg
 rintro ⟨k, acc2⟩ ⟨hk, hg⟩
 simp only at hk hg
 have hroom := Xbg hg hmax
 have hLm : (L.map Xo).length = L.length := by simp
 by_cases hkl : k < L.length
 case neg =>
  rw [List.drop_of_length_le (by omega)] at hg
  have hg : acc2 ++ TL = T := hg
  have hn2 : ¬ (k : Int) < (L.map Xo).length := by omega
  refine Qgd ?_; refine Qgb ?_; exact Qni
 have hn2 : (k : Int) < (L.map Xo).length := by omega
 obtain ⟨p, hp⟩ := Xs (l := L) hkl
 have hpc : (L.map Xo)[k]? = some (Xo p) := Xx hp
 rw [X8R hp] at hg
 obtain ⟨pa, pb⟩ := p
 simp only [Xo] at hpc hg
 clear hp hxc hox
 have happ : (acc2 ++ [(⟨(i : Nat), pa, pb⟩ : Vio)]).map Ye = acc2.map Ye ++ [Ye ⟨(i : Nat), pa, pb⟩] := by simp
 refine QZc ?_; refine Qz ?_; refine Qq ?_; refine Zy ?_; refine Z0H (n := 2) (sz := 1) (k := 0) ?_; refine Zz ?_; refine Qq ?_; refine Zy ?_; refine Z0H (n := 2) (sz := 1) (k := 1) ?_; refine Zz ?_; refine ZJ ?_; refine Quf ?_
 refine ⟨(k + 1, acc2 ++ [⟨(i : Nat), pa, pb⟩]), ⟨by show k + 1 ≤ L.length; omega, by simpa using hg⟩, by show L.length - (k + 1) < L.length - k; omega, ?_⟩
 dsimp only
 rw [happ]
 exact X6 rfl ⟨JL, JL, AVal.le_of_eq (by refine Eq.trans (b := AVal.own 130 (_ + _)) rfl ?_; simp only [List.length_append, List.length_map, List.length_cons, List.length_nil]), JL, JL, JL, trivial⟩ ⟨rfl, rfl, trivial⟩
theorem XcM (s : List Rul) (g : Gra) (hg : GraHold g) (hs : s.length ≤ 9223372036854775807) : Con Tryz.prog 73 [] [.d (.sl 6 (s.map XI)), Xj g] [] (ai (X1H s g)) := by
 refine Xc (xs := [ai (X1H s g)]) Tryz.func73 rfl Tryz.ntmps73 rfl rfl rfl (fun E => ?_)
 have ha := X7E s g hg hs
 cases hl : U4 s g with
 | nil =>
  rw [Xg4 hl]
  rw [hl] at ha
  clear hg
  obtain ⟨ns, es, nn, ne⟩ := g
  simp only [Xj, List.map_nil] at *
  refine Qjd ?_; refine ZX ?_; refine Zr (hcon := ha) ?_; refine Qi ?_; refine Qrd ?_; refine Qcf ?_
  (show AWP Tryz.prog E _ _ _; refine X1 ?_; exact (show Xd _ _ _ _ _ from ⟨_, St.le_refl _, ⟨rfl, trivial⟩, X3 _⟩))
 | cons v r =>
  obtain ⟨k, x, e, hk, hfi⟩ := XhQ hl
  rw [hfi]
  rw [hl] at ha
  have hfa := XiC x.kind
  have hxc : (s.map XI)[k]? = some (XI x) := Xx hk
  have hkl : k < (s.map XI).length := (List.getElem?_eq_some_iff.1 hxc).1
  generalize X2t x.kind = z at *
  obtain ⟨va, vb, vc⟩ := v
  simp only at e
  subst e
  obtain ⟨rk, rn, rname, rkey, rsrc, rdst⟩ := x
  clear hg hl hk hfi
  obtain ⟨ns, es, nn, ne⟩ := g
  simp only [Xj, List.map_cons, Ye, XI] at *
  have h0 : (([.v (.int .i64 (k : Nat)), .v (.int .i64 vb), .v (.int .i64 vc)] : List D) :: r.map Ye)[0]? = some [.v (.int .i64 (k : Nat)), .v (.int .i64 vb), .v (.int .i64 vc)] := rfl
  have hne : ¬ ((([.v (.int .i64 (k : Nat)), .v (.int .i64 vb), .v (.int .i64 vc)] : List D) :: r.map Ye).length : Int) = 0 := by simp only [List.length_cons]; omega
  generalize hR : ([.v (.int .i64 (k : Nat)), .v (.int .i64 vb), .v (.int .i64 vc)] : List D) :: r.map Ye = R at *
  refine Qjd ?_; refine ZX ?_; refine Zr (hcon := ha) ?_; refine Qi ?_; refine Z3 ?_; refine Qk ?_; refine Qe ?_; refine Qbd ?_; refine Qbd ?_; refine Zr (hcon := hfa) ?_; refine Qb ?_
  (show AWP Tryz.prog E _ _ _; refine X1 ?_; exact (show Xd _ _ _ _ _ from ⟨_, St.le_refl _, ⟨rfl, trivial⟩, X3 _⟩))
def exK : List Prp := [⟨[107], .mk 2 5 0 [] []⟩]
def Ul : Gra := ⟨[⟨1, [[65]], exK⟩, ⟨2, [[65], [66]], exK⟩], [⟨1, 1, 2, [84], []⟩], 3, 2⟩
theorem X28 : GraHold Ul := ⟨by decide, by decide, by
 intro n hn
 have hn : n = ⟨1, [[65]], exK⟩ ∨ n = ⟨2, [[65], [66]], exK⟩ := by simpa [Ul] using hn
 rcases hn with rfl | rfl
 ·refine ⟨by decide, by simp, by decide, ?_⟩
  intro p hp
  obtain rfl : p = ⟨[107], .mk 2 5 0 [] []⟩ := by simpa [exK] using hp
  exact ⟨by decide, by simp [Ym, VW]⟩
 ·refine ⟨by decide, by simp, by decide, ?_⟩
  intro p hp
  obtain rfl : p = ⟨[107], .mk 2 5 0 [] []⟩ := by simpa [exK] using hp
  exact ⟨by decide, by simp [Ym, VW]⟩, by
 intro e he
 obtain rfl : e = ⟨1, 1, 2, [84], []⟩ := by simpa [Ul] using he
 exact ⟨by decide, by decide, by simp⟩⟩
abbrev exU : Rul := ⟨1, 0, [65], [107], [], []⟩
theorem Xd1 : ofS exU Ul = [(1, 2)] := by kernel_rfl
theorem Xgz : ofS ⟨6, 0, [84], [], [66], []⟩ Ul = [(1, 0)] := by kernel_rfl
theorem XdV : ofS ⟨6, 0, [84], [], [65], []⟩ Ul = [] := by kernel_rfl
theorem Xgy : ofS ⟨7, 0, [84], [], [], []⟩ Ul = [(1, 0)] := by kernel_rfl
theorem XfX : U4 [exU] Ul = [⟨0, 1, 2⟩] := by kernel_rfl
theorem Xeg : X1H [exU] Ul = 13 := by kernel_rfl
def X4T (n : Nod) : Bool := decide (n.labels.length ≤ 20 ∧ n.props.length ≤ 20)
def X49 (e : Edg) : Bool := decide (e.props.length ≤ 20)
def X4L (g : Gra) : Bool := if 60 < g.nodes.length ∨ 100 < g.edges.length then false else g.nodes.all X4T && g.edges.all X49
theorem XeT : Con Tryz.prog 71 [] [] [] (Xj Ul) := by
 refine Xc (xs := [Xj Ul]) Tryz.func71 rfl Tryz.ntmps71 rfl rfl rfl (fun E => ?_)
 simp only [Xj, Ul, exK, X9, Xf, X7, Y5, Xa, XG, List.map_cons, List.map_nil]
 refine Qa ?_; refine ZI (γ := 100) ?_; refine JD ?_; refine QBa ?_; refine ZJ ?_; refine Zo ?_; refine Qb ?_; refine X0 ?_; refine Xk (Xr 1 (y := .d (.sl 6 [[.v (.string (X5 [107])), .v (.int .i64 2), .v (.int .i64 5), .v (.int .i64 0), .v (.string (X5 [])), .sl 5 []]])) (AVal.le_d (X9q (Xbr (X01 (X12 _) (X01 (X12 _) (X01 (X12 _) (X01 (X12 _) (X01 (X12 _) (X01 (XbH 5) X9Q)))))) rfl (X9L 6))))) ?_; refine JR ?_; refine Zo ?_; refine Z1 ?_; refine ZJ ?_; refine Zo ?_; refine Z1 ?_; refine ZJ ?_; refine Zo ?_; refine QC ?_; refine ZJ ?_; refine Zo ?_; refine ZJ ?_; refine Qec ?_; exact X1 ⟨_, YU 100 (cs' := [.d (.sl 3 [[.v (.int .i64 1), .sl 1 [[.v (.string (X5 [65]))]], .sl 6 [[.v (.string (X5 [107])), .v (.int .i64 2), .v (.int .i64 5), .v (.int .i64 0), .v (.string (X5 [])), .sl 5 []]]], [.v (.int .i64 2), .sl 1 [[.v (.string (X5 [65]))], [.v (.string (X5 [66]))]], .sl 6 [[.v (.string (X5 [107])), .v (.int .i64 2), .v (.int .i64 5), .v (.int .i64 0), .v (.string (X5 [])), .sl 5 []]]]]), .d (.sl 5 [[.v (.int .i64 1), .v (.int .i64 1), .v (.int .i64 2), .v (.string (X5 [84])), .sl 6 []]]), ai 3, ai 2]) rfl ⟨AVal.le_refl _, AVal.le_d (X9q (Xbr (X01 (X12 _) (X01 (X12 _) (X01 (X12 _) (X01 (X12 _) (X01 (XbH 6) X9Q))))) rfl (X9L 5))), AVal.le_refl _, AVal.le_refl _, trivial⟩ rfl, ⟨⟨100, 0, _, rfl, rfl, .inr ⟨4, _, rfl, rfl, rfl, rfl⟩⟩, trivial⟩, X3 _⟩
theorem XiK : Con Tryz.prog 38 [] [] [] (ab true) := by
 refine Xc (xs := [ab true]) Tryz.func38 rfl Tryz.ntmps38 rfl rfl rfl (fun E => ?_)
 have h0 := XeT
 have h1 := X3X exU Ul X28
 have h2 := X3X ⟨6, 0, [84], [], [66], []⟩ Ul X28
 have h3 := X3X ⟨6, 0, [84], [], [65], []⟩ Ul X28
 have h4 := X3X ⟨7, 0, [84], [], [], []⟩ Ul X28
 have h5 := X7E [exU] Ul X28 (by simp)
 have h6 := XcM [exU] Ul X28 (by simp)
 rw [Xd1] at h1
 rw [Xgz] at h2
 rw [XdV] at h3
 rw [Xgy] at h4
 rw [XfX] at h5
 rw [Xeg] at h6
 simp only [Xj, XU, Xo, Ye, XI, List.map_cons, List.map_nil] at h0 h1 h2 h3 h4 h5 h6
 generalize Ul.nodes.map X9 = X at *
 generalize Ul.edges.map Xf = Y at *
 generalize Ul.nn = nn at *
 generalize Ul.ne = ne at *
 refine Qc ?_; refine QBa ?_; refine ZI (γ := 100) ?_; refine Qec ?_; refine QTc ?_; refine Zr (hcon := h0) ?_; refine QAb ?_; refine Qb ?_; refine QBa ?_; refine Zr (hcon := h0) ?_; refine Zr (hcon := h2) ?_; refine Qb ?_; refine QBa ?_; refine Zr (hcon := h0) ?_; refine Zr (hcon := h3) ?_; refine Qb ?_; refine QBa ?_; refine Zr (hcon := h0) ?_; refine Zr (hcon := h4) ?_; refine Qb ?_; refine QTc ?_; refine Zo ?_; refine Zr (hcon := h0) ?_; refine Zr (hcon := h5) ?_; refine Qb ?_; refine X0 ?_
 clear h1 h2 h3 h4 h5
 refine Xk (X6 (n := 82) (τ := [(1, .ptr 100 0), (2, .d (.sl 2 [[.v (.int .i64 1), .v (.int .i64 2)]])), (3, .d (.sl 2 [[.v (.int .i64 1), .v (.int .i64 0)]])), (4, .d (.sl 2 [])), (5, .d (.sl 2 [[.v (.int .i64 1), .v (.int .i64 0)]])), (6, .d (.sl 3 [[.v (.int .i64 0), .v (.int .i64 1), .v (.int .i64 2)]]))]) (L := [(100, .box [ai 1, ai 0, XC [65], XC [107], XC [], XC []])]) rfl JM ⟨rfl, trivial⟩) ?_; refine Qfb ?_; refine Qrd ?_; refine Qq ?_; refine Qdc ?_; refine ZJ ?_; refine Z0z (us := [.int .i64 1, .int .i64 2]) (vs := [.int .i64 1, .int .i64 2]) (r := true) ?_ (hk := by exact X6b) (hr := by exact X2P [.int .i64 1, .int .i64 2] [.i .i64, .i .i64] rfl); refine Qod ?_; refine Qrd ?_; refine Qod ?_; refine Qdc ?_; refine ZJ ?_; refine Qoi ?_; refine Qod ?_; refine Qrd ?_; refine Qod ?_; refine Qrd ?_; refine Qod ?_; refine Qdc ?_; refine ZJ ?_; refine Qoi ?_; refine Qod ?_; refine Qrd ?_; refine Qod ?_; refine Qdc ?_; refine ZJ ?_; refine Z0z (us := [.int .i64 0, .int .i64 1, .int .i64 2]) (vs := [.int .i64 0, .int .i64 1, .int .i64 2]) (r := true) ?_ (hk := by exact XbC) (hr := by exact X2P [.int .i64 0, .int .i64 1, .int .i64 2] [.i .i64, .i .i64, .i .i64] rfl); refine ZB ?_; refine Qjc ?_; refine Zo ?_; refine Zr (hcon := h0) ?_; refine Zr (hcon := h6) ?_; refine Z4 ?_; refine ZB ?_; refine Z0 ?_
 refine .done (fun _ => by kernel_rfl) ?_
 skip
 exact QX
theorem Xgs (g : Gra) (hg : GraHold g) : Con Tryz.prog 37 [] [Xj g] [] (ab (X4L g)) := by
 refine Xc (xs := [ab (X4L g)]) Tryz.func37 rfl Tryz.ntmps37 rfl rfl rfl (fun E => ?_)
 have hh1 := hg.nl
 have hh2 := hg.el
 clear hg
 obtain ⟨ns, es, nn, ne⟩ := g
 simp only [Xj] at hh1 hh2 ⊢
 have hln : (ns.map X9).length = ns.length := by simp
 have hle : (es.map Xf).length = es.length := by simp
 unfold X4L
 simp only
 by_cases c1 : 60 < ns.length
 ·rw [if_pos (.inl c1)]
  have c1' : (60 : Int) < (ns.map X9).length := by omega
  refine Qnc ?_; refine QZb ?_; refine QW ?_; refine ZB ?_; refine Qcf ?_
  (show AWP Tryz.prog E _ _ _; refine X1 ?_; exact (show Xd _ _ _ _ _ from ⟨_, St.le_refl _, ⟨rfl, trivial⟩, X3 _⟩))
 have c1' : ¬ (60 : Int) < (ns.map X9).length := by omega
 by_cases c2 : 100 < es.length
 ·rw [if_pos (.inr c2)]
  have c2' : (100 : Int) < (es.map Xf).length := by omega
  refine QMf ?_; refine ZE ?_; refine Qcf ?_
  (show AWP Tryz.prog E _ _ _; refine X1 ?_; exact (show Xd _ _ _ _ _ from ⟨_, St.le_refl _, ⟨rfl, trivial⟩, X3 _⟩))
 have c2' : ¬ (100 : Int) < (es.map Xf).length := by omega
 rw [if_neg (fun h => h.elim c1 c2)]
 generalize hFN : ns.all X4T = FN
 generalize hFE : es.all X49 = FE
 refine QMf ?_; refine Qga ?_; refine QZa ?_
 clear c1' c2'
 refine Xz (fun i : Nat => i ≤ ns.length ∧ (ns.drop i).all X4T = FN) (fun i => ⟨55, [(1, .ptr 100 0), (3, ai i)], [(100, .box [.d (.sl 3 (ns.map X9)), .d (.sl 5 (es.map Xf)), ai nn, ai ne])]⟩) (fun i => ns.length - i) 0 ⟨Nat.zero_le _, by simpa using hFN⟩
  (X6 rfl JM ⟨rfl, trivial⟩) ?_
 rintro i ⟨hi, hg⟩
 by_cases hil : i < ns.length
 case pos =>
  have hn : (i : Int) < (ns.map X9).length := by omega
  obtain ⟨x, hx⟩ := Xs (l := ns) hil
  have hxc : (ns.map X9)[i]? = some (X9 x) := Xx hx
  rw [X7D hx] at hg
  obtain ⟨xid, labels, props⟩ := x
  have hlm1 : (labels.map Xa).length = labels.length := by simp
  have hlm2 : (props.map X7).length = props.length := by simp
  simp only [X9] at hxc
  unfold X4T at hg
  simp only at hg
  clear hx hFN
  by_cases d1 : 20 < labels.length
  ·have d1' : (20 : Int) < (labels.map Xa).length := by omega
   obtain rfl : FN = false := by rw [← hg, decide_eq_false (fun h => by omega)]; rfl
   rw [Bool.false_and]
   clear hg
   refine Qzh ?_; refine QZb ?_; refine Qpf ?_; refine ZB ?_; refine Qcf ?_
   (show AWP Tryz.prog E _ _ _; refine X1 ?_; exact (show Xd _ _ _ _ _ from ⟨_, St.le_refl _, ⟨rfl, trivial⟩, X3 _⟩))
  have d1' : ¬ (20 : Int) < (labels.map Xa).length := by omega
  by_cases d2 : 20 < props.length
  ·have d2' : (20 : Int) < (props.map X7).length := by omega
   obtain rfl : FN = false := by rw [← hg, decide_eq_false (fun h => by omega)]; rfl
   rw [Bool.false_and]
   clear hg
   refine Qzh ?_; refine QZb ?_; refine QJd ?_; refine Qbd ?_; refine QZb ?_; refine ZE ?_; refine Qcf ?_
   (show AWP Tryz.prog E _ _ _; refine X1 ?_; exact (show Xd _ _ _ _ _ from ⟨_, St.le_refl _, ⟨rfl, trivial⟩, X3 _⟩))
  have d2' : ¬ (20 : Int) < (props.map X7).length := by omega
  rw [decide_eq_true ⟨by omega, by omega⟩, Bool.true_and] at hg
  refine Qzh ?_; refine QZb ?_; refine QJd ?_; refine Qbd ?_; refine QZb ?_; refine Qhb ?_; exact QVg
 rw [List.drop_of_length_le (by omega), List.all_nil] at hg
 subst hg
 rw [Bool.true_and]
 have hn : ¬ (i : Int) < (ns.map X9).length := by omega
 refine Qgh ?_; refine QZa ?_
 clear hn hFN hi hil
 refine Xz (fun i : Nat => i ≤ es.length ∧ (es.drop i).all X49 = FE) (fun i => ⟨55, [(1, .ptr 100 0), (4, ai i)], [(100, .box [.d (.sl 3 (ns.map X9)), .d (.sl 5 (es.map Xf)), ai nn, ai ne])]⟩) (fun i => es.length - i) 0 ⟨Nat.zero_le _, by simpa using hFE⟩
  (X6 rfl JM ⟨rfl, trivial⟩) ?_
 clear i
 rintro i ⟨hi, hg⟩
 by_cases hil : i < es.length
 case neg =>
  rw [List.drop_of_length_le (by omega), List.all_nil] at hg
  subst hg
  have hn : ¬ (i : Int) < (es.map Xf).length := by omega
  refine Qgh ?_; refine Qc ?_
  (show AWP Tryz.prog E _ _ _; refine X1 ?_; exact (show Xd _ _ _ _ _ from ⟨_, St.le_refl _, ⟨rfl, trivial⟩, X3 _⟩))
 have hn : (i : Int) < (es.map Xf).length := by omega
 obtain ⟨x, hx⟩ := Xs (l := es) hil
 have hxc : (es.map Xf)[i]? = some (Xf x) := Xx hx
 rw [X7D hx] at hg
 obtain ⟨xid, src, dst, typ, props⟩ := x
 have hlm2 : (props.map X7).length = props.length := by simp
 simp only [Xf] at hxc
 unfold X49 at hg
 simp only at hg
 clear hx hFE
 by_cases d2 : 20 < props.length
 ·have d2' : (20 : Int) < (props.map X7).length := by omega
  obtain rfl : FE = false := by rw [← hg, decide_eq_false (fun h => by omega)]; rfl
  clear hg
  refine Qzh ?_; refine QZb ?_; refine Qcf ?_
  (show AWP Tryz.prog E _ _ _; refine X1 ?_; exact (show Xd _ _ _ _ _ from ⟨_, St.le_refl _, ⟨rfl, trivial⟩, X3 _⟩))
 have d2' : ¬ (20 : Int) < (props.map X7).length := by omega
 rw [decide_eq_true (by omega), Bool.true_and] at hg
 refine Qzh ?_; refine QZb ?_; refine Qkb ?_; exact QVg
def X0B (l : List Edg) (id : Int) : Option Edg := l.find? fun e => decide (e.id = id)
abbrev X19 : Edg := ⟨0, 0, 0, [], []⟩
def Uj (e : Edg) : AVal := .agg [ai e.id, ai e.src, ai e.dst, XC e.typ, .d (.sl 6 (e.props.map X7))]
theorem Xct {l : List Edg} {i : Nat} {n : Edg} {id : Int} (h : l[i]? = some n) : X0B (l.drop i) id = if n.id = id then some n else X0B (l.drop (i + 1)) id := by
 obtain ⟨hi, h⟩ := List.getElem?_eq_some_iff.1 h
 unfold X0B
 rw [List.drop_eq_getElem_cons hi, h, List.find?_cons]
 by_cases q : n.id = id <;> simp [q]
theorem Xis (g : Gra) (id : Int) (hl : g.edges.length ≤ 9223372036854775807) : Con Tryz.prog 112 [] [Xj g, ai id] [] (.tup [Uj ((X0B g.edges id).getD X19), ab (X0B g.edges id).isSome]) := by
 refine Xc (xs := [Uj ((X0B g.edges id).getD X19), ab (X0B g.edges id).isSome]) Tryz.func112 rfl Tryz.ntmps112 rfl rfl rfl (fun E => ?_)
 obtain ⟨ns, es, nn, ne⟩ := g
 unfold Xj
 simp only at hl ⊢
 generalize hG : X0B es id = G
 refine Qoe ?_; refine Qb ?_; refine QZa ?_
 refine Xz (fun i : Nat => i ≤ es.length ∧ X0B (es.drop i) id = G) (fun i => ⟨28, [(1, ai id), (2, .ptr 100 0), (4, .ptr 101 0), (6, ai i)], [(100, .box [.d (.sl 3 (ns.map X9)), .d (.sl 5 (es.map Xf)), ai nn, ai ne]), (101, .box [ai 0, ai 0, ai 0, XC [], ani])]⟩) (fun i => es.length - i) 0 ⟨Nat.zero_le _, by simpa using hG⟩
  (X6 rfl JM ⟨rfl, rfl, trivial⟩) ?_
 rintro i ⟨hi, hg⟩
 by_cases hil : i < es.length
 case neg =>
  have hn : ¬ (i : Int) < (es.map Xf).length := by rw [List.length_map]; omega
  rw [List.drop_of_length_le (by omega)] at hg
  have hg : none = G := hg
  subst hg
  simp only [Option.getD_none, Option.isSome_none, X19, Uj, List.map_nil]
  refine Qgh ?_; refine QDa ?_
  (show AWP Tryz.prog E _ _ _; refine X1 ?_; exact (show Xd _ _ _ _ _ from ⟨_, YU 101 (cs' := [ai 0, ai 0, ai 0, XC [], .d (.sl 6 [])]) rfl JM rfl, ⟨⟨101, 0, _, rfl, rfl, .inr ⟨5, _, rfl, rfl, rfl, rfl⟩⟩, rfl, trivial⟩, X3 _⟩))
 have hn : (i : Int) < (es.map Xf).length := by rw [List.length_map]; omega
 obtain ⟨x, hx⟩ := Xs (l := es) hil
 have hxc : (es.map Xf)[i]? = some (Xf x) := Xx hx
 rw [Xct hx] at hg
 obtain ⟨xid, src, dst, typ, props⟩ := x
 simp only [Xf] at hxc hg
 clear hx
 by_cases hq : xid = id
 ·rw [if_pos hq] at hg
  subst hg
  subst hq
  simp only [Option.getD_some, Option.isSome_some, Uj]
  refine QAh ?_
  (show AWP Tryz.prog E _ _ _; refine X1 ?_; exact (show Xd _ _ _ _ _ from ⟨_, St.le_refl _, ⟨⟨101, 0, _, rfl, rfl, .inr ⟨5, _, rfl, rfl, rfl, rfl⟩⟩, rfl, trivial⟩, X3 _⟩))
 rw [if_neg hq] at hg
 exact QBh
end Go.Fw
