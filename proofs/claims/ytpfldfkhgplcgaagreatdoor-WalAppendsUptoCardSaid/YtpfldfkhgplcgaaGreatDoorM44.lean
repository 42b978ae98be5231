/- Changes and rules put: the reference's. -/
import Derived.Test.YtpfldfkhgplcgaaGreatDoorM32
import Derived.Test.YtpfldfkhgplcgaaGreatDoorM42
import Derived.Test.YtpfldfkhgplcgaaGreatDoorM43
set_option maxHeartbeats 16000000
namespace Go.Fw
open Go Go.Proofs
set_option maxRecDepth 100000
set_option linter.unusedVariables false
set_option linter.unusedSimpArgs false
theorem Xfw (c : Chg) (hok : YD c.v) : Con Tryz.prog 128 [] [Ye c] [] (.d (Xf (X6c c))) := by
 have hc := XaV c hok
 unfold X6c
 by_cases h : YM c = 0
 case neg =>
  rw [if_neg h]
  refine Xa (xs := [.d (Xf [])]) Tryz.func128 rfl Tryz.ntmps128 rfl rfl rfl (fun E => ?_)
  generalize YM c = e at *
  obtain ⟨op, id, src, dst, name, ⟨k, n, d, s, l⟩⟩ := c
  simp only [Ye] at *
  exact QPd
 rw [if_pos h]
 rw [h] at hc
 obtain ⟨⟨hop1, hop2⟩, hid, hsd, hnm, hvl⟩ := X4H h
 obtain ⟨op, id, src, dst, name, v⟩ := c
 simp only at hop1 hop2 hid hsd hnm hvl hok
 have hpi := X22 id (by omega)
 have hli : (Xh id).length ≤ 10 := by rw [Vl (by omega)]; exact Vo (by omega)
 have hf := Xde op
 have hw := Xcc op
 clear h
 by_cases k1 : op = 1
 ·subst k1
  rw [show XV 1 = false from rfl] at hf
  rw [show XQ 1 = false from rfl] at hw
  clear hop1 hop2
  have hput : Ya ⟨1, id, src, dst, name, v⟩ = UInt8.ofNat 1 :: (Xh id) := by unfold Ya; simp [XV, XQ]
  rw [hput]
  clear hput hok
  generalize Xh id = w0 at *
  obtain ⟨vk, vn, vd, vs, vl⟩ := v
  simp only [Ye, Xo] at *
  refine Xa (xs := [.d (Xf (UInt8.ofNat 1 :: (w0)))]) Tryz.func128 rfl Tryz.ntmps128 rfl rfl rfl (fun E => ?_)
  repeat first | refine X0 ?_ | (refine JR ?_; (repeat first | refine Z3 (u := nj 1) (r := n8 1) ?_ (hr := by exact Y6 rfl rfl) | refine ZZ (γ := 130) ?_ | refine Z1 ?_ | refine Z0 ?_ | refine ZB ?_ | refine ZC ?_ | refine ZL ?_ | refine Zl ?_ | refine Zv ?_ | refine ZA (γ := 100) ?_ | refine Z6 ?_ | refine Z9 (hcon := hc) ?_ | refine Z9 (hcon := hf) ?_ | refine Z9 (hcon := hw) ?_ | refine Z9 (hcon := hpi) ?_); refine JD ?_) | refine JF ?_ | refine X4 ?_
  refine QRd ?_; exact X1 ⟨_, Xb 2 (y := .d (Xf (UInt8.ofNat 1 :: (w0)))) (AVal.le_of_eq (by refine Eq.trans (b := AVal.d (.sl 1 (_))) rfl ?_; show _ = AVal.d (.sl 1 ((UInt8.ofNat 1 :: (w0)).map X6)); simp only [List.map_append, List.map_cons, List.map_nil, List.append_assoc, List.cons_append, List.nil_append] <;> rfl)), ⟨rfl, trivial⟩, X3 _⟩
 by_cases k2 : op = 2
 ·subst k2
  rw [show XV 2 = false from rfl] at hf
  rw [show XQ 2 = false from rfl] at hw
  clear hop1 hop2
  have hput : Ya ⟨2, id, src, dst, name, v⟩ = UInt8.ofNat 2 :: (Xh id) := by unfold Ya; simp [XV, XQ]
  rw [hput]
  clear hput hok
  generalize Xh id = w0 at *
  obtain ⟨vk, vn, vd, vs, vl⟩ := v
  simp only [Ye, Xo] at *
  refine Xa (xs := [.d (Xf (UInt8.ofNat 2 :: (w0)))]) Tryz.func128 rfl Tryz.ntmps128 rfl rfl rfl (fun E => ?_)
  repeat first | refine X0 ?_ | (refine JR ?_; (repeat first | refine Z3 (u := nj 2) (r := n8 2) ?_ (hr := by exact Y6 rfl rfl) | refine ZZ (γ := 130) ?_ | refine Z1 ?_ | refine Z0 ?_ | refine ZB ?_ | refine ZC ?_ | refine ZL ?_ | refine Zl ?_ | refine Zv ?_ | refine ZA (γ := 100) ?_ | refine Z6 ?_ | refine Z9 (hcon := hc) ?_ | refine Z9 (hcon := hf) ?_ | refine Z9 (hcon := hw) ?_ | refine Z9 (hcon := hpi) ?_); refine JD ?_) | refine JF ?_ | refine X4 ?_
  refine QRd ?_; exact X1 ⟨_, Xb 2 (y := .d (Xf (UInt8.ofNat 2 :: (w0)))) (AVal.le_of_eq (by refine Eq.trans (b := AVal.d (.sl 1 (_))) rfl ?_; show _ = AVal.d (.sl 1 ((UInt8.ofNat 2 :: (w0)).map X6)); simp only [List.map_append, List.map_cons, List.map_nil, List.append_assoc, List.cons_append, List.nil_append] <;> rfl)), ⟨rfl, trivial⟩, X3 _⟩
 by_cases k3 : op = 3
 ·subst k3
  rw [show XV 3 = true from rfl] at hf
  rw [show XQ 3 = false from rfl] at hw
  clear hop1 hop2
  have hnm := hnm rfl
  have hpn := X0J name (by omega)
  have hln := Vk hnm
  have hput : Ya ⟨3, id, src, dst, name, v⟩ = UInt8.ofNat 3 :: (Xh id ++ Xw name) := by unfold Ya; simp [XV, XQ]
  rw [hput]
  clear hput hok
  generalize Xh id = w0 at *
  generalize Xw name = w1 at *
  obtain ⟨vk, vn, vd, vs, vl⟩ := v
  simp only [Ye, Xo] at *
  refine Xa (xs := [.d (Xf (UInt8.ofNat 3 :: (w0 ++ w1)))]) Tryz.func128 rfl Tryz.ntmps128 rfl rfl rfl (fun E => ?_)
  repeat first | refine X0 ?_ | (refine JR ?_; (repeat first | refine Z3 (u := nj 3) (r := n8 3) ?_ (hr := by exact Y6 rfl rfl) | refine ZZ (γ := 130) ?_ | refine Z1 ?_ | refine Z0 ?_ | refine ZB ?_ | refine ZC ?_ | refine ZL ?_ | refine Zl ?_ | refine Zv ?_ | refine ZA (γ := 100) ?_ | refine Z6 ?_ | refine Z9 (hcon := hc) ?_ | refine Z9 (hcon := hf) ?_ | refine Z9 (hcon := hw) ?_ | refine Z9 (hcon := hpi) ?_ | refine Z9 (hcon := hpn) ?_); refine JD ?_) | refine JT ?_ | refine JF ?_ | refine X4 ?_
  refine QRd ?_; exact X1 ⟨_, Xb 2 (y := .d (Xf (UInt8.ofNat 3 :: (w0 ++ w1)))) (AVal.le_of_eq (by refine Eq.trans (b := AVal.d (.sl 1 (_))) rfl ?_; show _ = AVal.d (.sl 1 ((UInt8.ofNat 3 :: (w0 ++ w1)).map X6)); simp only [List.map_append, List.map_cons, List.map_nil, List.append_assoc, List.cons_append, List.nil_append] <;> rfl)), ⟨rfl, trivial⟩, X3 _⟩
 by_cases k4 : op = 4
 ·subst k4
  rw [show XV 4 = true from rfl] at hf
  rw [show XQ 4 = false from rfl] at hw
  clear hop1 hop2
  have hnm := hnm rfl
  have hpn := X0J name (by omega)
  have hln := Vk hnm
  have hput : Ya ⟨4, id, src, dst, name, v⟩ = UInt8.ofNat 4 :: (Xh id ++ Xw name) := by unfold Ya; simp [XV, XQ]
  rw [hput]
  clear hput hok
  generalize Xh id = w0 at *
  generalize Xw name = w1 at *
  obtain ⟨vk, vn, vd, vs, vl⟩ := v
  simp only [Ye, Xo] at *
  refine Xa (xs := [.d (Xf (UInt8.ofNat 4 :: (w0 ++ w1)))]) Tryz.func128 rfl Tryz.ntmps128 rfl rfl rfl (fun E => ?_)
  repeat first | refine X0 ?_ | (refine JR ?_; (repeat first | refine Z3 (u := nj 4) (r := n8 4) ?_ (hr := by exact Y6 rfl rfl) | refine ZZ (γ := 130) ?_ | refine Z1 ?_ | refine Z0 ?_ | refine ZB ?_ | refine ZC ?_ | refine ZL ?_ | refine Zl ?_ | refine Zv ?_ | refine ZA (γ := 100) ?_ | refine Z6 ?_ | refine Z9 (hcon := hc) ?_ | refine Z9 (hcon := hf) ?_ | refine Z9 (hcon := hw) ?_ | refine Z9 (hcon := hpi) ?_ | refine Z9 (hcon := hpn) ?_); refine JD ?_) | refine JT ?_ | refine JF ?_ | refine X4 ?_
  refine QRd ?_; exact X1 ⟨_, Xb 2 (y := .d (Xf (UInt8.ofNat 4 :: (w0 ++ w1)))) (AVal.le_of_eq (by refine Eq.trans (b := AVal.d (.sl 1 (_))) rfl ?_; show _ = AVal.d (.sl 1 ((UInt8.ofNat 4 :: (w0 ++ w1)).map X6)); simp only [List.map_append, List.map_cons, List.map_nil, List.append_assoc, List.cons_append, List.nil_append] <;> rfl)), ⟨rfl, trivial⟩, X3 _⟩
 by_cases k5 : op = 5
 ·subst k5
  rw [show XV 5 = true from rfl] at hf
  rw [show XQ 5 = true from rfl] at hw
  clear hop1 hop2
  have hnm := hnm rfl
  have hpn := X0J name (by omega)
  have hln := Vk hnm
  have hvl := hvl rfl
  have hpv := X5A v hok (by omega)
  unfold X1F at hpv
  have hlv : (Ym v).length ≤ 111 := by
   unfold Ym
   rw [if_pos hvl.1]
   exact hvl.2
  have hput : Ya ⟨5, id, src, dst, name, v⟩ = UInt8.ofNat 5 :: (Xh id ++ Xw name ++ Ym v) := by unfold Ya; simp [XV, XQ]
  rw [hput]
  clear hput hok
  generalize Xh id = w0 at *
  generalize Xw name = w1 at *
  generalize Ym v = w2 at *
  obtain ⟨vk, vn, vd, vs, vl⟩ := v
  simp only [Ye, Xo] at *
  refine Xa (xs := [.d (Xf (UInt8.ofNat 5 :: (w0 ++ w1 ++ w2)))]) Tryz.func128 rfl Tryz.ntmps128 rfl rfl rfl (fun E => ?_)
  repeat first | refine X0 ?_ | (refine JR ?_; (repeat first | refine Z3 (u := nj 5) (r := n8 5) ?_ (hr := by exact Y6 rfl rfl) | refine ZZ (γ := 130) ?_ | refine Z1 ?_ | refine Z0 ?_ | refine ZB ?_ | refine ZC ?_ | refine ZL ?_ | refine Zl ?_ | refine Zv ?_ | refine ZA (γ := 100) ?_ | refine Z6 ?_ | refine Z9 (hcon := hc) ?_ | refine Z9 (hcon := hf) ?_ | refine Z9 (hcon := hw) ?_ | refine Z9 (hcon := hpi) ?_ | refine Z9 (hcon := hpn) ?_ | refine Z9 (hcon := hpv) ?_); refine JD ?_) | refine JT ?_ | refine JF ?_ | refine X4 ?_
  refine QRd ?_; exact X1 ⟨_, Xb 2 (y := .d (Xf (UInt8.ofNat 5 :: (w0 ++ w1 ++ w2)))) (AVal.le_of_eq (by refine Eq.trans (b := AVal.d (.sl 1 (_))) rfl ?_; show _ = AVal.d (.sl 1 ((UInt8.ofNat 5 :: (w0 ++ w1 ++ w2)).map X6)); simp only [List.map_append, List.map_cons, List.map_nil, List.append_assoc, List.cons_append, List.nil_append] <;> rfl)), ⟨rfl, trivial⟩, X3 _⟩
 by_cases k6 : op = 6
 ·subst k6
  rw [show XV 6 = true from rfl] at hf
  rw [show XQ 6 = false from rfl] at hw
  clear hop1 hop2
  have hsd := hsd rfl
  have hps := X22 src (by omega)
  have hpd := X22 dst (by omega)
  have hls : (Xh src).length ≤ 10 := by rw [Vl (by omega)]; exact Vo (by omega)
  have hld : (Xh dst).length ≤ 10 := by rw [Vl (by omega)]; exact Vo (by omega)
  have hnm := hnm rfl
  have hpn := X0J name (by omega)
  have hln := Vk hnm
  have hput : Ya ⟨6, id, src, dst, name, v⟩ = UInt8.ofNat 6 :: (Xh id ++ Xh src ++ Xh dst ++ Xw name) := by unfold Ya; simp [XV, XQ]
  rw [hput]
  clear hput hok
  generalize Xh id = w0 at *
  generalize Xh src = w1 at *
  generalize Xh dst = w2 at *
  generalize Xw name = w3 at *
  obtain ⟨vk, vn, vd, vs, vl⟩ := v
  simp only [Ye, Xo] at *
  refine Xa (xs := [.d (Xf (UInt8.ofNat 6 :: (w0 ++ w1 ++ w2 ++ w3)))]) Tryz.func128 rfl Tryz.ntmps128 rfl rfl rfl (fun E => ?_)
  repeat first | refine X0 ?_ | (refine JR ?_; (repeat first | refine Z3 (u := nj 6) (r := n8 6) ?_ (hr := by exact Y6 rfl rfl) | refine ZZ (γ := 130) ?_ | refine Z1 ?_ | refine Z0 ?_ | refine ZB ?_ | refine ZC ?_ | refine ZL ?_ | refine Zl ?_ | refine Zv ?_ | refine ZA (γ := 100) ?_ | refine Z6 ?_ | refine Z9 (hcon := hc) ?_ | refine Z9 (hcon := hf) ?_ | refine Z9 (hcon := hw) ?_ | refine Z9 (hcon := hpi) ?_ | refine Z9 (hcon := hps) ?_ | refine Z9 (hcon := hpd) ?_ | refine Z9 (hcon := hpn) ?_); refine JD ?_) | refine JT ?_ | refine JF ?_ | refine X4 ?_
  refine QRd ?_; exact X1 ⟨_, Xb 2 (y := .d (Xf (UInt8.ofNat 6 :: (w0 ++ w1 ++ w2 ++ w3)))) (AVal.le_of_eq (by refine Eq.trans (b := AVal.d (.sl 1 (_))) rfl ?_; show _ = AVal.d (.sl 1 ((UInt8.ofNat 6 :: (w0 ++ w1 ++ w2 ++ w3)).map X6)); simp only [List.map_append, List.map_cons, List.map_nil, List.append_assoc, List.cons_append, List.nil_append] <;> rfl)), ⟨rfl, trivial⟩, X3 _⟩
 by_cases k7 : op = 7
 ·subst k7
  rw [show XV 7 = false from rfl] at hf
  rw [show XQ 7 = false from rfl] at hw
  clear hop1 hop2
  have hput : Ya ⟨7, id, src, dst, name, v⟩ = UInt8.ofNat 7 :: (Xh id) := by unfold Ya; simp [XV, XQ]
  rw [hput]
  clear hput hok
  generalize Xh id = w0 at *
  obtain ⟨vk, vn, vd, vs, vl⟩ := v
  simp only [Ye, Xo] at *
  refine Xa (xs := [.d (Xf (UInt8.ofNat 7 :: (w0)))]) Tryz.func128 rfl Tryz.ntmps128 rfl rfl rfl (fun E => ?_)
  repeat first | refine X0 ?_ | (refine JR ?_; (repeat first | refine Z3 (u := nj 7) (r := n8 7) ?_ (hr := by exact Y6 rfl rfl) | refine ZZ (γ := 130) ?_ | refine Z1 ?_ | refine Z0 ?_ | refine ZB ?_ | refine ZC ?_ | refine ZL ?_ | refine Zl ?_ | refine Zv ?_ | refine ZA (γ := 100) ?_ | refine Z6 ?_ | refine Z9 (hcon := hc) ?_ | refine Z9 (hcon := hf) ?_ | refine Z9 (hcon := hw) ?_ | refine Z9 (hcon := hpi) ?_); refine JD ?_) | refine JF ?_ | refine X4 ?_
  refine QRd ?_; exact X1 ⟨_, Xb 2 (y := .d (Xf (UInt8.ofNat 7 :: (w0)))) (AVal.le_of_eq (by refine Eq.trans (b := AVal.d (.sl 1 (_))) rfl ?_; show _ = AVal.d (.sl 1 ((UInt8.ofNat 7 :: (w0)).map X6)); simp only [List.map_append, List.map_cons, List.map_nil, List.append_assoc, List.cons_append, List.nil_append] <;> rfl)), ⟨rfl, trivial⟩, X3 _⟩
 by_cases k8 : op = 8
 ·subst k8
  rw [show XV 8 = true from rfl] at hf
  rw [show XQ 8 = true from rfl] at hw
  clear hop1 hop2
  have hnm := hnm rfl
  have hpn := X0J name (by omega)
  have hln := Vk hnm
  have hvl := hvl rfl
  have hpv := X5A v hok (by omega)
  unfold X1F at hpv
  have hlv : (Ym v).length ≤ 111 := by
   unfold Ym
   rw [if_pos hvl.1]
   exact hvl.2
  have hput : Ya ⟨8, id, src, dst, name, v⟩ = UInt8.ofNat 8 :: (Xh id ++ Xw name ++ Ym v) := by unfold Ya; simp [XV, XQ]
  rw [hput]
  clear hput hok
  generalize Xh id = w0 at *
  generalize Xw name = w1 at *
  generalize Ym v = w2 at *
  obtain ⟨vk, vn, vd, vs, vl⟩ := v
  simp only [Ye, Xo] at *
  refine Xa (xs := [.d (Xf (UInt8.ofNat 8 :: (w0 ++ w1 ++ w2)))]) Tryz.func128 rfl Tryz.ntmps128 rfl rfl rfl (fun E => ?_)
  repeat first | refine X0 ?_ | (refine JR ?_; (repeat first | refine Z3 (u := nj 8) (r := n8 8) ?_ (hr := by exact Y6 rfl rfl) | refine ZZ (γ := 130) ?_ | refine Z1 ?_ | refine Z0 ?_ | refine ZB ?_ | refine ZC ?_ | refine ZL ?_ | refine Zl ?_ | refine Zv ?_ | refine ZA (γ := 100) ?_ | refine Z6 ?_ | refine Z9 (hcon := hc) ?_ | refine Z9 (hcon := hf) ?_ | refine Z9 (hcon := hw) ?_ | refine Z9 (hcon := hpi) ?_ | refine Z9 (hcon := hpn) ?_ | refine Z9 (hcon := hpv) ?_); refine JD ?_) | refine JT ?_ | refine JF ?_ | refine X4 ?_
  refine QRd ?_; exact X1 ⟨_, Xb 2 (y := .d (Xf (UInt8.ofNat 8 :: (w0 ++ w1 ++ w2)))) (AVal.le_of_eq (by refine Eq.trans (b := AVal.d (.sl 1 (_))) rfl ?_; show _ = AVal.d (.sl 1 ((UInt8.ofNat 8 :: (w0 ++ w1 ++ w2)).map X6)); simp only [List.map_append, List.map_cons, List.map_nil, List.append_assoc, List.cons_append, List.nil_append] <;> rfl)), ⟨rfl, trivial⟩, X3 _⟩
 omega
theorem Xgv (r : Rul) : Con Tryz.prog 129 [] [Uv r] [] (.d (Xf (X6Y r))) := by
 have hc := Xa5 r
 unfold X6Y
 by_cases h : V2 r = 0
 case neg =>
  rw [if_neg h]
  refine Xa (xs := [.d (Xf [])]) Tryz.func129 rfl Tryz.ntmps129 rfl rfl rfl (fun E => ?_)
  generalize V2 r = e at *
  obtain ⟨k, n, name, key, src, dst⟩ := r
  simp only [Uv] at *
  exact QPd
 rw [if_pos h]
 rw [h] at hc
 obtain ⟨hn, ⟨l1, l2, l3, l4⟩, hk⟩ := X2o h
 obtain ⟨k, n, name, key, src, dst⟩ := r
 simp only at hn l1 l2 l3 l4 hk
 obtain ⟨m, rfl⟩ : ∃ m : Nat, k = m := ⟨k.toNat, by omega⟩
 have e8 : n8 (m % 256) = n8 (UInt8.ofNat m).toNat := by rw [UZ (by omega), Nat.mod_eq_of_lt (by omega)]
 have p1 := X0J name (by omega)
 have p2 := X0J key (by omega)
 have p3 := X0J src (by omega)
 have p4 := X0J dst (by omega)
 have p5 := X1U n hn
 have q1 := Vk l1
 have q2 := Vk l2
 have q3 := Vk l3
 have q4 := Vk l4
 have q5 := X2r hn
 have hput : Ua ⟨m, n, name, key, src, dst⟩ = UInt8.ofNat m :: (Xw name ++ Xw key ++ Xw src ++ Xw dst ++ XS n) := rfl
 rw [hput]
 clear hput h
 generalize Xw name = w0 at *
 generalize Xw key = w1 at *
 generalize Xw src = w2 at *
 generalize Xw dst = w3 at *
 generalize XS n = w4 at *
 simp only [Uv] at *
 refine Xa (xs := [.d (Xf (UInt8.ofNat m :: (w0 ++ w1 ++ w2 ++ w3 ++ w4)))]) Tryz.func129 rfl Tryz.ntmps129 rfl rfl rfl (fun E => ?_)
 repeat first | refine X0 ?_ | (refine JR ?_; (repeat first | refine Z3 (u := nj m) (r := n8 (UInt8.ofNat m).toNat) ?_ (hr := by exact by rw [← e8]; exact Y6 rfl rfl) | refine ZZ (γ := 130) ?_ | refine Z1 ?_ | refine Z0 ?_ | refine ZB ?_ | refine ZC ?_ | refine ZL ?_ | refine Zv ?_ | refine ZA (γ := 100) ?_ | refine Z6 ?_ | refine Z9 (hcon := hc) ?_ | refine Z9 (hcon := p1) ?_ | refine Z9 (hcon := p2) ?_ | refine Z9 (hcon := p3) ?_ | refine Z9 (hcon := p4) ?_ | refine Z9 (hcon := p5) ?_); refine JD ?_) | refine JF ?_ | refine X4 ?_
 refine QRd ?_; exact X1 ⟨_, Xb 2 (y := .d (Xf (UInt8.ofNat m :: (w0 ++ w1 ++ w2 ++ w3 ++ w4)))) (AVal.le_of_eq (by refine Eq.trans (b := AVal.d (.sl 1 (_))) rfl ?_; show _ = AVal.d (.sl 1 ((UInt8.ofNat m :: (w0 ++ w1 ++ w2 ++ w3 ++ w4)).map X6)); simp only [List.map_append, List.map_cons, List.map_nil, List.append_assoc, List.cons_append, List.nil_append] <;> rfl)), ⟨rfl, trivial⟩, X3 _⟩
theorem X8a (r : Rcd) (hok : Vx r) : Con Tryz.prog 67 [] [Yz r] [] (ai (Yy r)) := by
 obtain ⟨kd, ts, l, ⟨k, n, name, key, src, dst⟩, off⟩ := r
 obtain ⟨hlen, hch⟩ := hok
 simp only at hlen hch
 have hlm : (l.map XT).length = l.length := by simp
 refine Xa (xs := [ai (Yy ⟨kd, ts, l, ⟨k, n, name, key, src, dst⟩, off⟩)]) Tryz.func67 rfl Tryz.ntmps67 rfl rfl rfl (fun E => ?_)
 have hz := eqZ k n name key src dst
 have hr := Xa5 ⟨k, n, name, key, src, dst⟩
 unfold Yy
 simp only [Yz, Uv] at hr ⊢
 generalize X0G ⟨k, n, name, key, src, dst⟩ = z at *
 generalize V2 ⟨k, n, name, key, src, dst⟩ = re at *
 by_cases h1 : ¬ (1 ≤ kd ∧ kd ≤ 3 ∧ 0 ≤ ts ∧ ts ≤ 1000000000000000)
 ·rw [if_pos h1]
  refine QAb ?_; refine Z8 ?_; refine Z1 ?_; refine XR rfl rfl (fun hq => ?_) (fun hq => ?_); refine QSc ?_; refine QQa ?_; exact QRa; refine QHa ?_; refine Qba ?_; refine Z1 ?_; refine XR rfl rfl (fun hq => ?_) (fun hq => ?_); refine QSc ?_; exact QRa; refine QHa ?_; refine Z8 ?_; refine Zq ?_; refine Z1 ?_; refine XR rfl rfl (fun hq => ?_) (fun hq => ?_); refine QSc ?_; exact Qea; refine QHa ?_; exact QTa
 rw [if_neg h1]
 by_cases h2 : (kd ≠ 1 ∧ 0 < l.length) ∨ (kd ≠ 2 ∧ (off = true ∨ z = false))
 ·rw [if_pos h2]
  refine QAb ?_; refine Z8 ?_; refine QKa ?_; refine Qba ?_; refine QKa ?_; refine Z8 ?_; refine QAc ?_; refine Zs ?_; refine QGd ?_; refine Zv ?_; refine Z1 ?_; refine XR rfl rfl (fun hq => ?_) (fun hq => ?_); refine QHd ?_; refine Zs ?_; refine QEc ?_; refine XR rfl rfl (fun hq => ?_) (fun hq => ?_); refine QGc ?_; refine QQc ?_; refine QRc ?_; exact Qea; refine QTc ?_; refine Z1 ?_; refine QJd ?_; refine Z1 ?_; refine Yg rfl rfl (fun hq => ?_) (fun hq => ?_); refine QHa ?_; refine QKd ?_; refine VB rfl (fun hq => ?_) (fun hq => ?_); exact Qia; refine QLd ?_; refine Qqb ?_; refine Qib ?_; (exfalso; clear hr hz; simp_all <;> omega); refine QQ ?_; refine Zn ?_; exact QId; refine QGc ?_; refine QAc ?_; refine Zv ?_; refine Z1 ?_; refine QJd ?_; refine Z1 ?_; refine Yg rfl rfl (fun hq => ?_) (fun hq => ?_); refine QHa ?_; refine QKd ?_; refine VB rfl (fun hq => ?_) (fun hq => ?_); exact Qia; refine QLd ?_; refine Qqb ?_; refine Qib ?_; (exfalso; clear hr hz; simp_all <;> omega); refine QQ ?_; refine Zn ?_; exact QId
 rw [if_neg h2]
 by_cases h3 : kd = 2
 ·subst h3
  rw [if_pos rfl]
  have h4 : ¬ 0 < l.length := by omega
  repeat first | refine X0 ?_ | (refine JR ?_; (repeat first | refine Z1 ?_ | refine Z0 ?_ | refine ZB ?_ | refine ZC ?_ | refine ZL ?_ | refine Zd ?_ | refine Z8 ?_ | refine Zs ?_ | refine Zl ?_ | refine Zv ?_ | refine ZA (γ := 100) ?_ | refine Zn ?_ | refine Zq ?_ | refine Zo ?_ | refine Zp ?_ | refine Z9 (hcon := hr) ?_); refine JD ?_) | refine JT ?_ | refine JF ?_ | refine X4 ?_
  exact QN
 rw [if_neg h3]
 have hoz : off = false ∧ z = true := by cases off <;> cases z <;> simp_all
 obtain ⟨ho, hz1⟩ := hoz
 have hk : kd = 1 ∨ (kd = 3 ∧ ¬ 0 < l.length) := by omega
 rcases hk with hk1 | ⟨hk1, hn0⟩
 case inr =>
  obtain rfl : l = [] := List.eq_nil_of_length_eq_zero (by omega)
  clear h2 hlm hch hlen
  repeat first | refine X0 ?_ | (refine JR ?_; (repeat first | refine Z06 (us := [.int .i64 k, .int .i64 n, .string (X7 name), .string (X7 key), .string (X7 src), .string (X7 dst)]) (vs := [.int .i64 0, .int .i64 0, .string (X7 []), .string (X7 []), .string (X7 []), .string (X7 [])]) (r := z) ?_ (hk := by exact X11) (hr := by exact hz) | refine Z1 ?_ | refine Z0 ?_ | refine ZB ?_ | refine ZC ?_ | refine ZL ?_ | refine Zd ?_ | refine Z8 ?_ | refine Zs ?_ | refine Zl ?_ | refine Zv ?_ | refine ZA (γ := 100) ?_ | refine Zx ?_ | refine Zn ?_ | refine Zq ?_); refine JD ?_) | refine JF ?_ | refine X5 ?_ | refine X4 ?_
  refine Xu (ι := Nat) (fun i => i = 0) (fun i => ⟨73, [(1, .ptr 100 0), (3, ai i)], [(100, .box [ai kd, ai ts, .d (.sl 10 []), ai k, ai n, Xc name, Xc key, Xc src, Xc dst, ab off])]⟩) (fun i => 0) 0 rfl
   (X9 rfl JM ⟨rfl, trivial⟩) ?_
  rintro i rfl
  refine QVe ?_; exact QNd
 generalize hG : UD l = G
 repeat first | refine X0 ?_ | (refine JR ?_; (repeat first | refine Z06 (us := [.int .i64 k, .int .i64 n, .string (X7 name), .string (X7 key), .string (X7 src), .string (X7 dst)]) (vs := [.int .i64 0, .int .i64 0, .string (X7 []), .string (X7 []), .string (X7 []), .string (X7 [])]) (r := z) ?_ (hk := by exact X11) (hr := by exact hz) | refine Z1 ?_ | refine Z0 ?_ | refine ZB ?_ | refine ZC ?_ | refine ZL ?_ | refine Z8 ?_ | refine Zs ?_ | refine Zl ?_ | refine Zv ?_ | refine ZA (γ := 100) ?_ | refine Zx ?_ | refine Zn ?_ | refine Zq ?_ | refine Zo ?_); refine JD ?_) | refine JF ?_ | refine X5 ?_ | refine X4 ?_
 refine Xu (ι := Nat) (fun i => i ≤ l.length ∧ UD (l.drop i) = G) (fun i => ⟨73, [(1, .ptr 100 0), (3, ai i)], [(100, .box [ai kd, ai ts, .d (.sl 10 (l.map XT)), ai k, ai n, Xc name, Xc key, Xc src, Xc dst, ab off])]⟩) (fun i => l.length - i) 0 ⟨by omega, hG⟩
  (X9 rfl JM ⟨rfl, trivial⟩) ?_
 rintro i ⟨hi, hg⟩
 by_cases hil : i < l.length
 case neg =>
  obtain rfl : i = l.length := by omega
  rw [List.drop_length, UD] at hg
  subst hg
  rw [if_neg (by simp)]
  have hn : ¬ ((l.length : Nat) : Int) < (l.map XT).length := by omega
  by_cases hb : 1000 < l.length
  ·rw [if_pos hb]
   refine QVe ?_; refine Qzb ?_; refine QUa ?_; exact Qea
  ·rw [if_neg hb]
   refine QVe ?_; exact QNd
 have hn : (i : Int) < (l.map XT).length := by omega
 obtain ⟨x, hx⟩ := Xx (l := l) hil
 have hxc : (l.map XT)[i]? = some (XT x) := YR hx
 have hxo := hch x (List.mem_of_getElem? hx)
 have hcall := XaV x hxo.2
 rw [X7O hx] at hg
 generalize YM x = e at *
 obtain ⟨op, id, xsrc, xdst, xname, ⟨xk, xn, xd, xs, xl⟩⟩ := x
 simp only [Ye, XT] at hcall hxc
 by_cases he : e = 0
 ·subst he
  rw [if_neg (by simp)] at hg
  refine QXe ?_; refine QVa ?_; refine Z9 (hcon := hcall) ?_; refine QOd ?_; refine Qnb ?_; exact ⟨i + 1, ⟨by omega, hg⟩, by omega, X9 rfl JM ⟨rfl, trivial⟩⟩
 ·rw [if_pos he] at hg
  subst hg
  rw [if_pos he]
  refine QXe ?_; refine QVa ?_; refine Z9 (hcon := hcall) ?_; exact Qpc
theorem XgK (r : Rcd) (hok : Vx r) : Con Tryz.prog 90 [] [Yz r] [] (.d (Xf (U7 r))) := by
 have hc := X8a r hok
 obtain ⟨hlen, hch⟩ := hok
 unfold U7
 by_cases h : Yy r = 0
 case neg =>
  rw [if_neg h]
  generalize Yy r = e at *
  obtain ⟨kd, ts, l, ⟨k, n, name, key, src, dst⟩, off⟩ := r
  simp only [Yz] at *
  refine Xa (xs := [.d (Xf [])]) Tryz.func90 rfl Tryz.ntmps90 rfl rfl rfl (fun E => ?_)
  exact QPd
 rw [if_pos h]
 rw [h] at hc
 obtain ⟨hkd, hts, h1, h2, h3, h4⟩ := X7o h
 clear h
 obtain ⟨kd, ts, l, ⟨k, n, name, key, src, dst⟩, off⟩ := r
 simp only at hlen hch hkd hts h1 h2 h3 h4
 have hpu := X22 ts (by omega)
 have hlu := X28 (n := ts) (by omega)
 have hlm : (l.map XT).length = l.length := by simp
 by_cases k3 : kd = 3
 ·subst k3
  obtain rfl := h3 (by decide)
  have hput : Uu ⟨3, ts, [], ⟨k, n, name, key, src, dst⟩, off⟩ = UInt8.ofNat 3 :: Xh ts := by unfold Uu; simp
  rw [hput]
  generalize Xh ts = w0 at *
  simp only [Yz] at *
  refine Xa (xs := [.d (Xf (UInt8.ofNat 3 :: w0))]) Tryz.func90 rfl Tryz.ntmps90 rfl rfl rfl (fun E => ?_)
  repeat first | refine X0 ?_ | (refine JR ?_; (repeat first | refine Z3 (u := nj 3) (r := n8 3) ?_ (hr := by exact Y6 rfl rfl) | refine ZZ (γ := 130) ?_ | refine Z1 ?_ | refine Z0 ?_ | refine ZB ?_ | refine ZC ?_ | refine ZL ?_ | refine Zl ?_ | refine Zv ?_ | refine ZA (γ := 100) ?_ | refine Z6 ?_ | refine Z9 (hcon := hc) ?_ | refine Z9 (hcon := hpu) ?_); refine JD ?_) | refine JF ?_ | refine X4 ?_
  refine QRd ?_; exact QSd
 by_cases k2 : kd = 2
 ·subst k2
  obtain rfl := h3 (by decide)
  have h2 := h2 rfl
  have hpr := (by have := Xgv ⟨k, n, name, key, src, dst⟩; unfold X6Y at this; rwa [if_pos h2] at this : Con Tryz.prog 129 [] [Uv ⟨k, n, name, key, src, dst⟩] [] (.d (Xf (Ua ⟨k, n, name, key, src, dst⟩))))
  have hlr := X74 h2
  have hput : Uu ⟨2, ts, [], ⟨k, n, name, key, src, dst⟩, off⟩ = UInt8.ofNat 2 :: (Xh ts ++ (Ua ⟨k, n, name, key, src, dst⟩ ++ [if off then 1 else 0])) := by unfold Uu; simp
  rw [hput]
  generalize Xh ts = w0 at *
  generalize Ua ⟨k, n, name, key, src, dst⟩ = w1 at *
  simp only [Yz, Uv] at *
  cases off with
  | true =>
   refine Xa (xs := [.d (Xf (UInt8.ofNat 2 :: (w0 ++ (w1 ++ [1]))))]) Tryz.func90 rfl Tryz.ntmps90 rfl rfl rfl (fun E => ?_)
   repeat first | refine X0 ?_ | (refine JR ?_; (repeat first | refine Z3 (u := nj 2) (r := n8 2) ?_ (hr := by exact Y6 rfl rfl) | refine ZZ (γ := 130) ?_ | refine Z1 ?_ | refine Z0 ?_ | refine ZB ?_ | refine ZC ?_ | refine ZL ?_ | refine Zl ?_ | refine Zv ?_ | refine ZA (γ := 100) ?_ | refine Z5 ?_ | refine Z6 ?_ | refine Z9 (hcon := hc) ?_ | refine Z9 (hcon := hpu) ?_ | refine Z9 (hcon := hpr) ?_); refine JD ?_) | refine JT ?_ | refine JF ?_ | refine X4 ?_
   refine QRd ?_; exact QTd
  | false =>
   refine Xa (xs := [.d (Xf (UInt8.ofNat 2 :: (w0 ++ (w1 ++ [0]))))]) Tryz.func90 rfl Tryz.ntmps90 rfl rfl rfl (fun E => ?_)
   repeat first | refine X0 ?_ | (refine JR ?_; (repeat first | refine Z3 (u := nj 2) (r := n8 2) ?_ (hr := by exact Y6 rfl rfl) | refine ZZ (γ := 130) ?_ | refine Z1 ?_ | refine Z0 ?_ | refine ZB ?_ | refine ZC ?_ | refine ZL ?_ | refine Zl ?_ | refine Zv ?_ | refine ZA (γ := 100) ?_ | refine Z5 ?_ | refine Z6 ?_ | refine Z9 (hcon := hc) ?_ | refine Z9 (hcon := hpu) ?_ | refine Z9 (hcon := hpr) ?_); refine JD ?_) | refine JT ?_ | refine JF ?_ | refine X4 ?_
   refine QRd ?_; exact QUd
 have k1 : kd = 1 := by omega
 subst k1
 obtain ⟨h1, hl⟩ := h1 (by decide)
 have hpl := X22 (l.length : Nat) (by omega)
 have hll := X28 (n := (l.length : Nat)) (by omega)
 have hput : Uu ⟨1, ts, l, ⟨k, n, name, key, src, dst⟩, off⟩ = UInt8.ofNat 1 :: (Xh ts ++ Xh (l.length : Nat)) ++ YV l := by unfold Uu; simp
 rw [hput]
 clear hput h2 h3 h4 hkd k2 k3
 rw [← hlm] at hpl
 rw [← hlm] at hll ⊢
 generalize Xh ts = w0 at *
 generalize Xh ((l.map XT).length : Nat) = w1 at *
 simp only [Yz] at *
 refine Xa (xs := [.d (Xf (UInt8.ofNat 1 :: (w0 ++ w1) ++ YV l))]) Tryz.func90 rfl Tryz.ntmps90 rfl rfl rfl (fun E => ?_)
 refine Qlc ?_; refine Z9 (hcon := hc) ?_; refine QEb ?_; refine QIa ?_; refine QVd ?_; refine Qx ?_; refine QHa ?_; refine Z9 (hcon := hpu) ?_; refine Qj ?_; refine Qzb ?_; refine Zl ?_; refine Qh ?_; refine Qf ?_; refine QHd ?_; refine Z9 (hcon := hpl) ?_; refine Qj ?_; refine Qd ?_; refine X5 ?_
 generalize hA : UInt8.ofNat 1 :: (w0 ++ w1) = A at *
 have hAl : A.length ≤ 21 := by rw [← hA]; simp only [List.length_cons, List.length_append]; omega
 refine Xu (ι := Nat) (fun i => i ≤ l.length) (fun i => ⟨57, [(1, .ptr 100 0), (3, .own 130 ((A ++ YV (l.take i)).map X6).length), (4, ai i)], [(100, .box [ai 1, ai ts, .d (.sl 10 (l.map XT)), ai k, ai n, Xc name, Xc key, Xc src, Xc dst, ab off]), (130, .row 1 ((A ++ YV (l.take i)).map X6))]⟩) (fun i => l.length - i) 0 (by omega)
  (by
   rw [List.take_zero, X9F]
   subst hA
   exact X9 rfl ⟨JL, (by refine AVal.le_of_eq ?_; refine Eq.trans (b := AVal.own 130 (_ + _)) rfl ?_; congr 1; simp only [List.length_append, List.length_map, List.length_cons, List.length_nil, List.append_assoc, List.cons_append, List.nil_append, List.append_nil] <;> omega), JL, trivial⟩ ⟨rfl, (by refine Eq.trans (b := AObj.row 1 (_ ++ _)) rfl ?_; simp only [List.map_append, List.map_cons, List.map_nil, List.append_assoc, List.cons_append, List.nil_append, List.append_nil] <;> rfl), trivial⟩) ?_
 intro i hi
 have hrow : ((A ++ YV (l.take i)).map X6).length ≤ 300000 := by
  have h6 := X57 (l := l.take i) fun c hc => h1 c (List.mem_of_mem_take hc)
  have h7 : (l.take i).length ≤ 1000 := by simp; omega
  simp only [List.length_map, List.length_append]
  omega
 by_cases hil : i < l.length
 case neg =>
  obtain rfl : i = l.length := by omega
  rw [List.take_length] at hrow ⊢
  have hn : ¬ ((l.length : Nat) : Int) < (l.map XT).length := by omega
  generalize A ++ YV l = B at *
  refine QVe ?_; refine Qzb ?_; refine Qqb ?_; refine Qz ?_; refine QQd ?_; refine Xi (Yc 2 130 rfl rfl rfl) ?_; exact QN
 have hn : (i : Int) < (l.map XT).length := by omega
 obtain ⟨x, hx⟩ := Xx (l := l) hil
 have hxc : (l.map XT)[i]? = some (XT x) := YR hx
 have hxe := h1 x (List.mem_of_getElem? hx)
 have hcall := Xfw x (hch x (List.mem_of_getElem? hx)).2
 have hxl := X6s hxe
 have htk := XaX hx
 unfold X6c at hcall
 rw [if_pos hxe] at hcall
 generalize Ya x = w at *
 obtain ⟨op, id, xsrc, xdst, xname, ⟨xk, xn, xd, xs, xl⟩⟩ := x
 simp only [Ye, XT] at hcall hxc
 generalize hB : A ++ YV (l.take i) = B at *
 refine QWe ?_; refine JR ?_; refine QKa ?_; refine Z1 ?_; refine QVa ?_; refine Z9 (hcon := hcall) ?_; refine Qj ?_; refine Qnb ?_
 refine ⟨i + 1, by omega, by omega, ?_⟩
 dsimp only
 rw [htk, ← List.append_assoc, hB]
 exact X9 rfl ⟨JL, (by refine AVal.le_of_eq ?_; refine Eq.trans (b := AVal.own 130 (_ + _)) rfl ?_; congr 1; simp only [List.length_append, List.length_map, List.length_cons, List.length_nil, List.append_assoc, List.cons_append, List.nil_append, List.append_nil] <;> omega), JL, trivial⟩ ⟨rfl, (by refine Eq.trans (b := AObj.row 1 (_ ++ _)) rfl ?_; simp only [List.map_append, List.map_cons, List.map_nil, List.append_assoc, List.cons_append, List.nil_append, List.append_nil] <;> rfl), trivial⟩
theorem X3Q (d : Disk) : Con Tryz.prog 60 [] [XK d] [] (ab (Yp d)) := by
 obtain ⟨secs, pend, on⟩ := d
 refine Xa (xs := [ab (Yp ⟨secs, pend, on⟩)]) Tryz.func60 rfl Tryz.ntmps60 rfl rfl rfl (fun E => ?_)
 by_cases hok : 1 ≤ secs.length ∧ secs.length ≤ 4096 ∧ (on = true ∨ pend.length = 0)
 case neg =>
  have hv : Yp ⟨secs, pend, on⟩ = false := by simp only [Yp, decide_eq_false_iff_not]; exact fun h => hok ⟨h.1, h.2.1, h.2.2.1⟩
  rw [hv]
  by_cases h1 : secs.length < 1
  ·repeat first | refine X0 ?_ | (refine JR ?_; (repeat first | refine Z1 ?_ | refine Z0 ?_ | refine ZB ?_ | refine ZC ?_ | refine Zd ?_ | refine Z8 ?_ | refine ZA (γ := 100) ?_ | refine Zn ?_ | refine Zo ?_ | refine Zp ?_); refine JD ?_) | refine JT ?_
   exact QN
  by_cases h2 : 4096 < secs.length
  ·refine QAb ?_; refine Qob ?_; refine QKa ?_; refine Zd ?_; refine Qba ?_; refine Qca ?_; refine QRc ?_; exact Qea
  have h3 : 0 < pend.length := by
   rcases Nat.eq_zero_or_pos pend.length with h | h
   ·exact (hok ⟨by omega, by omega, .inr h⟩).elim
   ·exact h
  cases on with
  | true => exact (hok ⟨by omega, by omega, .inl rfl⟩).elim
  | false =>
   refine QAb ?_; refine Qae ?_; refine QKa ?_; refine QUa ?_; exact QId
 obtain ⟨k1, k2, k3⟩ := hok
 refine X9a 0 1 rfl rfl (fun hmx => ?_)
 simp only [List.length_map] at hmx
 refine QGa ?_
 refine Xbc ⟨70, [(1, .ptr 100 0)], [(100, .box [.d (XE secs), .d (XA pend), ab on])]⟩ ?_ ?_
 ·cases on with
  | true =>
   refine QIa ?_; refine Qae ?_; refine Qvc ?_; exact Qbe
  | false =>
   have k4 : pend.length = 0 := by simpa using k3
   refine QIa ?_; refine Qae ?_; refine QKa ?_; refine QUa ?_; refine Zn ?_; exact Qbe
 refine Qib ?_
 refine Xu (fun k : Nat => k ≤ secs.length ∧ ∀ (i : Nat) s, i < k → secs[i]? = some s → s.length = 64) (fun k => ⟨70, [(1, .ptr 100 0), (3, ai k)], [(100, .box [.d (XE secs), .d (XA pend), ab on])]⟩) (fun k => secs.length - k) 0 ⟨by omega, by omega⟩
  (X9 rfl ⟨JL, JL, trivial⟩ ⟨rfl, trivial⟩) ?_
 rintro k ⟨hk, hp⟩
 by_cases hlt : k < secs.length
 ·obtain ⟨s, hs⟩ := Xx (l := secs) (k := k) (by omega)
  by_cases h3 : s.length ≠ 64
  ·have hv := XaI (pend := pend) (on := on) hs h3
   rw [hv]
   refine QXe ?_; refine QE ?_; refine Zd ?_; refine Zv ?_; exact Qea
  ·have h3 : s.length = 64 := by simpa using h3
   refine QXe ?_; refine QE ?_; refine Zd ?_; refine QEb ?_; refine Qnb ?_
   refine ⟨k + 1, ⟨by omega, fun i t hi ht => ?_⟩, by omega, X9 rfl ⟨JL, JL, trivial⟩ ⟨rfl, trivial⟩⟩
   by_cases hik : i = k
   ·subst hik; rw [hs] at ht; cases ht; omega
   ·exact hp i t (by omega) ht
 obtain rfl : k = secs.length := by omega
 have hp1 : ∀ s ∈ secs, s.length = 64 := X4d fun i x hx => hp i x (List.getElem?_eq_some_iff.1 hx).1 hx
 refine QVe ?_; refine Qib ?_
 refine Xu (fun k : Nat => k ≤ pend.length ∧ ∀ (i : Nat) w, i < k → pend[i]? = some w → 0 ≤ w.at_ ∧ w.at_ < secs.length ∧ w.b.length = 64) (fun k => ⟨70, [(1, .ptr 100 0), (4, ai k)], [(100, .box [.d (XE secs), .d (XA pend), ab on])]⟩) (fun k => pend.length - k) 0 ⟨by omega, by omega⟩
  (X9 rfl ⟨JL, JL, trivial⟩ ⟨rfl, trivial⟩) ?_
 rintro k ⟨hk, hq⟩
 by_cases hlt : k < pend.length
 ·obtain ⟨w, hw⟩ := Xx (l := pend) (k := k) (by omega)
  by_cases hb : 0 ≤ w.at_ ∧ w.at_ < secs.length ∧ w.b.length = 64
  ·obtain ⟨b1, b2, b3⟩ := hb
   repeat first | refine X0 ?_ | (refine JR ?_; (repeat first | refine Z1 ?_ | refine Z0 ?_ | refine ZB ?_ | refine ZC ?_ | refine ZK ?_ | refine Zd ?_ | refine Z8 ?_ | refine Z2 ?_ | refine Zv ?_ | refine Zb ?_ | refine Zw (γ := 101) ?_ | refine Zy ?_ | refine Zq ?_ | refine Zj ?_); refine JD ?_) | refine JT ?_ | refine JF ?_ | refine X5 ?_ | refine X4 ?_
   refine ⟨k + 1, ⟨by omega, fun i t hi ht => ?_⟩, by omega, X9 rfl ⟨JL, JL, trivial⟩ ⟨rfl, trivial⟩⟩
   by_cases hik : i = k
   ·subst hik; rw [hw] at ht; cases ht; exact ⟨b1, b2, b3⟩
   ·exact hq i t (by omega) ht
  ·have hv := Xaz (secs := secs) (on := on) hw hb
   rw [hv]
   by_cases c3 : w.b.length ≠ 64
   ·repeat first | refine X0 ?_ | (refine JR ?_; (repeat first | refine Z1 ?_ | refine Z0 ?_ | refine ZB ?_ | refine ZC ?_ | refine ZK ?_ | refine Zd ?_ | refine Z8 ?_ | refine Zv ?_ | refine Zw (γ := 101) ?_ | refine Zy ?_ | refine Zn ?_ | refine Zj ?_ | refine Zo ?_); refine JD ?_) | refine JT ?_ | refine X5 ?_ | refine X4 ?_
    exact QN
   have c3 : w.b.length = 64 := by simpa using c3
   by_cases c1 : w.at_ < 0
   ·repeat first | refine X0 ?_ | (refine JR ?_; (repeat first | refine Z1 ?_ | refine Z0 ?_ | refine ZB ?_ | refine ZC ?_ | refine ZK ?_ | refine Zd ?_ | refine Z8 ?_ | refine Zv ?_ | refine Zw (γ := 101) ?_ | refine Zy ?_ | refine Zn ?_ | refine Zq ?_ | refine Zj ?_ | refine Zo ?_); refine JD ?_) | refine JT ?_ | refine X5 ?_ | refine X4 ?_
    exact QN
   have c2 : (secs.length : Int) ≤ w.at_ := by omega
   repeat first | refine X0 ?_ | (refine JR ?_; (repeat first | refine Z1 ?_ | refine Z0 ?_ | refine ZB ?_ | refine ZC ?_ | refine ZK ?_ | refine Zd ?_ | refine Z8 ?_ | refine Z2 ?_ | refine Zv ?_ | refine Zw (γ := 101) ?_ | refine Zy ?_ | refine Zq ?_ | refine Zj ?_); refine JD ?_) | refine JT ?_ | refine X5 ?_ | refine X4 ?_
   exact QN
 obtain rfl : k = pend.length := by omega
 have hp2 : ∀ w ∈ pend, 0 ≤ w.at_ ∧ w.at_ < secs.length ∧ w.b.length = 64 := X4d fun i x hx => hq i x (List.getElem?_eq_some_iff.1 hx).1 hx
 have hv : Yp ⟨secs, pend, on⟩ = true := by
  simp only [Yp, decide_eq_true_eq]
  exact ⟨k1, k2, k3, hp1, hp2⟩
 rw [hv]
 refine QVe ?_; exact Qia
theorem X0h (d : Disk) : Con Tryz.prog 61 [] [XK d] [] (ai (YF d)) := by
 obtain ⟨secs, pend, on⟩ := d
 refine Xa (xs := [ai (YF ⟨secs, pend, on⟩)]) Tryz.func61 rfl Tryz.ntmps61 rfl rfl rfl (fun E => ?_)
 cases hv : Yp ⟨secs, pend, on⟩ with
 | true =>
  cases on with
  | true =>
   rw [show YF ⟨secs, pend, true⟩ = 0 by simp only [YF, hv]; rfl]
   refine Qlc ?_; refine Z9 (hcon := X3Q ⟨secs, pend, true⟩) ?_; refine Qhb ?_; refine Qzb ?_; refine Qhb ?_; exact Qia
  | false =>
   rw [show YF ⟨secs, pend, false⟩ = 22 by simp only [YF, hv]; rfl]
   refine Qlc ?_; refine Z9 (hcon := X3Q ⟨secs, pend, false⟩) ?_; refine Qhb ?_; refine Qzb ?_; refine Zu ?_; exact Qea
 | false =>
  rw [show YF ⟨secs, pend, on⟩ = 1 by simp only [YF, hv]; rfl]
  refine Qlc ?_; refine Z9 (hcon := X3Q ⟨secs, pend, on⟩) ?_; refine Zu ?_; exact Qea
end Go.Fw
