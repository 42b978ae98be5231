/- Changes and rules put: the reference's. -/
import Derived.Test.YtaoggblfedekeaaGreatDoorG08
import Derived.Test.YtaoggblfedekeaaGreatDoorG19
import Derived.Test.YtaoggblfedekeaaGreatDoorG20
import Derived.Test.YtaoggblfedekeaaGreatDoorG12
import Derived.Test.YtaoggblfedekeaaGreatDoorG16
import Derived.Test.YtaoggblfedekeaaGreatDoorG07
set_option maxHeartbeats 16000000
namespace Go.Fw
open Go Go.Proofs
set_option maxRecDepth 100000
set_option linter.unusedVariables false
set_option linter.unusedSimpArgs false
theorem X5a (c : Chg) (hok : XH c.v) : Con Tryz.prog 10 [] [Xy c] [] (.d (Xh (VB c))) := by
 have hc := X2I c hok
 unfold VB
 by_cases h : Y8 c = 0
 case neg =>
  rw [if_neg h]
  refine X8 (xs := [.d (Xh [])]) Tryz.func10 rfl Tryz.ntmps10 rfl rfl rfl (fun E => ?_)
  generalize Y8 c = e at *
  obtain ⟨op, id, src, dst, name, ⟨k, n, d, s, l⟩⟩ := c
  simp only [Xy] at *
  refine X0 ?_; refine JR ?_; refine Zy (γ := 100) ?_; refine Z0 ?_; refine JD ?_; refine X0 ?_; refine X0 ?_; refine JR ?_; refine ZL ?_; refine Z9 (hcon := hc) ?_; refine Zs ?_; refine JD ?_; refine JT ?_
  refine X0 ?_; refine JR ?_; refine Z0 ?_; refine JD ?_
  exact X1 ⟨_, X9 2 (y := .d (Xh [])) (AVal.le_nil 1), ⟨rfl, trivial⟩, X2 _⟩
 rw [if_pos h]
 rw [h] at hc
 obtain ⟨⟨hop1, hop2⟩, hid, hsd, hnm, hvl⟩ := X2C h
 obtain ⟨op, id, src, dst, name, v⟩ := c
 simp only at hop1 hop2 hid hsd hnm hvl hok
 have hpi := X0k id (by omega)
 have hli : (Xe id).length ≤ 10 := by rw [UM (by omega)]; exact UJ (by omega)
 have hf := X7g op
 have hw := X5s op
 clear h
 by_cases k1 : op = 1
 ·subst k1
  rw [show XC 1 = false from rfl] at hf
  rw [show Xz 1 = false from rfl] at hw
  clear hop1 hop2
  have hput : XK ⟨1, id, src, dst, name, v⟩ = UInt8.ofNat 1 :: (Xe id) := by unfold XK; simp [XC, Xz]
  rw [hput]
  clear hput hok
  generalize Xe id = w0 at *
  obtain ⟨vk, vn, vd, vs, vl⟩ := v
  simp only [Xy, Xb] at *
  refine X8 (xs := [.d (Xh (UInt8.ofNat 1 :: (w0)))]) Tryz.func10 rfl Tryz.ntmps10 rfl rfl rfl (fun E => ?_)
  repeat first | refine X0 ?_ | (refine JR ?_; (repeat first | refine Z3 (u := nj 1) (r := n8 1) ?_ (hr := by exact XQ rfl rfl) | refine ZX (γ := 130) ?_ | refine Z1 ?_ | refine Z0 ?_ | refine Zz ?_ | refine ZA ?_ | refine ZL ?_ | refine Zu ?_ | refine Zs ?_ | refine Zy (γ := 100) ?_ | refine Z6 ?_ | refine Z9 (hcon := hc) ?_ | refine Z9 (hcon := hf) ?_ | refine Z9 (hcon := hw) ?_ | refine Z9 (hcon := hpi) ?_); refine JD ?_) | refine JF ?_ | refine X3 ?_
  refine Xu (Y1 130 rfl) ?_
  refine Xu (Yo 2 130 rfl rfl (by first | rfl | (simp only [List.length_append, List.length_map, List.length_cons, List.length_nil] <;> omega) | fail)) ?_
  exact X1 ⟨_, X9 2 (y := .d (Xh (UInt8.ofNat 1 :: (w0)))) (AVal.le_of_eq (by refine Eq.trans (b := AVal.d (.sl 1 (_))) rfl ?_; show _ = AVal.d (.sl 1 ((UInt8.ofNat 1 :: (w0)).map Xa)); simp only [List.map_append, List.map_cons, List.map_nil, List.append_assoc, List.cons_append, List.nil_append] <;> rfl)), ⟨rfl, trivial⟩, X2 _⟩
 by_cases k2 : op = 2
 ·subst k2
  rw [show XC 2 = false from rfl] at hf
  rw [show Xz 2 = false from rfl] at hw
  clear hop1 hop2
  have hput : XK ⟨2, id, src, dst, name, v⟩ = UInt8.ofNat 2 :: (Xe id) := by unfold XK; simp [XC, Xz]
  rw [hput]
  clear hput hok
  generalize Xe id = w0 at *
  obtain ⟨vk, vn, vd, vs, vl⟩ := v
  simp only [Xy, Xb] at *
  refine X8 (xs := [.d (Xh (UInt8.ofNat 2 :: (w0)))]) Tryz.func10 rfl Tryz.ntmps10 rfl rfl rfl (fun E => ?_)
  repeat first | refine X0 ?_ | (refine JR ?_; (repeat first | refine Z3 (u := nj 2) (r := n8 2) ?_ (hr := by exact XQ rfl rfl) | refine ZX (γ := 130) ?_ | refine Z1 ?_ | refine Z0 ?_ | refine Zz ?_ | refine ZA ?_ | refine ZL ?_ | refine Zu ?_ | refine Zs ?_ | refine Zy (γ := 100) ?_ | refine Z6 ?_ | refine Z9 (hcon := hc) ?_ | refine Z9 (hcon := hf) ?_ | refine Z9 (hcon := hw) ?_ | refine Z9 (hcon := hpi) ?_); refine JD ?_) | refine JF ?_ | refine X3 ?_
  refine Xu (Y1 130 rfl) ?_
  refine Xu (Yo 2 130 rfl rfl (by first | rfl | (simp only [List.length_append, List.length_map, List.length_cons, List.length_nil] <;> omega) | fail)) ?_
  exact X1 ⟨_, X9 2 (y := .d (Xh (UInt8.ofNat 2 :: (w0)))) (AVal.le_of_eq (by refine Eq.trans (b := AVal.d (.sl 1 (_))) rfl ?_; show _ = AVal.d (.sl 1 ((UInt8.ofNat 2 :: (w0)).map Xa)); simp only [List.map_append, List.map_cons, List.map_nil, List.append_assoc, List.cons_append, List.nil_append] <;> rfl)), ⟨rfl, trivial⟩, X2 _⟩
 by_cases k3 : op = 3
 ·subst k3
  rw [show XC 3 = true from rfl] at hf
  rw [show Xz 3 = false from rfl] at hw
  clear hop1 hop2
  have hnm := hnm rfl
  have hpn := Vf name (by omega)
  have hln := Ui hnm
  have hput : XK ⟨3, id, src, dst, name, v⟩ = UInt8.ofNat 3 :: (Xe id ++ Xo name) := by unfold XK; simp [XC, Xz]
  rw [hput]
  clear hput hok
  generalize Xe id = w0 at *
  generalize Xo name = w1 at *
  obtain ⟨vk, vn, vd, vs, vl⟩ := v
  simp only [Xy, Xb] at *
  refine X8 (xs := [.d (Xh (UInt8.ofNat 3 :: (w0 ++ w1)))]) Tryz.func10 rfl Tryz.ntmps10 rfl rfl rfl (fun E => ?_)
  repeat first | refine X0 ?_ | (refine JR ?_; (repeat first | refine Z3 (u := nj 3) (r := n8 3) ?_ (hr := by exact XQ rfl rfl) | refine ZX (γ := 130) ?_ | refine Z1 ?_ | refine Z0 ?_ | refine Zz ?_ | refine ZA ?_ | refine ZL ?_ | refine Zu ?_ | refine Zs ?_ | refine Zy (γ := 100) ?_ | refine Z6 ?_ | refine Z9 (hcon := hc) ?_ | refine Z9 (hcon := hf) ?_ | refine Z9 (hcon := hw) ?_ | refine Z9 (hcon := hpi) ?_ | refine Z9 (hcon := hpn) ?_); refine JD ?_) | refine JT ?_ | refine JF ?_ | refine X3 ?_
  refine Xu (Y1 130 rfl) ?_
  refine Xu (Yo 2 130 rfl rfl (by first | rfl | (simp only [List.length_append, List.length_map, List.length_cons, List.length_nil] <;> omega) | fail)) ?_
  exact X1 ⟨_, X9 2 (y := .d (Xh (UInt8.ofNat 3 :: (w0 ++ w1)))) (AVal.le_of_eq (by refine Eq.trans (b := AVal.d (.sl 1 (_))) rfl ?_; show _ = AVal.d (.sl 1 ((UInt8.ofNat 3 :: (w0 ++ w1)).map Xa)); simp only [List.map_append, List.map_cons, List.map_nil, List.append_assoc, List.cons_append, List.nil_append] <;> rfl)), ⟨rfl, trivial⟩, X2 _⟩
 by_cases k4 : op = 4
 ·subst k4
  rw [show XC 4 = true from rfl] at hf
  rw [show Xz 4 = false from rfl] at hw
  clear hop1 hop2
  have hnm := hnm rfl
  have hpn := Vf name (by omega)
  have hln := Ui hnm
  have hput : XK ⟨4, id, src, dst, name, v⟩ = UInt8.ofNat 4 :: (Xe id ++ Xo name) := by unfold XK; simp [XC, Xz]
  rw [hput]
  clear hput hok
  generalize Xe id = w0 at *
  generalize Xo name = w1 at *
  obtain ⟨vk, vn, vd, vs, vl⟩ := v
  simp only [Xy, Xb] at *
  refine X8 (xs := [.d (Xh (UInt8.ofNat 4 :: (w0 ++ w1)))]) Tryz.func10 rfl Tryz.ntmps10 rfl rfl rfl (fun E => ?_)
  repeat first | refine X0 ?_ | (refine JR ?_; (repeat first | refine Z3 (u := nj 4) (r := n8 4) ?_ (hr := by exact XQ rfl rfl) | refine ZX (γ := 130) ?_ | refine Z1 ?_ | refine Z0 ?_ | refine Zz ?_ | refine ZA ?_ | refine ZL ?_ | refine Zu ?_ | refine Zs ?_ | refine Zy (γ := 100) ?_ | refine Z6 ?_ | refine Z9 (hcon := hc) ?_ | refine Z9 (hcon := hf) ?_ | refine Z9 (hcon := hw) ?_ | refine Z9 (hcon := hpi) ?_ | refine Z9 (hcon := hpn) ?_); refine JD ?_) | refine JT ?_ | refine JF ?_ | refine X3 ?_
  refine Xu (Y1 130 rfl) ?_
  refine Xu (Yo 2 130 rfl rfl (by first | rfl | (simp only [List.length_append, List.length_map, List.length_cons, List.length_nil] <;> omega) | fail)) ?_
  exact X1 ⟨_, X9 2 (y := .d (Xh (UInt8.ofNat 4 :: (w0 ++ w1)))) (AVal.le_of_eq (by refine Eq.trans (b := AVal.d (.sl 1 (_))) rfl ?_; show _ = AVal.d (.sl 1 ((UInt8.ofNat 4 :: (w0 ++ w1)).map Xa)); simp only [List.map_append, List.map_cons, List.map_nil, List.append_assoc, List.cons_append, List.nil_append] <;> rfl)), ⟨rfl, trivial⟩, X2 _⟩
 by_cases k5 : op = 5
 ·subst k5
  rw [show XC 5 = true from rfl] at hf
  rw [show Xz 5 = true from rfl] at hw
  clear hop1 hop2
  have hnm := hnm rfl
  have hpn := Vf name (by omega)
  have hln := Ui hnm
  have hvl := hvl rfl
  have hpv := X3f v hok (by omega)
  unfold X0b at hpv
  have hlv : (XV v).length ≤ 111 := by
   unfold XV
   rw [if_pos hvl.1]
   exact hvl.2
  have hput : XK ⟨5, id, src, dst, name, v⟩ = UInt8.ofNat 5 :: (Xe id ++ Xo name ++ XV v) := by unfold XK; simp [XC, Xz]
  rw [hput]
  clear hput hok
  generalize Xe id = w0 at *
  generalize Xo name = w1 at *
  generalize XV v = w2 at *
  obtain ⟨vk, vn, vd, vs, vl⟩ := v
  simp only [Xy, Xb] at *
  refine X8 (xs := [.d (Xh (UInt8.ofNat 5 :: (w0 ++ w1 ++ w2)))]) Tryz.func10 rfl Tryz.ntmps10 rfl rfl rfl (fun E => ?_)
  repeat first | refine X0 ?_ | (refine JR ?_; (repeat first | refine Z3 (u := nj 5) (r := n8 5) ?_ (hr := by exact XQ rfl rfl) | refine ZX (γ := 130) ?_ | refine Z1 ?_ | refine Z0 ?_ | refine Zz ?_ | refine ZA ?_ | refine ZL ?_ | refine Zu ?_ | refine Zs ?_ | refine Zy (γ := 100) ?_ | refine Z6 ?_ | refine Z9 (hcon := hc) ?_ | refine Z9 (hcon := hf) ?_ | refine Z9 (hcon := hw) ?_ | refine Z9 (hcon := hpi) ?_ | refine Z9 (hcon := hpn) ?_ | refine Z9 (hcon := hpv) ?_); refine JD ?_) | refine JT ?_ | refine JF ?_ | refine X3 ?_
  refine Xu (Y1 130 rfl) ?_
  refine Xu (Yo 2 130 rfl rfl (by first | rfl | (simp only [List.length_append, List.length_map, List.length_cons, List.length_nil] <;> omega) | fail)) ?_
  exact X1 ⟨_, X9 2 (y := .d (Xh (UInt8.ofNat 5 :: (w0 ++ w1 ++ w2)))) (AVal.le_of_eq (by refine Eq.trans (b := AVal.d (.sl 1 (_))) rfl ?_; show _ = AVal.d (.sl 1 ((UInt8.ofNat 5 :: (w0 ++ w1 ++ w2)).map Xa)); simp only [List.map_append, List.map_cons, List.map_nil, List.append_assoc, List.cons_append, List.nil_append] <;> rfl)), ⟨rfl, trivial⟩, X2 _⟩
 by_cases k6 : op = 6
 ·subst k6
  rw [show XC 6 = true from rfl] at hf
  rw [show Xz 6 = false from rfl] at hw
  clear hop1 hop2
  have hsd := hsd rfl
  have hps := X0k src (by omega)
  have hpd := X0k dst (by omega)
  have hls : (Xe src).length ≤ 10 := by rw [UM (by omega)]; exact UJ (by omega)
  have hld : (Xe dst).length ≤ 10 := by rw [UM (by omega)]; exact UJ (by omega)
  have hnm := hnm rfl
  have hpn := Vf name (by omega)
  have hln := Ui hnm
  have hput : XK ⟨6, id, src, dst, name, v⟩ = UInt8.ofNat 6 :: (Xe id ++ Xe src ++ Xe dst ++ Xo name) := by unfold XK; simp [XC, Xz]
  rw [hput]
  clear hput hok
  generalize Xe id = w0 at *
  generalize Xe src = w1 at *
  generalize Xe dst = w2 at *
  generalize Xo name = w3 at *
  obtain ⟨vk, vn, vd, vs, vl⟩ := v
  simp only [Xy, Xb] at *
  refine X8 (xs := [.d (Xh (UInt8.ofNat 6 :: (w0 ++ w1 ++ w2 ++ w3)))]) Tryz.func10 rfl Tryz.ntmps10 rfl rfl rfl (fun E => ?_)
  repeat first | refine X0 ?_ | (refine JR ?_; (repeat first | refine Z3 (u := nj 6) (r := n8 6) ?_ (hr := by exact XQ rfl rfl) | refine ZX (γ := 130) ?_ | refine Z1 ?_ | refine Z0 ?_ | refine Zz ?_ | refine ZA ?_ | refine ZL ?_ | refine Zu ?_ | refine Zs ?_ | refine Zy (γ := 100) ?_ | refine Z6 ?_ | refine Z9 (hcon := hc) ?_ | refine Z9 (hcon := hf) ?_ | refine Z9 (hcon := hw) ?_ | refine Z9 (hcon := hpi) ?_ | refine Z9 (hcon := hps) ?_ | refine Z9 (hcon := hpd) ?_ | refine Z9 (hcon := hpn) ?_); refine JD ?_) | refine JT ?_ | refine JF ?_ | refine X3 ?_
  refine Xu (Y1 130 rfl) ?_
  refine Xu (Yo 2 130 rfl rfl (by first | rfl | (simp only [List.length_append, List.length_map, List.length_cons, List.length_nil] <;> omega) | fail)) ?_
  exact X1 ⟨_, X9 2 (y := .d (Xh (UInt8.ofNat 6 :: (w0 ++ w1 ++ w2 ++ w3)))) (AVal.le_of_eq (by refine Eq.trans (b := AVal.d (.sl 1 (_))) rfl ?_; show _ = AVal.d (.sl 1 ((UInt8.ofNat 6 :: (w0 ++ w1 ++ w2 ++ w3)).map Xa)); simp only [List.map_append, List.map_cons, List.map_nil, List.append_assoc, List.cons_append, List.nil_append] <;> rfl)), ⟨rfl, trivial⟩, X2 _⟩
 by_cases k7 : op = 7
 ·subst k7
  rw [show XC 7 = false from rfl] at hf
  rw [show Xz 7 = false from rfl] at hw
  clear hop1 hop2
  have hput : XK ⟨7, id, src, dst, name, v⟩ = UInt8.ofNat 7 :: (Xe id) := by unfold XK; simp [XC, Xz]
  rw [hput]
  clear hput hok
  generalize Xe id = w0 at *
  obtain ⟨vk, vn, vd, vs, vl⟩ := v
  simp only [Xy, Xb] at *
  refine X8 (xs := [.d (Xh (UInt8.ofNat 7 :: (w0)))]) Tryz.func10 rfl Tryz.ntmps10 rfl rfl rfl (fun E => ?_)
  repeat first | refine X0 ?_ | (refine JR ?_; (repeat first | refine Z3 (u := nj 7) (r := n8 7) ?_ (hr := by exact XQ rfl rfl) | refine ZX (γ := 130) ?_ | refine Z1 ?_ | refine Z0 ?_ | refine Zz ?_ | refine ZA ?_ | refine ZL ?_ | refine Zu ?_ | refine Zs ?_ | refine Zy (γ := 100) ?_ | refine Z6 ?_ | refine Z9 (hcon := hc) ?_ | refine Z9 (hcon := hf) ?_ | refine Z9 (hcon := hw) ?_ | refine Z9 (hcon := hpi) ?_); refine JD ?_) | refine JF ?_ | refine X3 ?_
  refine Xu (Y1 130 rfl) ?_
  refine Xu (Yo 2 130 rfl rfl (by first | rfl | (simp only [List.length_append, List.length_map, List.length_cons, List.length_nil] <;> omega) | fail)) ?_
  exact X1 ⟨_, X9 2 (y := .d (Xh (UInt8.ofNat 7 :: (w0)))) (AVal.le_of_eq (by refine Eq.trans (b := AVal.d (.sl 1 (_))) rfl ?_; show _ = AVal.d (.sl 1 ((UInt8.ofNat 7 :: (w0)).map Xa)); simp only [List.map_append, List.map_cons, List.map_nil, List.append_assoc, List.cons_append, List.nil_append] <;> rfl)), ⟨rfl, trivial⟩, X2 _⟩
 by_cases k8 : op = 8
 ·subst k8
  rw [show XC 8 = true from rfl] at hf
  rw [show Xz 8 = true from rfl] at hw
  clear hop1 hop2
  have hnm := hnm rfl
  have hpn := Vf name (by omega)
  have hln := Ui hnm
  have hvl := hvl rfl
  have hpv := X3f v hok (by omega)
  unfold X0b at hpv
  have hlv : (XV v).length ≤ 111 := by
   unfold XV
   rw [if_pos hvl.1]
   exact hvl.2
  have hput : XK ⟨8, id, src, dst, name, v⟩ = UInt8.ofNat 8 :: (Xe id ++ Xo name ++ XV v) := by unfold XK; simp [XC, Xz]
  rw [hput]
  clear hput hok
  generalize Xe id = w0 at *
  generalize Xo name = w1 at *
  generalize XV v = w2 at *
  obtain ⟨vk, vn, vd, vs, vl⟩ := v
  simp only [Xy, Xb] at *
  refine X8 (xs := [.d (Xh (UInt8.ofNat 8 :: (w0 ++ w1 ++ w2)))]) Tryz.func10 rfl Tryz.ntmps10 rfl rfl rfl (fun E => ?_)
  repeat first | refine X0 ?_ | (refine JR ?_; (repeat first | refine Z3 (u := nj 8) (r := n8 8) ?_ (hr := by exact XQ rfl rfl) | refine ZX (γ := 130) ?_ | refine Z1 ?_ | refine Z0 ?_ | refine Zz ?_ | refine ZA ?_ | refine ZL ?_ | refine Zu ?_ | refine Zs ?_ | refine Zy (γ := 100) ?_ | refine Z6 ?_ | refine Z9 (hcon := hc) ?_ | refine Z9 (hcon := hf) ?_ | refine Z9 (hcon := hw) ?_ | refine Z9 (hcon := hpi) ?_ | refine Z9 (hcon := hpn) ?_ | refine Z9 (hcon := hpv) ?_); refine JD ?_) | refine JT ?_ | refine JF ?_ | refine X3 ?_
  refine Xu (Y1 130 rfl) ?_
  refine Xu (Yo 2 130 rfl rfl (by first | rfl | (simp only [List.length_append, List.length_map, List.length_cons, List.length_nil] <;> omega) | fail)) ?_
  exact X1 ⟨_, X9 2 (y := .d (Xh (UInt8.ofNat 8 :: (w0 ++ w1 ++ w2)))) (AVal.le_of_eq (by refine Eq.trans (b := AVal.d (.sl 1 (_))) rfl ?_; show _ = AVal.d (.sl 1 ((UInt8.ofNat 8 :: (w0 ++ w1 ++ w2)).map Xa)); simp only [List.map_append, List.map_cons, List.map_nil, List.append_assoc, List.cons_append, List.nil_append] <;> rfl)), ⟨rfl, trivial⟩, X2 _⟩
 omega
theorem X6E (r : Rul) : Con Tryz.prog 12 [] [XY r] [] (.d (Xh (Vy r))) := by
 have hc := X2L r
 unfold Vy
 by_cases h : YS r = 0
 case neg =>
  rw [if_neg h]
  refine X8 (xs := [.d (Xh [])]) Tryz.func12 rfl Tryz.ntmps12 rfl rfl rfl (fun E => ?_)
  generalize YS r = e at *
  obtain ⟨k, n, name, key, src, dst⟩ := r
  simp only [XY] at *
  refine X0 ?_; refine JR ?_; refine Zy (γ := 100) ?_; refine Z0 ?_; refine JD ?_; refine X0 ?_; refine X0 ?_; refine JR ?_; refine ZL ?_; refine Z9 (hcon := hc) ?_; refine Zs ?_; refine JD ?_; refine JT ?_
  refine X0 ?_; refine JR ?_; refine Z0 ?_; refine JD ?_
  exact X1 ⟨_, X9 2 (y := .d (Xh [])) (AVal.le_nil 1), ⟨rfl, trivial⟩, X2 _⟩
 rw [if_pos h]
 rw [h] at hc
 obtain ⟨hn, ⟨l1, l2, l3, l4⟩, hk⟩ := X0y h
 obtain ⟨k, n, name, key, src, dst⟩ := r
 simp only at hn l1 l2 l3 l4 hk
 obtain ⟨m, rfl⟩ : ∃ m : Nat, k = m := ⟨k.toNat, by omega⟩
 have e8 : n8 (m % 256) = n8 (UInt8.ofNat m).toNat := by rw [V4 (by omega), Nat.mod_eq_of_lt (by omega)]
 have p1 := Vf name (by omega)
 have p2 := Vf key (by omega)
 have p3 := Vf src (by omega)
 have p4 := Vf dst (by omega)
 have p5 := X02 n hn
 have q1 := Ui l1
 have q2 := Ui l2
 have q3 := Ui l3
 have q4 := Ui l4
 have q5 := X0L hn
 have hput : Ym ⟨m, n, name, key, src, dst⟩ = UInt8.ofNat m :: (Xo name ++ Xo key ++ Xo src ++ Xo dst ++ XD n) := rfl
 rw [hput]
 clear hput h
 generalize Xo name = w0 at *
 generalize Xo key = w1 at *
 generalize Xo src = w2 at *
 generalize Xo dst = w3 at *
 generalize XD n = w4 at *
 simp only [XY] at *
 refine X8 (xs := [.d (Xh (UInt8.ofNat m :: (w0 ++ w1 ++ w2 ++ w3 ++ w4)))]) Tryz.func12 rfl Tryz.ntmps12 rfl rfl rfl (fun E => ?_)
 repeat first | refine X0 ?_ | (refine JR ?_; (repeat first | refine Z3 (u := nj m) (r := n8 (UInt8.ofNat m).toNat) ?_ (hr := by exact by rw [← e8]; exact XQ rfl rfl) | refine ZX (γ := 130) ?_ | refine Z1 ?_ | refine Z0 ?_ | refine Zz ?_ | refine ZA ?_ | refine ZL ?_ | refine Zs ?_ | refine Zy (γ := 100) ?_ | refine Z6 ?_ | refine Z9 (hcon := hc) ?_ | refine Z9 (hcon := p1) ?_ | refine Z9 (hcon := p2) ?_ | refine Z9 (hcon := p3) ?_ | refine Z9 (hcon := p4) ?_ | refine Z9 (hcon := p5) ?_); refine JD ?_) | refine JF ?_ | refine X3 ?_
 refine Xu (Y1 130 rfl) ?_
 refine Xu (Yo 2 130 rfl rfl (by first | rfl | (simp only [List.length_append, List.length_map, List.length_cons, List.length_nil] <;> omega) | fail)) ?_
 exact X1 ⟨_, X9 2 (y := .d (Xh (UInt8.ofNat m :: (w0 ++ w1 ++ w2 ++ w3 ++ w4)))) (AVal.le_of_eq (by refine Eq.trans (b := AVal.d (.sl 1 (_))) rfl ?_; show _ = AVal.d (.sl 1 ((UInt8.ofNat m :: (w0 ++ w1 ++ w2 ++ w3 ++ w4)).map Xa)); simp only [List.map_append, List.map_cons, List.map_nil, List.append_assoc, List.cons_append, List.nil_append] <;> rfl)), ⟨rfl, trivial⟩, X2 _⟩
end Go.Fw
namespace Go.Fw
open Go Go.Proofs
set_option maxRecDepth 100000
set_option linter.unusedVariables false
set_option linter.unusedSimpArgs false
mutual
def U8 : Nat → Val → Int → Int
 | dp, .mk k n d s l, left => if dp = 0 then -1 else Up (dp - 1) l (left - 1 - (s.length / 50 : Nat))
def Up : Nat → List Val → Int → Int
 | _, [], left => left
 | dp, x :: r, left => if left < 0 then left else Up dp r (U8 dp x left)
end
theorem XbQ {dp : Nat} {l : List Val} {left : Int} (h : left < 0) : Up dp l left = left := by
 cases l with
 | nil => rw [Up]
 | cons x r => rw [Up, if_pos h]
theorem X48 {dp : Nat} : ∀ {l : List Val} {left : Int}, -400000000000000000 ≤ left → left ≤ 1000000 → (∀ x ∈ l, ∀ q : Int, 0 ≤ q → q ≤ 1000000 → -400000000000000000 ≤ U8 dp x q ∧ U8 dp x q ≤ 1000000) → -400000000000000000 ≤ Up dp l left ∧ Up dp l left ≤ 1000000
 | [], left, h1, h2, _ => by rw [Up]; exact ⟨h1, h2⟩
 | x :: r, left, h1, h2, hx => by
  rw [Up]
  split
  ·exact ⟨h1, h2⟩
  ·have := hx x (by simp) left (by omega) h2
   exact X48 this.1 this.2 fun y hy => hx y (by simp [hy])
theorem X4b : ∀ (v : Val) (dp : Nat) (left : Int), XH v → 0 ≤ left → left ≤ 1000000 → -400000000000000000 ≤ U8 dp v left ∧ U8 dp v left ≤ 1000000
 | .mk k n d s l, dp, left, hok, h1, h2 => by
  rw [XH] at hok
  rw [U8]
  split
  ·omega
  ·exact X48 (by omega) (by omega) fun x hx q q1 q2 => X4b x (dp - 1) q (VN hok.2.2 hx) q1 q2
termination_by v => SizeOf.sizeOf v
decreasing_by
 have h1 := List.sizeOf_lt_of_mem (show x ∈ l from hx)
 simp only [Val.mk.sizeOf_spec]
 omega
def X3A (v : Val) : Prop := ∀ (dp : Nat) (left : Int), dp ≤ 100 → -400000000000000000 ≤ left → left ≤ 1000000 → Con Tryz.prog 26 [] [Xb v, ai left, ai dp] [] (ai (U8 dp v left))
theorem X8n {dp : Nat} {l : List Val} {i : Nat} {x : Val} {left : Int} (h : l[i]? = some x) (h0 : ¬ left < 0) : Up dp (l.drop i) left = Up dp (l.drop (i + 1)) (U8 dp x left) := by
 rw [List.drop_eq_getElem_cons (List.getElem?_eq_some_iff.1 h).1, (List.getElem?_eq_some_iff.1 h).2, Up, if_neg h0]
theorem Xck (v : Val) (hok : XH v) (ih : ∀ x ∈ v.l, X3A x) : X3A v := by
 obtain ⟨k, n, d, s, l⟩ := v
 intro dp left hdp hl1 hl2
 rw [XH] at hok
 simp only [Val.l] at ih
 have hlen := U2 l
 have hsz : (X4 s).size = s.length := rfl
 refine X8 (xs := [ai (U8 dp (.mk k n d s l) left)]) Tryz.func26 rfl Tryz.ntmps26 rfl rfl rfl (fun E => ?_)
 rw [U8]
 by_cases h0 : dp = 0
 ·subst h0
  rw [if_pos rfl]
  refine X0 ?_; refine JR ?_; refine Zy (γ := 100) ?_; refine Z0 ?_; refine JD ?_; refine X0 ?_; refine JR ?_; refine Z1 ?_; refine ZR ?_; refine Zz ?_; refine ZA ?_; refine Zc ?_
  refine Z7 (op := .quo) (r' := nj ((X4 s).size / 50)) (u := nj (X4 s).size) (v := nj 50) ?_ (hr := by exact UK (by omega) (by rw [XL]; omega)); refine ZR ?_; refine Z0 ?_; refine JD ?_; refine X0 ?_
  refine X0 ?_; refine JR ?_; refine Z1 ?_; refine Z8 ?_; refine JD ?_; refine JT ?_; refine X0 ?_; refine JR ?_; refine Z0 ?_; refine JD ?_
  exact X1 ⟨_, St.le_refl _, ⟨rfl, trivial⟩, X2 _⟩
 rw [if_neg h0]
 have hdp1 : ¬ (dp : Int) < 1 := by omega
 obtain ⟨e, rfl⟩ : ∃ e, dp = e + 1 := ⟨dp - 1, by omega⟩
 rw [Nat.add_sub_cancel]
 refine X0 ?_; refine JR ?_; refine Zy (γ := 100) ?_; refine Z0 ?_; refine JD ?_; refine X0 ?_; refine JR ?_; refine Z1 ?_; refine ZR ?_; refine Zz ?_; refine ZA ?_; refine Zc ?_
 refine Z7 (op := .quo) (r' := nj ((X4 s).size / 50)) (u := nj (X4 s).size) (v := nj 50) ?_ (hr := by exact UK (by omega) (by rw [XL]; omega)); refine ZR ?_; refine Z0 ?_; refine JD ?_; refine X0 ?_
 refine X0 ?_; refine JR ?_; refine Z1 ?_; refine Z8 ?_; refine JD ?_; refine JF ?_; refine X3 ?_; refine X0 ?_; refine X0 ?_; refine JR ?_; refine Z0 ?_; refine JD ?_; refine X5 ?_
 generalize hG : Up e l (left - 1 - (s.length / 50 : Nat)) = G
 refine XR (ι := Nat × Int) (fun q => q.1 ≤ l.length ∧ -1000000000000000000 ≤ q.2 ∧ q.2 ≤ 1000000 ∧ Up e (l.drop q.1) q.2 = G) (fun q => ⟨38, [(1, ai q.2), (2, ai (e + 1 : Nat)), (3, .ptr 100 0), (7, ai q.1)], [(100, .box [ai k, ai n, ai d, .d (.v (.string (X4 s))), .d (.sl 5 (Xs l))])]⟩) (fun q => l.length - q.1) (0, left - 1 - (s.length / 50 : Nat)) ⟨by omega, by omega, by omega, hG⟩
  (Xc rfl ⟨JL, JL, JL, JL, trivial⟩ ⟨rfl, trivial⟩) ?_
 rintro ⟨i, cur⟩ ⟨hi, c1, c2, hg⟩
 simp only at hi c1 c2 hg
 by_cases hil : i < l.length
 case neg =>
  obtain rfl : i = l.length := by omega
  rw [List.drop_length, Up] at hg
  subst hg
  have hn : ¬ ((l.length : Nat) : Int) < (Xs l).length := by omega
  refine X0 ?_; refine X0 ?_; refine JR ?_; refine Z1 ?_; refine Zz ?_; refine ZA ?_; refine Zd ?_; refine Z8 ?_; refine Z1 ?_; refine Zl ?_; refine Zl ?_; refine Zn ?_; refine JD ?_; refine JF ?_
  refine Xv ?_; refine X0 ?_; refine JR ?_; refine Z1 ?_; refine Z0 ?_; refine JD ?_
  exact X1 ⟨_, St.le_refl _, ⟨rfl, trivial⟩, X2 _⟩
 have hn : (i : Int) < (Xs l).length := by omega
 by_cases hneg : cur < 0
 ·rw [XbQ hneg] at hg
  subst hg
  have hneg' : ¬ 0 ≤ cur := by omega
  refine X0 ?_; refine X0 ?_; refine JR ?_; refine Z1 ?_; refine Zz ?_; refine ZA ?_; refine Zd ?_; refine Z8 ?_; refine Z1 ?_; refine Z1 ?_; refine Z2 ?_; refine Zk ?_; refine JD ?_; refine JF ?_
  refine Xv ?_; refine X0 ?_; refine JR ?_; refine Z1 ?_; refine Z0 ?_; refine JD ?_
  exact X1 ⟨_, St.le_refl _, ⟨rfl, trivial⟩, X2 _⟩
 have hpos : 0 ≤ cur := by omega
 obtain ⟨x, hx⟩ := XT (l := l) hil
 have hxc : (Xs l)[i]? = some (YP x) := by rw [VQ]; exact YR hx
 have hcall := ih x (List.mem_of_getElem? hx) e cur (by omega) (by omega) c2
 have hlow := X4b x e cur (VN hok.2.2 (List.mem_of_getElem? hx)) hpos c2
 rw [X8n hx hneg] at hg
 generalize U8 e x cur = z at *
 obtain ⟨xk, xn, xd, xs, xl⟩ := x
 simp only [Xb, YP] at hcall hxc
 refine X0 ?_; refine X0 ?_; refine JR ?_; refine Z1 ?_; refine Zz ?_; refine ZA ?_; refine Zd ?_; refine Z8 ?_; refine Z1 ?_; refine Z1 ?_; refine Z2 ?_; refine Zk ?_; refine JD ?_; refine JT ?_
 refine X3 ?_; refine X0 ?_; refine X5 ?_; refine JR ?_; refine Zz ?_; refine ZA ?_; refine Z1 ?_; refine ZI ?_; refine ZJ ?_; refine Z1 ?_; refine Z1 ?_
 refine Z4 (op := .sub) (r' := nj e) (u := .int .i64 ((e + 1 : Nat) : Int)) (v := .int .i64 1) ?_ (hr' := by exact congrArg (Value.int .i64) (show (((e + 1 : Nat) : Int) - 1) = (e : Int) by omega)) (hr := by exact Vw (by unfold Uw; omega))
 refine Z9 (hcon := hcall) ?_; refine Z0 ?_; refine JD ?_; refine JR ?_; refine Z1 ?_; refine Zb ?_; refine Z0 ?_; refine JD ?_
 exact ⟨(i + 1, z), ⟨by show i + 1 ≤ l.length; omega, by show -1000000000000000000 ≤ z; omega, by show z ≤ 1000000; omega, hg⟩, by show l.length - (i + 1) < l.length - i; omega, Xc rfl ⟨JL, JL, JL, JL, trivial⟩ ⟨rfl, trivial⟩⟩
theorem X4Z : ∀ v : Val, XH v → X3A v
 | .mk k n d s l => fun hok => Xck (.mk k n d s l) hok fun x hx => X4Z x (VN (by rw [XH] at hok; exact hok.2.2) hx)
termination_by v => SizeOf.sizeOf v
decreasing_by
 have h1 := List.sizeOf_lt_of_mem (show x ∈ l from hx)
 simp only [Val.mk.sizeOf_spec]
 omega
end Go.Fw
namespace Go.Fw
open Go Go.Proofs
set_option maxRecDepth 100000
set_option linter.unusedVariables false
set_option linter.unusedSimpArgs false
def Xx : Chg → List D
 | ⟨op, id, src, dst, name, .mk k n d s l⟩ => [.v (.int .i64 op), .v (.int .i64 id), .v (.int .i64 src), .v (.int .i64 dst), .v (.string (X4 name)), .v (.int .i64 k), .v (.int .i64 n), .v (.int .i64 d), .v (.string (X4 s)), .sl 5 (Xs l)]
def X05 (c : Chg) : Prop := c.name.length ≤ 9223372036854775807 ∧ XH c.v
def Vj : List Chg → Int → Int
 | [], left => left
 | c :: r, left => if left < 0 then left else Vj r (U8 12 c.v (left - 3 - (c.name.length / 50 : Nat)))
def VE (l : List Chg) (most : Int) : Bool := decide (0 ≤ Vj l (most * 4)) && decide ((l.length : Int) ≤ most)
theorem XaH {l : List Chg} {left : Int} (h : left < 0) : Vj l left = left := by
 cases l with
 | nil => rfl
 | cons x r => rw [Vj, if_pos h]
theorem X9s {l : List Chg} {i : Nat} {x : Chg} {left : Int} (h : l[i]? = some x) (h0 : ¬ left < 0) : Vj (l.drop i) left = Vj (l.drop (i + 1)) (U8 12 x.v (left - 3 - (x.name.length / 50 : Nat))) := by
 rw [List.drop_eq_getElem_cons (List.getElem?_eq_some_iff.1 h).1, (List.getElem?_eq_some_iff.1 h).2, Vj, if_neg h0]
theorem Xbt (v : Val) (dp : Nat) (left : Int) (hok : XH v) (h1 : -200000000000000000 ≤ left) (h2 : left ≤ 1000000) : -400000000000000000 ≤ U8 dp v left ∧ U8 dp v left ≤ 1000000 := by
 obtain ⟨k, n, d, s, l⟩ := v
 rw [XH] at hok
 rw [U8]
 split
 ·omega
 ·exact X48 (by omega) (by omega) fun x hx q q1 q2 => X4b x (dp - 1) q (VN hok.2.2 hx) q1 q2
theorem X6z (l : List Chg) (most : Nat) (hm : most ≤ 1000) (hl : l.length ≤ 9223372036854775807) (hok : ∀ c ∈ l, X05 c) : Con Tryz.prog 7 [] [.d (.sl 10 (l.map Xx)), ai most] [] (ab (VE l most)) := by
 have hlm : (l.map Xx).length = l.length := by simp
 refine X8 (xs := [ab (VE l most)]) Tryz.func7 rfl Tryz.ntmps7 rfl rfl rfl (fun E => ?_)
 unfold VE
 refine X0 ?_; refine JR ?_; refine Z0 ?_; refine JD ?_; refine X0 ?_; refine JR ?_; refine Z1 ?_; refine ZZ ?_; refine Z0 ?_; refine JD ?_; refine X0 ?_; refine X0 ?_; refine JR ?_; refine Z0 ?_
 refine JD ?_; refine X5 ?_
 generalize hG : Vj l ((most : Int) * 4) = G
 refine XR (ι := Nat × Int) (fun q => q.1 ≤ l.length ∧ -400000000000000000 ≤ q.2 ∧ q.2 ≤ 1000000 ∧ Vj (l.drop q.1) q.2 = G) (fun q => ⟨43, [(0, .d (.sl 10 (l.map Xx))), (1, ai most), (5, ai q.2), (6, ai q.1)], []⟩) (fun q => l.length - q.1) (0, (most : Int) * 4) ⟨by omega, by omega, by omega, hG⟩
  (Xc rfl ⟨JL, JL, JL, JL, trivial⟩ trivial) ?_
 rintro ⟨i, cur⟩ ⟨hi, c1, c2, hg⟩
 simp only at hi c1 c2 hg
 have fin : ∀ b : Bool, (b = true ↔ (l.length : Int) ≤ most) → b = decide ((l.length : Int) ≤ most) := fun b hb => by cases b <;> simp_all
 by_cases hil : i < l.length
 case neg =>
  obtain rfl : i = l.length := by omega
  rw [List.drop_length, Vj] at hg
  subst hg
  have hn : ¬ ((l.length : Nat) : Int) < (l.map Xx).length := by omega
  by_cases hpos : 0 ≤ cur
  ·rw [decide_eq_true hpos, Bool.true_and]
   by_cases hle : (l.length : Int) ≤ most
   ·rw [decide_eq_true hle]
    refine X0 ?_; refine X0 ?_; refine JR ?_; refine Z1 ?_; refine Z1 ?_; refine Zd ?_; refine Z8 ?_; refine Z1 ?_; refine Zl ?_; refine Zl ?_; refine Zn ?_; refine JD ?_; refine JF ?_; refine Xv ?_
    refine X0 ?_; refine JR ?_; refine Z1 ?_; refine Z2 ?_; refine Z1 ?_; refine Z1 ?_; refine Zd ?_; refine Z1 ?_; refine Zj ?_; refine Zk ?_; refine Z0 ?_; refine JD ?_
    first | exact X1 ⟨_, St.le_refl _, ⟨rfl, trivial⟩, X2 _⟩ | exact X1 ⟨_, X9 4 (y := ab true) (AVal.le_of_eq (by refine Eq.trans (b := ab (decide _)) rfl ?_; exact congrArg ab (by simp; omega))), ⟨rfl, trivial⟩, X2 _⟩ | fail
   ·rw [decide_eq_false hle]
    refine X0 ?_; refine X0 ?_; refine JR ?_; refine Z1 ?_; refine Z1 ?_; refine Zd ?_; refine Z8 ?_; refine Z1 ?_; refine Zl ?_; refine Zl ?_; refine Zn ?_; refine JD ?_; refine JF ?_; refine Xv ?_
    refine X0 ?_; refine JR ?_; refine Z1 ?_; refine Z2 ?_; refine Z1 ?_; refine Z1 ?_; refine Zd ?_; refine Z1 ?_; refine Zj ?_; refine Zk ?_; refine Z0 ?_; refine JD ?_
    first | exact X1 ⟨_, St.le_refl _, ⟨rfl, trivial⟩, X2 _⟩ | exact X1 ⟨_, X9 4 (y := ab false) (AVal.le_of_eq (by refine Eq.trans (b := ab (decide _)) rfl ?_; exact congrArg ab (by simp; omega))), ⟨rfl, trivial⟩, X2 _⟩ | fail
  ·rw [decide_eq_false hpos, Bool.false_and]
   refine X0 ?_; refine X0 ?_; refine JR ?_; refine Z1 ?_; refine Z1 ?_; refine Zd ?_; refine Z8 ?_; refine Z1 ?_; refine Zl ?_; refine Zl ?_; refine Zn ?_; refine JD ?_; refine JF ?_; refine Xv ?_
   refine X0 ?_; refine JR ?_; refine Z1 ?_; refine Z2 ?_; refine Z1 ?_; refine Zl ?_; refine Zl ?_; refine Zl ?_; refine Zl ?_; refine Zn ?_; refine Z0 ?_; refine JD ?_
   first | exact X1 ⟨_, St.le_refl _, ⟨rfl, trivial⟩, X2 _⟩ | exact X1 ⟨_, X9 4 (y := ab false) (AVal.le_of_eq (by refine Eq.trans (b := ab (decide _)) rfl ?_; exact congrArg ab (by simp; omega))), ⟨rfl, trivial⟩, X2 _⟩ | fail
 have hn : (i : Int) < (l.map Xx).length := by omega
 by_cases hneg : cur < 0
 ·rw [XaH hneg] at hg
  subst hg
  have hpos : ¬ 0 ≤ cur := by omega
  rw [decide_eq_false hpos, Bool.false_and]
  refine X0 ?_; refine X0 ?_; refine JR ?_; refine Z1 ?_; refine Z1 ?_; refine Zd ?_; refine Z8 ?_; refine Z1 ?_; refine Z1 ?_; refine Z2 ?_; refine Zk ?_; refine JD ?_; refine JF ?_; refine Xv ?_
  refine X0 ?_; refine JR ?_; refine Z1 ?_; refine Z2 ?_; refine Z1 ?_; refine Zl ?_; refine Zl ?_; refine Zl ?_; refine Zl ?_; refine Zn ?_; refine Z0 ?_; refine JD ?_
  first | exact X1 ⟨_, St.le_refl _, ⟨rfl, trivial⟩, X2 _⟩ | exact X1 ⟨_, X9 4 (y := ab false) (AVal.le_of_eq (by refine Eq.trans (b := ab (decide _)) rfl ?_; exact congrArg ab (by simp; omega))), ⟨rfl, trivial⟩, X2 _⟩ | fail
 have hpos : 0 ≤ cur := by omega
 obtain ⟨x, hx⟩ := XT (l := l) hil
 have hxc : (l.map Xx)[i]? = some (Xx x) := YR hx
 have hxo := hok x (List.mem_of_getElem? hx)
 rw [X9s hx hneg] at hg
 obtain ⟨op, id, src, dst, name, v⟩ := x
 obtain ⟨o1, o2⟩ := hxo
 simp only at o1 o2 hg
 have hsz : (X4 name).size = name.length := rfl
 have hcall := X4Z v o2 12 (cur - 3 - (name.length / 50 : Nat)) (by omega) (by omega) (by omega)
 have hlow := Xbt v 12 (cur - 3 - (name.length / 50 : Nat)) o2 (by omega) (by omega)
 generalize U8 12 v (cur - 3 - (name.length / 50 : Nat)) = z at *
 obtain ⟨xk, xn, xd, xs, xl⟩ := v
 simp only [Xb, Xx] at hcall hxc
 refine X0 ?_; refine X0 ?_; refine JR ?_; refine Z1 ?_; refine Z1 ?_; refine Zd ?_; refine Z8 ?_; refine Z1 ?_; refine Z1 ?_; refine Z2 ?_; refine Zk ?_; refine JD ?_; refine JT ?_; refine X3 ?_
 refine X0 ?_; refine X5 ?_; refine JR ?_; refine Z1 ?_; refine Z1 ?_; refine ZI ?_; refine ZN ?_; refine ZJ ?_; refine Z1 ?_; refine ZR ?_; refine Z1 ?_; refine Z1 ?_; refine ZI ?_; refine ZN ?_; refine ZK ?_
 refine Zc ?_; refine Z7 (op := .quo) (r' := nj ((X4 name).size / 50)) (u := nj (X4 name).size) (v := nj 50) ?_ (hr := by exact UK (by omega) (by rw [XL]; omega)); refine ZR ?_; refine Z9 (hcon := hcall) ?_
 refine Z0 ?_; refine JD ?_; refine JR ?_; refine Z1 ?_; refine Zb ?_; refine Z0 ?_; refine JD ?_
 exact ⟨(i + 1, z), ⟨by show i + 1 ≤ l.length; omega, hlow.1, hlow.2, hg⟩, by show l.length - (i + 1) < l.length - i; omega, Xc rfl ⟨JL, JL, JL, JL, trivial⟩ trivial⟩
end Go.Fw
namespace Go.Fw
open Go Go.Proofs
set_option maxRecDepth 100000
set_option linter.unusedVariables false
set_option linter.unusedSimpArgs false
abbrev oRd (b : List UInt8) (a e : Int) : AObj := .box [.d (Xh b), ai a, ai e]
theorem X5T (b : List UInt8) (a e x : Int) : Con Tryz.prog 138 [(0, oRd b a e)] [.ptr 0 0, ai x] [(0, oRd b a (if e = 0 then x else e))] (.tup []) := by
 refine X8 (xs := []) Tryz.func138 rfl Tryz.ntmps138 rfl rfl rfl (fun E => ?_)
 by_cases h : e = 0
 ·rw [if_pos h]
  refine X0 ?_; refine JR ?_; refine Z1 ?_; refine Z00 ?_; refine Zz ?_; refine ZA ?_; refine Zu ?_; refine JD ?_; refine JT ?_; refine JR ?_; refine Z1 ?_; refine Z1 ?_; refine Z00 ?_; refine Zz ?_; refine Zw ?_
  refine JD ?_
  exact (show X25 _ _ _ _ _ from ⟨_, St.le_refl _, trivial, Xi ⟨rfl, trivial⟩⟩)
 ·rw [if_neg h]
  refine X0 ?_; refine JR ?_; refine Z1 ?_; refine Z00 ?_; refine Zz ?_; refine ZA ?_; refine Zu ?_; refine JD ?_; refine JF ?_; refine X3 ?_
  exact (show X25 _ _ _ _ _ from ⟨_, St.le_refl _, trivial, Xi ⟨rfl, trivial⟩⟩)
theorem X0X (b : List UInt8) (a e : Int) (hb : b.length ≤ 281474976710656) : Con Tryz.prog 121 [(0, oRd b a e)] [.ptr 0 0] [(0, if e = 0 then oRd b (Xl b a).2.1 (Xl b a).2.2 else oRd b a e)] (ai (if e = 0 then (Xl b a).1 else 0)) := by
 refine X8 (xs := [ai (if e = 0 then (Xl b a).1 else 0)]) Tryz.func121 rfl Tryz.ntmps121 rfl rfl rfl (fun E => ?_)
 by_cases h : e = 0
 ·rw [if_pos h, if_pos h]
  repeat first | refine X0 ?_ | (refine JR ?_; (repeat first | refine Z1 ?_ | refine Z0 ?_ | refine Z00 ?_ | refine Zz ?_ | refine ZA ?_ | refine Zs ?_ | refine Zw ?_ | refine ZD ?_ | refine Z9 (hcon := X4G b a hb) ?_); refine JD ?_) | refine JF ?_ | refine X3 ?_
  exact X1 ⟨_, St.le_refl _, ⟨rfl, trivial⟩, Xi ⟨rfl, trivial⟩⟩
 ·rw [if_neg h, if_neg h]
  refine X0 ?_; refine JR ?_; refine Z0 ?_; refine JD ?_; refine X0 ?_; refine X0 ?_; refine JR ?_; refine Z1 ?_; refine Z00 ?_; refine Zz ?_; refine ZA ?_; refine Zs ?_; refine JD ?_; refine JT ?_
  refine X0 ?_; refine JR ?_; refine Z0 ?_; refine JD ?_
  exact X1 ⟨_, St.le_refl _, ⟨rfl, trivial⟩, Xi ⟨rfl, trivial⟩⟩
end Go.Fw
namespace Go.Fw
open Go Go.Proofs
set_option maxRecDepth 100000
set_option linter.unusedVariables false
set_option linter.unusedSimpArgs false
def rkS (b : List UInt8) (a : Nat) (e limit : Int) : Int × Int × Int :=
 if e ≠ 0 then (0, (a : Int), e) else if b.length ≤ a then (0, (a : Int), 3) else
  if ((((b[a]?).getD 0).toNat : Nat) : Int) < 1 ∨ limit < ((((b[a]?).getD 0).toNat : Nat) : Int) then (0, (a : Int), 2) else ((((b[a]?).getD 0).toNat : Nat), (a : Int) + 1, 0)
theorem X9g (b : List UInt8) (a : Nat) (e limit : Int) (hb : b.length ≤ 281474976710656) (ha : a ≤ 281474976710656) : Con Tryz.prog 40 [(0, oRd b a e)] [.ptr 0 0, ai limit] [(0, oRd b (rkS b a e limit).2.1 (rkS b a e limit).2.2)] (ai (rkS b a e limit).1) := by
 refine X8 (xs := [ai (rkS b a e limit).1]) Tryz.func40 rfl Tryz.ntmps40 rfl rfl rfl (fun E => ?_)
 have hlm : (b.map Xa).length = b.length := by simp
 by_cases he : e = 0
 case neg =>
  rw [show rkS b a e limit = (0, (a : Int), e) by unfold rkS; rw [if_pos he]]
  refine X0 ?_; refine JR ?_; refine Z0 ?_; refine JD ?_; refine X0 ?_; refine X5 ?_; refine X0 ?_; refine JR ?_; refine Z1 ?_; refine Z00 ?_; refine Zz ?_; refine ZA ?_; refine Zs ?_; refine Z0 ?_
  refine JD ?_; refine JT ?_; refine X3 ?_; refine X0 ?_; refine JR ?_; refine Z0 ?_; refine JD ?_
  exact X1 ⟨_, St.le_refl _, ⟨rfl, trivial⟩, Xi ⟨rfl, trivial⟩⟩
 subst he
 by_cases h1 : b.length ≤ a
 ·rw [show rkS b a 0 limit = (0, (a : Int), 3) by unfold rkS; rw [if_neg (by simp), if_pos h1]]
  have h1' : ((b.map Xa).length : Int) ≤ a := by omega
  repeat first | refine X0 ?_ | (refine JR ?_; (repeat first | refine Z1 ?_ | refine Z0 ?_ | refine Z00 ?_ | refine Zz ?_ | refine ZA ?_ | refine Zd ?_ | refine Z2 ?_ | refine Zs ?_ | refine Zw ?_); refine JD ?_) | refine JT ?_ | refine JF ?_ | refine X5 ?_
  exact X1 ⟨_, St.le_refl _, ⟨rfl, trivial⟩, Xi ⟨rfl, trivial⟩⟩
 have h1' : ¬ ((b.map Xa).length : Int) ≤ a := by omega
 obtain ⟨c, hc⟩ := XT (l := b) (k := a) (by omega)
 have hrk : rkS b a 0 limit = if ((c.toNat : Nat) : Int) < 1 ∨ limit < ((c.toNat : Nat) : Int) then (0, (a : Int), 2) else (((c.toNat : Nat) : Int), (a : Int) + 1, 0) := by
  unfold rkS; rw [if_neg (by simp), if_neg h1, hc, Option.getD_some]
 have hxm : (b.map Xa)[a]? = some (Xa c) := YR hc
 by_cases h2 : ((c.toNat : Nat) : Int) < 1
 ·rw [hrk, if_pos (.inl h2)]
  repeat first | refine X0 ?_ | (refine JR ?_; (repeat first | refine Z1 ?_ | refine Z0 ?_ | refine Z00 ?_ | refine Zz ?_ | refine ZA ?_ | refine ZK ?_ | refine Zd ?_ | refine Z8 ?_ | refine Z2 ?_ | refine Zs ?_ | refine Zw ?_ | refine Zk ?_ | refine ZI ?_ | refine Zl ?_); refine JD ?_) | refine JT ?_ | refine JF ?_ | refine X5 ?_
  exact X1 ⟨_, St.le_refl _, ⟨rfl, trivial⟩, Xi ⟨rfl, trivial⟩⟩
 by_cases h3 : limit < ((c.toNat : Nat) : Int)
 ·rw [hrk, if_pos (.inr h3)]
  repeat first | refine X0 ?_ | (refine JR ?_; (repeat first | refine Z1 ?_ | refine Z0 ?_ | refine Z00 ?_ | refine Zz ?_ | refine ZA ?_ | refine ZK ?_ | refine Zd ?_ | refine Z8 ?_ | refine Zp ?_ | refine Z2 ?_ | refine Zs ?_ | refine Zw ?_ | refine Zn ?_ | refine ZI ?_ | refine Z01 ?_); refine JD ?_) | refine JT ?_ | refine JF ?_ | refine X5 ?_
  exact X1 ⟨_, St.le_refl _, ⟨rfl, trivial⟩, Xi ⟨rfl, trivial⟩⟩
 rw [hrk, if_neg (by omega)]
 repeat first | refine X0 ?_ | (refine JR ?_; (repeat first | refine Z4 (op := .sub) (r' := nj a) (u := .int .i64 ((a : Int) + 1)) (v := .int .i64 1) ?_ (hr' := by exact congrArg (Value.int .i64) (show ((a : Int) + 1 - 1) = (a : Int) by omega)) (hr := by exact Vw (by unfold Uw; omega)) | refine Z1 ?_ | refine Z0 ?_ | refine Z00 ?_ | refine Zz ?_ | refine ZA ?_ | refine ZK ?_ | refine Zd ?_ | refine Z8 ?_ | refine Zp ?_ | refine Z2 ?_ | refine Zs ?_ | refine Zb ?_ | refine Zw ?_ | refine Zn ?_ | refine ZI ?_ | refine Z01 ?_); refine JD ?_) | refine JF ?_ | refine X5 ?_
 exact X1 ⟨_, St.le_refl _, ⟨rfl, trivial⟩, Xi ⟨rfl, trivial⟩⟩
theorem XaV (b : List UInt8) (a e : Int) (hb : b.length ≤ 281474976710656) : Con Tryz.prog 41 [(0, oRd b a e)] [.ptr 0 0] [(0, if e = 0 then oRd b (Xg b a).2.1 (Xg b a).2.2 else oRd b a e)] (ai (if e = 0 then (Xg b a).1 else 0)) := by
 refine X8 (xs := [ai (if e = 0 then (Xg b a).1 else 0)]) Tryz.func41 rfl Tryz.ntmps41 rfl rfl rfl (fun E => ?_)
 by_cases h : e = 0
 ·rw [if_pos h, if_pos h]
  have hu := X2m b a hb
  generalize Xg b a = u at *
  obtain ⟨u1, u2, u3⟩ := u
  repeat first | refine X0 ?_ | (refine JR ?_; (repeat first | refine Z1 ?_ | refine Z0 ?_ | refine Z00 ?_ | refine Zz ?_ | refine ZA ?_ | refine Zu ?_ | refine Zw ?_ | refine ZD ?_ | refine Z9 (hcon := hu) ?_); refine JD ?_) | refine JT ?_
  exact X1 ⟨_, St.le_refl _, ⟨rfl, trivial⟩, Xi ⟨rfl, trivial⟩⟩
 ·rw [if_neg h, if_neg h]
  refine X0 ?_; refine JR ?_; refine Z0 ?_; refine JD ?_; refine X0 ?_; refine JR ?_; refine Z0 ?_; refine JD ?_; refine X0 ?_; refine X0 ?_; refine JR ?_; refine Z1 ?_; refine Z00 ?_; refine Zz ?_
  refine ZA ?_; refine Zu ?_; refine JD ?_; refine JF ?_; refine X3 ?_; refine X0 ?_; refine JR ?_; refine Z1 ?_; refine Z0 ?_; refine JD ?_
  exact X1 ⟨_, St.le_refl _, ⟨rfl, trivial⟩, Xi ⟨rfl, trivial⟩⟩
end Go.Fw
namespace Go.Fw
open Go Go.Proofs
set_option maxRecDepth 100000
set_option linter.unusedVariables false
set_option linter.unusedSimpArgs false
def Yz (k : Int) (u : Int × Int × Int) : Int := if u.2.2 ≠ 0 then u.2.2 else if YC k u.1 then 2 else 0
theorem XaS (b : List UInt8) (a e : Int) (hb : b.length ≤ 281474976710656) : Con Tryz.prog 122 [(0, oRd b a e)] [.ptr 0 0, ai 64, ab false] [(0, oRd b (Xg b a).2.1 (Yz 8 (Xg b a)))] (ai (Xg b a).1) := by
 have hu := X2m b a hb
 have hz : (Xg b a).2.2 ≠ 0 → (Xg b a).1 = 0 := by
  intro h; rw [X29] at h ⊢
  split
  ·rfl
  ·split
   ·rfl
   ·rename_i h1 h2; simp [h1, h2] at h
 generalize Xg b a = u at *
 obtain ⟨n, at_, e'⟩ := u
 simp only at hz
 refine X8 (xs := [ai n]) Tryz.func122 rfl Tryz.ntmps122 rfl rfl rfl (fun E => ?_)
 by_cases h : 64 < n
 ·have he : e' = 0 := by
   by_cases h0 : e' = 0
   ·exact h0
   ·have := hz h0; omega
  subst he
  rw [show Yz 8 (n, at_, 0) = 2 by simp [Yz, YC, h]]
  repeat first | refine X0 ?_ | (refine JR ?_; (repeat first | refine Z1 ?_ | refine Z0 ?_ | refine Z00 ?_ | refine Zz ?_ | refine ZA ?_ | refine Zp ?_ | refine Zw ?_ | refine ZD ?_ | refine Zk ?_ | refine Zl ?_ | refine Zm ?_ | refine Z9 (hcon := hu) ?_ | refine Z9 (hcon := X5T b at_ 0 2) ?_); refine JD ?_) | refine JT ?_
  exact X1 ⟨_, St.le_refl _, ⟨rfl, trivial⟩, Xi ⟨rfl, trivial⟩⟩
 ·rw [show Yz 8 (n, at_, e') = e' by by_cases h0 : e' = 0 <;> simp [Yz, YC, h, h0]]
  repeat first | refine X0 ?_ | (refine JR ?_; (repeat first | refine Z1 ?_ | refine Z0 ?_ | refine Z00 ?_ | refine Zz ?_ | refine ZA ?_ | refine Zp ?_ | refine Zw ?_ | refine ZD ?_ | refine Zn ?_ | refine Zl ?_ | refine Z9 (hcon := hu) ?_); refine JD ?_) | refine JF ?_ | refine X3 ?_
  exact X1 ⟨_, St.le_refl _, ⟨rfl, trivial⟩, Xi ⟨rfl, trivial⟩⟩
theorem XbR (b : List UInt8) (a e : Int) (hb : b.length ≤ 281474976710656) : Con Tryz.prog 122 [(0, oRd b a e)] [.ptr 0 0, ai 25, ab true] [(0, oRd b (Xg b a).2.1 (Yz 7 (Xg b a)))] (ai (Xg b a).1) := by
 have hu := X2m b a hb
 have hz : (Xg b a).2.2 ≠ 0 → (Xg b a).1 = 0 := by
  intro h; rw [X29] at h ⊢
  split
  ·rfl
  ·split
   ·rfl
   ·rename_i h1 h2; simp [h1, h2] at h
 have hp : 0 ≤ (Xg b a).1 := by
  rw [X29]
  split
  ·simp
  ·split <;> simp
 generalize Xg b a = u at *
 obtain ⟨n, at_, e'⟩ := u
 simp only at hz hp
 refine X8 (xs := [ai n]) Tryz.func122 rfl Tryz.ntmps122 rfl rfl rfl (fun E => ?_)
 have hf := X5T b at_ e' 2
 by_cases h : 25 < n
 ·have he : e' = 0 := by
   by_cases h0 : e' = 0
   ·exact h0
   ·have := hz h0; omega
  subst he
  rw [show Yz 7 (n, at_, 0) = 2 by simp [Yz, YC, h]]
  rw [if_pos rfl] at hf
  repeat first | refine X0 ?_ | (refine JR ?_; (repeat first | refine Z1 ?_ | refine Z0 ?_ | refine Z00 ?_ | refine Zz ?_ | refine ZA ?_ | refine Zp ?_ | refine Zw ?_ | refine ZD ?_ | refine Zk ?_ | refine Zl ?_ | refine Zm ?_ | refine Z9 (hcon := hu) ?_ | refine Z9 (hcon := hf) ?_); refine JD ?_) | refine JT ?_
  exact X1 ⟨_, St.le_refl _, ⟨rfl, trivial⟩, Xi ⟨rfl, trivial⟩⟩
 ·by_cases h2 : n % 2 = 0
  ·rw [show Yz 7 (n, at_, e') = if e' = 0 then 2 else e' by simp only [Yz, YC]; by_cases h0 : e' = 0 <;> simp [h0, h2]]
   repeat first | refine X0 ?_ | (refine JR ?_; (repeat first | refine Z1 ?_ | refine Z0 ?_ | refine Z00 ?_ | refine Zz ?_ | refine ZA ?_ | refine Zp ?_ | refine Zu ?_ | refine ZH ?_ | refine Zw ?_ | refine ZD ?_ | refine Zk ?_ | refine Zn ?_ | refine Z9 (hcon := hu) ?_ | refine Z9 (hcon := hf) ?_); refine JD ?_) | refine JT ?_
   exact X1 ⟨_, St.le_refl _, ⟨rfl, trivial⟩, Xi ⟨rfl, trivial⟩⟩
  ·rw [show Yz 7 (n, at_, e') = e' by by_cases h0 : e' = 0 <;> simp [Yz, YC, h, h2, h0]]
   repeat first | refine X0 ?_ | (refine JR ?_; (repeat first | refine Z1 ?_ | refine Z0 ?_ | refine Z00 ?_ | refine Zz ?_ | refine ZA ?_ | refine Zp ?_ | refine Zu ?_ | refine ZH ?_ | refine Zw ?_ | refine ZD ?_ | refine Zk ?_ | refine Zn ?_ | refine Z9 (hcon := hu) ?_); refine JD ?_) | refine JF ?_ | refine X3 ?_
   exact X1 ⟨_, St.le_refl _, ⟨rfl, trivial⟩, Xi ⟨rfl, trivial⟩⟩
def U3 (b : List UInt8) (a : Nat) (m : Nat) (want : Int) : Int × Int × Int :=
 if a = b.length then (0, (a : Int), 3) else let k : Int := ((b[a]?).getD 0).toNat
  if 8 < k ∨ (k = 8 ∧ m = 0) ∨ (want ≠ 0 ∧ k ≠ want) then (0, (a : Int), 2) else (k, (a : Int) + 1, 0)
theorem X9S (b : List UInt8) (a m : Nat) (want : Int) (hm : m ≤ 8) (ha : a ≤ b.length) (hb : b.length ≤ 281474976710656) : Con Tryz.prog 120 [(0, oRd b a 0)] [.ptr 0 0, ai (8 - m), ai want] [(0, oRd b (U3 b a m want).2.1 (U3 b a m want).2.2)] (ai (U3 b a m want).1) := by
 refine X8 (xs := [ai (U3 b a m want).1]) Tryz.func120 rfl Tryz.ntmps120 rfl rfl rfl (fun E => ?_)
 by_cases ha' : a = b.length
 ·rw [show U3 b a m want = (0, (a : Int), 3) by unfold U3; rw [if_pos ha']]
  have hai : (a : Int) = b.length := by omega
  repeat first | refine X0 ?_ | (refine JR ?_; (repeat first | refine Z1 ?_ | refine Z0 ?_ | refine Z00 ?_ | refine Zz ?_ | refine ZA ?_ | refine Zd ?_ | refine Zu ?_ | refine Zs ?_ | refine Zw ?_); refine JD ?_) | refine JT ?_ | refine JF ?_ | refine X3 ?_
  exact X1 ⟨_, St.le_refl _, ⟨rfl, trivial⟩, Xi ⟨rfl, trivial⟩⟩
 obtain ⟨c, hc⟩ := XT (l := b) (k := a) (by omega)
 have e1 : U3 b a m want = if 8 < (c.toNat : Int) ∨ ((c.toNat : Int) = 8 ∧ m = 0) ∨ (want ≠ 0 ∧ (c.toNat : Int) ≠ want) then (0, (a : Int), 2) else ((c.toNat : Int), (a : Int) + 1, 0) := by
  unfold U3; rw [if_neg ha', hc]; rfl
 have hai : (a : Int) ≠ b.length := by omega
 by_cases h8 : 8 < (c.toNat : Int)
 ·rw [e1, if_pos (.inl h8)]
  repeat first | refine X0 ?_ | (refine JR ?_; (repeat first | refine Z1 ?_ | refine Z0 ?_ | refine Z00 ?_ | refine Zz ?_ | refine ZA ?_ | refine ZK ?_ | refine Zd ?_ | refine Zp ?_ | refine Zu ?_ | refine Zs ?_ | refine Zw ?_ | refine Zk ?_ | refine ZI ?_ | refine Z01 ?_ | refine Zl ?_ | refine Zm ?_); refine JD ?_) | refine JT ?_ | refine JF ?_ | refine X3 ?_
  exact X1 ⟨_, St.le_refl _, ⟨rfl, trivial⟩, Xi ⟨rfl, trivial⟩⟩
 by_cases hw : want ≠ 0 ∧ (c.toNat : Int) ≠ want
 ·rw [e1, if_pos (.inr (.inr hw))]
  obtain ⟨hw1, hw2⟩ := hw
  by_cases hk : (c.toNat : Int) = 8
  ·by_cases hm0 : m = 0
   ·have : (8 : Int) - m ≥ 8 := by omega
    repeat first | refine X0 ?_ | (refine JR ?_; (repeat first | refine Z1 ?_ | refine Z0 ?_ | refine Z00 ?_ | refine Zz ?_ | refine ZA ?_ | refine ZK ?_ | refine Zd ?_ | refine Zp ?_ | refine Z2 ?_ | refine Zu ?_ | refine Zs ?_ | refine Zw ?_ | refine Zk ?_ | refine Zn ?_ | refine ZI ?_ | refine Z01 ?_ | refine Zl ?_ | refine Zm ?_); refine JD ?_) | refine JT ?_ | refine JF ?_ | refine X3 ?_
    exact X1 ⟨_, St.le_refl _, ⟨rfl, trivial⟩, Xi ⟨rfl, trivial⟩⟩
   ·have : ¬ (8 : Int) - m ≥ 8 := by omega
    repeat first | refine X0 ?_ | (refine JR ?_; (repeat first | refine Z1 ?_ | refine Z0 ?_ | refine Z00 ?_ | refine Zz ?_ | refine ZA ?_ | refine ZK ?_ | refine Zd ?_ | refine Zp ?_ | refine Z2 ?_ | refine Zu ?_ | refine Zs ?_ | refine Zw ?_ | refine Zk ?_ | refine Zn ?_ | refine ZI ?_ | refine Z01 ?_); refine JD ?_) | refine JT ?_ | refine JF ?_ | refine X3 ?_
    exact X1 ⟨_, St.le_refl _, ⟨rfl, trivial⟩, Xi ⟨rfl, trivial⟩⟩
  ·repeat first | refine X0 ?_ | (refine JR ?_; (repeat first | refine Z1 ?_ | refine Z0 ?_ | refine Z00 ?_ | refine Zz ?_ | refine ZA ?_ | refine ZK ?_ | refine Zd ?_ | refine Zp ?_ | refine Zu ?_ | refine Zs ?_ | refine Zw ?_ | refine Zk ?_ | refine Zn ?_ | refine ZI ?_ | refine Z01 ?_ | refine Zl ?_); refine JD ?_) | refine JT ?_ | refine JF ?_ | refine X3 ?_
   exact X1 ⟨_, St.le_refl _, ⟨rfl, trivial⟩, Xi ⟨rfl, trivial⟩⟩
 by_cases hk : (c.toNat : Int) = 8
 ·by_cases hm0 : m = 0
  ·rw [e1, if_pos (.inr (.inl ⟨hk, hm0⟩))]
   have : (8 : Int) - m ≥ 8 := by omega
   repeat first | refine X0 ?_ | (refine JR ?_; (repeat first | refine Z1 ?_ | refine Z0 ?_ | refine Z00 ?_ | refine Zz ?_ | refine ZA ?_ | refine ZK ?_ | refine Zd ?_ | refine Zp ?_ | refine Z2 ?_ | refine Zu ?_ | refine Zs ?_ | refine Zw ?_ | refine Zk ?_ | refine Zn ?_ | refine ZI ?_ | refine Z01 ?_ | refine Zl ?_ | refine Zm ?_); refine JD ?_) | refine JT ?_ | refine JF ?_ | refine X3 ?_
   exact X1 ⟨_, St.le_refl _, ⟨rfl, trivial⟩, Xi ⟨rfl, trivial⟩⟩
  ·rw [e1, if_neg (by omega)]
   have : ¬ (8 : Int) - m ≥ 8 := by omega
   by_cases hw0 : want = 0
   ·repeat first | refine X0 ?_ | (refine JR ?_; (repeat first | refine Z1 ?_ | refine Z0 ?_ | refine Z00 ?_ | refine Zz ?_ | refine ZA ?_ | refine ZK ?_ | refine Zd ?_ | refine Zp ?_ | refine Z2 ?_ | refine Zu ?_ | refine Zs ?_ | refine Zb ?_ | refine Zw ?_ | refine Zk ?_ | refine Zn ?_ | refine ZI ?_ | refine Z01 ?_ | refine Zl ?_); refine JD ?_) | refine JF ?_ | refine X3 ?_
    exact X1 ⟨_, St.le_refl _, ⟨rfl, trivial⟩, Xi ⟨rfl, trivial⟩⟩
   ·have hw1 : (c.toNat : Int) = want := by omega
    repeat first | refine X0 ?_ | (refine JR ?_; (repeat first | refine Z1 ?_ | refine Z0 ?_ | refine Z00 ?_ | refine Zz ?_ | refine ZA ?_ | refine ZK ?_ | refine Zd ?_ | refine Zp ?_ | refine Z2 ?_ | refine Zu ?_ | refine Zs ?_ | refine Zb ?_ | refine Zw ?_ | refine Zk ?_ | refine Zn ?_ | refine ZI ?_ | refine Z01 ?_); refine JD ?_) | refine JF ?_ | refine X3 ?_
    exact X1 ⟨_, St.le_refl _, ⟨rfl, trivial⟩, Xi ⟨rfl, trivial⟩⟩
 ·rw [e1, if_neg (by omega)]
  by_cases hw0 : want = 0
  ·repeat first | refine X0 ?_ | (refine JR ?_; (repeat first | refine Z1 ?_ | refine Z0 ?_ | refine Z00 ?_ | refine Zz ?_ | refine ZA ?_ | refine ZK ?_ | refine Zd ?_ | refine Zp ?_ | refine Zu ?_ | refine Zs ?_ | refine Zb ?_ | refine Zw ?_ | refine Zn ?_ | refine ZI ?_ | refine Z01 ?_ | refine Zl ?_); refine JD ?_) | refine JF ?_ | refine X3 ?_
   exact X1 ⟨_, St.le_refl _, ⟨rfl, trivial⟩, Xi ⟨rfl, trivial⟩⟩
  ·have hw1 : (c.toNat : Int) = want := by omega
   repeat first | refine X0 ?_ | (refine JR ?_; (repeat first | refine Z1 ?_ | refine Z0 ?_ | refine Z00 ?_ | refine Zz ?_ | refine ZA ?_ | refine ZK ?_ | refine Zd ?_ | refine Zp ?_ | refine Zu ?_ | refine Zs ?_ | refine Zb ?_ | refine Zw ?_ | refine Zk ?_ | refine Zn ?_ | refine ZI ?_ | refine Z01 ?_ | refine Zl ?_); refine JD ?_) | refine JF ?_ | refine X3 ?_
   exact X1 ⟨_, St.le_refl _, ⟨rfl, trivial⟩, Xi ⟨rfl, trivial⟩⟩
end Go.Fw
