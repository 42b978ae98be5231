/- Ninth part: the walk's rule for a call; weakening of states; more operations. -/
import Derived.Laws.BytesString
import Derived.OpenShut
import Derived.Deep.Slices
import Derived.Deep.Strs
import Derived.Test.YtpfldfkhgplcgaaGreatDoorM08
namespace Go.Fw
open Go
set_option linter.unusedVariables false
set_option linter.unusedSimpArgs false
section
variable {P : Program} {ops : Array Oper} {draw : Bool} {K : St → Prop} {rest : List Oper} {l : Yb} {S : St}
variable {d : Nat} {ty : TypeId} {pos : String} {aft : Array Edge} {gd : Option (Nat × Bool)}
end
theorem Xa9 {P : Program} {E : Env} {c : Code} {S : St} {Q : Exit → St → Prop} (γ j : Nat) {sz : Nat} {cs : List AVal} {xs : List (List D)} (hL : S.obj γ = .box cs) (hj : cs[j]? = some (.d (.sl sz xs))) (h : xs.length ≤ 9223372036854775807 → AWP P E c S Q) : AWP P E c S Q := by
 refine ⟨fun a w hs => ?_⟩
 obtain ⟨g, hg⟩ := hs
 have ho := hg.1.obj γ
 rw [hL] at ho
 obtain ⟨vs, e, fr, _, _, h3, _⟩ := ho
 obtain ⟨u, _, hu⟩ := UP h3 j _ hj
 simp only [AVal.sat] at hu
 exact (h (X71 hu)).run a w ⟨g, hg⟩
section
variable {P : Program} {ops : Array Oper} {draw : Bool} {K : St → Prop} {rest : List Oper} {l : Yb} {S : St}
variable {d : Nat} {ty : TypeId} {pos : String} {aft : Array Edge} {gd : Option (Nat × Bool)}
def X4R (P : Program) (src dst : TypeId) : Bool :=
 match P.underlying src, P.underlying dst with
 | some .string, some (.slice e) => (match P.underlying e with | some (.int .u8) => true | _ => false)
 | _, _ => false
theorem Xg5 {src dst : TypeId} (h : X4R P src dst = true) : ∃ e, P.underlying src = some .string ∧ P.underlying dst = some (.slice e) ∧ P.underlying e = some (.int .u8) := by
 unfold X4R at h
 split at h
 ·rename_i e h1 h2
  split at h
  ·rename_i h3; exact ⟨e, h1, h2, h3⟩
  ·simp at h
 ·simp at h
theorem Xds {src dst : TypeId} {x : Operand} {b : List UInt8} (hx : S.ev x = aZ (X7 b)) (hb : b.length ≤ 9223372036854775807) (ht : X4R P src dst = true) (hd : Nat.blt d S.n = true) (hg : Xe ops S gd)
  (h : Walk P ops draw K rest ((l.length, ⟨some d, .convert src dst x, ty, pos, aft, gd⟩, ⟨Xd ops gd ++ [(x, aZ (X7 b))], some (d, .d (.sl 1 (b.map fun c => [D.v (.int .u8 c.toNat)]))), [], [], []⟩) :: l) (S.set d (.d (.sl 1 (b.map fun c => [D.v (.int .u8 c.toNat)]))))) :
  Walk P ops draw K (⟨some d, .convert src dst x, ty, pos, aft, gd⟩ :: rest) l S := by
 refine XG ⟨[(x, aZ (X7 b))], some (d, .d (.sl 1 (b.map fun c => [D.v (.int .u8 c.toNat)]))), [], [], []⟩ ?_ hg ⟨⟨hx, trivial⟩, trivial, trivial, hd⟩ h
 intro E S a w g hs hok Q K hK
 have hq := VO hs _ hok.1
 obtain ⟨e, t1, t2, t3⟩ := Xg5 ht
 have hsz : (X7 b).size = b.length := rfl
 have hrow := run_bytes_of_string (P := P) w src dst e (X7 b) t1 t2 t3
 rw [hsz] at hrow
 generalize hc : grownCap w b.length 0 e = cap at hrow
 have hc1 : b.length ≤ cap := by rw [← hc]; exact grownCap_ge w _ _ _
 have hc2 : cap ≤ maxLen := by rw [← hc]; exact grownCap_le_maxLen w _ _ _ (by unfold maxLen; omega)
 have hs' : Vt E S g a w.drew := ⟨X9g hs.1, hs.2⟩
 have hle := X4y hs'.1 (bytesRow (X7 b) cap)
 have hrun : (execOp a.eval ⟨some d, .convert src dst x, ty, pos, aft, gd⟩).run P w = .ok (.value (.slice (some ⟨w.heap.size, 0, none⟩) b.length cap)) (w.drew.alloc (.cells (bytesRow (X7 b) cap) e ((bytesRow (X7 b) cap).size, (bytesRow (X7 b) cap).size + 1))) := by
  simp only [execOp, Sem.run_bind, Yt hq.1, hrow]; rfl
 unfold Oper.wp
 rw [hrun, Oper.upon_value]
 refine hK _ _ (VL (X6f hs'.1 _ e _) hs.2.1 hs.2.2.1 (fun t => X1k (g := g) (g' := g.lay w.drew.heap.size (bytesRow (X7 b) cap)) hle rfl rfl rfl (hs.2.2.2 t)) ?_ hok.2.2.2)
 have := X5S (g := g) (w := w.drew) (sz := 1) (xs := b.map fun c => [D.v (.int .u8 c.toNat)]) (vs := bytesRow (X7 b) cap) (cap := cap) (by simp) (by
  have hb1 := X6i (g := g) b
  rw [List.length_map, Nat.mul_one]
  have : (bytesRow (X7 b) cap).toList.take b.length = b.map fun c => Value.int .u8 c.toNat := by
   simp only [bytesRow, X7, Array.toList_append, Array.toList_map]
   rw [List.take_append_of_le_length (by simp), List.take_of_length_le (by simp)]
  rw [this]; exact hb1) hle (by simpa using hc1) hc2
 rw [List.length_map] at this
 exact this
end
open Go Go.ChangeShapes Go.WideShapes Go.Deep
section
variable {H : Type} {enc : TypeId × Value → H} {P : Program} {W : World}
theorem Xhb {t : TypeId} (ht : P.underlying t = some (.int .u8)) : Opens enc P W t (fun _ : UInt8 => True) (fun b => [.v (.int .u8 b.toNat)]) :=
 (Xbf ht).to (fun n => UInt8.ofNat n.toNat) fun a ha => ⟨trivial, by
  have := bounds_u8 ha
  simp only [List.cons.injEq, D.v.injEq, Value.int.injEq, true_and, and_true, UInt8.toNat_ofNat']
  omega⟩
theorem X6j {α : Type} {t e : TypeId} {sz : Nat} {p : α → Prop} {f : α → List D} (ht : P.underlying t = some (.slice e)) (hz : P.cellsOf e = sz) (h0 : 0 < sz) (ho : Opens enc P W e p f) :
  Opens enc P W t (fun l : List α => ∀ r ∈ l, p r) (fun l => [.sl sz (l.map f)]) := by
 refine ⟨fun n cs x hx => ?_⟩
 rcases open_slice ht hx with ⟨rfl, _⟩ | ⟨a, len, cap, m, n', DD, Pl, rfl, _, hl, hm, hmm, rfl, hel⟩
 ·refine ⟨[], by simp, ?_⟩
  simp only [YG, D.rep, List.map_nil]
  exact ⟨⟨none, 0, rfl, Nat.le_refl _, Nat.zero_le _, .inl trivial⟩, trivial⟩
 simp only [if_true] at hmm
 subst hmm
 have hel' : ∀ i, i < len → ∃ r, p r ∧ (f r).length = sz ∧ ∀ j d, (f r)[j]? = some d → ∃ u, W.cell? ((a.add (i * sz)).add j) = some u ∧ d.rep W.cell? u := by
  intro i hi
  obtain ⟨cs', h1, h2⟩ := hel i (by omega)
  obtain ⟨r, h3, h4⟩ := ho.op _ _ _ h2
  obtain ⟨_, h5, h6⟩ := World.cells?_some h1
  rw [hz] at h5 h6
  refine ⟨r, h3, by rw [← X4l h4, h5], fun j d hd => ?_⟩
  obtain ⟨u, h7, h8⟩ := X47 h4 j d hd
  have hj : j < sz := by
   have := (List.getElem?_eq_some_iff.1 h7).1
   omega
  exact ⟨u, (h6 j hj).trans h7, h8⟩
 obtain ⟨l, h1, h2⟩ := X4I len hel'
 refine ⟨l, fun r hr => ?_, ?_⟩
 ·obtain ⟨i, hi⟩ := List.getElem?_of_mem hr
  exact (h2 i r hi).1
 simp only [YG, D.rep]
 refine ⟨⟨some a, m, by rw [List.length_map, h1], by rw [List.length_map, h1]; exact hl, hm, ?_⟩, trivial⟩
 by_cases h00 : len = 0
 ·exact .inl (by rw [List.eq_nil_of_length_eq_zero (h1.trans h00)]; rfl)
 right
 obtain ⟨b, o, sp⟩ := a
 have hsp : sp = none := by
  obtain ⟨r, hr⟩ : ∃ r, l[0]? = some r := ⟨_, List.getElem?_eq_getElem (by omega)⟩
  obtain ⟨_, hlen, hcell⟩ := h2 0 r hr
  obtain ⟨d, hd⟩ : ∃ d, (f r)[0]? = some d := ⟨_, List.getElem?_eq_getElem (by omega)⟩
  obtain ⟨u, hu, _⟩ := hcell 0 d hd
  simpa [Addr.add] using World.cell?_spot hu
 subst hsp
 refine ⟨b, o, rfl, X2R _ _ _ fun i r hr => ?_⟩
 obtain ⟨x, hx, rfl⟩ : ∃ x, l[i]? = some x ∧ f x = r := by simpa using hr
 obtain ⟨_, hlen, hcell⟩ := h2 i x hx
 refine ⟨hlen, X1j _ _ _ fun j d hd => ?_⟩
 obtain ⟨u, hu, hd⟩ := hcell j d hd
 rw [YH, YH] at hu
 exact ⟨u, hu, hd⟩
theorem XeE {α : Type} {t : TypeId} {fs : Array Field} {r : Reach} {b0 : Nat} {v : Value} {d : DataW H} {ps : List MemPlace} {p : α → Prop} {f : α → List D} (ht : P.underlying t = some (.struct fs))
  (hval : Value.okWide P W r b0 t v) (hd : DataW.Trod enc P W 0 (fun _ => true) true t v d ps) (ho : Opens enc P W t p f) : ∃ x, p x ∧ (AVal.agg ((f x).map .d)).sat (g0 W.cell?) v := by
 simp only [Value.okWide, ht] at hval
 obtain ⟨cs, rfl, _, _⟩ := hval
 obtain ⟨n, hn⟩ := hd
 obtain ⟨x, h1, h2⟩ := ho.op _ _ _ hn
 refine ⟨x, h1, ?_⟩
 simp only [AVal.sat]
 exact ⟨cs, rfl, X5U rfl h2⟩
end
theorem X9x {sz : Nat} : ∀ (xs : List (List D)) (k : Nat), (∀ r ∈ xs, r.length = sz) → k ≤ xs.length → (xs.take k).flatten = xs.flatten.take (k * sz)
 | _, 0, _, _ => by simp
 | [], k + 1, _, h => by simp at h
 | x :: r, k + 1, hx, h => by
  have hl := hx x (by simp)
  have ih := X9x r k (fun y hy => hx y (by simp [hy])) (by simpa using h)
  have e : (k + 1) * sz = x.length + k * sz := by rw [hl, Nat.succ_mul, Nat.add_comm]
  rw [List.take_succ_cons, List.flatten_cons, List.flatten_cons, e, List.take_length_add_append, ih]
section
variable {P : Program} {ops : Array Oper} {draw : Bool} {K : St → Prop} {rest : List Oper} {l : Yb} {S : St}
variable {d : Nat} {ty : TypeId} {pos : String} {aft : Array Edge} {gd : Option (Nat × Bool)}
theorem Xcw {E : Env} {S : St} {g : Gh} {w : World} (hi : Inv E S.obj g w) {γ γ2 sz hb : Nat} {xs : List (List D)} (hL : S.obj γ = .row sz xs) (hdead : S.obj γ2 = .dead) (hf : S.free γ2 = true) (hk : hb ≤ xs.length) :
  ∃ a c, g.hd γ = .slice a xs.length c ∧ xs.length ≤ c ∧ (a = none ∨ ∃ b, a = some ⟨b, 0, none⟩) ∧ Inv E (Xl .dead ((γ, .dead) :: (γ2, .row sz (xs.take hb)) :: S.L)) (g.put γ2 0 (.slice a hb c)) w := by
 have hne : γ ≠ γ2 := by rintro rfl; rw [hL] at hdead; cases hdead
 have ho := hi.obj γ
 rw [hL] at ho
 have h0 : Inv E (Xl .dead ((γ, .dead) :: S.L)) g w := hi.sub fun k => by
  by_cases hk : k = γ
  ·subst hk; exact .inr (Ys _ _ _ _)
  ·exact .inl (Yq _ _ _ (Ne.symm hk))
 have key : ∀ (a : Option Addr) (c : Nat), g.hd γ = .slice a xs.length c → Uf (g.put γ2 0 (.slice a hb c)) w γ2 (.row sz (xs.take hb)) → Inv E (Xl .dead ((γ, .dead) :: (γ2, .row sz (xs.take hb)) :: S.L)) (g.put γ2 0 (.slice a hb c)) w := by
  intro a c hhd hobj
  refine Inv.updX h0 γ2 (.row sz (xs.take hb)) (by rw [Yq _ _ _ hne, Ys]) (fun k hk2 => ?_) (fun _ _ _ => rfl) (Nat.le_refl _) rfl rfl rfl (fun k hk2 => ⟨by simp [Gh.put, hk2], by simp [Gh.put, hk2], rfl⟩) (fun k cs us hk2 hbx hs => X3h ?_ hs) hobj (fun b hb' => ?_) (fun hlt => by simp only [St.free, Bool.and_eq_true, Nat.ble_eq] at hf; omega)
  ·by_cases hkγ : k = γ
   ·subst hkγ; rw [Ys, Ys]
   ·rw [Yq _ _ _ (Ne.symm hkγ), Yq _ _ _ (Ne.symm hkγ), Yq _ _ _ (Ne.symm hk2)]
  ·have hkγ : k ≠ γ := by rintro rfl; rw [Ys] at hbx; cases hbx
   rw [Yq _ _ _ (Ne.symm hkγ)] at hbx
   have := X5h hf k
   have hbx : S.obj k = .box cs := hbx
   rw [hbx] at this
   exact this
  ·right; right
   have hlb : XN g (S.obj γ) γ b := by
    rw [hL]
    simp only [XN, Gh.put, if_true] at hb' ⊢
    obtain ⟨a1, n1, c1, e1, e2⟩ := hb'
    cases e1
    exact ⟨_, _, _, hhd, e2⟩
   refine ⟨fun k hk2 hl => ?_, hi.sep γ b hlb, hi.new γ b hlb⟩
   by_cases hkγ : k = γ
   ·subst hkγ; rw [Ys] at hl; exact hl
   ·rw [Yq _ _ _ (Ne.symm hkγ)] at hl
    exact hkγ (hi.inj _ _ _ hl hlb)
 obtain ⟨hlen, hr⟩ := ho
 have hlen2 : ∀ r ∈ xs.take hb, r.length = sz := fun r hr => hlen r (List.mem_of_mem_take hr)
 rcases hr with ⟨hnil, rfl⟩ | ⟨b, cap, vs, e', fr, q1, q2, q3, q4, q5, q6, q7⟩
 ·have h0b : hb = 0 := by simpa using hk
  subst h0b
  refine ⟨none, 0, hnil, Nat.le_refl _, .inl rfl, key none 0 hnil ⟨hlen2, .inl ⟨by simp [Gh.put], by simp⟩⟩⟩
 ·have htl : (xs.take hb).length = hb := by rw [List.length_take]; omega
  refine ⟨some ⟨b, 0, none⟩, cap, q1, q2, .inr ⟨b, rfl⟩, key _ cap q1 ⟨hlen2, .inr ⟨b, cap, vs, e', fr, by simp [Gh.put, htl], by omega, q3, q4, q5, q6, ?_⟩⟩⟩
  refine X3h (X62 _ _) ?_
  have h7 := X1c q7 (hb * sz)
  have hle : hb * sz ≤ xs.length * sz := Nat.mul_le_mul_right _ hk
  rw [List.take_take, Nat.min_eq_left hle, ← List.map_take, ← X9x xs hb hlen hk] at h7
  rw [htl]
  exact h7
theorem XgO {T : TypeId} {x hi : Operand} {γ γ2 n sz hb : Nat} {xs : List (List D)} (hx : S.ev x = .own γ n) (hL : S.obj γ = .row sz xs) (hhi : S.ev hi = ai hb) (hn : n = xs.length) (hk : hb ≤ xs.length)
  (hT : Yh P T sz = true) (hdead : S.obj γ2 = .dead) (hf : S.free γ2 = true) (hd : Nat.blt d S.n = true) (hg : Xe ops S gd)
  (h : Walk P ops draw K rest ((l.length, ⟨some d, .slice T x none (some hi) none, ty, pos, aft, gd⟩, ⟨Xd ops gd ++ [(x, .own γ n), (hi, ai hb)], some (d, .own γ2 hb), [(γ, .row sz xs), (γ2, .dead)], [(γ, .dead), (γ2, .row sz (xs.take hb))], [γ2]⟩) :: l)
   ((S.set d (.own γ2 hb)).cat [(γ, .dead), (γ2, .row sz (xs.take hb))])) :
  Walk P ops draw K (⟨some d, .slice T x none (some hi) none, ty, pos, aft, gd⟩ :: rest) l S := by
 refine XG ⟨[(x, .own γ n), (hi, ai hb)], some (d, .own γ2 hb), [(γ, .row sz xs), (γ2, .dead)], [(γ, .dead), (γ2, .row sz (xs.take hb))], [γ2]⟩ ?_ hg ⟨⟨hx, hhi, trivial⟩, ⟨hL, hdead, trivial⟩, ⟨hf, trivial⟩, hd⟩ h
 intro E S' a w g hs hok Q K' hK
 obtain ⟨ok1, ok2, ok3, ok4⟩ := hok
 have hq := VO hs _ ok1
 obtain ⟨b, cap, hh, hcap, hb1, hinv⟩ := Xcw hs.1 ok2.1 ok2.2.1 ok3.1 hk
 obtain ⟨e, h1, h2, h3⟩ := VY hT
 have ho := hs.1.obj γ
 rw [ok2.1] at ho
 have hv : a.eval x = g.hd γ := X15 hq.1 ho hn
 have e2 := Yt hq.2.1
 have hmc : hb ≤ cap := by omega
 have hbd : (Instr.sliceBounds true xs.length cap none (some (a.eval hi)) none).run P w = .ok (0, hb, cap) w := by
  simp [Instr.sliceBounds, e2, run_sliceBound, hmc]
 have hrun := run_slice_any (P := P) w T b xs.length cap (by rw [h3]; exact h1) none (some (a.eval hi)) none
 rw [hbd, Result.andThen_ok, h3, h2 w, Result.andThen_ok] at hrun
 have hsl : sliced b 0 hb cap sz = .slice b hb cap := by
  unfold sliced
  rcases hb1 with rfl | ⟨bb, rfl⟩
  ·simp
  ·simp [YH]
 rw [hsl] at hrun
 have hx2 : (execOp a.eval ⟨some d, .slice T x none (some hi) none, ty, pos, aft, gd⟩).run P w = .ok (.value (.slice b hb cap)) w := by
  simp only [execOp, hv, hh, Instr.sliceAt, Sem.run_bind, run_underlying h1, Result.andThen_ok, Option.map_some, Option.map_none, hrun]; rfl
 unfold Oper.wp
 rw [hx2, Oper.upon_value]
 exact hK _ _ (VL hinv hs.2.1 hs.2.2.1 (X0u ok3.1 hs.2.2.2) (X30 (w := w)) ok4)
end
end Go.Fw
