/- A result of one's own, let go. -/
import Derived.Laws.StructEq
import Derived.Laws.Concat
import Derived.WalkKit
import Derived.ProofKit
import Derived.ChangeSame
import Derived.OpenShut
import Derived.Deep.Slices
import Derived.Deep.Strs
import Derived.Test.YtbhleedlnaakkaaGreatG06
namespace Go.Fw
open Go
set_option linter.unusedVariables false
set_option linter.unusedSimpArgs false
theorem Con.data {P : Program} {f : FuncId} {args : List AVal} {γ sz n : Nat} {xs : List (List D)} (h : Con P f [] args [(γ, .row sz xs)] (.own γ n)) (hn : n = xs.length) : Con P f [] args [] (.d (.sl sz xs)) := by
 intro g w vs hi hs
 refine (h g w vs hi hs).mono ?_
 rintro e w' ⟨v, g', h1, h2, h3, _⟩
 obtain ⟨M', hle, hi2⟩ := X54 (S := ⟨0, [], [(γ, .row sz xs)]⟩) h3 (YE _ _ _ _)
 have ho := hi2.obj γ
 rw [YE] at ho
 have hs2 : (AVal.own γ n).sat { g' with M := M' } v := X0G (g := g') (g' := { g' with M := M' }) hle rfl rfl rfl h2
 refine ⟨v, { g' with M := M' }, h1, X3i ho hn hs2, ?_, fun γ hγ => by simp [XB] at hγ⟩
 refine (hi2.free (g0 := { g' with M := M' }) fun γ _ => Gh.keeps_refl _ _).sub fun k => .inr rfl
section
variable {P : Program} {ops : Array Oper} {draw : Bool} {K : St → Prop} {rest : List Oper} {l : Yc} {S : St}
variable {d : Nat} {ty : TypeId} {pos : String} {aft : Array Edge} {gd : Option (Nat × Bool)}
theorem XdP {T : TypeId} {x hi mx : Operand} {sz hb mb : Nat} {xs : List (List D)} (hx : S.ev x = .d (.sl sz xs)) (hhi : S.ev hi = ai hb) (hmx : S.ev mx = ai mb) (hh : hb ≤ mb) (hm : mb ≤ xs.length)
  (hT : Yt P T sz = true) (hd : Nat.blt d S.n = true) (hg : Xg ops S gd)
  (h : Walk P ops draw K rest ((l.length, ⟨some d, .slice T x none (some hi) (some mx), ty, pos, aft, gd⟩, ⟨Xf ops gd ++ [(x, .d (.sl sz xs)), (hi, ai hb), (mx, ai mb)], some (d, .d (.sl sz ((xs.take hb).drop 0))), [], [], []⟩) :: l) (S.set d (.d (.sl sz ((xs.take hb).drop 0))))) :
  Walk P ops draw K (⟨some d, .slice T x none (some hi) (some mx), ty, pos, aft, gd⟩ :: rest) l S := by
 refine XX ⟨[(x, .d (.sl sz xs)), (hi, ai hb), (mx, ai mb)], some (d, .d (.sl sz ((xs.take hb).drop 0))), [], [], []⟩ (YB rfl fun E S g a w hs hq hl => ?_) hg
  ⟨⟨hx, hhi, hmx, trivial⟩, trivial, trivial, hd⟩ h
 obtain ⟨e, h1, h2, h3⟩ := X0R hT
 obtain ⟨hq1, hq3, hq4, _⟩ := hq
 simp only [AVal.sat, D.rep] at hq1
 obtain ⟨b, cap, hv, c1, c2, c3⟩ := hq1
 have e3 := Yx hq3
 have e4 := Yx hq4
 have hmc : mb ≤ cap := by omega
 have hbd : (Instr.sliceBounds true xs.length cap none (some (a.eval hi)) (some (a.eval mx))).run P w = .ok (0, hb, mb) w := by
  simp [Instr.sliceBounds, e3, e4, run_sliceBound, hh, hmc]
 have hrun := run_slice_any (P := P) w T b xs.length cap (by rw [h3]; exact h1) none (some (a.eval hi)) (some (a.eval mx))
 rw [hbd, Result.andThen_ok, h3, h2 w, Result.andThen_ok] at hrun
 refine ⟨sliced b 0 hb mb sz, ?_, ?_⟩
 ·simp only [execOp, hv, Instr.sliceAt, Sem.run_bind, run_underlying h1, Result.andThen_ok, Option.map_some, Option.map_none, hrun]; rfl
 ·simp only [AVal.sat, D.rep, sliced]
  have hlen : ((xs.take hb).drop 0).length = hb - 0 := by simp; omega
  refine ⟨if mb = 0 then b else b.map fun p => p.add (0 * sz), mb - 0, by rw [hlen], by omega, by omega, ?_⟩
  rcases c3 with rfl | ⟨b', o, rfl, hr⟩
  ·left; simp
  ·by_cases hem : (xs.take hb).drop 0 = []
   ·exact .inl hem
   ·right
    have hne : mb ≠ 0 := by
     intro e
     apply hem
     apply List.eq_nil_of_length_eq_zero
     omega
    refine ⟨b', o + 0 * sz, ?_, X7j (X47 hr hb) 0⟩
    rw [if_neg hne, Option.map_some, Up]
theorem XcX {T : TypeId} {x : Operand} {lo hi : Option Operand} {sz lb hb : Nat} {xs ys : List (List D)} (hx : S.ev x = .d (.sl sz xs)) (hlo : X6f S lo lb) (hhi : X7i S xs.length hi hb) (hlh : lb ≤ hb) (hh : hb ≤ xs.length) (hys : (xs.take hb).drop lb = ys)
  (hT : Yt P T sz = true) (hd : Nat.blt d S.n = true) (hg : Xg ops S gd)
  (h : Walk P ops draw K rest ((l.length, ⟨some d, .slice T x lo hi none, ty, pos, aft, gd⟩, ⟨Xf ops gd ++ ((x, .d (.sl sz xs)) :: (X03 lo lb ++ X03 hi hb)), some (d, .d (.sl sz ys)), [], [], []⟩) :: l) (S.set d (.d (.sl sz ys)))) :
  Walk P ops draw K (⟨some d, .slice T x lo hi none, ty, pos, aft, gd⟩ :: rest) l S := by
 subst hys
 exact Xc3 hx hlo hhi hlh hh hT hd hg h
theorem XgV {T : TypeId} {x lo hi mx : Operand} {sz lb hb mb : Nat} {xs ys : List (List D)} (hx : S.ev x = .d (.sl sz xs)) (hlo : S.ev lo = ai lb) (hhi : S.ev hi = ai hb) (hmx : S.ev mx = ai mb) (hlh : lb ≤ hb) (hh : hb ≤ mb) (hm : mb ≤ xs.length) (hys : (xs.take hb).drop lb = ys)
  (hT : Yt P T sz = true) (hd : Nat.blt d S.n = true) (hg : Xg ops S gd)
  (h : Walk P ops draw K rest ((l.length, ⟨some d, .slice T x (some lo) (some hi) (some mx), ty, pos, aft, gd⟩, ⟨Xf ops gd ++ [(x, .d (.sl sz xs)), (lo, ai lb), (hi, ai hb), (mx, ai mb)], some (d, .d (.sl sz ys)), [], [], []⟩) :: l) (S.set d (.d (.sl sz ys)))) :
  Walk P ops draw K (⟨some d, .slice T x (some lo) (some hi) (some mx), ty, pos, aft, gd⟩ :: rest) l S := by
 subst hys
 exact Xac hx hlo hhi hmx hlh hh hm hT hd hg h
theorem Xgt {t : TypeId} {γ : Nat} {x : Operand} {s : ByteArray} (hx : S.ev x = as s) (ht : X0X P t = true) (hdead : S.obj γ = .dead) (hf : S.free γ = true)
  (hd : Nat.blt d S.n = true) (hg : Xg ops S gd)
  (h : Walk P ops draw K rest ((l.length, ⟨some d, .range t x, ty, pos, aft, gd⟩, ⟨Xf ops gd ++ [(x, as s)], some (d, .ptr γ 0), [(γ, .dead)], [(γ, .iter s 0)], [γ]⟩) :: l)
   ((S.set d (.ptr γ 0)).own γ (.iter s 0))) :
  Walk P ops draw K (⟨some d, .range t x, ty, pos, aft, gd⟩ :: rest) l S :=
 XX ⟨[(x, as s)], some (d, .ptr γ 0), [(γ, .dead)], [(γ, .iter s 0)], [γ]⟩ (VU rfl fun E S g a w hs hq hl hn => by
  refine ⟨.pointer (some ⟨w.heap.size, 0, none⟩), VS g w γ, w.alloc (.stringIter s 0), ?_, ?_, ?_, X0o hn.1 hs.2.2.2⟩
  ·have := run_underlying (P := P) (w := w) (X5k ht)
   simp only [execOp, Instr.range, Yx hq.1, Sem.run_bind, this, Result.andThen_ok]
   rfl
  ·simp [AVal.sat, VS, Gh.put]
  ·refine X3l hs.1 γ hn.1 hl.1 _ _ _ (X1i w _) (X3x w _) rfl rfl ?_ (fun k hk => ?_)
   ·show (w.alloc (.stringIter s 0)).heap[(VS g w γ).blk γ]? = some (.stringIter s 0)
    simp only [VS, Gh.put, if_true]
    exact heap_alloc_new w _
   ·have hk : (g.put γ w.heap.size undef).blk γ = k := hk
    simp only [Gh.put, if_true] at hk; omega) hg ⟨⟨hx, trivial⟩, ⟨hdead, trivial⟩, ⟨hf, trivial⟩, hd⟩ h
theorem Xda {x : Operand} {γ p : Nat} {s : ByteArray} (hx : S.ev x = .ptr γ 0) (hL : S.obj γ = .iter s p) (hlt : p < s.size)
  (hd : Nat.blt d S.n = true) (hg : Xg ops S gd)
  (h : Walk P ops draw K rest ((l.length, ⟨some d, .next x true, ty, pos, aft, gd⟩, ⟨Xf ops gd ++ [(x, .ptr γ 0)], some (d, .tup [ab true, ai p, .d (.v (.int .i32 (Utf8.decode s p).1))]), [(γ, .iter s p)], [(γ, .iter s (p + (Utf8.decode s p).2))], []⟩) :: l)
   ((S.set d (.tup [ab true, ai p, .d (.v (.int .i32 (Utf8.decode s p).1))])).own γ (.iter s (p + (Utf8.decode s p).2)))) :
  Walk P ops draw K (⟨some d, .next x true, ty, pos, aft, gd⟩ :: rest) l S := by
 refine XX ⟨[(x, .ptr γ 0)], some (d, .tup [ab true, ai p, .d (.v (.int .i32 (Utf8.decode s p).1))]), [(γ, .iter s p)], [(γ, .iter s (p + (Utf8.decode s p).2))], []⟩ (VU rfl fun E S g a w hs hq hl hn => ?_) hg ⟨⟨hx, trivial⟩, ⟨hL, trivial⟩, trivial, hd⟩ h
 have ho := hs.1.obj γ
 rw [hl.1] at ho
 have ho : w.heap[g.blk γ]? = some (.stringIter s p) := ho
 have hb := (Array.getElem?_eq_some_iff.1 ho).1
 have hv := hq.1
 simp only [AVal.sat] at hv
 refine ⟨.tuple #[.bool true, goInt p, .int .i32 (Utf8.decode s p).1], g, { w with heap := w.heap.set! (g.blk γ) (.stringIter s (p + (Utf8.decode s p).2)) }, ?_, ?_, ?_, hs.2.2.2⟩
 ·simp only [execOp, hv, Instr.next, getObj, setObj, Sem.run_bind, Sem.run, ho, Result.andThen, hlt, if_true]
  simp [goInt, ho, hlt]
 ·simp only [AVal.sat]
  refine ⟨_, rfl, ?_⟩
  simp [Xl, AVal.sat, D.rep, goInt, Value.oneCell']
 ·refine Inv.upd hs.1 γ _ (YE _ _ _ _) (fun k hk => YS _ _ _ (Ne.symm hk)) (fun b hb2 hnl => ?_) (by simp) rfl rfl rfl (fun _ _ => ⟨rfl, rfl, rfl⟩) (fun _ _ _ _ _ h => h) ?_ (fun b hb2 => .inl ?_) (fun _ => Gh.keeps_refl _ _)
  ·have hne : g.blk γ ≠ b := fun e => hnl (by rw [hl.1]; exact e)
   simp [Array.set!, Array.getElem?_setIfInBounds, hne]
  ·show (w.heap.set! (g.blk γ) _)[g.blk γ]? = _
   simp [Array.set!, Array.getElem?_setIfInBounds, hb]
  ·rw [hl.1]; exact hb2
theorem Xgz {x : Operand} {γ p : Nat} {s : ByteArray} (hx : S.ev x = .ptr γ 0) (hL : S.obj γ = .iter s p) (hge : s.size ≤ p)
  (hd : Nat.blt d S.n = true) (hg : Xg ops S gd)
  (h : Walk P ops draw K rest ((l.length, ⟨some d, .next x true, ty, pos, aft, gd⟩, ⟨Xf ops gd ++ [(x, .ptr γ 0)], some (d, .tup [ab false]), [(γ, .iter s p)], [], []⟩) :: l) (S.set d (.tup [ab false]))) :
  Walk P ops draw K (⟨some d, .next x true, ty, pos, aft, gd⟩ :: rest) l S := by
 refine XX ⟨[(x, .ptr γ 0)], some (d, .tup [ab false]), [(γ, .iter s p)], [], []⟩ (YB rfl fun E S g a w hs hq hl => ?_) hg ⟨⟨hx, trivial⟩, ⟨hL, trivial⟩, trivial, hd⟩ h
 have ho := hs.1.obj γ
 rw [hl.1] at ho
 have ho : w.heap[g.blk γ]? = some (.stringIter s p) := ho
 have hv := hq.1
 simp only [AVal.sat] at hv
 refine ⟨.tuple #[.bool false], ?_, ?_⟩
 ·simp only [execOp, hv, Instr.next, getObj, Sem.run_bind, Sem.run, ho, Result.andThen, show ¬ p < s.size by omega, if_false]
  simp [ho, show ¬ p < s.size by omega]
 ·simp only [AVal.sat]
  refine ⟨_, rfl, ?_⟩
  simp [Xl, AVal.sat, D.rep, Value.oneCell']
end
end Go.Fw
namespace Go.Fw
open Go
set_option linter.unusedVariables false
set_option linter.unusedSimpArgs false
section
variable {P : Program} {ops : Array Oper} {draw : Bool} {K : St → Prop} {rest : List Oper} {l : Yc} {S : St}
variable {d : Nat} {ty : TypeId} {pos : String} {aft : Array Edge} {gd : Option (Nat × Bool)}
theorem Xhr {b : List UInt8} {k : Nat} {c : UInt8} (h : b[k]? = some c) : (X5 b)[k]? = some c := by
 have hlt : k < (X5 b).size := (List.getElem?_eq_some_iff.1 h).1
 rw [getElem?_pos (X5 b) k hlt]
 exact congrArg some (List.getElem?_eq_some_iff.1 h).2
theorem XbW {t : TypeId} {x i : Operand} {k : Nat} {kd : IntKind} {m : Int} {b : List UInt8} {c : UInt8} (hx : S.ev x = as (X5 b)) (hi : S.ev i = .d (.v (.int kd m))) (hk : m = (k : Nat)) (hc : b[k]? = some c)
  (ht : X0X P t = true) (hd : Nat.blt d S.n = true) (hg : Xg ops S gd)
  (h : Walk P ops draw K rest ((l.length, ⟨some d, .index t x i, ty, pos, aft, gd⟩, ⟨Xf ops gd ++ [(x, as (X5 b)), (i, .d (.v (.int kd m)))], some (d, .d (.v (.int .u8 c.toNat))), [], [], []⟩) :: l) (S.set d (.d (.v (.int .u8 c.toNat))))) :
  Walk P ops draw K (⟨some d, .index t x i, ty, pos, aft, gd⟩ :: rest) l S :=
 XX ⟨[(x, as (X5 b)), (i, .d (.v (.int kd m)))], some (d, .d (.v (.int .u8 c.toNat))), [], [], []⟩ (YB rfl fun E S g a w hs hq hl => by
  refine ⟨.int .u8 c.toNat, ?_, Vy rfl⟩
  subst hk
  have h0 : (0 : Int) ≤ (k : Int) := by omega
  have hu := run_underlying (P := P) (w := w) (X5k ht)
  simp only [execOp, Instr.index, Yx hq.1, Yx hq.2.1, asIntOf, Sem.run_bind, Sem.run_pure, Result.andThen_ok, hu, if_pos h0, Int.toNat_natCast, Xhr hc]) hg ⟨⟨hx, hi, trivial⟩, trivial, trivial, hd⟩ h
end
end Go.Fw
namespace Go.Fw
open Go
set_option linter.unusedVariables false
theorem Con.adopt {P : Program} {f : FuncId} {sz : Nat} {args : List AVal} {Lo : List (Nat × AObj)} {res : AVal} (h : Con P f [(0, .row sz [])] (.own 0 0 :: args) Lo res) (hm : U0 0 args = false) : Con P f [] (ani :: args) Lo res := by
 intro g w vs hi hs
 let g1 : Gh := { blk := g.blk, hd := fun k => if k = 0 then .slice none 0 0 else g.hd k, ihd := g.ihd, M := g.M }
 have hd0 : g1.hd 0 = .slice none 0 0 := rfl
 have hno : ∀ γ b, ¬ XV g1 (Xo .dead [(0, AObj.row sz [])] γ) γ b := by
  intro γ b hl
  by_cases hγ : γ = 0
  ·subst hγ
   rw [YE] at hl
   obtain ⟨a, n, c, e, _⟩ := hl
   rw [hd0] at e; simp at e
  ·rw [YS _ _ _ (Ne.symm hγ)] at hl
   exact hl
 have hno0 : ∀ γ b, ¬ XV g (Xo .dead ([] : List (Nat × AObj)) γ) γ b := fun γ b hl => hl
 have hi1 : Inv (UP g1 w [(0, .row sz [])]) (Xo .dead [(0, .row sz [])]) g1 w := by
  refine ⟨fun γ => ?_, fun γ γ' b hl => absurd hl (hno γ b), hi.mem, fun γ b hl => absurd hl (hno γ b), fun γ b hl => absurd hl (hno γ b), Yk.refl _, fun a v hv => .inl ⟨v, hv⟩, fun _ _ _ => rfl, Nat.le_refl _, rfl, rfl, fun γ _ => Gh.keeps_refl _ _⟩
  by_cases hγ : γ = 0
  ·subst hγ
   rw [YE]
   exact ⟨by simp, .inl ⟨rfl, rfl⟩⟩
  ·rw [YS _ _ _ (Ne.symm hγ)]
   trivial
 match vs, hs with
 | [], hs => simp only [Xl] at hs
 | v :: vs, hs =>
  simp only [Xl] at hs
  have hv := Yx hs.1
  have hs1 : Xl g1 (.own 0 0 :: args) (v :: vs) := by
   simp only [Xl]
   refine ⟨?_, VO (g := g) (g' := g1) (Yk.refl _) args vs (fun γ hγ => ?_) hs.2⟩
   ·simp only [AVal.sat]
    rw [hv]
    exact ⟨rfl, none, 0, 0, rfl, Nat.le_refl _, fun _ => rfl⟩
   ·have hne : γ ≠ 0 := fun e => by rw [e, hm] at hγ; simp at hγ
    exact Gh.keeps_of rfl (if_neg hne) rfl
  refine (h g1 w (v :: vs) hi1 hs1).mono ?_
  rintro e w' ⟨r, g', h1, h2, h3, _⟩
  refine ⟨r, g', h1, h2, ⟨h3.obj, h3.inj, h3.mem, h3.sep, fun γ b hl => ?_, h3.ext, fun a v hv => ?_, fun b hb hA => ?_, h3.size, h3.os, h3.out, fun γ _ => Gh.keeps_refl _ _⟩, fun γ hγ => by simp [XB] at hγ⟩
  ·rcases h3.new γ b hl with h4 | ⟨γ', h4⟩
   ·exact .inl h4
   ·exact absurd h4 (hno γ' b)
  ·rcases h3.lim a v hv with h4 | h4 | ⟨γ', h4⟩
   ·exact .inl h4
   ·exact .inr (.inl h4)
   ·exact absurd h4 (hno γ' _)
  ·exact h3.frame b hb fun ⟨γ', h4⟩ => hno γ' _ h4
end Go.Fw
namespace Go.Fw
open Go
set_option linter.unusedVariables false
set_option linter.unusedSimpArgs false
variable {P : Program} {ops : Array Oper} {draw : Bool} {K : St → Prop} {rest : List Oper} {l : Yc} {S : St} {d : Nat} {ty : TypeId} {pos : String} {aft : Array Edge} {gd : Option (Nat × Bool)}
theorem Xg1 {x : Operand} {γ o : Nat} (hx : S.ev x = .ptr γ o) (hd : Nat.blt d S.n = true) (hg : Xg ops S gd)
  (h : Walk P ops draw K rest ((l.length, ⟨some d, .nilCheck x, ty, pos, aft, gd⟩, ⟨Xf ops gd ++ [(x, .ptr γ o)], some (d, .ptr γ o), [], [], []⟩) :: l) (S.set d (.ptr γ o))) :
  Walk P ops draw K (⟨some d, .nilCheck x, ty, pos, aft, gd⟩ :: rest) l S :=
 XX ⟨[(x, .ptr γ o)], some (d, .ptr γ o), [], [], []⟩ (YB rfl fun E S g a w hs hq hl => by
  have hp : a.eval x = .pointer (some ⟨g.blk γ, o, none⟩) := by have := hq.1; simpa only [AVal.sat] using this
  exact ⟨.pointer (some ⟨g.blk γ, o, none⟩), by simp [execOp, hp], by simp only [AVal.sat]⟩) hg ⟨⟨hx, trivial⟩, trivial, trivial, hd⟩ h
def X4V (P : Program) (t : TypeId) : Bool := match P.underlying t with | some (.slice e) => (match P.underlying e with | some (.int .u8) => true | _ => false) | _ => false
theorem XbO {t : TypeId} (h : X4V P t = true) : ∃ e, P.underlying t = some (.slice e) ∧ P.underlying e = some (.int .u8) := by
 unfold X4V at h
 split at h
 ·rename_i e h1
  split at h
  ·rename_i h2; exact ⟨e, h1, h2⟩
  ·simp at h
 ·simp at h
theorem XgX (w : World) (b n : Nat) (vs : Array Value) (e : TypeId) (fr : Nat × Nat) (hb : w.heap[b]? = some (.cells vs e fr)) :
  (∃ fr', (w.freeze ⟨b, n, none⟩ 1).heap[b]? = some (.cells vs e fr') ∧ (fr' = (n, n + 1) ∨ fr' = (min fr.1 n, max fr.2 (n + 1)) ∧ fr.1 ≠ fr.2)) ∧ (∀ j, j ≠ b → (w.freeze ⟨b, n, none⟩ 1).heap[j]? = w.heap[j]?) ∧
   (w.freeze ⟨b, n, none⟩ 1).heap.size = w.heap.size ∧ (w.freeze ⟨b, n, none⟩ 1).os = w.os ∧ (w.freeze ⟨b, n, none⟩ 1).output = w.output := by
 obtain ⟨lo, hi⟩ := fr
 unfold World.freeze
 rw [if_neg (by decide)]
 refine ⟨?_, fun j hj => ?_, by simp, rfl, rfl⟩
 ·by_cases h : lo = hi
  ·refine ⟨(n, n + 1), ?_, .inl rfl⟩
   simp [Array.getElem?_modify, hb, h]
  ·refine ⟨(min lo n, max hi (n + 1)), ?_, .inr ⟨rfl, h⟩⟩
   simp [Array.getElem?_modify, hb, h]
 ·simp [Array.getElem?_modify, Ne.symm hj]
theorem Xcn {E : Env} {L : Nat → AObj} {g : Gh} {w : World} (hi : Inv E L g w) {b n : Nat} {vs : Array Value} {e : TypeId} {fr : Nat × Nat} (hb : w.heap[b]? = some (.cells vs e fr)) (hnew : E.W.heap.size ≤ b ∨ E.A b) (hnl : ∀ γ, ¬ XV g (L γ) γ b) :
  Inv E L g (w.freeze ⟨b, n, none⟩ 1) := by
 obtain ⟨⟨fr', f1, f2⟩, f3, f4, f5, f6⟩ := XgX w b n vs e fr hb
 refine ⟨fun γ => X36 (fun _ _ h => h) rfl rfl rfl (fun j hj => f3 j fun h => hnl γ (h ▸ hj)) (fun _ _ _ h => h) (hi.obj γ), hi.inj, fun a v ha => ?_, hi.sep, hi.new, hi.ext, hi.lim, fun j hj hA => ?_, by rw [f4]; exact hi.size, by rw [f5]; exact hi.os, by rw [f6]; exact hi.out, hi.kp⟩
 ·have h1 := hi.mem a v ha
  unfold World.cell? at h1 ⊢
  by_cases h : a.block = b
  ·rw [h, f1]; rw [h, hb] at h1; exact h1
  ·rw [f3 _ h]; exact h1
 ·rw [f3 j fun h => ?_]
  ·exact hi.frame j hj hA
  ·subst h
   rcases hnew with h | h
   ·omega
   ·exact hA h
theorem XfI {t : TypeId} {x : Operand} {γ n : Nat} {xs : List (List D)} (hx : S.ev x = .own γ n) (hL : S.obj γ = .row 1 xs) (hn : n = xs.length) (hne : Nat.beq n 0 = false) (ht : X4V P t = true) (hd : Nat.blt d S.n = true) (hg : Xg ops S gd)
  (h : Walk P ops draw K rest ((l.length, ⟨some d, .convert t t x, ty, pos, aft, gd⟩, ⟨Xf ops gd ++ [(x, .own γ n)], some (d, .d (.sl 1 xs)), [(γ, .row 1 xs)], [(γ, .froz 1 xs)], []⟩) :: l) ((S.set d (.d (.sl 1 xs))).own γ (.froz 1 xs))) :
  Walk P ops draw K (⟨some d, .convert t t x, ty, pos, aft, gd⟩ :: rest) l S :=
 XX ⟨[(x, .own γ n)], some (d, .d (.sl 1 xs)), [(γ, .row 1 xs)], [(γ, .froz 1 xs)], []⟩ (VU rfl fun E S g a w hs hq hl hnw => by
  have ho := hs.1.obj γ
  rw [hl.1] at ho
  have hv := X2u hq.1 ho hn
  obtain ⟨e, t1, t2⟩ := XbO ht
  rcases ho.2 with ⟨_, h2⟩ | ⟨b, cap, vs, e', fr, k1, k2, k3, k4, k5, k6, k7⟩
  ·rw [hn, h2] at hne; exact absurd hne (by decide)
  have hsh : w.shape? b = some (e', vs.size) := by unfold World.shape?; rw [k4]
  have hrun : (execOp a.eval ⟨some d, .convert t t x, ty, pos, aft, gd⟩).run P w = .ok (.value (g.hd γ)) (w.freeze ⟨b, vs.size, none⟩ 1) := by
   simp only [execOp, hv, k1]
   simp [convert, run_underlying t1, run_underlying t2, markStringish, hsh]
  obtain ⟨M', hle, hi1⟩ := X54 hs.1 hl.1
  have hlv : XV g (S.obj γ) γ b := by rw [hl.1]; exact ⟨_, _, _, k1, rfl⟩
  have hi2 := Xcn hi1 (n := vs.size) k4 (hs.1.new γ b hlv) (fun k hk => by
   by_cases h : γ = k
   ·subst h; rw [YE] at hk; exact hk
   ·rw [YS _ _ _ h] at hk
    exact h (hs.1.inj γ k b hlv hk))
  have ho2 := hi2.obj γ
  rw [YE] at ho2
  have hq1 : (AVal.own γ n).sat { g with M := M' } (a.eval x) := X0G (g := g) (g' := { g with M := M' }) hle rfl rfl rfl hq.1
  rw [hv] at hq1
  exact ⟨g.hd γ, { g with M := M' }, _, hrun, X3i ho2 hn hq1, hi2, fun t => X0G (g := g) (g' := { g with M := M' }) hle rfl rfl rfl (hs.2.2.2 t)⟩) hg ⟨⟨hx, trivial⟩, ⟨hL, trivial⟩, trivial, hd⟩ h
end Go.Fw
namespace Go.Fw
open Go
set_option linter.unusedVariables false
inductive SK where
 | i (k : IntKind)
 | b
 | s
def SK.of (P : Program) (t : TypeId) : Option SK := match P.underlying t with | some (.int k) => some (.i k) | some .bool => some .b | some .string => some .s | _ => none
end Go.Fw
namespace Go.Fw
open Go
set_option linter.unusedVariables false
set_option linter.unusedSimpArgs false
section
variable {P : Program} {ops : Array Oper} {draw : Bool} {K : St → Prop} {rest : List Oper} {l : Yc} {S : St}
variable {d : Nat} {ty : TypeId} {pos : String} {aft : Array Edge} {gd : Option (Nat × Bool)}
theorem Xe9 {x : Operand} {T : TypeId} {γ n : Nat} (hx : S.ev x = .bsl γ n) (hT : isSl P T = true)
  (hd : Nat.blt d S.n = true) (hg : Xg ops S gd)
  (h : Walk P ops draw K rest ((l.length, ⟨some d, .call ⟨.builtin .len, #[x], #[T]⟩, ty, pos, aft, gd⟩, ⟨Xf ops gd ++ [(x, .bsl γ n)], some (d, ai n), [], [], []⟩) :: l) (S.set d (ai n))) :
  Walk P ops draw K (⟨some d, .call ⟨.builtin .len, #[x], #[T]⟩, ty, pos, aft, gd⟩ :: rest) l S :=
 XX ⟨[(x, .bsl γ n)], some (d, ai n), [], [], []⟩ (YB rfl fun E S g a w hs hq hl => by
  obtain ⟨e, h1⟩ := Xa5 hT
  have hv := hq.1
  simp only [AVal.sat] at hv
  refine ⟨.int .i64 n, ?_, Vy rfl⟩
  simp [execOp, resolve, invoke, builtin, hv, Builtin.len_, run_underlying h1, goInt]) hg ⟨⟨hx, trivial⟩, trivial, trivial, hd⟩ h
theorem Xhy {x i : Operand} {T : TypeId} {γ n k : Nat} {kd : IntKind} {m : Int} (hx : S.ev x = .bsl γ n) (hi : S.ev i = .d (.v (.int kd m))) (hk : m = (k : Nat)) (hlt : k < n)
  (hT : Yt P T 1 = true) (hd : Nat.blt d S.n = true) (hg : Xg ops S gd)
  (h : Walk P ops draw K rest ((l.length, ⟨some d, .indexAddr T x i, ty, pos, aft, gd⟩, ⟨Xf ops gd ++ [(x, .bsl γ n), (i, .d (.v (.int kd m)))], some (d, .ptr γ k), [], [], []⟩) :: l) (S.set d (.ptr γ k))) :
  Walk P ops draw K (⟨some d, .indexAddr T x i, ty, pos, aft, gd⟩ :: rest) l S :=
 XX ⟨[(x, .bsl γ n), (i, .d (.v (.int kd m)))], some (d, .ptr γ k), [], [], []⟩ (YB rfl fun E S g a w hs hq hl => by
  obtain ⟨e, h1, h2, h3⟩ := X0R hT
  have hv := hq.1
  simp only [AVal.sat] at hv
  refine ⟨.pointer (some ⟨g.blk γ, k, none⟩), ?_, by simp only [AVal.sat]⟩
  have hb : (0 : Int) ≤ m ∧ m < (n : Int) := by omega
  have hm : m.toNat = k := by omega
  have := run_indexAt_slice (P := P) w T ⟨g.blk γ, 0, none⟩ n n kd m (by rw [h3]; exact h1)
  rw [if_pos hb, h3, h2 w, Result.andThen_ok, Up, hm, Nat.mul_one, Nat.zero_add] at this
  simp only [execOp, hv, Yx hq.2.1, Sem.run_bind, this]; rfl) hg ⟨⟨hx, hi, trivial⟩, trivial, trivial, hd⟩ h
end
end Go.Fw
namespace Go.Fw
open Go
set_option linter.unusedVariables false
section
variable {P : Program} {E : Env} {S : St} {Q : Exit → St → Prop}
theorem X0L {c : Operand} {x y : Code} {p : Prop} {inst : Decidable p} (hc : S.ev c = ab (@decide p inst)) (ht : p → AWP P E x S Q) (hf : ¬ p → AWP P E y S Q) : AWP P E (.cond c x y) S Q :=
 X2R hc (fun h => ht (of_decide_eq_true h)) (fun h => hf (of_decide_eq_false h))
theorem X15 {x y : Code} {Q' : Exit → St → Prop} (U : St) (h : AWP P E x S (X2H (fun T => T.le U) Q')) (k : AWP P E y U Q) : AWP P E x S (X2H (fun T => AWP P E y T Q) Q') :=
 X5A h fun e T hq => by
  cases e with
  | normal => exact Xm hq k
  | _ => exact hq
end
section
variable {P : Program} {ops : Array Oper} {draw : Bool} {K : St → Prop} {rest : List Oper} {l : Yc} {S : St}
theorem Yq {o : Oper} {j : Nat} {b : Bool} {p : Prop} {inst : Decidable p} (hg : o.guard = some (j, b)) (hx : S.get (X01 ops j) = ab (@decide p inst)) (ht : p → Walk P ops draw K (o :: rest) l S) (hf : ¬ p → Walk P ops draw K (o :: rest) l S) : Walk P ops draw K (o :: rest) l S := by
 by_cases h : p
 ·exact ht h
 ·exact hf h
theorem X4I {o : Oper} {j : Nat} {b x : Bool} (hg : o.guard = some (j, b)) (hx : S.get (X01 ops j) = ab x) (ht : x = true → Walk P ops draw K (o :: rest) l S) (hf : x = false → Walk P ops draw K (o :: rest) l S) : Walk P ops draw K (o :: rest) l S := by
 cases x
 ·exact hf rfl
 ·exact ht rfl
end
end Go.Fw
namespace Go.Fw
open Go
set_option linter.unusedVariables false
section
variable {P : Program} {E : Env} {S : St} {Q : Exit → St → Prop}
theorem Yw {c : Operand} {x y : Code} {b : Bool} (hc : S.ev c = ab (!b)) (ht : b = false → AWP P E x S Q) (hf : b = true → AWP P E y S Q) : AWP P E (.cond c x y) S Q :=
 X2R hc (fun h => ht (by simpa using h)) (fun h => hf (by simpa using h))
end
section
variable {P : Program} {ops : Array Oper} {draw : Bool} {K : St → Prop} {rest : List Oper} {l : Yc} {S : St}
theorem Va {o : Oper} {j : Nat} {b x : Bool} (hg : o.guard = some (j, b)) (hx : S.get (X01 ops j) = ab (!x)) (ht : x = true → Walk P ops draw K (o :: rest) l S) (hf : x = false → Walk P ops draw K (o :: rest) l S) : Walk P ops draw K (o :: rest) l S := by
 cases x
 ·exact hf rfl
 ·exact ht rfl
end
end Go.Fw
namespace Go.Fw
open Go
set_option linter.unusedVariables false
section
variable {P : Program} {t : TypeId} {x y : Operand} {a b : List UInt8}
theorem XgP (w : World) : (do eqGuard .lss t x y (.string (X5 a)) (.string (X5 b)); binOp .lss t (.string (X5 a)) (.string (X5 b)) : Sem Value).run P w = .ok (.bool (Op.bytesLess a b)) w := by
 simp [go_sem, binOp, Op.stringOp, X1F]
theorem Xh8 (w : World) : (do eqGuard .gtr t x y (.string (X5 a)) (.string (X5 b)); binOp .gtr t (.string (X5 a)) (.string (X5 b)) : Sem Value).run P w = .ok (.bool (!(Op.bytesLess a b || decide (a = b)))) w := by
 simp [go_sem, binOp, Op.stringOp, X1F]; rw [show (a == b) = decide (a = b) from Bool.beq_eq_decide_eq a b]
theorem Xcc (w : World) : (do eqGuard .leq t x y (.string (X5 a)) (.string (X5 b)); binOp .leq t (.string (X5 a)) (.string (X5 b)) : Sem Value).run P w = .ok (.bool (Op.bytesLess a b || decide (a = b))) w := by
 simp [go_sem, binOp, Op.stringOp, X1F]; rw [show (a == b) = decide (a = b) from Bool.beq_eq_decide_eq a b]
end
end Go.Fw
namespace Go.Fw
open Go
set_option linter.unusedVariables false
section
variable {P : Program} {ops : Array Oper} {draw : Bool} {K : St → Prop} {rest : List Oper} {l : Yc} {S : St}
variable {d : Nat} {ty : TypeId} {pos : String} {aft : Array Edge} {gd : Option (Nat × Bool)}
theorem XbY {src dst : TypeId} {x : Operand} {b : List UInt8} {γ : Nat} (hx : S.ev x = as (X5 b)) (hb : Nat.ble b.length 9223372036854775807 = true) (ht : X2C P src dst = true) (hdead : S.obj γ = .dead) (hf : S.free γ = true) (hd : Nat.blt d S.n = true) (hg : Xg ops S gd)
  (h : Walk P ops draw K rest ((l.length, ⟨some d, .convert src dst x, ty, pos, aft, gd⟩, ⟨Xf ops gd ++ [(x, as (X5 b))], some (d, .own γ (b.map fun c => [D.v (.int .u8 c.toNat)]).length), [(γ, .dead)], [(γ, .row 1 (b.map fun c => [D.v (.int .u8 c.toNat)]))], [γ]⟩) :: l)
   ((S.set d (.own γ (b.map fun c => [D.v (.int .u8 c.toNat)]).length)).own γ (.row 1 (b.map fun c => [D.v (.int .u8 c.toNat)])))) :
  Walk P ops draw K (⟨some d, .convert src dst x, ty, pos, aft, gd⟩ :: rest) l S := by
 refine XX ⟨[(x, as (X5 b))], some (d, .own γ (b.map fun c => [D.v (.int .u8 c.toNat)]).length), [(γ, .dead)], [(γ, .row 1 (b.map fun c => [D.v (.int .u8 c.toNat)]))], [γ]⟩ (VU rfl fun E S g a w hs hq hl' hn' => ?_) hg ⟨⟨hx, trivial⟩, ⟨hdead, trivial⟩, ⟨hf, trivial⟩, hd⟩ h
 obtain ⟨e, t1, t2, t3⟩ := X80 ht
 have hb' : b.length ≤ 9223372036854775807 := by simpa using hb
 have hsz : (X5 b).size = b.length := rfl
 have hrow := run_bytes_of_string (P := P) w src dst e (X5 b) t1 t2 t3
 rw [hsz] at hrow
 generalize hc : grownCap w b.length 0 e = cap at hrow
 have hc1 : b.length ≤ cap := by rw [← hc]; exact grownCap_ge w _ _ _
 have hc2 : cap ≤ maxLen := by rw [← hc]; exact grownCap_le_maxLen w _ _ _ (by unfold maxLen; omega)
 have hs' : Vm E S g a w.drew := ⟨X92 hs.1, hs.2⟩
 have hcs : (bytesRow (X5 b) cap).size = cap := by
  simp only [bytesRow, Array.size_append, Array.size_map, Array.size_replicate]
  show (X5 b).data.size + (cap - b.length) = cap
  have : (X5 b).data.size = b.length := hsz
  omega
 have hlm : (b.map fun c => [D.v (.int .u8 c.toNat)]).length = b.length := by simp
 have hinv := X4l hs'.1 γ hn'.1 hl'.1 (sz := 1) (xs := b.map fun c => [D.v (.int .u8 c.toNat)]) (vs := bytesRow (X5 b) cap) (e := e) (fr := ((bytesRow (X5 b) cap).size, (bytesRow (X5 b) cap).size + 1)) (cap := cap)
  (by simp) (by
   have hb1 := X4A (g := g) b
   rw [List.length_map, Nat.mul_one]
   have : (bytesRow (X5 b) cap).toList.take b.length = b.map fun c => Value.int .u8 c.toNat := by
    simp only [bytesRow, X5, Array.toList_append, Array.toList_map]
    rw [List.take_append_of_le_length (by simp), List.take_of_length_le (by simp)]
   rw [this]; exact hb1) (by rw [hlm]; exact hc1) hc2 (by rw [hcs]; omega) (fun i hi h => by omega)
 refine ⟨.slice (some ⟨w.heap.size, 0, none⟩) b.length cap, _, _, ?_, ?_, hinv, X0o hn'.1 hs'.2.2.2⟩
 ·simp only [execOp, Sem.run_bind, Yx hq.1, hrow]; rfl
 ·rw [← hlm]
  exact X4a (w := w.drew)
end
end Go.Fw
namespace Go.Fw
open Go
set_option linter.unusedVariables false
section
variable {P : Program} {t : TypeId} {x y : Operand} {a b : List UInt8}
theorem Xdg (h : a.length + b.length ≤ 9223372036854775807) (w : World) : (do eqGuard .add t x y (.string (X5 a)) (.string (X5 b)); binOp .add t (.string (X5 a)) (.string (X5 b)) : Sem Value).run P w = .ok (.string (X5 (a ++ b))) w := by
 have h1 := run_string_add_sum (P := P) w (X5 a) (X5 b) (by simpa [X5, ByteArray.size] using h)
 have h2 : X5 a ++ X5 b = X5 (a ++ b) := by unfold X5; rw [ByteArray.mk_append_mk]
 rw [h2] at h1
 simp [go_sem, binOp, h1]
end
end Go.Fw
namespace Go.Fw
open Go
set_option linter.unusedVariables false
def leD (d e : D) : Prop := ∀ (M : Mem) (u : Value), d.rep M u → e.rep M u
def leC (r s : List D) : Prop := ∀ (M : Mem) (b o : Nat), YK M r b o → YK M s b o
def leW (sz : Nat) (r s : List (List D)) : Prop := r.length = s.length ∧ ∀ (M : Mem) (b o : Nat), Ue M sz r b o → Ue M sz s b o
theorem X33 (d : D) : leD d d := fun _ _ h => h
theorem XeW (sz : Nat) : leD (.v (.slice none 0 0)) (.sl sz []) := fun M u h => by
 simp only [D.rep] at h ⊢
 exact ⟨none, 0, h.1, by simp, by simp, by simp⟩
theorem XfM : leC [] [] := fun _ _ _ h => h
theorem X2h {d e : D} {r s : List D} (h : leD d e) (hr : leC r s) : leC (d :: r) (e :: s) := fun M b o q => by
 rw [YK] at q ⊢
 obtain ⟨⟨u, h1, h2⟩, h3⟩ := q
 exact ⟨⟨u, h1, h M u h2⟩, hr M b (o + 1) h3⟩
theorem Xge (sz : Nat) : leW sz [] [] := ⟨rfl, fun _ _ _ h => h⟩
theorem XcD {sz : Nat} {d e : List D} {r s : List (List D)} (h : leC d e) (hl : d.length = e.length) (hr : leW sz r s) : leW sz (d :: r) (e :: s) := ⟨by rw [List.length_cons, List.length_cons, hr.1], fun M b o q => by
 rw [Ue] at q ⊢
 exact ⟨by rw [← hl]; exact q.1, h M b o q.2.1, hr.2 M b (o + sz) q.2.2⟩⟩
theorem XcB {sz : Nat} {r s : List (List D)} (h : leW sz r s) : leD (.sl sz r) (.sl sz s) := fun M u q => by
 simp only [D.rep] at q ⊢
 obtain ⟨a, cap, h1, h2, h3, h4⟩ := q
 refine ⟨a, cap, by rw [← h.1]; exact h1, by rw [← h.1]; exact h2, h3, ?_⟩
 rcases h4 with h4 | ⟨b, o, h5, h6⟩
 ·left
  have := h.1
  rw [h4] at this
  exact List.eq_nil_of_length_eq_zero this.symm
 ·exact .inr ⟨b, o, h5, h.2 M b o h6⟩
theorem AVal.le_d {d e : D} (h : leD d e) : AVal.le (.d d) (.d e) := fun g u q => by
 simp only [AVal.sat] at q ⊢
 exact h g.M u q
def bPs (bs : List UInt8) : List (Nat × AVal) := bs.zipIdx.map fun p => (p.2, .d (.v (.int .u8 p.1.toNat)))
def X53 (bs : List UInt8) : List AVal := bs.map fun b => .d (.v (.int .u8 b.toNat))
end Go.Fw
namespace Go.Fw
open Go
set_option linter.unusedVariables false
set_option linter.unusedSimpArgs false
def X0C (W W' : World) : Prop := W'.os = W.os ∧ W'.output = W.output ∧ W.heap.size ≤ W'.heap.size ∧ ∀ b, b < W.heap.size → W'.heap[b]? = W.heap[b]?
def g0 (M : Mem) : Gh := ⟨fun _ => 0, fun _ => .slice none 0 0, fun _ _ => .slice none 0 0, M⟩
theorem X3H {P : Program} {f : FuncId} {as : List AVal} {res : AVal} {args : Array Value} {W : World} (hc : Con P f [] as [] res) (M : Mem) (hM : ∀ a v, M a = some v → W.cell? a = some v)
  (hs : Xl (g0 M) as args.toList) : Calls P f args W fun e W' => ∃ v g', e = .returned v ∧ res.sat g' v ∧ X0C W W' := by
 have hi : Inv (UP (g0 M) W []) (Xo .dead []) (g0 M) W := by
  refine ⟨fun _ => trivial, fun _ _ _ h => h.elim, hM, fun _ _ h => h.elim, fun _ _ h => h.elim, Yk.refl _, fun a v h => .inl ⟨v, h⟩, fun _ _ _ => rfl, Nat.le_refl _, rfl, rfl, fun γ _ => Gh.keeps_refl _ _⟩
 refine (hc (g0 M) W args.toList hi hs).mono ?_
 rintro e W' ⟨v, g', rfl, hv, hi', _⟩
 exact ⟨v, g', rfl, hv, hi'.os, hi'.out, hi'.size, fun b hb => hi'.frame b hb fun ⟨γ, h⟩ => h.elim⟩
theorem X0C.but {W W' : World} (h : X0C W W') (may : MemPlace → Prop) : W.keptBut W' may := by
 refine ⟨h.1, h.2.1, fun i hi => ?_⟩
 have e := h.2.2.2 i hi
 have := (World.keptBut_refl W may).2.2 i hi
 rw [e]; exact this
theorem X0C.frozen {W W' : World} (h : X0C W W') {a : Addr} (ha : a.block < W.heap.size) : W'.frozen? a = W.frozen? a := by
 unfold World.frozen?
 rw [h.2.2.2 _ ha]
section
open Go.ChangeShapes Go.WideShapes Go.ChangeAt Go.RowKit
variable {H : Type} {enc : TypeId × Value → H} {P : Program}
theorem X0C.same {W W' : World} (h : X0C W W') {p : MemPlace} (hp : p.block < W.heap.size) : W.sameAt W' p := by
 cases p with
 | cell b off =>
  show W'.cell? _ = W.cell? _
  have := h.2.2.2 b hp
  simp only [World.cell?, this]
 | map b => exact h.2.2.2 b hp
theorem Xaf {W W' : World} (h : X0C W W') {base : Nat} {spare : Nat → Bool} {held : Bool} : ∀ {ts : List TypeId} {vs : List Value} {ds : List (DataW H)} {ps : List MemPlace}, DataW.TrodAll enc P W base spare held ts vs ds ps → DataW.TrodAll enc P W' base spare held ts vs ds ps
 | [], [], [], _, k => k
 | _ :: _, _ :: _, _ :: _, _, ⟨p, q, ⟨n, h1⟩, h2, e⟩ =>
  ⟨p, q, ⟨n, DataW.trod_carry n _ _ _ h1 fun x hx => h.same (DataW.trod_lt n _ _ _ h1 x hx)⟩, Xaf h h2, e⟩
theorem X4h {f : Func} {s : ChangeSpec} {apart fresh handsOn again : Bool} {W W' : World} {args : Array Value} {ds gs : List (DataW H)} {before : List MemPlace} {tb : TypeId} {T : TypeId → Prop}
  (hW : DataW.Whole enc P f.params.toList s.vars apart W args.toList ds gs before) (hv : s.vars = [])
  (h1 : (s.fn H (ds ++ gs)).results = [.lit (.bool true)]) (h2 : (s.fn H (ds ++ gs)).args = ds) (h3 : (s.fn H (ds ++ gs)).vars = gs)
  (hrt : f.resultTypes = #[tb]) (htb : P.underlying tb = some .bool) (hk : X0C W W') (K : Kids P T) (hz : ∀ t e, T t → P.underlying t = some (.slice e) → 0 < P.cellsOf e) (hT : ∀ t ∈ f.params.toList, T t) :
  s.post enc P f apart fresh handsOn again W args (.bool true) W' := by
 have hlt := hW.lt
 have hW' := hW
 obtain ⟨p, q, hA, hV, hpq, hfr, hnd⟩ := hW
 have hV' : ∀ sp : Nat → Bool, DataW.TrodVars enc P W' sp s.vars (s.fn H (ds ++ gs)).vars q := by
  intro sp
  rw [h3]
  rw [hv] at hV ⊢
  obtain ⟨e1, e2⟩ := trodVars_none hV
  subst e1 e2
  rfl
 have hres : ∀ (b : Nat) (sp : Nat → Bool) (hd : Bool), DataW.TrodAll enc P W' b sp hd f.resultTypes.toList ((Value.bool true).resultList f.resultTypes.size) (s.fn H (ds ++ gs)).results [] := by
  intro b sp hd
  rw [h1, hrt]
  exact trodAll_mk1 (shut_bool htb true)
 have hargs : ∀ sp : Nat → Bool, (∀ x ∈ before, sp x.block = true) → DataW.TrodAll enc P W' 0 sp true f.params.toList args.toList (s.fn H (ds ++ gs)).args p := by
  intro sp hsp
  rw [h2]
  exact DataW.TrodAll.respare K hz hT (Xaf hk hA) fun x hx => hsp x (by rw [hpq]; exact List.mem_append_left _ hx)
 have hold : ∀ x ∈ before, (fun b => decide (b < W.heap.size)) x.block = true := fun x hx => by simpa using hlt x hx
 refine ⟨ds, gs, before, [], p, q, hW', hres _ _ _, hargs _ hold, hV' _, hk.but _, fun _ => ?_⟩
 refine ⟨ok_one hrt rfl (okWide_bool_mk htb true), _, _, ([] ++ p) ++ q, ⟨[] ++ p, q, trodAll_append (hargs _ (fun _ _ => rfl)) (hres _ _ _), hV' _, rfl, ?_, ?_⟩, ?_⟩
 ·intro b off hp
  have hm : MemPlace.cell b off ∈ before := by rw [hpq]; simpa using hp
  rw [hk.frozen (a := ⟨b, off, none⟩) (hlt _ hm)]
  exact hfr b off hm
 ·intro ha
  have := hnd ha
  rw [hpq] at this
  simpa using this
 ·intro x hx _
  rw [hpq]
  simpa using hx
end
end Go.Fw
namespace Go.Fw
open Go Go.ChangeShapes Go.WideShapes Go.Deep
set_option linter.unusedVariables false
def YP (M : Mem) : List D → List Value → Prop
 | [], [] => True
 | d :: ds, v :: vs => d.rep M v ∧ YP M ds vs
 | _, _ => False
theorem X5e {M : Mem} : ∀ {ds : List D} {us : List Value}, YP M ds us → us.length = ds.length
 | [], [], _ => rfl
 | [], _ :: _, h => by simp only [YP] at h
 | _ :: _, [], h => by simp only [YP] at h
 | d :: ds, u :: us, h => by simp only [YP] at h; simp [X5e h.2]
theorem X5f {M : Mem} : ∀ {ds : List D} {us : List Value}, YP M ds us → ∀ (i : Nat) (d : D), ds[i]? = some d → ∃ u, us[i]? = some u ∧ d.rep M u
 | [], [], _, _, _, h => by simp at h
 | [], _ :: _, h, _, _, _ => by simp only [YP] at h
 | _ :: _, [], h, _, _, _ => by simp only [YP] at h
 | d :: ds, u :: us, h, 0, e, he => by simp only [YP] at h; simp at he; subst he; exact ⟨u, by simp, h.1⟩
 | d :: ds, u :: us, h, i + 1, e, he => by
  simp only [YP] at h
  simpa using X5f h.2 i e (by simpa using he)
theorem X5v {M : Mem} {g : Gh} (hM : g.M = M) : ∀ {ds : List D} {us : List Value}, YP M ds us → Xl g (ds.map .d) us
 | [], [], _ => by simp only [List.map_nil, Xl]
 | [], _ :: _, h => by simp only [YP] at h
 | _ :: _, [], h => by simp only [YP] at h
 | d :: ds, u :: us, h => by
  simp only [YP] at h
  simp only [List.map_cons, Xl, AVal.sat]
  exact ⟨hM ▸ h.1, X5v hM h.2⟩
theorem X59 {α : Type} {p : Nat → α → Prop} : ∀ n, (∀ i, i < n → ∃ r, p i r) → ∃ l : List α, l.length = n ∧ ∀ (i : Nat) (r : α), l[i]? = some r → p i r
 | 0, _ => ⟨[], rfl, fun i r h => by simp at h⟩
 | n + 1, h => by
  obtain ⟨l, h1, h2⟩ := X59 n (fun i hi => h i (by omega))
  obtain ⟨r, hr⟩ := h n (by omega)
  refine ⟨l ++ [r], by simp [h1], fun i x hx => ?_⟩
  rw [List.getElem?_append] at hx
  split at hx
  ·exact h2 i x hx
  ·rename_i hi
   have : i = n := by
    rcases Nat.lt_or_ge (i - l.length) 1 with hj | hj
    ·omega
    ·simp [show i - l.length ≠ 0 by omega] at hx
   subst this
   simp [h1] at hx
   subst hx; exact hr
section
variable {H : Type} {enc : TypeId × Value → H} {P : Program} {W : World}
structure Opens {α : Type} (enc : TypeId × Value → H) (P : Program) (W : World) (t : TypeId) (p : α → Prop) (f : α → List D) : Prop where
 op : ∀ n cs x, DataW.trod enc P W 0 (fun _ => true) true n t cs = some x → ∃ r, p r ∧ YP W.cell? (f r) cs
theorem Opens.to {α β : Type} {t : TypeId} {p : α → Prop} {f : α → List D} (h : Opens enc P W t p f) {q : β → Prop} {g : β → List D} (φ : α → β) (hφ : ∀ a, p a → q (φ a) ∧ f a = g (φ a)) : Opens enc P W t q g := by
 refine ⟨fun n cs x hx => ?_⟩
 obtain ⟨r, h1, h2⟩ := h.op n cs x hx
 exact ⟨φ r, (hφ r h1).1, (hφ r h1).2 ▸ h2⟩
theorem Xa2 {t : TypeId} {k : IntKind} (ht : P.underlying t = some (.int k)) : Opens enc P W t (fun n : Int => (Lit.int k n).wf = true) (fun n => [.v (.int k n)]) := by
 refine ⟨fun n cs x hx => ?_⟩
 obtain ⟨n', rfl, _, hw⟩ := DataW.trod_int ht hx
 refine ⟨n', hw, ?_⟩
 simp [YP, D.rep, Value.oneCell']
theorem X3k {α : Type} {t e : TypeId} {r : Reach} {b0 : Nat} {v : Value} {d : DataW H} {ps : List MemPlace} {p : α → Prop} {f : α → D} (ht : P.underlying t = some (.slice e))
  (hval : Value.okWide P W r b0 t v) (hd : DataW.Trod enc P W 0 (fun _ => true) true t v d ps) (ho : Opens enc P W t p (fun x => [f x])) : ∃ x, p x ∧ (AVal.d (f x)).sat (g0 W.cell?) v := by
 obtain ⟨a, n, c, rfl⟩ := okWide_slice ht hval
 obtain ⟨n, hn⟩ := hd
 obtain ⟨x, h1, h2⟩ := ho.op _ _ _ hn
 refine ⟨x, h1, ?_⟩
 have := X5v (g := g0 W.cell?) rfl h2
 simp only [List.map_cons, List.map_nil, Value.cells, Xl] at this
 exact this.1
end
end Go.Fw
namespace Go.Fw
open Go Go.ChangeShapes Go.WideShapes Go.Deep
set_option linter.unusedVariables false
section
variable {H : Type} {enc : TypeId × Value → H} {P : Program} {W : World}
structure OpensN {α : Type} (enc : TypeId × Value → H) (P : Program) (W : World) (n : Nat) (t : TypeId) (p : α → Prop) (f : α → List D) : Prop where
 op : ∀ cs x, DataW.trod enc P W 0 (fun _ => true) true n t cs = some x → ∃ r, p r ∧ YP W.cell? (f r) cs
theorem Opens.at {α : Type} {t : TypeId} {p : α → Prop} {f : α → List D} (h : Opens enc P W t p f) (n : Nat) : OpensN enc P W n t p f := ⟨h.op n⟩
theorem OpensN.to {α β : Type} {n : Nat} {t : TypeId} {p : α → Prop} {f : α → List D} (h : OpensN enc P W n t p f) {q : β → Prop} {g : β → List D} (φ : α → β) (hφ : ∀ a, p a → q (φ a) ∧ f a = g (φ a)) : OpensN enc P W n t q g := by
 refine ⟨fun cs x hx => ?_⟩
 obtain ⟨r, h1, h2⟩ := h.op cs x hx
 exact ⟨φ r, (hφ r h1).1, (hφ r h1).2 ▸ h2⟩
end
end Go.Fw
