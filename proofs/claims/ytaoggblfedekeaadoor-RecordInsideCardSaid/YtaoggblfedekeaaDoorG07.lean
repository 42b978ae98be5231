/- A result of one's own, let go. -/
import Derived.Test.YtaoggblfedekeaaDoorG06
import Derived.Laws.StructEq
import Derived.WalkKit
import Derived.ProofKit
import Derived.ChangeSame
import Derived.OpenShut
import Derived.Deep.Slices
import Derived.Deep.Strs
namespace Go.Fw
open Go
set_option linter.unusedVariables false
set_option linter.unusedSimpArgs false
theorem Con.data {P : Program} {f : FuncId} {args : List AVal} {γ sz n : Nat} {xs : List (List D)} (h : Con P f [] args [(γ, .row sz xs)] (.own γ n)) (hn : n = xs.length) : Con P f [] args [] (.d (.sl sz xs)) := by
 intro g w vs hi hs
 refine (h g w vs hi hs).mono ?_
 rintro e w' ⟨v, g', h1, h2, h3, _⟩
 obtain ⟨M', hle, hi2⟩ := X4q (S := ⟨0, [], [(γ, .row sz xs)]⟩) h3 (Yf _ _ _ _)
 have ho := hi2.obj γ
 rw [Yf] at ho
 have hs2 : (AVal.own γ n).sat { g' with M := M' } v := X1U (g := g') (g' := { g' with M := M' }) hle rfl rfl rfl h2
 refine ⟨v, { g' with M := M' }, h1, X31 ho hn hs2, ?_, fun γ hγ => by simp [Xj] at hγ⟩
 refine (hi2.free (g0 := { g' with M := M' }) fun γ _ => Gh.keeps_refl _ _).sub fun k => .inr rfl
section
variable {P : Program} {ops : Array Oper} {draw : Bool} {K : St → Prop} {rest : List Oper} {l : XH} {S : St}
variable {d : Nat} {ty : TypeId} {pos : String} {aft : Array Edge} {gd : Option (Nat × Bool)}
theorem X8z {T : TypeId} {x hi mx : Operand} {sz hb mb : Nat} {xs : List (List D)} (hx : S.ev x = .d (.sl sz xs)) (hhi : S.ev hi = ai hb) (hmx : S.ev mx = ai mb) (hh : hb ≤ mb) (hm : mb ≤ xs.length)
  (hT : XS P T sz = true) (hd : Nat.blt d S.n = true) (hg : X9 ops S gd)
  (h : Walk P ops draw K rest ((l.length, ⟨some d, .slice T x none (some hi) (some mx), ty, pos, aft, gd⟩, ⟨X7 ops gd ++ [(x, .d (.sl sz xs)), (hi, ai hb), (mx, ai mb)], some (d, .d (.sl sz ((xs.take hb).drop 0))), [], [], []⟩) :: l) (S.set d (.d (.sl sz ((xs.take hb).drop 0))))) :
  Walk P ops draw K (⟨some d, .slice T x none (some hi) (some mx), ty, pos, aft, gd⟩ :: rest) l S := by
 refine Xw ⟨[(x, .d (.sl sz xs)), (hi, ai hb), (mx, ai mb)], some (d, .d (.sl sz ((xs.take hb).drop 0))), [], [], []⟩ (XQ rfl fun E S g a w hs hq hl => ?_) hg
  ⟨⟨hx, hhi, hmx, trivial⟩, trivial, trivial, hd⟩ h
 obtain ⟨e, h1, h2, h3⟩ := V6 hT
 obtain ⟨hq1, hq3, hq4, _⟩ := hq
 simp only [AVal.sat, D.rep] at hq1
 obtain ⟨b, cap, hv, c1, c2, c3⟩ := hq1
 have e3 := XZ hq3
 have e4 := XZ hq4
 have hmc : mb ≤ cap := by omega
 have hbd : (Instr.sliceBounds true xs.length cap none (some (a.eval hi)) (some (a.eval mx))).run P w = .ok (0, hb, mb) w := by
  simp [Instr.sliceBounds, e3, e4, run_sliceBound, hh, hmc]
 have hrun := run_slice_any (P := P) w T b xs.length cap (by rw [h3]; exact h1) none (some (a.eval hi)) (some (a.eval mx))
 rw [hbd, Result.andThen_ok, h3, h2 w, Result.andThen_ok] at hrun
 refine ⟨sliced b 0 hb mb sz, ?_, ?_⟩
 ·simp only [execOp, hv, Instr.sliceAt, Sem.run_bind, run_underlying h1, Result.andThen_ok, Option.map_some, Option.map_none, hrun]; rfl
 ·simp only [AVal.sat, D.rep, sliced]
  have hlen : ((xs.take hb).drop 0).length = hb - 0 := by simp; omega
  refine ⟨if mb = 0 then b else b.map fun p => p.add (0 * sz), mb - 0, by rw [hlen], by omega, by omega, ?_⟩
  rcases c3 with rfl | ⟨b', o, rfl, hr⟩
  ·left; simp
  ·by_cases hem : (xs.take hb).drop 0 = []
   ·exact .inl hem
   ·right
    have hne : mb ≠ 0 := by
     intro e
     apply hem
     apply List.eq_nil_of_length_eq_zero
     omega
    refine ⟨b', o + 0 * sz, ?_, X34 (X1I hr hb) 0⟩
    rw [if_neg hne, Option.map_some, Yj]
theorem X7Z {T : TypeId} {x : Operand} {lo hi : Option Operand} {sz lb hb : Nat} {xs ys : List (List D)} (hx : S.ev x = .d (.sl sz xs)) (hlo : X38 S lo lb) (hhi : X22 S xs.length hi hb) (hlh : lb ≤ hb) (hh : hb ≤ xs.length) (hys : (xs.take hb).drop lb = ys)
  (hT : XS P T sz = true) (hd : Nat.blt d S.n = true) (hg : X9 ops S gd)
  (h : Walk P ops draw K rest ((l.length, ⟨some d, .slice T x lo hi none, ty, pos, aft, gd⟩, ⟨X7 ops gd ++ ((x, .d (.sl sz xs)) :: (UC lo lb ++ UC hi hb)), some (d, .d (.sl sz ys)), [], [], []⟩) :: l) (S.set d (.d (.sl sz ys)))) :
  Walk P ops draw K (⟨some d, .slice T x lo hi none, ty, pos, aft, gd⟩ :: rest) l S := by
 subst hys
 exact X9F hx hlo hhi hlh hh hT hd hg h
theorem X8P {t : TypeId} {γ : Nat} {x : Operand} {s : ByteArray} (hx : S.ev x = as s) (ht : Vw P t = true) (hdead : S.obj γ = .dead) (hf : S.free γ = true)
  (hd : Nat.blt d S.n = true) (hg : X9 ops S gd)
  (h : Walk P ops draw K rest ((l.length, ⟨some d, .range t x, ty, pos, aft, gd⟩, ⟨X7 ops gd ++ [(x, as s)], some (d, .ptr γ 0), [(γ, .dead)], [(γ, .iter s 0)], [γ]⟩) :: l)
   ((S.set d (.ptr γ 0)).own γ (.iter s 0))) :
  Walk P ops draw K (⟨some d, .range t x, ty, pos, aft, gd⟩ :: rest) l S :=
 Xw ⟨[(x, as s)], some (d, .ptr γ 0), [(γ, .dead)], [(γ, .iter s 0)], [γ]⟩ (Vc rfl fun E S g a w hs hq hl hn => by
  refine ⟨.pointer (some ⟨w.heap.size, 0, none⟩), Uw g w γ, w.alloc (.stringIter s 0), ?_, ?_, ?_, Vs hn.1 hs.2.2.2⟩
  ·have := run_underlying (P := P) (w := w) (X2S ht)
   simp only [execOp, Instr.range, XZ hq.1, Sem.run_bind, this, Result.andThen_ok]
   rfl
  ·simp [AVal.sat, Uw, Gh.put]
  ·refine X0O hs.1 γ hn.1 hl.1 _ _ _ (Vp w _) (X0Q w _) rfl rfl ?_ (fun k hk => ?_)
   ·show (w.alloc (.stringIter s 0)).heap[(Uw g w γ).blk γ]? = some (.stringIter s 0)
    simp only [Uw, Gh.put, if_true]
    exact heap_alloc_new w _
   ·have hk : (g.put γ w.heap.size undef).blk γ = k := hk
    simp only [Gh.put, if_true] at hk; omega) hg ⟨⟨hx, trivial⟩, ⟨hdead, trivial⟩, ⟨hf, trivial⟩, hd⟩ h
theorem Xar {x : Operand} {γ p : Nat} {s : ByteArray} (hx : S.ev x = .ptr γ 0) (hL : S.obj γ = .iter s p) (hlt : p < s.size)
  (hd : Nat.blt d S.n = true) (hg : X9 ops S gd)
  (h : Walk P ops draw K rest ((l.length, ⟨some d, .next x true, ty, pos, aft, gd⟩, ⟨X7 ops gd ++ [(x, .ptr γ 0)], some (d, .tup [ab true, ai p, .d (.v (.int .i32 (Utf8.decode s p).1))]), [(γ, .iter s p)], [(γ, .iter s (p + (Utf8.decode s p).2))], []⟩) :: l)
   ((S.set d (.tup [ab true, ai p, .d (.v (.int .i32 (Utf8.decode s p).1))])).own γ (.iter s (p + (Utf8.decode s p).2)))) :
  Walk P ops draw K (⟨some d, .next x true, ty, pos, aft, gd⟩ :: rest) l S := by
 refine Xw ⟨[(x, .ptr γ 0)], some (d, .tup [ab true, ai p, .d (.v (.int .i32 (Utf8.decode s p).1))]), [(γ, .iter s p)], [(γ, .iter s (p + (Utf8.decode s p).2))], []⟩ (Vc rfl fun E S g a w hs hq hl hn => ?_) hg ⟨⟨hx, trivial⟩, ⟨hL, trivial⟩, trivial, hd⟩ h
 have ho := hs.1.obj γ
 rw [hl.1] at ho
 have ho : w.heap[g.blk γ]? = some (.stringIter s p) := ho
 have hb := (Array.getElem?_eq_some_iff.1 ho).1
 have hv := hq.1
 simp only [AVal.sat] at hv
 refine ⟨.tuple #[.bool true, goInt p, .int .i32 (Utf8.decode s p).1], g, { w with heap := w.heap.set! (g.blk γ) (.stringIter s (p + (Utf8.decode s p).2)) }, ?_, ?_, ?_, hs.2.2.2⟩
 ·simp only [execOp, hv, Instr.next, getObj, setObj, Sem.run_bind, Sem.run, ho, Result.andThen, hlt, if_true]
  simp [goInt, ho, hlt]
 ·simp only [AVal.sat]
  refine ⟨_, rfl, ?_⟩
  simp [Xd, AVal.sat, D.rep, goInt, Value.oneCell']
 ·refine Inv.upd hs.1 γ _ (Yf _ _ _ _) (fun k hk => Yd _ _ _ (Ne.symm hk)) (fun b hb2 hnl => ?_) (by simp) rfl rfl rfl (fun _ _ => ⟨rfl, rfl, rfl⟩) (fun _ _ _ _ _ h => h) ?_ (fun b hb2 => .inl ?_) (fun _ => Gh.keeps_refl _ _)
  ·have hne : g.blk γ ≠ b := fun e => hnl (by rw [hl.1]; exact e)
   simp [Array.set!, Array.getElem?_setIfInBounds, hne]
  ·show (w.heap.set! (g.blk γ) _)[g.blk γ]? = _
   simp [Array.set!, Array.getElem?_setIfInBounds, hb]
  ·rw [hl.1]; exact hb2
theorem X8Y {x : Operand} {γ p : Nat} {s : ByteArray} (hx : S.ev x = .ptr γ 0) (hL : S.obj γ = .iter s p) (hge : s.size ≤ p)
  (hd : Nat.blt d S.n = true) (hg : X9 ops S gd)
  (h : Walk P ops draw K rest ((l.length, ⟨some d, .next x true, ty, pos, aft, gd⟩, ⟨X7 ops gd ++ [(x, .ptr γ 0)], some (d, .tup [ab false]), [(γ, .iter s p)], [], []⟩) :: l) (S.set d (.tup [ab false]))) :
  Walk P ops draw K (⟨some d, .next x true, ty, pos, aft, gd⟩ :: rest) l S := by
 refine Xw ⟨[(x, .ptr γ 0)], some (d, .tup [ab false]), [(γ, .iter s p)], [], []⟩ (XQ rfl fun E S g a w hs hq hl => ?_) hg ⟨⟨hx, trivial⟩, ⟨hL, trivial⟩, trivial, hd⟩ h
 have ho := hs.1.obj γ
 rw [hl.1] at ho
 have ho : w.heap[g.blk γ]? = some (.stringIter s p) := ho
 have hv := hq.1
 simp only [AVal.sat] at hv
 refine ⟨.tuple #[.bool false], ?_, ?_⟩
 ·simp only [execOp, hv, Instr.next, getObj, Sem.run_bind, Sem.run, ho, Result.andThen, show ¬ p < s.size by omega, if_false]
  simp [ho, show ¬ p < s.size by omega]
 ·simp only [AVal.sat]
  refine ⟨_, rfl, ?_⟩
  simp [Xd, AVal.sat, D.rep, Value.oneCell']
end
end Go.Fw
namespace Go.Fw
open Go
set_option linter.unusedVariables false
set_option linter.unusedSimpArgs false
section
variable {P : Program} {ops : Array Oper} {draw : Bool} {K : St → Prop} {rest : List Oper} {l : XH} {S : St}
variable {d : Nat} {ty : TypeId} {pos : String} {aft : Array Edge} {gd : Option (Nat × Bool)}
theorem X9v {b : List UInt8} {k : Nat} {c : UInt8} (h : b[k]? = some c) : (X4 b)[k]? = some c := by
 have hlt : k < (X4 b).size := (List.getElem?_eq_some_iff.1 h).1
 rw [getElem?_pos (X4 b) k hlt]
 exact congrArg some (List.getElem?_eq_some_iff.1 h).2
theorem X7B {t : TypeId} {x i : Operand} {k : Nat} {kd : IntKind} {m : Int} {b : List UInt8} {c : UInt8} (hx : S.ev x = as (X4 b)) (hi : S.ev i = .d (.v (.int kd m))) (hk : m = (k : Nat)) (hc : b[k]? = some c)
  (ht : Vw P t = true) (hd : Nat.blt d S.n = true) (hg : X9 ops S gd)
  (h : Walk P ops draw K rest ((l.length, ⟨some d, .index t x i, ty, pos, aft, gd⟩, ⟨X7 ops gd ++ [(x, as (X4 b)), (i, .d (.v (.int kd m)))], some (d, .d (.v (.int .u8 c.toNat))), [], [], []⟩) :: l) (S.set d (.d (.v (.int .u8 c.toNat))))) :
  Walk P ops draw K (⟨some d, .index t x i, ty, pos, aft, gd⟩ :: rest) l S :=
 Xw ⟨[(x, as (X4 b)), (i, .d (.v (.int kd m)))], some (d, .d (.v (.int .u8 c.toNat))), [], [], []⟩ (XQ rfl fun E S g a w hs hq hl => by
  refine ⟨.int .u8 c.toNat, ?_, Ud rfl⟩
  subst hk
  have h0 : (0 : Int) ≤ (k : Int) := by omega
  have hu := run_underlying (P := P) (w := w) (X2S ht)
  simp only [execOp, Instr.index, XZ hq.1, XZ hq.2.1, asIntOf, Sem.run_bind, Sem.run_pure, Result.andThen_ok, hu, if_pos h0, Int.toNat_natCast, X9v hc]) hg ⟨⟨hx, hi, trivial⟩, trivial, trivial, hd⟩ h
end
end Go.Fw
namespace Go.Fw
open Go
set_option linter.unusedVariables false
theorem Con.adopt {P : Program} {f : FuncId} {sz : Nat} {args : List AVal} {Lo : List (Nat × AObj)} {res : AVal} (h : Con P f [(0, .row sz [])] (.own 0 0 :: args) Lo res) (hm : Ya 0 args = false) : Con P f [] (ani :: args) Lo res := by
 intro g w vs hi hs
 let g1 : Gh := { blk := g.blk, hd := fun k => if k = 0 then .slice none 0 0 else g.hd k, ihd := g.ihd, M := g.M }
 have hd0 : g1.hd 0 = .slice none 0 0 := rfl
 have hno : ∀ γ b, ¬ Xs g1 (Xe .dead [(0, AObj.row sz [])] γ) γ b := by
  intro γ b hl
  by_cases hγ : γ = 0
  ·subst hγ
   rw [Yf] at hl
   obtain ⟨a, n, c, e, _⟩ := hl
   rw [hd0] at e; simp at e
  ·rw [Yd _ _ _ (Ne.symm hγ)] at hl
   exact hl
 have hno0 : ∀ γ b, ¬ Xs g (Xe .dead ([] : List (Nat × AObj)) γ) γ b := fun γ b hl => hl
 have hi1 : Inv (YH g1 w [(0, .row sz [])]) (Xe .dead [(0, .row sz [])]) g1 w := by
  refine ⟨fun γ => ?_, fun γ γ' b hl => absurd hl (hno γ b), hi.mem, fun γ b hl => absurd hl (hno γ b), fun γ b hl => absurd hl (hno γ b), XG.refl _, fun a v hv => .inl ⟨v, hv⟩, fun _ _ _ => rfl, Nat.le_refl _, rfl, rfl, fun γ _ => Gh.keeps_refl _ _⟩
  by_cases hγ : γ = 0
  ·subst hγ
   rw [Yf]
   exact ⟨by simp, .inl ⟨rfl, rfl⟩⟩
  ·rw [Yd _ _ _ (Ne.symm hγ)]
   trivial
 match vs, hs with
 | [], hs => simp only [Xd] at hs
 | v :: vs, hs =>
  simp only [Xd] at hs
  have hv := XZ hs.1
  have hs1 : Xd g1 (.own 0 0 :: args) (v :: vs) := by
   simp only [Xd]
   refine ⟨?_, Uv (g := g) (g' := g1) (XG.refl _) args vs (fun γ hγ => ?_) hs.2⟩
   ·simp only [AVal.sat]
    rw [hv]
    exact ⟨rfl, none, 0, 0, rfl, Nat.le_refl _, fun _ => rfl⟩
   ·have hne : γ ≠ 0 := fun e => by rw [e, hm] at hγ; simp at hγ
    exact Gh.keeps_of rfl (if_neg hne) rfl
  refine (h g1 w (v :: vs) hi1 hs1).mono ?_
  rintro e w' ⟨r, g', h1, h2, h3, _⟩
  refine ⟨r, g', h1, h2, ⟨h3.obj, h3.inj, h3.mem, h3.sep, fun γ b hl => ?_, h3.ext, fun a v hv => ?_, fun b hb hA => ?_, h3.size, h3.os, h3.out, fun γ _ => Gh.keeps_refl _ _⟩, fun γ hγ => by simp [Xj] at hγ⟩
  ·rcases h3.new γ b hl with h4 | ⟨γ', h4⟩
   ·exact .inl h4
   ·exact absurd h4 (hno γ' b)
  ·rcases h3.lim a v hv with h4 | h4 | ⟨γ', h4⟩
   ·exact .inl h4
   ·exact .inr (.inl h4)
   ·exact absurd h4 (hno γ' _)
  ·exact h3.frame b hb fun ⟨γ', h4⟩ => hno γ' _ h4
end Go.Fw
namespace Go.Fw
open Go
set_option linter.unusedVariables false
set_option linter.unusedSimpArgs false
variable {P : Program} {ops : Array Oper} {draw : Bool} {K : St → Prop} {rest : List Oper} {l : XH} {S : St} {d : Nat} {ty : TypeId} {pos : String} {aft : Array Edge} {gd : Option (Nat × Bool)}
theorem X9Q {x : Operand} {γ o : Nat} (hx : S.ev x = .ptr γ o) (hd : Nat.blt d S.n = true) (hg : X9 ops S gd)
  (h : Walk P ops draw K rest ((l.length, ⟨some d, .nilCheck x, ty, pos, aft, gd⟩, ⟨X7 ops gd ++ [(x, .ptr γ o)], some (d, .ptr γ o), [], [], []⟩) :: l) (S.set d (.ptr γ o))) :
  Walk P ops draw K (⟨some d, .nilCheck x, ty, pos, aft, gd⟩ :: rest) l S :=
 Xw ⟨[(x, .ptr γ o)], some (d, .ptr γ o), [], [], []⟩ (XQ rfl fun E S g a w hs hq hl => by
  have hp : a.eval x = .pointer (some ⟨g.blk γ, o, none⟩) := by have := hq.1; simpa only [AVal.sat] using this
  exact ⟨.pointer (some ⟨g.blk γ, o, none⟩), by simp [execOp, hp], by simp only [AVal.sat]⟩) hg ⟨⟨hx, trivial⟩, trivial, trivial, hd⟩ h
end Go.Fw
namespace Go.Fw
open Go
set_option linter.unusedVariables false
inductive SK where
 | i (k : IntKind)
 | b
 | s
def SK.of (P : Program) (t : TypeId) : Option SK := match P.underlying t with | some (.int k) => some (.i k) | some .bool => some .b | some .string => some .s | _ => none
def Yp : Value → Option SK
 | .int k _ => some (.i k)
 | .bool _ => some .b
 | .string _ => some .s
 | _ => none
def UQ : Value → Value → Bool
 | .int _ a, .int _ b => decide (a = b)
 | .bool a, .bool b => decide (a = b)
 | .string a, .string b => decide (a.data.toList = b.data.toList)
 | _, _ => false
def Uh : List Value → List Value → Bool
 | a :: as, b :: bs => UQ a b && Uh as bs
 | _, _ => true
def X0o (P : Program) : Nat → List Field → Option (List SK)
 | _, [] => some []
 | i, f :: fs => if f.name ≠ "_" ∧ f.offset = i ∧ YD P f.type false 1 = true then (SK.of P f.type).bind fun k => (X0o P (i + 1) fs).map (k :: ·) else none
def X0z (P : Program) (t : TypeId) : Option (List SK) :=
 match P.underlying t with
 | some (.struct fs) => if P.stoodInHeld t = false ∧ P.eqGuardType P.depth t = false then X0o P 0 fs.toList else none
 | some (.array n e) => if P.eqGuardType P.depth t = false ∧ YD P e false 1 = true then (SK.of P e).map fun k => List.replicate n k else none
 | _ => none
section
variable {P : Program}
theorem X5g {d : Nat} {t : TypeId} {k : SK} {u v : Value} (hk : SK.of P t = some k) (hu : Yp u = some k) (hv : Yp v = some k) (w : World) : (Op.equalIn (d + 1) t u v).run P w = .ok (UQ u v) w := by
 unfold SK.of at hk
 cases ht : P.underlying t with
 | none => simp [ht] at hk
 | some de =>
  rw [ht] at hk
  cases de <;> simp at hk <;> subst hk <;> cases u <;> simp [Yp] at hu <;> cases v <;> simp [Yp] at hv
  ·rw [run_equalIn_bool w d t _ _ ht]; simp [UQ, Bool.beq_eq_decide_eq]
  ·subst hu; subst hv
   rw [run_equalIn_int w d t _ _ _ _ ht]; simp [UQ, Bool.beq_eq_decide_eq]
  ·rw [run_equalIn_string w d t _ _ ht, ByteArray.toList_eq, ByteArray.toList_eq]
   simp [UQ, Bool.beq_eq_decide_eq]
theorem X4e {d : Nat} {xs ys : Array Value} : ∀ (fs : List Field) (i : Nat) (ks : List SK) (us vs : List Value), X0o P i fs = some ks → us.map Yp = ks.map some → vs.map Yp = ks.map some →
  (∀ j u, us[j]? = some u → xs[i + j]? = some u) → (∀ j u, vs[j]? = some u → ys[i + j]? = some u) → ∀ w, (Op.eqFields (d + 1) xs ys fs).run P w = .ok (Uh us vs) w
 | [], i, ks, us, vs, hf, hu, hv, hx, hy, w => by
  simp [X0o] at hf; subst hf
  simp at hu hv; subst hu; subst hv
  rfl
 | f :: fs, i, ks, us, vs, hf, hu, hv, hx, hy, w => by
  unfold X0o at hf
  split at hf
  case isFalse => cases hf
  rename_i hc
  obtain ⟨c1, c2, c3⟩ := hc
  cases hk : SK.of P f.type with
  | none => simp [hk] at hf
  | some k =>
   cases hr : X0o P (i + 1) fs with
   | none => simp [hk, hr] at hf
   | some kr =>
    simp [hk, hr] at hf; subst hf
    cases us with
    | nil => simp at hu
    | cons u us =>
     cases vs with
     | nil => simp at hv
     | cons v vs =>
      simp only [List.map_cons, List.cons.injEq] at hu hv
      have h1 : xs[f.offset]? = some u := by rw [c2]; exact hx 0 u rfl
      have h2 : ys[f.offset]? = some v := by rw [c2]; exact hy 0 v rfl
      have ih := X4e (d := d) (xs := xs) (ys := ys) fs (i + 1) kr us vs hr hu.2 hv.2 (fun j u hj => by have := hx (j + 1) u hj; rwa [show i + (j + 1) = i + 1 + j by omega] at this) (fun j u hj => by have := hy (j + 1) u hj; rwa [show i + (j + 1) = i + 1 + j by omega] at this) w
      have p1 := X1n c3 xs f.offset w
      have p2 := X1n c3 ys f.offset w
      rw [h1] at p1; rw [h2] at p2
      simp only [Bool.false_eq_true, if_false] at p1 p2
      unfold Op.eqFields
      rw [if_pos c1]
      simp only [Sem.run_bind, p1, p2, Result.andThen_ok, X5g hk hu.1 hv.1]
      unfold Uh
      cases hs : UQ u v with
      | false => simp
      | true => simpa using ih
theorem X82 {n : Nat} {k : SK} {us vs : List Value} (hu : us.map Yp = (List.replicate n k).map some) (hv : vs.map Yp = (List.replicate n k).map some) : us.length = n ∧ vs.length = n := by
 have h1 := congrArg List.length hu
 have h2 := congrArg List.length hv
 simp only [List.length_map, List.length_replicate] at h1 h2
 exact ⟨h1, h2⟩
theorem X6H {t : TypeId} {ks : List SK} {us vs : List Value} (hk : X0z P t = some ks) (hu : us.map Yp = ks.map some) (hv : vs.map Yp = ks.map some) (w : World) :
  (Op.equalIn 10000 t (.agg us.toArray) (.agg vs.toArray)).run P w = .ok (Uh us vs) w ∧ P.eqGuardType P.depth t = false := by
 unfold X0z at hk
 split at hk
 ·rename_i fs hfs
  split at hk
  case isFalse => cases hk
  rename_i hc
  have hF : P.fieldsOf t = fs := by simp [Program.fieldsOf, hfs]
  refine ⟨?_, hc.2⟩
  rw [show (10000 : Nat) = 9998 + 1 + 1 from rfl, run_equalIn_agg w (9998 + 1) t _ _ (by rw [hF]; exact hfs) hc.1, hF]
  exact X4e fs.toList 0 ks us vs hk hu hv (fun j u hj => by simpa using hj) (fun j u hj => by simpa using hj) w
 ·rename_i n e he
  split at hk
  case isFalse => cases hk
  rename_i hc
  refine ⟨?_, hc.1⟩
  cases hs : SK.of P e with
  | none => simp [hs] at hk
  | some k =>
   simp [hs] at hk; subst hk
   have hl := X82 hu hv
   have hsz := (X06 hc.2).2
   rw [show (10000 : Nat) = 9998 + 1 + 1 from rfl, Op.equalIn]
   simp only [Sem.run_bind, run_underlying he, Result.andThen_ok, hsz]
   rw [Std.Legacy.Range.forIn_eq_forIn_range']
   simp only [Std.Legacy.Range.size, Nat.sub_zero, Nat.add_sub_cancel, Nat.div_one, Nat.mul_one]
   have key : ∀ (m i : Nat), i + m = n → ∀ w, ((forIn (List.range' i m) ((none, ()) : Option Bool × Unit) fun i r => do
     let __do_lift ← part e us.toArray i
     let __do_lift_1 ← part e vs.toArray i
     let __do_lift ← Op.equalIn (9998 + 1) e __do_lift __do_lift_1
     if (!__do_lift) = true then pure (ForInStep.done (some false, ())) else pure (ForInStep.yield (none, ())) : Sem (Option Bool × Unit))).run P w = .ok (if Uh (us.drop i) (vs.drop i) = true then (none, ()) else (some false, ())) w := by
    intro m
    induction m with
    | zero =>
     intro i hi w
     rw [List.drop_of_length_le (by omega), List.drop_of_length_le (by omega)]
     rfl
    | succ m ih =>
     intro i hi w
     have l1 : i < us.length := by omega
     have l2 : i < vs.length := by omega
     have g1 : Yp us[i] = some k := by
      have := congrArg (·[i]?) hu
      simp [l1] at this
      rw [List.getElem?_replicate] at this
      simpa [show i < n by omega] using this
     have g2 : Yp vs[i] = some k := by
      have := congrArg (·[i]?) hv
      simp [l2] at this
      rw [List.getElem?_replicate] at this
      simpa [show i < n by omega] using this
     have p1 := X1n hc.2 us.toArray i w
     have p2 := X1n hc.2 vs.toArray i w
     simp only [List.getElem?_toArray, List.getElem?_eq_getElem l1, List.getElem?_eq_getElem l2, Bool.false_eq_true, if_false] at p1 p2
     rw [List.range'_succ, List.forIn_cons]
     simp only [Sem.run_bind, p1, p2, Result.andThen_ok, X5g hs g1 g2, Sem.run_ite]
     rw [List.drop_eq_getElem_cons l1, List.drop_eq_getElem_cons l2]
     unfold Uh
     cases hq : UQ us[i] vs[i] with
     | false => simp
     | true =>
      simp only [Bool.not_true, Bool.false_eq_true, if_false, Sem.run_pure, Result.andThen_ok, Bool.true_and]
      exact ih (i + 1) (by omega) w
   have := key n 0 (by omega) w
   simp only [List.drop_zero] at this
   rw [this]
   cases Uh us vs <;> simp
 ·cases hk
theorem Xa9 {t : TypeId} {x y : Operand} {ks : List SK} {us vs : List Value} {r : Bool} (hk : X0z P t = some ks) (hu : us.map Yp = ks.map some) (hv : vs.map Yp = ks.map some) (hr : Uh us vs = r) (w : World) :
  (do eqGuard .neq t x y (.agg us.toArray) (.agg vs.toArray); binOp .neq t (.agg us.toArray) (.agg vs.toArray) : Sem Value).run P w = .ok (.bool (!r)) w := by
 have h := X6H hk hu hv w
 rw [Sem.run_bind, run_eqGuard_agg w _ _ _ _ _ _ h.2, Result.andThen_ok, run_neq_struct, h.1, Result.andThen_ok, hr]
theorem X6k {g : Gh} : ∀ {us : List Value} {vs : List Value}, Xd g (dvL us) vs → vs = us
 | [], [], _ => rfl
 | [], _ :: _, h => by simp only [dvL, Xd] at h
 | _ :: _, [], h => by simp only [dvL, Xd] at h
 | u :: us, v :: vs, h => by
  simp only [dvL, Xd] at h
  rw [XZ h.1, X6k h.2]
end
section
variable {P : Program} {ops : Array Oper} {draw : Bool} {K : St → Prop} {rest : List Oper} {l : XH} {S : St} {ty : TypeId} {pos : String} {aft : Array Edge} {gd : Option (Nat × Bool)} {d : Nat}
theorem X44 {g : Gh} {us : List Value} {v : Value} (h : (AVal.agg (dvL us)).sat g v) : v = .agg us.toArray := by
 simp only [AVal.sat] at h
 obtain ⟨vs, rfl, h⟩ := h
 rw [← X6k h]
theorem X8F {xt yt : TypeId} {x y : Operand} {us vs : List Value} {r : Bool} {ks : List SK} {cs es : List AVal} (hk : X0z P xt = some ks) (hx : S.ev x = .agg cs) (hy : S.ev y = .agg es) (hcs : cs = dvL us) (hes : es = dvL vs) (hu : us.map Yp = ks.map some) (hv : vs.map Yp = ks.map some)
  (hr : Uh us vs = r) (hd : Nat.blt d S.n = true) (hg : X9 ops S gd)
  (h : Walk P ops draw K rest ((l.length, ⟨some d, .binOp .neq xt x y yt, ty, pos, aft, gd⟩, ⟨X7 ops gd ++ [(x, .agg cs), (y, .agg es)], some (d, ab (!r)), [], [], []⟩) :: l) (S.set d (ab (!r)))) :
  Walk P ops draw K (⟨some d, .binOp .neq xt x y yt, ty, pos, aft, gd⟩ :: rest) l S := by
 subst hcs; subst hes
 exact Xw ⟨[(x, .agg (dvL us)), (y, .agg (dvL vs))], some (d, ab (!r)), [], [], []⟩ (XQ rfl fun E S g a w hs hq _ => by
  refine ⟨.bool (!r), ?_, Ud rfl⟩
  have := Xa9 (x := x) (y := y) hk hu hv hr w
  simp only [execOp, X44 hq.1, X44 hq.2.1, Sem.run_bind, Sem.run_pure] at this ⊢
  rw [this]; rfl) hg ⟨⟨hx, hy, trivial⟩, trivial, trivial, hd⟩ h
end
end Go.Fw
namespace Go.Fw
open Go
set_option linter.unusedVariables false
set_option linter.unusedSimpArgs false
section
variable {P : Program} {ops : Array Oper} {draw : Bool} {K : St → Prop} {rest : List Oper} {l : XH} {S : St}
variable {d : Nat} {ty : TypeId} {pos : String} {aft : Array Edge} {gd : Option (Nat × Bool)}
theorem X8h {x : Operand} {T : TypeId} {γ n : Nat} (hx : S.ev x = .bsl γ n) (hT : isSl P T = true)
  (hd : Nat.blt d S.n = true) (hg : X9 ops S gd)
  (h : Walk P ops draw K rest ((l.length, ⟨some d, .call ⟨.builtin .len, #[x], #[T]⟩, ty, pos, aft, gd⟩, ⟨X7 ops gd ++ [(x, .bsl γ n)], some (d, ai n), [], [], []⟩) :: l) (S.set d (ai n))) :
  Walk P ops draw K (⟨some d, .call ⟨.builtin .len, #[x], #[T]⟩, ty, pos, aft, gd⟩ :: rest) l S :=
 Xw ⟨[(x, .bsl γ n)], some (d, ai n), [], [], []⟩ (XQ rfl fun E S g a w hs hq hl => by
  obtain ⟨e, h1⟩ := X4D hT
  have hv := hq.1
  simp only [AVal.sat] at hv
  refine ⟨.int .i64 n, ?_, Ud rfl⟩
  simp [execOp, resolve, invoke, builtin, hv, Builtin.len_, run_underlying h1, goInt]) hg ⟨⟨hx, trivial⟩, trivial, trivial, hd⟩ h
theorem X6O {x i : Operand} {T : TypeId} {γ n k : Nat} {kd : IntKind} {m : Int} (hx : S.ev x = .bsl γ n) (hi : S.ev i = .d (.v (.int kd m))) (hk : m = (k : Nat)) (hlt : k < n)
  (hT : XS P T 1 = true) (hd : Nat.blt d S.n = true) (hg : X9 ops S gd)
  (h : Walk P ops draw K rest ((l.length, ⟨some d, .indexAddr T x i, ty, pos, aft, gd⟩, ⟨X7 ops gd ++ [(x, .bsl γ n), (i, .d (.v (.int kd m)))], some (d, .ptr γ k), [], [], []⟩) :: l) (S.set d (.ptr γ k))) :
  Walk P ops draw K (⟨some d, .indexAddr T x i, ty, pos, aft, gd⟩ :: rest) l S :=
 Xw ⟨[(x, .bsl γ n), (i, .d (.v (.int kd m)))], some (d, .ptr γ k), [], [], []⟩ (XQ rfl fun E S g a w hs hq hl => by
  obtain ⟨e, h1, h2, h3⟩ := V6 hT
  have hv := hq.1
  simp only [AVal.sat] at hv
  refine ⟨.pointer (some ⟨g.blk γ, k, none⟩), ?_, by simp only [AVal.sat]⟩
  have hb : (0 : Int) ≤ m ∧ m < (n : Int) := by omega
  have hm : m.toNat = k := by omega
  have := run_indexAt_slice (P := P) w T ⟨g.blk γ, 0, none⟩ n n kd m (by rw [h3]; exact h1)
  rw [if_pos hb, h3, h2 w, Result.andThen_ok, Yj, hm, Nat.mul_one, Nat.zero_add] at this
  simp only [execOp, hv, XZ hq.2.1, Sem.run_bind, this]; rfl) hg ⟨⟨hx, hi, trivial⟩, trivial, trivial, hd⟩ h
end
end Go.Fw
namespace Go.Fw
open Go
set_option linter.unusedVariables false
section
variable {P : Program} {E : Env} {S : St} {Q : Exit → St → Prop}
theorem Vj {c : Operand} {x y : Code} {p : Prop} {inst : Decidable p} (hc : S.ev c = ab (@decide p inst)) (ht : p → AWP P E x S Q) (hf : ¬ p → AWP P E y S Q) : AWP P E (.cond c x y) S Q :=
 X0I hc (fun h => ht (of_decide_eq_true h)) (fun h => hf (of_decide_eq_false h))
theorem X3T {x y : Code} {Q' : Exit → St → Prop} (U : St) (h : AWP P E x S (X1b (fun T => T.le U) Q')) (k : AWP P E y U Q) : AWP P E x S (X1b (fun T => AWP P E y T Q) Q') :=
 X5G h fun e T hq => by
  cases e with
  | normal => exact Y6 hq k
  | _ => exact hq
end
section
variable {P : Program} {ops : Array Oper} {draw : Bool} {K : St → Prop} {rest : List Oper} {l : XH} {S : St}
theorem XV {o : Oper} {j : Nat} {b : Bool} {p : Prop} {inst : Decidable p} (hg : o.guard = some (j, b)) (hx : S.get (UE ops j) = ab (@decide p inst)) (ht : p → Walk P ops draw K (o :: rest) l S) (hf : ¬ p → Walk P ops draw K (o :: rest) l S) : Walk P ops draw K (o :: rest) l S := by
 by_cases h : p
 ·exact ht h
 ·exact hf h
theorem VO {o : Oper} {j : Nat} {b x : Bool} (hg : o.guard = some (j, b)) (hx : S.get (UE ops j) = ab x) (ht : x = true → Walk P ops draw K (o :: rest) l S) (hf : x = false → Walk P ops draw K (o :: rest) l S) : Walk P ops draw K (o :: rest) l S := by
 cases x
 ·exact hf rfl
 ·exact ht rfl
end
end Go.Fw
namespace Go.Fw
open Go
set_option linter.unusedVariables false
section
variable {P : Program} {E : Env} {S : St} {Q : Exit → St → Prop}
theorem XB {c : Operand} {x y : Code} {b : Bool} (hc : S.ev c = ab (!b)) (ht : b = false → AWP P E x S Q) (hf : b = true → AWP P E y S Q) : AWP P E (.cond c x y) S Q :=
 X0I hc (fun h => ht (by simpa using h)) (fun h => hf (by simpa using h))
end
section
variable {P : Program} {ops : Array Oper} {draw : Bool} {K : St → Prop} {rest : List Oper} {l : XH} {S : St}
theorem Yv {o : Oper} {j : Nat} {b x : Bool} (hg : o.guard = some (j, b)) (hx : S.get (UE ops j) = ab (!x)) (ht : x = true → Walk P ops draw K (o :: rest) l S) (hf : x = false → Walk P ops draw K (o :: rest) l S) : Walk P ops draw K (o :: rest) l S := by
 cases x
 ·exact hf rfl
 ·exact ht rfl
end
end Go.Fw
namespace Go.Fw
open Go
set_option linter.unusedVariables false
set_option linter.unusedSimpArgs false
def V8 (W W' : World) : Prop := W'.os = W.os ∧ W'.output = W.output ∧ W.heap.size ≤ W'.heap.size ∧ ∀ b, b < W.heap.size → W'.heap[b]? = W.heap[b]?
def g0 (M : Mem) : Gh := ⟨fun _ => 0, fun _ => .slice none 0 0, fun _ _ => .slice none 0 0, M⟩
theorem X4A {P : Program} {f : FuncId} {as : List AVal} {res : AVal} {args : Array Value} {W : World} (hc : Con P f [] as [] res) (M : Mem) (hM : ∀ a v, M a = some v → W.cell? a = some v)
  (hs : Xd (g0 M) as args.toList) : Calls P f args W fun e W' => ∃ v g', e = .returned v ∧ res.sat g' v ∧ V8 W W' := by
 have hi : Inv (YH (g0 M) W []) (Xe .dead []) (g0 M) W := by
  refine ⟨fun _ => trivial, fun _ _ _ h => h.elim, hM, fun _ _ h => h.elim, fun _ _ h => h.elim, XG.refl _, fun a v h => .inl ⟨v, h⟩, fun _ _ _ => rfl, Nat.le_refl _, rfl, rfl, fun γ _ => Gh.keeps_refl _ _⟩
 refine (hc (g0 M) W args.toList hi hs).mono ?_
 rintro e W' ⟨v, g', rfl, hv, hi', _⟩
 exact ⟨v, g', rfl, hv, hi'.os, hi'.out, hi'.size, fun b hb => hi'.frame b hb fun ⟨γ, h⟩ => h.elim⟩
theorem V8.but {W W' : World} (h : V8 W W') (may : MemPlace → Prop) : W.keptBut W' may := by
 refine ⟨h.1, h.2.1, fun i hi => ?_⟩
 have e := h.2.2.2 i hi
 have := (World.keptBut_refl W may).2.2 i hi
 rw [e]; exact this
theorem V8.frozen {W W' : World} (h : V8 W W') {a : Addr} (ha : a.block < W.heap.size) : W'.frozen? a = W.frozen? a := by
 unfold World.frozen?
 rw [h.2.2.2 _ ha]
section
open Go.ChangeShapes Go.WideShapes Go.ChangeAt Go.RowKit
variable {H : Type} {enc : TypeId × Value → H} {P : Program}
theorem V8.same {W W' : World} (h : V8 W W') {p : MemPlace} (hp : p.block < W.heap.size) : W.sameAt W' p := by
 cases p with
 | cell b off =>
  show W'.cell? _ = W.cell? _
  have := h.2.2.2 b hp
  simp only [World.cell?, this]
 | map b => exact h.2.2.2 b hp
theorem X3y {W W' : World} (h : V8 W W') {base : Nat} {spare : Nat → Bool} {held : Bool} : ∀ {ts : List TypeId} {vs : List Value} {ds : List (DataW H)} {ps : List MemPlace}, DataW.TrodAll enc P W base spare held ts vs ds ps → DataW.TrodAll enc P W' base spare held ts vs ds ps
 | [], [], [], _, k => k
 | _ :: _, _ :: _, _ :: _, _, ⟨p, q, ⟨n, h1⟩, h2, e⟩ =>
  ⟨p, q, ⟨n, DataW.trod_carry n _ _ _ h1 fun x hx => h.same (DataW.trod_lt n _ _ _ h1 x hx)⟩, X3y h h2, e⟩
theorem X5f {f : Func} {s : ChangeSpec} {apart fresh handsOn again : Bool} {W W' : World} {args : Array Value} {ds gs : List (DataW H)} {before : List MemPlace} {tb : TypeId} {T : TypeId → Prop}
  (hW : DataW.Whole enc P f.params.toList s.vars apart W args.toList ds gs before) (hv : s.vars = [])
  (h1 : (s.fn H (ds ++ gs)).results = [.lit (.bool true)]) (h2 : (s.fn H (ds ++ gs)).args = ds) (h3 : (s.fn H (ds ++ gs)).vars = gs)
  (hrt : f.resultTypes = #[tb]) (htb : P.underlying tb = some .bool) (hk : V8 W W') (K : Kids P T) (hz : ∀ t e, T t → P.underlying t = some (.slice e) → 0 < P.cellsOf e) (hT : ∀ t ∈ f.params.toList, T t) :
  s.post enc P f apart fresh handsOn again W args (.bool true) W' := by
 have hlt := hW.lt
 have hW' := hW
 obtain ⟨p, q, hA, hV, hpq, hfr, hnd⟩ := hW
 have hV' : ∀ sp : Nat → Bool, DataW.TrodVars enc P W' sp s.vars (s.fn H (ds ++ gs)).vars q := by
  intro sp
  rw [h3]
  rw [hv] at hV ⊢
  obtain ⟨e1, e2⟩ := trodVars_none hV
  subst e1 e2
  rfl
 have hres : ∀ (b : Nat) (sp : Nat → Bool) (hd : Bool), DataW.TrodAll enc P W' b sp hd f.resultTypes.toList ((Value.bool true).resultList f.resultTypes.size) (s.fn H (ds ++ gs)).results [] := by
  intro b sp hd
  rw [h1, hrt]
  exact trodAll_mk1 (shut_bool htb true)
 have hargs : ∀ sp : Nat → Bool, (∀ x ∈ before, sp x.block = true) → DataW.TrodAll enc P W' 0 sp true f.params.toList args.toList (s.fn H (ds ++ gs)).args p := by
  intro sp hsp
  rw [h2]
  exact DataW.TrodAll.respare K hz hT (X3y hk hA) fun x hx => hsp x (by rw [hpq]; exact List.mem_append_left _ hx)
 have hold : ∀ x ∈ before, (fun b => decide (b < W.heap.size)) x.block = true := fun x hx => by simpa using hlt x hx
 refine ⟨ds, gs, before, [], p, q, hW', hres _ _ _, hargs _ hold, hV' _, hk.but _, fun _ => ?_⟩
 refine ⟨ok_one hrt rfl (okWide_bool_mk htb true), _, _, ([] ++ p) ++ q, ⟨[] ++ p, q, trodAll_append (hargs _ (fun _ _ => rfl)) (hres _ _ _), hV' _, rfl, ?_, ?_⟩, ?_⟩
 ·intro b off hp
  have hm : MemPlace.cell b off ∈ before := by rw [hpq]; simpa using hp
  rw [hk.frozen (a := ⟨b, off, none⟩) (hlt _ hm)]
  exact hfr b off hm
 ·intro ha
  have := hnd ha
  rw [hpq] at this
  simpa using this
 ·intro x hx _
  rw [hpq]
  simpa using hx
end
end Go.Fw
namespace Go.Fw
open Go Go.ChangeShapes Go.WideShapes Go.Deep
set_option linter.unusedVariables false
def Y1 (M : Mem) : List D → List Value → Prop
 | [], [] => True
 | d :: ds, v :: vs => d.rep M v ∧ Y1 M ds vs
 | _, _ => False
theorem X1X {M : Mem} : ∀ {ds es : List D} {us vs : List Value}, Y1 M ds us → Y1 M es vs → Y1 M (ds ++ es) (us ++ vs)
 | [], _, [], _, _, h => h
 | [], _, _ :: _, _, h, _ => by simp only [Y1] at h
 | _ :: _, _, [], _, h, _ => by simp only [Y1] at h
 | d :: ds, es, u :: us, vs, h, k => by
  simp only [Y1, List.cons_append] at h ⊢
  exact ⟨h.1, X1X h.2 k⟩
theorem X2b {M : Mem} : ∀ {ds : List D} {us : List Value}, Y1 M ds us → us.length = ds.length
 | [], [], _ => rfl
 | [], _ :: _, h => by simp only [Y1] at h
 | _ :: _, [], h => by simp only [Y1] at h
 | d :: ds, u :: us, h => by simp only [Y1] at h; simp [X2b h.2]
theorem X2u {M : Mem} : ∀ {ds : List D} {us : List Value}, Y1 M ds us → ∀ (i : Nat) (d : D), ds[i]? = some d → ∃ u, us[i]? = some u ∧ d.rep M u
 | [], [], _, _, _, h => by simp at h
 | [], _ :: _, h, _, _, _ => by simp only [Y1] at h
 | _ :: _, [], h, _, _, _ => by simp only [Y1] at h
 | d :: ds, u :: us, h, 0, e, he => by simp only [Y1] at h; simp at he; subst he; exact ⟨u, by simp, h.1⟩
 | d :: ds, u :: us, h, i + 1, e, he => by
  simp only [Y1] at h
  simpa using X2u h.2 i e (by simpa using he)
theorem X1m {M : Mem} {g : Gh} (hM : g.M = M) : ∀ {ds : List D} {us : List Value}, Y1 M ds us → Xd g (ds.map .d) us
 | [], [], _ => by simp only [List.map_nil, Xd]
 | [], _ :: _, h => by simp only [Y1] at h
 | _ :: _, [], h => by simp only [Y1] at h
 | d :: ds, u :: us, h => by
  simp only [Y1] at h
  simp only [List.map_cons, Xd, AVal.sat]
  exact ⟨hM ▸ h.1, X1m hM h.2⟩
theorem X2k {α : Type} {p : Nat → α → Prop} : ∀ n, (∀ i, i < n → ∃ r, p i r) → ∃ l : List α, l.length = n ∧ ∀ (i : Nat) (r : α), l[i]? = some r → p i r
 | 0, _ => ⟨[], rfl, fun i r h => by simp at h⟩
 | n + 1, h => by
  obtain ⟨l, h1, h2⟩ := X2k n (fun i hi => h i (by omega))
  obtain ⟨r, hr⟩ := h n (by omega)
  refine ⟨l ++ [r], by simp [h1], fun i x hx => ?_⟩
  rw [List.getElem?_append] at hx
  split at hx
  ·exact h2 i x hx
  ·rename_i hi
   have : i = n := by
    rcases Nat.lt_or_ge (i - l.length) 1 with hj | hj
    ·omega
    ·simp [show i - l.length ≠ 0 by omega] at hx
   subst this
   simp [h1] at hx
   subst hx; exact hr
section
variable {H : Type} {enc : TypeId × Value → H} {P : Program} {W : World}
structure Opens {α : Type} (enc : TypeId × Value → H) (P : Program) (W : World) (t : TypeId) (p : α → Prop) (f : α → List D) : Prop where
 op : ∀ n cs x, DataW.trod enc P W 0 (fun _ => true) true n t cs = some x → ∃ r, p r ∧ Y1 W.cell? (f r) cs
theorem Opens.to {α β : Type} {t : TypeId} {p : α → Prop} {f : α → List D} (h : Opens enc P W t p f) {q : β → Prop} {g : β → List D} (φ : α → β) (hφ : ∀ a, p a → q (φ a) ∧ f a = g (φ a)) : Opens enc P W t q g := by
 refine ⟨fun n cs x hx => ?_⟩
 obtain ⟨r, h1, h2⟩ := h.op n cs x hx
 exact ⟨φ r, (hφ r h1).1, (hφ r h1).2 ▸ h2⟩
theorem X46 {t : TypeId} {k : IntKind} (ht : P.underlying t = some (.int k)) : Opens enc P W t (fun n : Int => (Lit.int k n).wf = true) (fun n => [.v (.int k n)]) := by
 refine ⟨fun n cs x hx => ?_⟩
 obtain ⟨n', rfl, _, hw⟩ := DataW.trod_int ht hx
 refine ⟨n', hw, ?_⟩
 simp [Y1, D.rep, Value.oneCell']
theorem UY {t : TypeId} (ht : P.underlying t = some (.int .i64)) : Opens enc P W t (fun n : Int => -9223372036854775808 ≤ n ∧ n ≤ 9223372036854775807) (fun n => [.v (.int .i64 n)]) :=
 (X46 ht).to id fun a ha => ⟨bounds_i64 ha, rfl⟩
theorem X6F {t : TypeId} (ht : P.underlying t = some (.int .u8)) : Opens enc P W t (fun _ : UInt8 => True) (fun b => [.v (.int .u8 b.toNat)]) :=
 (X46 ht).to (fun n => UInt8.ofNat n.toNat) fun a ha => ⟨trivial, by
  have := bounds_u8 ha
  simp only [List.cons.injEq, D.v.injEq, Value.int.injEq, true_and, and_true, UInt8.toNat_ofNat']
  omega⟩
theorem X8X {α : Type} {t e : TypeId} {sz : Nat} {p : α → Prop} {f : α → List D} (ht : P.underlying t = some (.slice e)) (hz : P.cellsOf e = sz) (h0 : 0 < sz) (ho : Opens enc P W e p f) :
  Opens enc P W t (fun l : List α => ∀ r ∈ l, p r) (fun l => [.sl sz (l.map f)]) := by
 refine ⟨fun n cs x hx => ?_⟩
 rcases open_slice ht hx with ⟨rfl, _⟩ | ⟨a, len, cap, m, n', DD, Pl, rfl, _, hl, hm, hmm, rfl, hel⟩
 ·refine ⟨[], by simp, ?_⟩
  simp only [Y1, D.rep, List.map_nil]
  exact ⟨⟨none, 0, rfl, Nat.le_refl _, Nat.zero_le _, .inl trivial⟩, trivial⟩
 simp only [if_true] at hmm
 subst hmm
 have hel' : ∀ i, i < len → ∃ r, p r ∧ (f r).length = sz ∧ ∀ j d, (f r)[j]? = some d → ∃ u, W.cell? ((a.add (i * sz)).add j) = some u ∧ d.rep W.cell? u := by
  intro i hi
  obtain ⟨cs', h1, h2⟩ := hel i (by omega)
  obtain ⟨r, h3, h4⟩ := ho.op _ _ _ h2
  obtain ⟨_, h5, h6⟩ := World.cells?_some h1
  rw [hz] at h5 h6
  refine ⟨r, h3, by rw [← X2b h4, h5], fun j d hd => ?_⟩
  obtain ⟨u, h7, h8⟩ := X2u h4 j d hd
  have hj : j < sz := by
   have := (List.getElem?_eq_some_iff.1 h7).1
   omega
  exact ⟨u, (h6 j hj).trans h7, h8⟩
 obtain ⟨l, h1, h2⟩ := X2k len hel'
 refine ⟨l, fun r hr => ?_, ?_⟩
 ·obtain ⟨i, hi⟩ := List.getElem?_of_mem hr
  exact (h2 i r hi).1
 simp only [Y1, D.rep]
 refine ⟨⟨some a, m, by rw [List.length_map, h1], by rw [List.length_map, h1]; exact hl, hm, ?_⟩, trivial⟩
 by_cases h00 : len = 0
 ·exact .inl (by rw [List.eq_nil_of_length_eq_zero (h1.trans h00)]; rfl)
 right
 obtain ⟨b, o, sp⟩ := a
 have hsp : sp = none := by
  obtain ⟨r, hr⟩ : ∃ r, l[0]? = some r := ⟨_, List.getElem?_eq_getElem (by omega)⟩
  obtain ⟨_, hlen, hcell⟩ := h2 0 r hr
  obtain ⟨d, hd⟩ : ∃ d, (f r)[0]? = some d := ⟨_, List.getElem?_eq_getElem (by omega)⟩
  obtain ⟨u, hu, _⟩ := hcell 0 d hd
  simpa [Addr.add] using World.cell?_spot hu
 subst hsp
 refine ⟨b, o, rfl, X0N _ _ _ fun i r hr => ?_⟩
 obtain ⟨x, hx, rfl⟩ : ∃ x, l[i]? = some x ∧ f x = r := by simpa using hr
 obtain ⟨_, hlen, hcell⟩ := h2 i x hx
 refine ⟨hlen, VR _ _ _ fun j d hd => ?_⟩
 obtain ⟨u, hu, hd⟩ := hcell j d hd
 rw [Yj, Yj] at hu
 exact ⟨u, hu, hd⟩
structure OpensF {α : Type} (enc : TypeId × Value → H) (P : Program) (W : World) (N : Nat) (fs : List Field) (off : Nat) (p : α → Prop) (f : α → List D) : Prop where
 op : ∀ cs : List Value, cs.length = N → (∀ q ∈ fs, ∃ n x, DataW.trod enc P W 0 (fun _ => true) true n q.type ((cs.drop q.offset).take (P.cellsOf q.type)) = some x) → ∃ r, p r ∧ Y1 W.cell? (f r) (cs.drop off)
theorem X4Q {N : Nat} : OpensF enc P W N [] N (fun _ : Unit => True) (fun _ => []) := by
 refine ⟨fun cs hN _ => ⟨(), trivial, ?_⟩⟩
 rw [List.drop_of_length_le (by omega)]; trivial
theorem Ux {α β : Type} {N : Nat} {q : Field} {fs : List Field} {off s : Nat} {p : α → Prop} {f : α → List D} {p' : β → Prop} {f' : β → List D} (hoff : q.offset = off) (hs : P.cellsOf q.type = s)
  (h : Opens enc P W q.type p f) (k : OpensF enc P W N fs (off + s) p' f') : OpensF enc P W N (q :: fs) off (fun r : α × β => p r.1 ∧ p' r.2) (fun r => f r.1 ++ f' r.2) := by
 refine ⟨fun cs hN hall => ?_⟩
 obtain ⟨n, x, hx⟩ := hall q (by simp)
 rw [hoff, hs] at hx
 obtain ⟨r, h1, h2⟩ := h.op _ _ _ hx
 obtain ⟨r', h3, h4⟩ := k.op cs hN fun q' hq' => hall q' (by simp [hq'])
 refine ⟨(r, r'), ⟨h1, h3⟩, ?_⟩
 have := X1X h2 h4
 rwa [← List.drop_drop, List.take_append_drop] at this
theorem X4H {α : Type} {t : TypeId} {fs : Array Field} {N : Nat} {p : α → Prop} {f : α → List D} (ht : P.underlying t = some (.struct fs)) (hN : P.cellsOf t = N) (h : OpensF enc P W N fs.toList 0 p f) : Opens enc P W t p f := by
 refine ⟨fun n cs x hx => ?_⟩
 obtain ⟨xs, n', _, _, hl, hlen, hf⟩ := DataW.trod_struct ht hx
 have := h.op cs (hl.trans hN) fun q hq => by
  obtain ⟨i, hi⟩ := List.getElem?_of_mem hq
  have h1 := hf i q (by simpa using hi)
  have hlt := (List.getElem?_eq_some_iff.1 hi).1
  simp only [Array.length_toList] at hlt
  exact ⟨n', _, h1.trans (List.getElem?_eq_getElem (by omega))⟩
 simpa using this
theorem X3J {α : Type} {t : TypeId} {fs : Array Field} {r : Reach} {b0 : Nat} {v : Value} {d : DataW H} {ps : List MemPlace} {p : α → Prop} {f : α → List D} (ht : P.underlying t = some (.struct fs))
  (hval : Value.okWide P W r b0 t v) (hd : DataW.Trod enc P W 0 (fun _ => true) true t v d ps) (ho : Opens enc P W t p f) : ∃ x, p x ∧ (AVal.agg ((f x).map .d)).sat (g0 W.cell?) v := by
 simp only [Value.okWide, ht] at hval
 obtain ⟨cs, rfl, _, _⟩ := hval
 obtain ⟨n, hn⟩ := hd
 obtain ⟨x, h1, h2⟩ := ho.op _ _ _ hn
 refine ⟨x, h1, ?_⟩
 simp only [AVal.sat]
 exact ⟨cs, rfl, X1m rfl h2⟩
theorem X6x {α : Type} {t e : TypeId} {r : Reach} {b0 : Nat} {v : Value} {d : DataW H} {ps : List MemPlace} {p : α → Prop} {f : α → D} (ht : P.underlying t = some (.slice e))
  (hval : Value.okWide P W r b0 t v) (hd : DataW.Trod enc P W 0 (fun _ => true) true t v d ps) (ho : Opens enc P W t p (fun x => [f x])) : ∃ x, p x ∧ (AVal.d (f x)).sat (g0 W.cell?) v := by
 obtain ⟨a, n, c, rfl⟩ := okWide_slice ht hval
 obtain ⟨n, hn⟩ := hd
 obtain ⟨x, h1, h2⟩ := ho.op _ _ _ hn
 refine ⟨x, h1, ?_⟩
 have := X1m (g := g0 W.cell?) rfl h2
 simp only [List.map_cons, List.map_nil, Value.cells, Xd] at this
 exact this.1
end
end Go.Fw
namespace Go.Fw
open Go Go.ChangeShapes Go.WideShapes Go.Deep
set_option linter.unusedVariables false
section
variable {H : Type} {enc : TypeId × Value → H} {P : Program} {W : World}
theorem Xan (s : ByteArray) : X4 s.data.toList = s := by
 cases s; simp [X4]
theorem X0y {t : TypeId} (ht : P.underlying t = some .string) : Opens enc P W t (fun s : List UInt8 => s.length ≤ 9223372036854775807) (fun s => [.v (.string (X4 s))]) := by
 refine ⟨fun n cs x hx => ?_⟩
 obtain ⟨s, rfl, _, hl⟩ := DataW.trod_string ht hx
 refine ⟨s.data.toList, by simpa [maxLen] using hl, ?_⟩
 simp only [Y1, D.rep, Xan]
 exact ⟨⟨trivial, rfl⟩, trivial⟩
structure OpensN {α : Type} (enc : TypeId × Value → H) (P : Program) (W : World) (n : Nat) (t : TypeId) (p : α → Prop) (f : α → List D) : Prop where
 op : ∀ cs x, DataW.trod enc P W 0 (fun _ => true) true n t cs = some x → ∃ r, p r ∧ Y1 W.cell? (f r) cs
theorem Opens.at {α : Type} {t : TypeId} {p : α → Prop} {f : α → List D} (h : Opens enc P W t p f) (n : Nat) : OpensN enc P W n t p f := ⟨h.op n⟩
theorem XaH {α : Type} {t : TypeId} {p : α → Prop} {f : α → List D} (h : ∀ n, OpensN enc P W n t p f) : Opens enc P W t p f := ⟨fun n => (h n).op⟩
theorem OpensN.to {α β : Type} {n : Nat} {t : TypeId} {p : α → Prop} {f : α → List D} (h : OpensN enc P W n t p f) {q : β → Prop} {g : β → List D} (φ : α → β) (hφ : ∀ a, p a → q (φ a) ∧ f a = g (φ a)) : OpensN enc P W n t q g := by
 refine ⟨fun cs x hx => ?_⟩
 obtain ⟨r, h1, h2⟩ := h.op cs x hx
 exact ⟨φ r, (hφ r h1).1, (hφ r h1).2 ▸ h2⟩
theorem X7D {α : Type} {n : Nat} {t e : TypeId} {sz : Nat} {p : α → Prop} {f : α → List D} (ht : P.underlying t = some (.slice e)) (hz : P.cellsOf e = sz) (h0 : 0 < sz) (ho : ∀ m, n = m + 1 → OpensN enc P W m e p f) :
  OpensN enc P W n t (fun l : List α => (∀ r ∈ l, p r) ∧ l.length ≤ 9223372036854775807) (fun l => [.sl sz (l.map f)]) := by
 refine ⟨fun cs x hx => ?_⟩
 rcases DataW.trod_slice ht hx with ⟨rfl, _⟩ | ⟨a, len, cap, elems, rest, n', hn, rfl, _, _, hl, hm, hlen, hel, _, _⟩
 ·refine ⟨[], ⟨by simp, by simp⟩, ?_⟩
  simp only [Y1, D.rep, List.map_nil]
  exact ⟨⟨none, 0, rfl, Nat.le_refl _, Nat.zero_le _, .inl trivial⟩, trivial⟩
 have hel' : ∀ i, i < len → ∃ r, p r ∧ (f r).length = sz ∧ ∀ j d, (f r)[j]? = some d → ∃ u, W.cell? ((a.add (i * sz)).add j) = some u ∧ d.rep W.cell? u := by
  intro i hi
  have h0 := hel i hi
  rw [List.getElem?_eq_getElem (by omega)] at h0
  obtain ⟨cs', h1, h2⟩ := Option.bind_eq_some_iff.1 h0
  obtain ⟨r, h3, h4⟩ := (ho n' hn).op _ _ h2
  obtain ⟨_, h5, h6⟩ := World.cells?_some h1
  rw [hz] at h5 h6
  refine ⟨r, h3, by rw [← X2b h4, h5], fun j d hd => ?_⟩
  obtain ⟨u, h7, h8⟩ := X2u h4 j d hd
  have hj : j < sz := by
   have := (List.getElem?_eq_some_iff.1 h7).1
   omega
  exact ⟨u, (h6 j hj).trans h7, h8⟩
 obtain ⟨l, h1, h2⟩ := X2k len hel'
 refine ⟨l, ⟨fun r hr => ?_, by rw [h1]; have hm' : cap ≤ 9223372036854775807 := hm; omega⟩, ?_⟩
 ·obtain ⟨i, hi⟩ := List.getElem?_of_mem hr
  exact (h2 i r hi).1
 simp only [Y1, D.rep]
 refine ⟨⟨some a, cap, by rw [List.length_map, h1], by rw [List.length_map, h1]; exact hl, hm, ?_⟩, trivial⟩
 by_cases h00 : len = 0
 ·exact .inl (by rw [List.eq_nil_of_length_eq_zero (h1.trans h00)]; rfl)
 right
 obtain ⟨b, o, sp⟩ := a
 have hsp : sp = none := by
  obtain ⟨r, hr⟩ : ∃ r, l[0]? = some r := ⟨_, List.getElem?_eq_getElem (by omega)⟩
  obtain ⟨_, hlen, hcell⟩ := h2 0 r hr
  obtain ⟨d, hd⟩ : ∃ d, (f r)[0]? = some d := ⟨_, List.getElem?_eq_getElem (by omega)⟩
  obtain ⟨u, hu, _⟩ := hcell 0 d hd
  simpa [Addr.add] using World.cell?_spot hu
 subst hsp
 refine ⟨b, o, rfl, X0N _ _ _ fun i r hr => ?_⟩
 obtain ⟨x, hx, rfl⟩ : ∃ x, l[i]? = some x ∧ f x = r := by simpa using hr
 obtain ⟨_, hlen, hcell⟩ := h2 i x hx
 refine ⟨hlen, VR _ _ _ fun j d hd => ?_⟩
 obtain ⟨u, hu, hd⟩ := hcell j d hd
 rw [Yj, Yj] at hu
 exact ⟨u, hu, hd⟩
structure OpensFN {α : Type} (enc : TypeId × Value → H) (P : Program) (W : World) (n : Nat) (N : Nat) (fs : List Field) (off : Nat) (p : α → Prop) (f : α → List D) : Prop where
 op : ∀ cs : List Value, cs.length = N → (∀ q ∈ fs, ∃ x, DataW.trod enc P W 0 (fun _ => true) true n q.type ((cs.drop q.offset).take (P.cellsOf q.type)) = some x) → ∃ r, p r ∧ Y1 W.cell? (f r) (cs.drop off)
theorem XaR {n N : Nat} : OpensFN enc P W n N [] N (fun _ : Unit => True) (fun _ => []) := by
 refine ⟨fun cs hN _ => ⟨(), trivial, ?_⟩⟩
 rw [List.drop_of_length_le (by omega)]; trivial
theorem X0M {α β : Type} {n N : Nat} {q : Field} {fs : List Field} {off s : Nat} {p : α → Prop} {f : α → List D} {p' : β → Prop} {f' : β → List D} (hoff : q.offset = off) (hs : P.cellsOf q.type = s)
  (h : OpensN enc P W n q.type p f) (k : OpensFN enc P W n N fs (off + s) p' f') : OpensFN enc P W n N (q :: fs) off (fun r : α × β => p r.1 ∧ p' r.2) (fun r => f r.1 ++ f' r.2) := by
 refine ⟨fun cs hN hall => ?_⟩
 obtain ⟨x, hx⟩ := hall q (by simp)
 rw [hoff, hs] at hx
 obtain ⟨r, h1, h2⟩ := h.op _ _ hx
 obtain ⟨r', h3, h4⟩ := k.op cs hN fun q' hq' => hall q' (by simp [hq'])
 refine ⟨(r, r'), ⟨h1, h3⟩, ?_⟩
 have := X1X h2 h4
 rwa [← List.drop_drop, List.take_append_drop] at this
theorem X7u {α : Type} {n : Nat} {t : TypeId} {fs : Array Field} {N : Nat} {p : α → Prop} {f : α → List D} (ht : P.underlying t = some (.struct fs)) (hN : P.cellsOf t = N) (h : ∀ m, n = m + 1 → OpensFN enc P W m N fs.toList 0 p f) : OpensN enc P W n t p f := by
 refine ⟨fun cs x hx => ?_⟩
 obtain ⟨xs, n', hn, _, hl, hlen, hf⟩ := DataW.trod_struct ht hx
 have := (h n' hn).op cs (hl.trans hN) fun q hq => by
  obtain ⟨i, hi⟩ := List.getElem?_of_mem hq
  have h1 := hf i q (by simpa using hi)
  have hlt := (List.getElem?_eq_some_iff.1 hi).1
  simp only [Array.length_toList] at hlt
  exact ⟨_, h1.trans (List.getElem?_eq_getElem (by omega))⟩
 simpa using this
end
end Go.Fw
namespace Go.Fw
open Go
set_option linter.unusedVariables false
set_option linter.unusedSimpArgs false
def X1w (P : Program) (t : TypeId) (n sz : Nat) : Bool :=
 match P.underlying t with
 | some (.array m e) => Nat.beq m n && (match P.info? e with | some i => Nat.beq i.size sz | none => false)
 | _ => false
theorem X9W {P : Program} {t : TypeId} {n sz : Nat} (h : X1w P t n sz = true) : P.underlying t = some (.array (P.arrayLen t) (P.elem t)) ∧ P.arrayLen t = n ∧ ∀ w, (sizeOf (P.elem t)).run P w = .ok sz w := by
 unfold X1w at h
 cases hu : P.underlying t with
 | none => simp [hu] at h
 | some de =>
  cases de <;> rw [hu] at h <;> simp at h
  rename_i m e
  cases hq : P.info? e with
  | none => simp [hq] at h
  | some i =>
   rw [hq] at h
   obtain ⟨h1, h2⟩ := h
   have h2 : i.size = sz := by simpa using h2
   have h1 : m = n := by simpa using h1
   have ha : P.arrayLen t = m := by simp [Program.arrayLen, hu]
   have he : P.elem t = e := by simp [Program.elem, hu]
   exact ⟨by rw [ha, he], by rw [ha, h1], fun w => by rw [he]; simp [sizeOf, typeInfo, hq, h2]⟩
section
variable {P : Program} {ops : Array Oper} {draw : Bool} {K : St → Prop} {rest : List Oper} {l : XH} {S : St}
variable {d : Nat} {ty : TypeId} {pos : String} {aft : Array Edge} {gd : Option (Nat × Bool)}
theorem Xam {x i : Operand} {T : TypeId} {γ o off n sz k : Nat} {kd : IntKind} {m : Int} (hx : S.ev x = .ptr γ o) (hi : S.ev i = .d (.v (.int kd m))) (hT : X1w P T n sz = true) (hk : m = (k : Nat)) (hlt : k < n)
  (hoff : o + k * sz = off) (hd : Nat.blt d S.n = true) (hg : X9 ops S gd)
  (h : Walk P ops draw K rest ((l.length, ⟨some d, .indexAddr T x i, ty, pos, aft, gd⟩, ⟨X7 ops gd ++ [(x, .ptr γ o), (i, .d (.v (.int kd m)))], some (d, .ptr γ off), [], [], []⟩) :: l) (S.set d (.ptr γ off))) :
  Walk P ops draw K (⟨some d, .indexAddr T x i, ty, pos, aft, gd⟩ :: rest) l S :=
 Xw ⟨[(x, .ptr γ o), (i, .d (.v (.int kd m)))], some (d, .ptr γ off), [], [], []⟩ (XQ rfl fun E S g a w hs hq hl => by
  obtain ⟨h1, h2, h3⟩ := X9W hT
  have hp : a.eval x = .pointer (some ⟨g.blk γ, o, none⟩) := by have := hq.1; simpa only [AVal.sat] using this
  refine ⟨.pointer (some ⟨g.blk γ, off, none⟩), ?_, by simp only [AVal.sat]⟩
  have hb : (0 : Int) ≤ m ∧ m < (P.arrayLen T : Int) := by rw [h2]; omega
  have hm : m.toNat = k := by omega
  have := run_indexAt_array (P := P) (w := w) T ⟨g.blk γ, o, none⟩ kd m h1
  rw [if_pos hb, h3 w, Result.andThen_ok, Yj, hm, hoff] at this
  simp only [execOp, hp, XZ hq.2.1, Sem.run_bind, this]; rfl) hg ⟨⟨hx, hi, trivial⟩, trivial, trivial, hd⟩ h
end
end Go.Fw
namespace Go.Fw
open Go
set_option linter.unusedVariables false
section
variable {P : Program} {H : Type} {enc : TypeId × Value → H} {W : World}
theorem X9P {α : Type} {t e : TypeId} {sz : Nat} {p : α → Prop} {f : α → List D} (ht : P.underlying t = some (.array 2 e)) (hz : P.cellsOf e = sz) (hN : P.cellsOf t = 2 * sz) (ho : Opens enc P W e p f) :
  Opens enc P W t (fun r : α × α => p r.1 ∧ p r.2) (fun r => f r.1 ++ f r.2) := by
 refine ⟨fun n cs x hx => ?_⟩
 obtain ⟨xs, m, _, _, hl, hlen, hf⟩ := DataW.trod_array ht hx
 have h0 := hf 0 (by omega)
 have h1 := hf 1 (by omega)
 rw [hz] at h0 h1
 rw [List.getElem?_eq_getElem (by omega)] at h0 h1
 obtain ⟨r0, p0, q0⟩ := ho.op _ _ _ h0
 obtain ⟨r1, p1, q1⟩ := ho.op _ _ _ h1
 refine ⟨(r0, r1), ⟨p0, p1⟩, ?_⟩
 have := X1X q0 q1
 rw [Nat.zero_mul, List.drop_zero, Nat.one_mul] at this
 have h2 : (cs.drop sz).take sz = cs.drop sz := List.take_of_length_le (by simp; omega)
 rwa [h2, List.take_append_drop] at this
theorem X9h {α : Type} {t e : TypeId} {n : Nat} {r : Reach} {b0 : Nat} {v : Value} {d : DataW H} {ps : List MemPlace} {p : α → Prop} {f : α → List D} (ht : P.underlying t = some (.array n e))
  (hval : Value.okWide P W r b0 t v) (hd : DataW.Trod enc P W 0 (fun _ => true) true t v d ps) (ho : Opens enc P W t p f) : ∃ x, p x ∧ (AVal.agg ((f x).map .d)).sat (g0 W.cell?) v := by
 simp only [Value.okWide, ht] at hval
 obtain ⟨cs, rfl, _, _⟩ := hval
 obtain ⟨n, hn⟩ := hd
 obtain ⟨x, h1, h2⟩ := ho.op _ _ _ hn
 refine ⟨x, h1, ?_⟩
 simp only [AVal.sat]
 exact ⟨cs, rfl, X1m rfl h2⟩
end
end Go.Fw
