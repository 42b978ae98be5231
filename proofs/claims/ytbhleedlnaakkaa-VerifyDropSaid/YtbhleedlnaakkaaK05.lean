/- Tenth part: literals of slices, make, slice expressions, strings, rows that are read and written in place. -/
import Derived.WalkSpells
import Derived.Laws.Strings
import Derived.Laws.BytesString
import Derived.Laws.StructEq
import Derived.Laws.Entries
import Derived.Laws.BitsLemmas
import Derived.Test.YtbhleedlnaakkaaK04
namespace Go.Fw
open Go
set_option linter.unusedVariables false
set_option linter.unusedSimpArgs false
theorem X7A {g : Gh} {w : World} {sz : Nat} {xs : List (List D)} {vs : Array Value} {cap : Nat} (hlen : ∀ x ∈ xs, x.length = sz) (hsat : Xa g (xs.flatten.map .d) (vs.toList.take (xs.length * sz))) (hM : Xx g.M (g.lay w.heap.size vs).M)
  (hcap : xs.length ≤ cap) (hmax : cap ≤ maxLen) : (AVal.d (.sl sz xs)).sat (g.lay w.heap.size vs) (.slice (some ⟨w.heap.size, 0, none⟩) xs.length cap) := by
 simp only [AVal.sat, D.rep]
 refine ⟨_, cap, rfl, hcap, hmax, .inr ⟨w.heap.size, 0, rfl, X2h xs 0 hlen fun i d hd => ?_⟩⟩
 obtain ⟨hl, hr⟩ := X0v hsat
 obtain ⟨u, hu, hsu⟩ := hr i d hd
 refine ⟨u, ?_, D.rep_mono hM _ _ hsu⟩
 show (if _ then _ else _) = _
 rw [if_pos ⟨rfl, rfl⟩, Nat.zero_add]
 rw [List.getElem?_take] at hu
 split at hu
 ·simpa using hu
 ·simp at hu
theorem X83 {E : Env} {S : St} {g : Gh} {w : World} (hi : Inv E S.obj g w) (γ : Nat) (hf : S.free γ = true) (hdead : S.obj γ = .dead) {sz : Nat} {xs : List (List D)} {vs : Array Value} {e : TypeId} {fr : Nat × Nat} {cap : Nat}
  (hlen : ∀ x ∈ xs, x.length = sz) (hsat : Xa g (xs.flatten.map .d) (vs.toList.take (xs.length * sz))) (hcap : xs.length ≤ cap) (hmax : cap ≤ maxLen) (hsz : cap * sz ≤ vs.size) (hfr : V1 fr vs.size) :
  Inv E (Xb .dead ((γ, .row sz xs) :: S.L)) (g.put γ 0 (.slice (some ⟨w.heap.size, 0, none⟩) xs.length cap)) (w.alloc (.cells vs e fr)) :=
 X11 hi γ hf hdead _ _ _ (Uy w _) (VC w _) rfl rfl
  ⟨hlen, .inr ⟨w.heap.size, cap, vs, e, fr, by simp [Gh.put], hcap, hmax, heap_alloc_new w _, hfr, hsz, X1P (X2F _ _) hsat⟩⟩
  (fun k hk => by obtain ⟨a, n, c, e, rfl⟩ := hk; simp only [Gh.put, if_true] at e; cases e; exact Nat.le_refl _)
theorem X6F {g : Gh} {w : World} {γ n cap : Nat} {a : Option Addr} : (AVal.own γ n).sat (g.put γ 0 (.slice a n cap)) (.slice a n cap) := by
 simp only [AVal.sat]
 exact ⟨rfl, a, n, cap, by simp [Gh.put], Nat.le_refl _, fun _ => rfl⟩
def Yj (z : List Value) (n : Nat) : List Value := (List.replicate n z).flatten
def UJ (P : Program) (t : TypeId) : Option (List Value) :=
 match P.underlying t with
 | some (.slice e) => UC P e
 | _ => none
theorem X8Y {P : Program} {t : TypeId} {zs : List Value} (h : UJ P t = some zs) : ∃ e, P.underlying t = some (.slice e) ∧ UC P e = some zs := by
 unfold UJ at h
 cases hu : P.underlying t with
 | none => simp [hu] at h
 | some de => rw [hu] at h; cases de <;> simp at h; exact ⟨_, rfl, h⟩
theorem X5u (z : Array Value) (n : Nat) : ((Array.range (n * z.size)).map (fun i => z[i % z.size]!)).toList = Yj z.toList n := by
 induction n with
 | zero => simp [Yj]
 | succ n ih =>
  have e1 : Yj z.toList (n + 1) = Yj z.toList n ++ z.toList := by
   simp [Yj, List.replicate_succ']
  rw [e1, ← ih]
  apply List.ext_getElem?
  intro j
  simp only [Array.toList_map, Array.toList_range, List.getElem?_map, List.getElem?_append, List.length_map, List.length_range]
  have hm : (n + 1) * z.size = n * z.size + z.size := Nat.succ_mul _ _
  by_cases h1 : j < n * z.size
  ·rw [if_pos h1, List.getElem?_range (by omega), List.getElem?_range h1]
  ·rw [if_neg h1]
   by_cases h2 : j < (n + 1) * z.size
   ·rw [List.getElem?_range h2]
    have h3 : j - n * z.size < z.size := by omega
    have h4 : j % z.size = j - n * z.size := by
     have : j = (j - n * z.size) + n * z.size := by omega
     rw [this, Nat.add_mul_mod_self_right, Nat.mod_eq_of_lt h3]
     omega
    simp [h4, h3]
   ·rw [List.getElem?_eq_none (by simp; omega)]
    symm
    rw [Option.map_none, List.getElem?_eq_none (by simp; omega)]
theorem X6e {P : Program} {e : TypeId} {zs : List Value} (h : UC P e = some zs) : ∃ z : Value, z.cells.toList = zs ∧ (∀ w, (zeroValue e).run P w = .ok z w) := X1z h
section
variable {P : Program} {ops : Array Oper} {draw : Bool} {K : St → Prop} {rest : List Oper} {l : XE} {S : St}
variable {d : Nat} {ty : TypeId} {pos : String} {aft : Array Edge} {gd : Option (Nat × Bool)}
theorem X85 {T : TypeId} {len sz : Nat} {zs : List Value} {parts : Array (Nat × Value)} {us : Array Value} (hT : YI P T sz = true) (hz : UJ P T = some zs) (hzl : zs.length = sz) (hsmall : len * sz ≤ 16777216)
  (hfill : Instr.fill (fun i => some (i * sz, sz)) (Yj zs len).toArray parts.toList = some us) (w : World) :
  ∃ e, (Instr.buildSlice T len parts).run P w = .ok (.slice (some ⟨w.heap.size, 0, none⟩) len len) (w.alloc (.cells us e)) := by
 obtain ⟨e, h1, h2, _⟩ := X0x hT
 obtain ⟨e', h1', hze⟩ := X8Y hz
 rw [h1] at h1'; cases h1'
 obtain ⟨z, hz1, hz2⟩ := X6e hze
 refine ⟨e, ?_⟩
 have hzs : z.cells.size = sz := by rw [← hzl, ← hz1]; simp
 have hsmall' : ¬ (16777216 < len * sz) := by omega
 have hfill' : Instr.fill (fun i => some (i * sz, sz)) ((Array.range (len * sz)).map (fun i => z.cells[i % z.cells.size]!)) parts.toList = some us := by
  rw [← hfill]
  congr 1
  apply Array.ext'
  have := X5u z.cells len
  rw [hzs] at this ⊢
  rw [this, hz1]
 by_cases h0 : len * sz = 0
 ·have hem : (Yj zs len).toArray = #[] := by
   apply Array.ext'
   simp only [Yj]
   rcases Nat.mul_eq_zero.1 h0 with h | h
   ·subst h; simp
   ·have : zs = [] := by rw [← hzl] at h; exact List.length_eq_zero_iff.1 h
    subst this; simp
  rw [hem] at hfill
  simp [Instr.buildSlice, run_underlying h1, h2 w, h0, hfill, newRow, Array.range_zero']
 ·simp [Instr.buildSlice, run_underlying h1, h2 w, hsmall', h0, hz2 w, hfill', newRow]
theorem X2V {T : TypeId} {len sz : Nat} {parts : Array (Nat × Operand)} {pl : List (Nat × Operand)} {zs : List Value} {ps : List (Nat × AVal)} {out : List AVal} {xs : List (List D)} (hpl : parts.toList = pl)
  (hkeys : ps.map (·.1) = pl.map (·.1)) (hT : YI P T sz = true) (hz : UJ P T = some zs) (hzl : Nat.beq zs.length sz = true) (hz1 : YM (Yj zs len) = true) (hsmall : Nat.ble (len * sz) 16777216 = true) (hsl : Nat.ble len 16777216 = true)
  (hout : U5 (fun i => some (i * sz, sz)) (dvL (Yj zs len)) ps = some out) (hxs : U9 sz len out = some xs) {g : Gh} {a : Act} (w : World) (hq : YH g a (Yu pl ps)) :
  ∃ e, ∃ us : Array Value, (Instr.buildSlice T len (parts.map fun p => (p.1, a.eval p.2))).run P w = .ok (.slice (some ⟨w.heap.size, 0, none⟩) len len) (w.alloc (.cells us e)) ∧
   us.toList.length = xs.length * sz ∧ Xa g (xs.flatten.map .d) us.toList ∧ xs.length = len ∧ (∀ x ∈ xs, x.length = sz) ∧ len ≤ maxLen := by
 obtain ⟨us, k1, k2⟩ := X2c (vs := (Yj zs len).toArray) hkeys hq (by simpa using X0Q hz1) hout
 obtain ⟨r1, r2, r3⟩ := X4v hxs
 have hsm : len * sz ≤ 16777216 := by simpa using hsmall
 obtain ⟨e, he⟩ := X85 (P := P) (T := T) (len := len) (parts := parts.map fun p => (p.1, a.eval p.2)) hT hz (by simpa using hzl) hsm (by
  have : (parts.map fun p => (p.1, a.eval p.2)).toList = pl.map fun p => (p.1, a.eval p.2) := by simp [hpl]
  rw [this]; exact k1) w
 rw [← r1] at k2
 have hl := Y6 k2
 simp only [List.length_map, UF xs r3] at hl
 refine ⟨e, us, he, hl, k2, r2, r3, ?_⟩
 unfold maxLen
 have : len ≤ 16777216 := by simpa using hsl
 omega
theorem X1A (S : St) : ∀ pl : List (Nat × Operand), (evL S pl).map (·.1) = pl.map (·.1)
 | [] => rfl
 | p :: r => by simp [evL, X1A S r]
theorem X1D (S : St) : ∀ pl : List (Nat × Operand), YN S (Yu pl (evL S pl))
 | [] => trivial
 | p :: r => ⟨rfl, X1D S r⟩
theorem X95 {T : TypeId} {len sz : Nat} {parts : Array (Nat × Operand)} {pl : List (Nat × Operand)} {zs : List Value} {ps : List (Nat × AVal)} {out : List AVal} {xs : List (List D)} (hpl : parts.toList = pl)
  (hps : evL S pl = ps) (hz : UJ P T = some zs) (hS : zs.length = sz) (hT : YI P T sz = true) (hzl : Nat.beq zs.length sz = true) (hz1 : YM (Yj zs len) = true) (hsmall : Nat.ble (len * sz) 16777216 = true) (hsl : Nat.ble len 16777216 = true)
  (hout : U5 (fun i => some (i * sz, sz)) (dvL (Yj zs len)) ps = some out) (hxs : U9 sz len out = some xs) (hd : Nat.blt d S.n = true) (hg : X9 ops S gd)
  (h : Walk P ops draw K rest ((l.length, ⟨some d, .buildSlice T len parts, ty, pos, aft, gd⟩, ⟨X7 ops gd ++ Yu pl ps, some (d, .d (.sl sz xs)), [], [], []⟩) :: l) (S.set d (.d (.sl sz xs)))) :
  Walk P ops draw K (⟨some d, .buildSlice T len parts, ty, pos, aft, gd⟩ :: rest) l S := by
 have hkeys : ps.map (·.1) = pl.map (·.1) := by rw [← hps]; exact X1A S pl
 have hrd : YN S (Yu pl ps) := by rw [← hps]; exact X1D S pl
 refine Xp ⟨Yu pl ps, some (d, .d (.sl sz xs)), [], [], []⟩ ?_ hg ⟨hrd, trivial, trivial, hd⟩ h
 intro E S a w g hs hok Q K hK
 obtain ⟨e, us, k1, k2, k3, k4, k5, k6⟩ := X2V (P := P) hpl hkeys hT hz hzl hz1 hsmall hsl hout hxs w (V7 hs _ hok.1)
 have hle := X31 hs.1 us
 have hrun : (execOp a.eval ⟨some d, .buildSlice T len parts, ty, pos, aft, gd⟩).run P w = .ok (.value (.slice (some ⟨w.heap.size, 0, none⟩) len len)) (w.alloc (.cells us e)) := by
  simp only [execOp, Sem.run_bind, k1]; rfl
 unfold Oper.wp
 rw [hrun, Oper.upon_value]
 refine hK _ _ (Vd (X6n hs.1 us e (0, 0)) hs.2.1 hs.2.2.1 (fun t => X1u (g := g) (g' := g.lay w.heap.size us) hle rfl rfl rfl (hs.2.2.2 t)) ?_ hok.2.2.2)
 have := X7A (g := g) (w := w) (cap := len) k5 (by rw [List.take_of_length_le (by omega)]; exact k3) hle (by omega) k6
 rwa [k4] at this
theorem X5T {T : TypeId} {len sz γ : Nat} {parts : Array (Nat × Operand)} {pl : List (Nat × Operand)} {zs : List Value} {ps : List (Nat × AVal)} {out : List AVal} {xs : List (List D)} (hpl : parts.toList = pl)
  (hps : evL S pl = ps) (hz : UJ P T = some zs) (hS : zs.length = sz) (hT : YI P T sz = true) (hzl : Nat.beq zs.length sz = true) (hz1 : YM (Yj zs len) = true) (hsmall : Nat.ble (len * sz) 16777216 = true) (hsl : Nat.ble len 16777216 = true)
  (hout : U5 (fun i => some (i * sz, sz)) (dvL (Yj zs len)) ps = some out) (hxs : U9 sz len out = some xs) (hdead : S.obj γ = .dead) (hf : S.free γ = true) (hd : Nat.blt d S.n = true) (hg : X9 ops S gd)
  (h : Walk P ops draw K rest ((l.length, ⟨some d, .buildSlice T len parts, ty, pos, aft, gd⟩, ⟨X7 ops gd ++ Yu pl ps, some (d, .own γ len), [(γ, .dead)], [(γ, .row sz xs)], [γ]⟩) :: l) ((S.set d (.own γ len)).own γ (.row sz xs))) :
  Walk P ops draw K (⟨some d, .buildSlice T len parts, ty, pos, aft, gd⟩ :: rest) l S := by
 have hkeys : ps.map (·.1) = pl.map (·.1) := by rw [← hps]; exact X1A S pl
 have hrd : YN S (Yu pl ps) := by rw [← hps]; exact X1D S pl
 refine Xp ⟨Yu pl ps, some (d, .own γ len), [(γ, .dead)], [(γ, .row sz xs)], [γ]⟩ (UZ rfl fun E S g a w hs hq hl hn => ?_) hg ⟨hrd, ⟨hdead, trivial⟩, ⟨hf, trivial⟩, hd⟩ h
 obtain ⟨e, us, k1, k2, k3, k4, k5, k6⟩ := X2V (P := P) hpl hkeys hT hz hzl hz1 hsmall hsl hout hxs w hq
 have hsz : us.size = len * sz := by rw [← k4]; simpa using k2
 refine ⟨.slice (some ⟨w.heap.size, 0, none⟩) xs.length len, _, w.alloc (.cells us e), by simp only [execOp, Sem.run_bind, k1]; rw [k4]; rfl, by rw [← k4]; exact X6F (w := w), X83 hs.1 γ hn.1 hl.1 (cap := len) k5 (by rw [List.take_of_length_le (by omega)]; exact k3) (by omega) k6 (by omega) (X0n _), VS hn.1 hs.2.2.2⟩
def X1n (S : St) : Option Operand → Nat → Prop
 | none, l => l = 0
 | some x, l => S.ev x = ai l
def X2b (S : St) (len : Nat) : Option Operand → Nat → Prop
 | none, h => h = len
 | some x, h => S.ev x = ai h
def Uf : Option Operand → Nat → List (Operand × AVal)
 | none, _ => []
 | some x, n => [(x, ai n)]
theorem X4f {g : Gh} {a : Act} : ∀ {l m : List (Operand × AVal)}, YH g a (l ++ m) ↔ YH g a l ∧ YH g a m
 | [], m => by simp [YH]
 | p :: r, m => by simp [YH, X4f, and_assoc]
theorem X7r {S : St} {l m : List (Operand × AVal)} : YN S (l ++ m) ↔ YN S l ∧ YN S m := by
 simp only [Uk, List.mem_append]
 exact ⟨fun h => ⟨fun p hp => h p (.inl hp), fun p hp => h p (.inr hp)⟩, fun h p hp => hp.elim (h.1 p) (h.2 p)⟩
theorem X68 {g : Gh} {a : Act} {lo hi : Option Operand} {l h len cap : Nat} {isSl : Bool} (h1 : lo = none → l = 0) (h2 : hi = none → h = len) (hlo : YH g a (Uf lo l)) (hhi : YH g a (Uf hi h)) (hlh : l ≤ h) (hc : h ≤ cap) (w : World) :
  (Instr.sliceBounds isSl len cap (lo.map a.eval) (hi.map a.eval) none).run P w = .ok (l, h, cap) w := by
 cases lo with
 | none =>
  have := h1 rfl; subst this
  cases hi with
  | none => have := h2 rfl; subst this; simp [Instr.sliceBounds]
  | some y =>
   have e2 := Y8 hhi.1
   simp [Instr.sliceBounds, e2, run_sliceBound, hc]
 | some x =>
  have e1 := Y8 hlo.1
  cases hi with
  | none => have := h2 rfl; subst this; simp [Instr.sliceBounds, e1, run_sliceBound, hlh]
  | some y =>
   have e2 := Y8 hhi.1
   simp [Instr.sliceBounds, e1, e2, run_sliceBound, hlh, hc]
theorem X3N {S : St} {lo : Option Operand} {l : Nat} (h : ∀ x, lo = some x → S.ev x = ai l) : YN S (Uf lo l) := by
 cases lo with
 | none => trivial
 | some x => exact ⟨h x rfl, trivial⟩
theorem X6K {T : TypeId} {x : Operand} {lo hi : Option Operand} {sz lb hb : Nat} {xs : List (List D)} (hx : S.ev x = .d (.sl sz xs)) (hlo : X1n S lo lb) (hhi : X2b S xs.length hi hb) (hlh : lb ≤ hb) (hh : hb ≤ xs.length)
  (hT : YI P T sz = true) (hd : Nat.blt d S.n = true) (hg : X9 ops S gd)
  (h : Walk P ops draw K rest ((l.length, ⟨some d, .slice T x lo hi none, ty, pos, aft, gd⟩, ⟨X7 ops gd ++ ((x, .d (.sl sz xs)) :: (Uf lo lb ++ Uf hi hb)), some (d, .d (.sl sz ((xs.take hb).drop lb))), [], [], []⟩) :: l) (S.set d (.d (.sl sz ((xs.take hb).drop lb))))) :
  Walk P ops draw K (⟨some d, .slice T x lo hi none, ty, pos, aft, gd⟩ :: rest) l S := by
 refine Xp ⟨(x, .d (.sl sz xs)) :: (Uf lo lb ++ Uf hi hb), some (d, .d (.sl sz ((xs.take hb).drop lb))), [], [], []⟩ (XG rfl fun E S g a w hs hq hl => ?_) hg
  ⟨⟨hx, X7r.2 ⟨X3N fun y e => by subst e; exact hlo, X3N fun y e => by subst e; exact hhi⟩⟩, trivial, trivial, hd⟩ h
 obtain ⟨e, h1, h2, h3⟩ := X0x hT
 obtain ⟨hq1, hq2⟩ := hq
 rw [X4f] at hq2
 simp only [AVal.sat, D.rep] at hq1
 obtain ⟨b, cap, hv, c1, c2, c3⟩ := hq1
 have hbd := X68 (P := P) (isSl := true) (len := xs.length) (cap := cap) (fun e => by subst e; exact hlo) (fun e => by subst e; exact hhi) hq2.1 hq2.2 hlh (Nat.le_trans hh c1) w
 have hrun := run_slice_any (P := P) w T b xs.length cap (by rw [h3]; exact h1) (lo.map a.eval) (hi.map a.eval) none
 rw [hbd, Result.andThen_ok, h3, h2 w, Result.andThen_ok] at hrun
 have hat : (Instr.sliceAt T (.slice b xs.length cap) (lo.map a.eval) (hi.map a.eval) none) = Instr.slice T (.slice b xs.length cap) (lo.map a.eval) (hi.map a.eval) none ∨ True := .inr trivial
 refine ⟨sliced b lb hb cap sz, ?_, ?_⟩
 ·simp only [execOp, hv, Instr.sliceAt, Sem.run_bind, run_underlying h1, Result.andThen_ok, Option.map_none, hrun]; rfl
 ·simp only [AVal.sat, D.rep, sliced]
  have hlen : ((xs.take hb).drop lb).length = hb - lb := by simp; omega
  refine ⟨if cap = lb then b else b.map fun p => p.add (lb * sz), cap - lb, by rw [hlen], by omega, by omega, ?_⟩
  rcases c3 with rfl | ⟨b', o, rfl, hr⟩
  ·left; simp
  ·by_cases hem : (xs.take hb).drop lb = []
   ·exact .inl hem
   ·right
    have hne : cap ≠ lb := by
     intro e
     apply hem
     apply List.eq_nil_of_length_eq_zero
     omega
    refine ⟨b', o + lb * sz, ?_, X4R (X8V hr hb) lb⟩
    rw [if_neg hne, Option.map_some, Yq]
theorem X8h {xt yt : TypeId} {x : Operand} {sz : Nat} {xs : List (List D)} (hx : S.ev x = .d (.sl sz xs)) (ht : isSl P xt = true) (hd : Nat.blt d S.n = true) (hg : X9 ops S gd)
  (h : Walk P ops draw K rest ((l.length, ⟨some d, .binOp .eql xt x (.const (.slice none 0 0)) yt, ty, pos, aft, gd⟩, ⟨X7 ops gd ++ [(x, .d (.sl sz xs))], some (d, .bq (xs = []) True), [], [], []⟩) :: l) (S.set d (.bq (xs = []) True))) :
  Walk P ops draw K (⟨some d, .binOp .eql xt x (.const (.slice none 0 0)) yt, ty, pos, aft, gd⟩ :: rest) l S :=
 Xp ⟨[(x, .d (.sl sz xs))], some (d, .bq (xs = []) True), [], [], []⟩ (XG rfl fun E S g a w hs hq hl => by
  have hq1 := hq.1
  simp only [AVal.sat, D.rep] at hq1
  obtain ⟨b, cap, hv, c1, c2, c3⟩ := hq1
  refine ⟨.bool b.isNone, ?_, ?_⟩
  ·obtain ⟨e, he⟩ := X1R ht
   have e1 : eqGuard .eql xt x (.const (.slice none 0 0)) (.slice b xs.length cap) (.slice none 0 0) = pure () := eqGuard_at_slice _ _ _ _ _ _ _ _
   simp only [execOp, hv, show a.eval (.const (.slice none 0 0)) = .slice none 0 0 from rfl, e1, Sem.run_bind, Sem.run_pure, Result.andThen_ok, Lib.run_eql_slice_nil w xt e b xs.length cap 0 0 he]
  ·simp only [AVal.sat]
   refine ⟨b.isNone, rfl, fun h => ?_, fun _ => trivial⟩
   rcases c3 with h' | ⟨b', o, rfl, _⟩
   ·exact h'
   ·simp at h) hg ⟨⟨hx, trivial⟩, trivial, trivial, hd⟩ h
end
theorem Xn {S : St} (t : Nat) {y : AVal} (h : (S.get t).le y) : S.le (S.set t (y)) := by
 rintro E a w ⟨g, hs⟩
 refine X09 hs hs.1 rfl fun k => ?_
 by_cases hk : k = t
 ·subst hk
  show AVal.sat _ (Xb .any ((k, _) :: S.τ) k) _
  rw [Y5]; exact h g _ (hs.2.2.2 k)
 ·show AVal.sat _ (Xb .any ((t, _) :: S.τ) k) _
  rw [Yg _ _ _ (Ne.symm hk)]; exact hs.2.2.2 k
end Go.Fw
namespace Go.Fw
open Go
set_option linter.unusedVariables false
set_option linter.unusedSimpArgs false
section
variable {P : Program} {ops : Array Oper} {draw : Bool} {K : St → Prop} {rest : List Oper} {l : XE} {S : St}
variable {d : Nat} {ty : TypeId} {pos : String} {aft : Array Edge} {gd : Option (Nat × Bool)}
theorem X5x {α : Type} {A N : List α} {a m L : Nat} (hN : N.length = m) (h1 : a + m ≤ L) (h2 : L ≤ A.length) :
  (A.take a ++ N ++ A.drop (a + m)).take L = (A.take L).take a ++ N ++ (A.take L).drop (a + m) := by
 apply List.ext_getElem?
 intro j
 simp only [List.getElem?_take, List.getElem?_append, List.getElem?_drop, List.length_append, List.length_take, hN]
 have e1 : min a A.length = a := by omega
 have e2 : min a (min L A.length) = a := by omega
 rw [e1, e2]
 by_cases c0 : j < L
 ·by_cases c1 : j < a
  ·simp [c0, c1, show j < a + m by omega]
  ·by_cases c2 : j < a + m
   ·simp [c0, c1, c2]
   ·simp [c0, c2, show a + m + (j - (a + m)) < L by omega]
 ·simp [c0, show ¬ j < a + m by omega, show ¬ a + m + (j - (a + m)) < L by omega]
theorem X5J {x y : Operand} {tys : Array TypeId} {k : IntKind} {a b : Int} (hx : S.ev x = .d (.v (.int k a))) (hy : S.ev y = .d (.v (.int k b))) (hd : Nat.blt d S.n = true) (hg : X9 ops S gd)
  (h : Walk P ops draw K rest ((l.length, ⟨some d, .call ⟨.builtin .max, #[x, y], tys⟩, ty, pos, aft, gd⟩, ⟨X7 ops gd ++ [(x, .d (.v (.int k a))), (y, .d (.v (.int k b)))], some (d, .d (.v (.int k (max a b)))), [], [], []⟩) :: l) (S.set d (.d (.v (.int k (max a b)))))) :
  Walk P ops draw K (⟨some d, .call ⟨.builtin .max, #[x, y], tys⟩, ty, pos, aft, gd⟩ :: rest) l S :=
 Xp ⟨[(x, .d (.v (.int k a))), (y, .d (.v (.int k b)))], some (d, .d (.v (.int k (max a b)))), [], [], []⟩ (XG rfl fun E S g act w hs hq hl => by
  refine ⟨_, ?_, Ug rfl⟩
  have e : (if b > a then b else a) = max a b := by
   by_cases h : b > a <;> simp [h] <;> omega
  simp [execOp, resolve, invoke, builtin, Builtin.max_, Builtin.max2, Y8 hq.1, Y8 hq.2.1]
  omega) hg ⟨⟨hx, hy, trivial⟩, trivial, trivial, hd⟩ h
end
end Go.Fw
namespace Go.Fw
open Go
set_option linter.unusedVariables false
set_option linter.unusedSimpArgs false
mutual
def AVal.ren (ρ : Nat → Nat) : AVal → AVal
 | .any => .any
 | .d x => .d x
 | .ptr γ o => .ptr (ρ γ) o
 | .own γ n => .own (ρ γ) n
 | .rptr γ n o => .rptr (ρ γ) n o
 | .inn γ i => .inn (ρ γ) i
 | .bsl γ n => .bsl (ρ γ) n
 | .mptr γ n i => .mptr (ρ γ) n i
 | .cut γ n k sz => .cut (ρ γ) n k sz
 | .dptr row => .dptr row
 | .dx sz xs => .dx sz xs
 | .bq p q => .bq p q
 | .agg cs => .agg (Yr ρ cs)
 | .tup cs => .tup (Yr ρ cs)
 | .fn f cs => .fn f (Yr ρ cs)
def Yr (ρ : Nat → Nat) : List AVal → List AVal
 | [] => []
 | x :: r => x.ren ρ :: Yr ρ r
end
def AObj.ren (ρ : Nat → Nat) : AObj → AObj
 | .dead => .dead
 | .box cs => .box (Yr ρ cs)
 | .row sz xs => .row sz xs
 | .froz sz xs => .froz sz xs
 | .mat sz rows => .mat sz rows
 | .iter s p => .iter s p
 | .imap es => .imap es
def YF (ρ : Nat → Nat) : List (Nat × AObj) → List (Nat × AObj)
 | [] => []
 | (k, o) :: r => (ρ k, o.ren ρ) :: YF ρ r
def Gh.pull (g : Gh) (ρ : Nat → Nat) : Gh := { blk := fun k => g.blk (ρ k), hd := fun k => g.hd (ρ k), ihd := fun k => g.ihd (ρ k), M := g.M }
mutual
theorem X3X {g : Gh} {ρ : Nat → Nat} : ∀ (x : AVal) (u : Value), (x.ren ρ).sat g u ↔ x.sat (g.pull ρ) u
 | .any, _ => by simp only [AVal.ren, AVal.sat]
 | .d x, _ => by simp only [AVal.ren, AVal.sat, Gh.pull]
 | .ptr γ o, _ => by simp only [AVal.ren, AVal.sat, Gh.pull]
 | .own γ n, _ => by simp only [AVal.ren, AVal.sat, Gh.pull]
 | .rptr γ n o, _ => by simp only [AVal.ren, AVal.sat, Gh.pull]
 | .inn γ i, _ => by simp only [AVal.ren, AVal.sat, Gh.pull]
 | .bsl γ n, _ => by simp only [AVal.ren, AVal.sat, Gh.pull]
 | .mptr γ n i, _ => by simp only [AVal.ren, AVal.sat, Gh.pull]
 | .cut γ n k sz, _ => by simp only [AVal.ren, AVal.sat, Gh.pull]
 | .dptr row, _ => by simp only [AVal.ren, AVal.sat, Gh.pull]
 | .dx sz xs, _ => by simp only [AVal.ren, AVal.sat, Gh.pull]
 | .bq p q, _ => by simp only [AVal.ren, AVal.sat]
 | .agg cs, u => by simp only [AVal.ren, AVal.sat, UY cs]
 | .tup cs, u => by simp only [AVal.ren, AVal.sat, UY cs]
 | .fn f cs, u => by simp only [AVal.ren, AVal.sat, UY cs]
theorem UY {g : Gh} {ρ : Nat → Nat} : ∀ (xs : List AVal) (us : List Value), Xa g (Yr ρ xs) us ↔ Xa (g.pull ρ) xs us
 | [], [] => by simp only [Yr, Xa]
 | [], _ :: _ => by simp only [Yr, Xa]
 | _ :: _, [] => by simp only [Yr, Xa]
 | x :: xs, u :: us => by simp only [Yr, Xa, X3X x u, UY xs us]
end
theorem X4d {ρ : Nat → Nat} : ∀ (cs : List AVal), (∀ c ∈ cs, c.cellish = true) ↔ ∀ c ∈ Yr ρ cs, c.cellish = true
 | [] => by simp [Yr]
 | c :: r => by
  simp only [Yr, List.mem_cons, forall_eq_or_imp, ← X4d r]
  refine and_congr_left fun _ => ?_
  cases c <;> simp [AVal.ren, AVal.cellish]
theorem X5a {g : Gh} {ρ : Nat → Nat} {l : List D} {us : List Value} : Xa (g.pull ρ) (l.map .d) us ↔ Xa g (l.map .d) us := by
 have h : Yr ρ (l.map .d) = l.map .d := by
  induction l with
  | nil => rfl
  | cons x r ih => simp [Yr, AVal.ren, ih]
 rw [← UY, h]
theorem X3G {g : Gh} {ρ : Nat → Nat} {w : World} {h : Value} {sz : Nat} {xs : List (List D)} : YX (g.pull ρ) w h sz xs ↔ YX g w h sz xs := by
 simp only [YX, X5a]
theorem X4h {g : Gh} {ρ : Nat → Nat} {w : World} {γ : Nat} (o : AObj) : Y3 g w (ρ γ) (o.ren ρ) ↔ Y3 (g.pull ρ) w γ o := by
 cases o with
 | dead => exact Iff.rfl
 | box cs => simp only [AObj.ren, Y3, UY, ← X4d cs]; rfl
 | row sz xs => simp only [AObj.ren, Y3]; exact X3G.symm
 | froz sz xs => exact Iff.rfl
 | iter s p => exact Iff.rfl
 | imap es => exact Iff.rfl
 | mat sz rows => simp only [AObj.ren, Y3, X1N, X3G]; rfl
theorem X1p {g : Gh} {ρ : Nat → Nat} {γ b : Nat} (o : AObj) : Xm g (o.ren ρ) (ρ γ) b ↔ Xm (g.pull ρ) o γ b := by
 cases o <;> exact Iff.rfl
theorem Vk {ρ σ : Nat → Nat} (h1 : ∀ k, σ (ρ k) = k) : ∀ (L : List (Nat × AObj)) (γ : Nat), Xb .dead (YF ρ L) (ρ γ) = (Xb .dead L γ).ren ρ
 | [], γ => rfl
 | (k, o) :: r, γ => by
  simp only [YF]
  by_cases h : k = γ
  ·subst h; rw [Y5, Y5]
  ·rw [Yg _ _ _ h, Yg _ _ _ (fun e => h (by rw [← h1 k, ← h1 γ, e])), Vk h1 r γ]
theorem X4I {ρ σ : Nat → Nat} (h1 : ∀ k, σ (ρ k) = k) : ∀ (L : List (Nat × AObj)) (γ : Nat), Xc (ρ γ) (YF ρ L) = Xc γ L
 | [], γ => rfl
 | (k, o) :: r, γ => by
  simp only [YF, Xc, X4I h1 r γ]
  congr 1
  rw [Bool.eq_iff_iff]
  simp only [Nat.beq_eq]
  exact ⟨fun e => by rw [← h1 k, ← h1 γ, e], fun e => by rw [e]⟩
theorem X3Q {E : Env} {ρ σ : Nat → Nat} (h1 : ∀ k, σ (ρ k) = k) (h2 : ∀ k, ρ (σ k) = k) {L : List (Nat × AObj)} {g : Gh} {w : World} {g0 : Gh} :
  Inv { E with g0 := g } (Xb .dead (YF ρ L)) g w ↔ Inv { E with g0 := g.pull ρ } (Xb .dead L) (g.pull ρ) w := by
 have hlv : ∀ γ b, Xm g (Xb .dead (YF ρ L) (ρ γ)) (ρ γ) b ↔ Xm (g.pull ρ) (Xb .dead L γ) γ b := fun γ b => by rw [Vk h1]; exact X1p _
 constructor
 ·intro hi
  refine ⟨fun γ => ?_, fun γ γ' b h h' => ?_, hi.mem, fun γ b h => hi.sep (ρ γ) b ((hlv _ _).2 h), fun γ b h => hi.new (ρ γ) b ((hlv _ _).2 h), hi.ext, hi.lim, hi.frame, hi.size, hi.os, hi.out, fun _ _ => Gh.keeps_refl _ _⟩
  ·have := hi.obj (ρ γ); rw [Vk h1] at this; exact (X4h _).1 this
  ·have := hi.inj (ρ γ) (ρ γ') b ((hlv _ _).2 h) ((hlv _ _).2 h')
   rw [← h1 γ, ← h1 γ', this]
 ·intro hi
  have hs : ∀ γ b, Xm g (Xb .dead (YF ρ L) γ) γ b → Xm (g.pull ρ) (Xb .dead L (σ γ)) (σ γ) b := fun γ b h => by
   have := (hlv (σ γ) b).1; rw [h2] at this; exact this h
  refine ⟨fun γ => ?_, fun γ γ' b h h' => ?_, hi.mem, fun γ b h => hi.sep (σ γ) b (hs _ _ h), fun γ b h => hi.new (σ γ) b (hs _ _ h), hi.ext, hi.lim, hi.frame, hi.size, hi.os, hi.out, fun _ _ => Gh.keeps_refl _ _⟩
  ·have := hi.obj (σ γ)
   rw [← X4h (ρ := ρ), ← Vk h1, h2] at this
   exact this
  ·have := hi.inj (σ γ) (σ γ') b (hs _ _ h) (hs _ _ h')
   rw [← h2 γ, ← h2 γ', this]
theorem X75 {g g' : Gh} {ρ : Nat → Nat} {γ : Nat} : (g.pull ρ).keeps (g'.pull ρ) γ ↔ g.keeps g' (ρ γ) := Iff.rfl
theorem X6y {P : Program} {f : FuncId} {Li Lo : List (Nat × AObj)} {args : List AVal} {res : AVal} (ρ σ : Nat → Nat) (h1 : ∀ k, σ (ρ k) = k) (h2 : ∀ k, ρ (σ k) = k) (h : Con P f Li args Lo res) :
  Con P f (YF ρ Li) (Yr ρ args) (YF ρ Lo) (res.ren ρ) := by
 intro g w vs hi hs
 have hA : ∀ b, (∃ γ, Xm g (Xb .dead (YF ρ Li) γ) γ b) ↔ ∃ γ, Xm (g.pull ρ) (Xb .dead Li γ) γ b := by
  intro b
  constructor
  ·rintro ⟨γ, hγ⟩
   refine ⟨σ γ, ?_⟩
   rw [← h2 γ, Vk h1, X1p] at hγ
   exact hγ
  ·rintro ⟨γ, hγ⟩
   refine ⟨ρ γ, ?_⟩
   rw [Vk h1, X1p]; exact hγ
 have hE : Yn (g.pull ρ) w Li = { Yn g w (YF ρ Li) with g0 := g.pull ρ } := by
  simp only [Yn, Env.mk.injEq, true_and, and_true]
  exact ⟨rfl, funext fun b => propext (hA b).symm⟩
 have hi' : Inv (Yn (g.pull ρ) w Li) (Xb .dead Li) (g.pull ρ) w := by
  rw [hE]; exact (X3Q (g0 := g) h1 h2).1 hi
 refine (h (g.pull ρ) w vs hi' ((UY _ _).1 hs)).mono ?_
 rintro e w' ⟨v, g', rfl, hv, hi2, hk⟩
 have hgp : (g'.pull σ).pull ρ = g' := by simp only [Gh.pull, h1]
 refine ⟨v, g'.pull σ, rfl, (X3X _ _).2 (by rw [hgp]; exact hv), ?_, fun γ hγ => ?_⟩
 ·refine (X3Q (E := Yn g w (YF ρ Li)) (g0 := g) h1 h2).2 ?_
  rw [hgp]
  have : ({ Yn (g.pull ρ) w Li with g0 := g' } : Env) = { Yn g w (YF ρ Li) with g0 := g' } := by rw [hE]
  rw [← this]; exact hi2
 ·have hγ' : Xc (σ γ) Li = true := by rw [← X4I h1, h2]; exact hγ
  have := hk (σ γ) hγ'
  rw [← hgp, X75, h2] at this
  exact this
def swp (a b k : Nat) : Nat := bif Nat.beq k a then b else bif Nat.beq k b then a else k
theorem X3K (a b k : Nat) : swp a b (swp a b k) = k := by
 simp only [swp]
 by_cases h1 : k = a
 ·subst h1
  by_cases h2 : b = k
  ·subst h2; simp
  ·have : Nat.beq b k = false := by cases h : Nat.beq b k with | false => rfl | true => exact absurd (Nat.eq_of_beq_eq_true h) h2
   simp [this]
 ·have e1 : Nat.beq k a = false := by cases h : Nat.beq k a with | false => rfl | true => exact absurd (Nat.eq_of_beq_eq_true h) h1
  by_cases h2 : k = b
  ·subst h2; simp [e1]
  ·have e2 : Nat.beq k b = false := by cases h : Nat.beq k b with | false => rfl | true => exact absurd (Nat.eq_of_beq_eq_true h) h2
   simp [e1, e2]
theorem X63 {P : Program} {f : FuncId} {Li Lo : List (Nat × AObj)} {args : List AVal} {res : AVal} (a b : Nat) (h : Con P f Li args Lo res) :
  Con P f (YF (swp a b) Li) (Yr (swp a b) args) (YF (swp a b) Lo) (res.ren (swp a b)) :=
 X6y _ _ (X3K a b) (X3K a b) h
section
variable {P : Program} {ops : Array Oper} {draw : Bool} {K : St → Prop} {rest : List Oper} {l : XE} {S : St}
variable {d : Nat} {ty : TypeId} {pos : String} {aft : Array Edge} {gd : Option (Nat × Bool)}
theorem X5S {t : Tmp} {f : FuncId} {caps : List AVal} {args : Array Operand} {tys : Array TypeId} {xs : List Operand} {ys zs : List AVal} {Li Lo : List (Nat × AObj)} {res : AVal}
  (ht : S.ev (.tmp t) = .fn f caps) (hxs : args.toList = xs) (hys : evA S xs = ys) (hle : leL (ys ++ caps) zs) (hcon : Con P f Li zs Lo res) (hf : Vp P f = true)
  (hLi : XU S Li) (hin : UR Li Lo = true) (hbox : Uc Lo Lo = true) (hres : res.within Lo = true) (hnew : YW S (XN Li Lo)) (hdead : XU S (YY (XN Li Lo)))
  (hd : Nat.blt d S.n = true) (hg : X9 ops S gd)
  (h : Walk P ops draw K rest ((l.length, ⟨some d, .call ⟨.value (.tmp t), args, tys⟩, ty, pos, aft, gd⟩, ⟨X7 ops gd ++ ((.tmp t, .fn f caps) :: UA xs ys), some (d, res), Li ++ YY (XN Li Lo), Lo, XN Li Lo⟩) :: l)
   ((S.set d res).cat Lo)) :
  Walk P ops draw K (⟨some d, .call ⟨.value (.tmp t), args, tys⟩, ty, pos, aft, gd⟩ :: rest) l S := by
 have hap : ∀ (A B : List (Nat × AObj)) (T : St), XU T (A ++ B) ↔ XU T A ∧ XU T B := by
  intro A B T
  simp only [Ur, List.mem_append]
  exact ⟨fun h => ⟨fun p hp => h p (.inl hp), fun p hp => h p (.inr hp)⟩, fun h p hp => hp.elim (h.1 p) (h.2 p)⟩
 have hlen : ys.length = xs.length := by
  rw [← hys]; clear hys hxs h hle
  induction xs with
  | nil => rfl
  | cons x r ih => simp [evA, ih]
 refine Xp ⟨(.tmp t, .fn f caps) :: UA xs ys, some (d, res), Li ++ YY (XN Li Lo), Lo, XN Li Lo⟩ ?_ hg ⟨⟨ht, by rw [← hys]; exact X2e S xs⟩, (hap _ _ _).2 ⟨hLi, hdead⟩, hnew, hd⟩ h
 intro E S a w g hs hok Q K hK
 obtain ⟨ok1, ok2, ok3, ok4⟩ := hok
 rw [hap] at ok2
 obtain ⟨hq1, hq2⟩ := V7 hs _ ok1
 simp only [AVal.sat] at hq1
 obtain ⟨cv, hcv, hcs⟩ := hq1
 have hsat := X0i hle (UP (X1O hlen hq2) hcs)
 have hinv : Inv (Yn g w Li) (Xb .dead Li) g w := by
  have hsub := Vi ok2.1
  have hl : ∀ γ b, Xm g (Xb .dead Li γ) γ b → Xm g (S.obj γ) γ b := by
   intro γ b hb
   rcases hsub γ with e | e
   ·rw [← e]; exact hb
   ·rw [e] at hb; exact hb.elim
  refine ⟨fun γ => ?_, fun γ γ' b k k' => hs.1.inj γ γ' b (hl _ _ k) (hl _ _ k'), hs.1.mem, fun γ b k => hs.1.sep γ b (hl _ _ k), fun γ b k => .inr ⟨γ, k⟩, Xx.refl _, fun a v ha => .inl ⟨v, ha⟩, fun _ _ _ => rfl, Nat.le_refl _, rfl, rfl, fun γ _ => Gh.keeps_refl _ _⟩
  rcases hsub γ with e | e
  ·rw [e]; exact hs.1.obj γ
  ·rw [e]; trivial
 have hcall := hcon g w (xs.map a.eval ++ cv.toList) hinv hsat
 have hrun : (execOp a.eval ⟨some d, .call ⟨.value (.tmp t), args, tys⟩, ty, pos, aft, gd⟩).run P w = .ok (.enter f (xs.map a.eval ++ cv.toList).toArray) w := by
  have e1 : (#[] ++ args.map a.eval ++ cv : Array Value) = (xs.map a.eval ++ cv.toList).toArray := by
   apply Array.ext'; simp [← hxs]
  simp only [execOp, resolve, hcv, Deferred.ofValue, Sem.run_bind, Sem.run_pure, Result.andThen_ok, invoke]
  rw [X3w hf]
  congr 2
 unfold Oper.wp
 rw [hrun, Oper.upon_enter]
 refine hcall.mono ?_
 rintro e w' ⟨v, g', rfl, hv, hi', hk⟩
 obtain ⟨j1, j2, j3⟩ := X3x hs.1 ok2.1 hin hbox ok3 ok2.2 hi' hk
 exact hK _ _ (Vd j1 hs.2.1 hs.2.2.1 (fun t => j3 t _ (hs.2.2.2 t)) (j2 _ _ hres hv) ok4)
end
end Go.Fw
namespace Go.Fw
open Go
set_option linter.unusedVariables false
set_option linter.unusedSimpArgs false
theorem X1E {S : St} (β : Nat) {cs cs' : List AVal} (hb : S.obj β = .box cs) (hle : leL cs cs') (hc : YQ cs' = true) : S.le (S.own β (.box cs')) := by
 rintro E a w ⟨g, hs⟩
 have ho := hs.1.obj β
 rw [hb] at ho
 obtain ⟨vs, e, fr, h1, h2, h3, h4⟩ := ho
 have hi2 : Inv E (Xb .dead ((β, .box cs') :: S.L)) g w := by
  refine Inv.upd hs.1 β _ (Y5 _ _ _ _) (fun k hk => Yg _ _ _ (Ne.symm hk)) (fun _ _ _ => rfl) (Nat.le_refl _) rfl rfl rfl (fun _ _ => ⟨rfl, rfl, rfl⟩) (fun _ _ _ _ _ h => h) ?_ (fun b hb' => .inl (by rw [hb]; exact hb')) (fun _ => Gh.keeps_refl _ _)
  exact ⟨vs, e, fr, h1, h2, X0i hle h3, (Vn _).1 hc⟩
 exact X09 hs hi2 rfl hs.2.2.2
def X5 (l : List UInt8) : ByteArray := ⟨l.toArray⟩
theorem X08 (l : List UInt8) : (X5 l).toList = l := by
 rw [ByteArray.toList_eq]; simp [X5]
section
variable {P : Program} {ops : Array Oper} {draw : Bool} {K : St → Prop} {rest : List Oper} {l : XE} {S : St}
variable {d : Nat} {ty : TypeId} {pos : String} {aft : Array Edge} {gd : Option (Nat × Bool)}
theorem X8w {t : TypeId} {x y : Operand} {a b : List UInt8} (w : World) : (do eqGuard .eql t x y (.string (X5 a)) (.string (X5 b)); binOp .eql t (.string (X5 a)) (.string (X5 b)) : Sem Value).run P w = .ok (.bool (decide (a = b))) w := by
 simp [go_sem, X08]; exact Bool.beq_eq_decide_eq a b
theorem X4T {t : TypeId} {x y : Operand} {a b : List UInt8} (w : World) : (do eqGuard .neq t x y (.string (X5 a)) (.string (X5 b)); binOp .neq t (.string (X5 a)) (.string (X5 b)) : Sem Value).run P w = .ok (.bool (decide (a ≠ b))) w := by
 simp [go_sem, X08]; exact Bool.beq_eq_decide_eq a b
end
end Go.Fw
namespace Go.Fw
open Go
set_option linter.unusedVariables false
section
variable {P : Program}
def X1X (P : Program) (t : TypeId) : Bool := match P.underlying t with | some .bool => true | _ => false
theorem X5W {t : TypeId} (h : X1X P t = true) : P.underlying t = some .bool := by
 unfold X1X at h
 cases hu : P.underlying t with
 | none => rw [hu] at h; simp at h
 | some u => cases u <;> rw [hu] at h <;> simp at h ⊢
theorem X5m {t : TypeId} {x y : Operand} {a b : Bool} (ht : X1X P t = true) (w : World) : (do eqGuard .eql t x y (.bool a) (.bool b); binOp .eql t (.bool a) (.bool b) : Sem Value).run P w = .ok (.bool (decide (a = b))) w := by
 have h := run_equalIn_bool' (P := P) w 9999 t a b (X5W ht)
 have h2 : (Op.equal t (.bool a) (.bool b)).run P w = .ok (a == b) w := h
 simp [eqGuard, binOp, h2]
 exact Bool.beq_eq_decide_eq a b
theorem X2o {t : TypeId} {x y : Operand} {k : IntKind} {a b : Int} (ha : 0 ≤ a) (hb : b ≠ 0) (w : World) : (do eqGuard .rem t x y (.int k a) (.int k b); binOp .rem t (.int k a) (.int k b) : Sem Value).run P w = .ok (.int k (a % b)) w := by
 simp [eqGuard, binOp, Op.intDiv, hb, go_sem, Int.tmod_eq_emod_of_nonneg ha]
theorem X5d {src dst : TypeId} {b : UInt8} (hs : (P.underlying src).isSome = true) (hd : VV P dst .i64 = true) (w : World) :
  (convert src dst (.int .u8 (b.toNat : Int))).run P w = .ok (.int .i64 (b.toNat : Int)) w := by
 have h := X1V (P := P) (n := (b.toNat : Int)) (k := .u8) hs hd w
 have := b.toNat_lt
 rwa [IntWalk.i64_in _ ⟨by omega, by omega⟩] at h
theorem X99 {src dst : TypeId} {k : IntKind} {n : Int} (hs : (P.underlying src).isSome = true) (hd : VV P dst .i64 = true) (hn : -9223372036854775808 ≤ n ∧ n ≤ 9223372036854775807) (w : World) :
  (convert src dst (.int k n)).run P w = .ok (.int .i64 n) w := by
 have h := X1V (P := P) (n := n) (k := k) hs hd w
 rwa [IntWalk.i64_in _ hn] at h
end
section
variable {P : Program} {ops : Array Oper} {draw : Bool} {K : St → Prop} {rest : List Oper} {l : XE} {S : St}
variable {d : Nat} {ty : TypeId} {pos : String} {aft : Array Edge} {gd : Option (Nat × Bool)}
theorem X1q {op : BinOp} {xt yt : TypeId} {x y : Operand} {u v r : Value} (r' : Value) (hr' : r = r') (hx : S.ev x = .d (.v u)) (hy : S.ev y = .d (.v v))
  (hr : ∀ w, (do eqGuard op xt x y u v; binOp op xt u v : Sem Value).run P w = .ok r w) (h1 : r'.oneCell' = true) (hd : Nat.blt d S.n = true) (hg : X9 ops S gd)
  (h : Walk P ops draw K rest ((l.length, ⟨some d, .binOp op xt x y yt, ty, pos, aft, gd⟩, ⟨X7 ops gd ++ [(x, .d (.v u)), (y, .d (.v v))], some (d, .d (.v r')), [], [], []⟩) :: l) (S.set d (.d (.v r')))) :
  Walk P ops draw K (⟨some d, .binOp op xt x y yt, ty, pos, aft, gd⟩ :: rest) l S := by
 subst hr'
 exact YC hx hy hr h1 hd hg h
end
end Go.Fw
namespace Go.Fw
open Go
set_option linter.unusedVariables false
def Vf (k : IntKind) : Nat := if k.signed then k.bits - 1 else k.bits
theorem X3n : 2 ^ Vf .u64 = 18446744073709551616 := by decide
theorem Vs : 2 ^ Vf .i64 = 9223372036854775808 := by decide
theorem X4G {k : IntKind} {n : Nat} (h : n < 2 ^ Vf k) : k.wrap (n : Int) = n := by
 cases k <;> simp [Vf, IntKind.signed, IntKind.bits] at h <;> simp [IntKind.wrap, IntKind.bits, IntKind.signed] <;> omega
section
variable {P : Program} {t : TypeId} {x y : Operand} {k : IntKind} {a b : Nat}
theorem X7J {op : BinOp} {a b : Int} {k' : IntKind} {r : Value} (h1 : op = .shl ∨ op = .shr) (h : Op.shift op k a k' b = pure r) (w : World) : (do eqGuard op t x y (.int k a) (.int k' b); binOp op t (.int k a) (.int k' b) : Sem Value).run P w = .ok r w := by
 rcases h1 with rfl | rfl <;> simp [eqGuard, binOp, h]
theorem X3h {k' : IntKind} (hb : b ≤ k.bits) (w : World) : (do eqGuard .shr t x y (.int k a) (.int k' b); binOp .shr t (.int k a) (.int k' b) : Sem Value).run P w = .ok (.int k ((a / 2 ^ b : Nat) : Int)) w := by
 have e : (a : Int).fdiv (2 ^ b) = ((a / 2 ^ b : Nat) : Int) := by
  rw [Int.fdiv_eq_ediv_of_nonneg _ (by exact Int.le_of_lt (Int.pow_pos (by omega)))]; simp
 refine X7J (.inr rfl) ?_ w
 have hb0 : ¬ ((b : Int) < 0) := by omega
 simp only [Op.shift, if_neg hb0, Int.toNat_natCast, Nat.min_eq_left hb, e]
theorem UV (hb : b ≠ 0) (w : World) : (do eqGuard .rem t x y (.int k a) (.int k b); binOp .rem t (.int k a) (.int k b) : Sem Value).run P w = .ok (.int k ((a % b : Nat) : Int)) w := by
 have hb' : (b : Int) ≠ 0 := by omega
 have e2 : (a : Int).tmod b = ((a % b : Nat) : Int) := by rw [Int.tmod_eq_emod_of_nonneg (by omega)]; simp
 simp only [eqGuard, binOp, Op.intDiv, if_neg hb', e2]
 simp [go_sem]
theorem X10 (h : a + b < 2 ^ Vf k) (w : World) : (do eqGuard .add t x y (.int k a) (.int k b); binOp .add t (.int k a) (.int k b) : Sem Value).run P w = .ok (.int k ((a + b : Nat) : Int)) w := by
 rw [X2Z, ← Int.natCast_add, X4G h]
theorem X77 {n : Int} (h : -9223372036854775807 ≤ n ∧ n ≤ 9223372036854775807) (w : World) : (Op.unary .neg (.int .i64 n)).run P w = .ok (.int .i64 (-n)) w := by
 have e : IntKind.i64.wrap (0 - n) = -n := by rw [IntWalk.i64_in _ (by omega)]; omega
 have e' : Op.unary .neg (.int .i64 n) = pure (.int .i64 (-n)) := by
  show (pure (Value.int .i64 (IntKind.i64.wrap (0 - n))) : Sem Value) = _
  rw [e]
 rw [e']; rfl
variable {src dst : TypeId} {q : IntKind}
theorem X0t (hs : (P.underlying src).isSome = true) (hd : VV P dst q = true) (ha : a < 2 ^ Vf q) (w : World) : (convert src dst (.int k (a : Int))).run P w = .ok (.int q (a : Int)) w := by
 have h := X1V (P := P) (n := (a : Int)) (k := k) hs hd w
 rwa [X4G ha] at h
end
end Go.Fw
namespace Go.Fw
open Go
set_option linter.unusedVariables false
set_option linter.unusedSimpArgs false
theorem Con.data {P : Program} {f : FuncId} {args : List AVal} {γ sz n : Nat} {xs : List (List D)} (h : Con P f [] args [(γ, .row sz xs)] (.own γ n)) (hn : n = xs.length) : Con P f [] args [] (.d (.sl sz xs)) := by
 intro g w vs hi hs
 refine (h g w vs hi hs).mono ?_
 rintro e w' ⟨v, g', h1, h2, h3, _⟩
 obtain ⟨M', hle, hi2⟩ := X4N (S := ⟨0, [], [(γ, .row sz xs)]⟩) h3 (Y5 _ _ _ _)
 have ho := hi2.obj γ
 rw [Y5] at ho
 have hs2 : (AVal.own γ n).sat { g' with M := M' } v := X1u (g := g') (g' := { g' with M := M' }) hle rfl rfl rfl h2
 refine ⟨v, { g' with M := M' }, h1, X2l ho hn hs2, ?_, fun γ hγ => by simp [Xc] at hγ⟩
 refine (hi2.free (g0 := { g' with M := M' }) fun γ _ => Gh.keeps_refl _ _).sub fun k => .inr rfl
section
variable {P : Program} {ops : Array Oper} {draw : Bool} {K : St → Prop} {rest : List Oper} {l : XE} {S : St}
variable {d : Nat} {ty : TypeId} {pos : String} {aft : Array Edge} {gd : Option (Nat × Bool)}
theorem X7d {T : TypeId} {x : Operand} {lo hi : Option Operand} {sz lb hb : Nat} {xs ys : List (List D)} (hx : S.ev x = .d (.sl sz xs)) (hlo : X1n S lo lb) (hhi : X2b S xs.length hi hb) (hlh : lb ≤ hb) (hh : hb ≤ xs.length) (hys : (xs.take hb).drop lb = ys)
  (hT : YI P T sz = true) (hd : Nat.blt d S.n = true) (hg : X9 ops S gd)
  (h : Walk P ops draw K rest ((l.length, ⟨some d, .slice T x lo hi none, ty, pos, aft, gd⟩, ⟨X7 ops gd ++ ((x, .d (.sl sz xs)) :: (Uf lo lb ++ Uf hi hb)), some (d, .d (.sl sz ys)), [], [], []⟩) :: l) (S.set d (.d (.sl sz ys)))) :
  Walk P ops draw K (⟨some d, .slice T x lo hi none, ty, pos, aft, gd⟩ :: rest) l S := by
 subst hys
 exact X6K hx hlo hhi hlh hh hT hd hg h
theorem X8x {t : TypeId} {γ : Nat} {x : Operand} {s : ByteArray} (hx : S.ev x = as s) (ht : UQ P t = true) (hdead : S.obj γ = .dead) (hf : S.free γ = true)
  (hd : Nat.blt d S.n = true) (hg : X9 ops S gd)
  (h : Walk P ops draw K rest ((l.length, ⟨some d, .range t x, ty, pos, aft, gd⟩, ⟨X7 ops gd ++ [(x, as s)], some (d, .ptr γ 0), [(γ, .dead)], [(γ, .iter s 0)], [γ]⟩) :: l)
   ((S.set d (.ptr γ 0)).own γ (.iter s 0))) :
  Walk P ops draw K (⟨some d, .range t x, ty, pos, aft, gd⟩ :: rest) l S :=
 Xp ⟨[(x, as s)], some (d, .ptr γ 0), [(γ, .dead)], [(γ, .iter s 0)], [γ]⟩ (UZ rfl fun E S g a w hs hq hl hn => by
  refine ⟨.pointer (some ⟨w.heap.size, 0, none⟩), Un g w γ, w.alloc (.stringIter s 0), ?_, ?_, ?_, VS hn.1 hs.2.2.2⟩
  ·have := run_underlying (P := P) (w := w) (X1r ht)
   simp only [execOp, Instr.range, Y8 hq.1, Sem.run_bind, this, Result.andThen_ok]
   rfl
  ·simp [AVal.sat, Un, Gh.put]
  ·refine X11 hs.1 γ hn.1 hl.1 _ _ _ (Uy w _) (VC w _) rfl rfl ?_ (fun k hk => ?_)
   ·show (w.alloc (.stringIter s 0)).heap[(Un g w γ).blk γ]? = some (.stringIter s 0)
    simp only [Un, Gh.put, if_true]
    exact heap_alloc_new w _
   ·have hk : (g.put γ w.heap.size undef).blk γ = k := hk
    simp only [Gh.put, if_true] at hk; omega) hg ⟨⟨hx, trivial⟩, ⟨hdead, trivial⟩, ⟨hf, trivial⟩, hd⟩ h
theorem X8o {x : Operand} {γ p : Nat} {s : ByteArray} (hx : S.ev x = .ptr γ 0) (hL : S.obj γ = .iter s p) (hlt : p < s.size)
  (hd : Nat.blt d S.n = true) (hg : X9 ops S gd)
  (h : Walk P ops draw K rest ((l.length, ⟨some d, .next x true, ty, pos, aft, gd⟩, ⟨X7 ops gd ++ [(x, .ptr γ 0)], some (d, .tup [ab true, ai p, .d (.v (.int .i32 (Utf8.decode s p).1))]), [(γ, .iter s p)], [(γ, .iter s (p + (Utf8.decode s p).2))], []⟩) :: l)
   ((S.set d (.tup [ab true, ai p, .d (.v (.int .i32 (Utf8.decode s p).1))])).own γ (.iter s (p + (Utf8.decode s p).2)))) :
  Walk P ops draw K (⟨some d, .next x true, ty, pos, aft, gd⟩ :: rest) l S := by
 refine Xp ⟨[(x, .ptr γ 0)], some (d, .tup [ab true, ai p, .d (.v (.int .i32 (Utf8.decode s p).1))]), [(γ, .iter s p)], [(γ, .iter s (p + (Utf8.decode s p).2))], []⟩ (UZ rfl fun E S g a w hs hq hl hn => ?_) hg ⟨⟨hx, trivial⟩, ⟨hL, trivial⟩, trivial, hd⟩ h
 have ho := hs.1.obj γ
 rw [hl.1] at ho
 have ho : w.heap[g.blk γ]? = some (.stringIter s p) := ho
 have hb := (Array.getElem?_eq_some_iff.1 ho).1
 have hv := hq.1
 simp only [AVal.sat] at hv
 refine ⟨.tuple #[.bool true, goInt p, .int .i32 (Utf8.decode s p).1], g, { w with heap := w.heap.set! (g.blk γ) (.stringIter s (p + (Utf8.decode s p).2)) }, ?_, ?_, ?_, hs.2.2.2⟩
 ·simp only [execOp, hv, Instr.next, getObj, setObj, Sem.run_bind, Sem.run, ho, Result.andThen, hlt, if_true]
  simp [goInt, ho, hlt]
 ·simp only [AVal.sat]
  refine ⟨_, rfl, ?_⟩
  simp [Xa, AVal.sat, D.rep, goInt, Value.oneCell']
 ·refine Inv.upd hs.1 γ _ (Y5 _ _ _ _) (fun k hk => Yg _ _ _ (Ne.symm hk)) (fun b hb2 hnl => ?_) (by simp) rfl rfl rfl (fun _ _ => ⟨rfl, rfl, rfl⟩) (fun _ _ _ _ _ h => h) ?_ (fun b hb2 => .inl ?_) (fun _ => Gh.keeps_refl _ _)
  ·have hne : g.blk γ ≠ b := fun e => hnl (by rw [hl.1]; exact e)
   simp [Array.set!, Array.getElem?_setIfInBounds, hne]
  ·show (w.heap.set! (g.blk γ) _)[g.blk γ]? = _
   simp [Array.set!, Array.getElem?_setIfInBounds, hb]
  ·rw [hl.1]; exact hb2
theorem X6E {x : Operand} {γ p : Nat} {s : ByteArray} (hx : S.ev x = .ptr γ 0) (hL : S.obj γ = .iter s p) (hge : s.size ≤ p)
  (hd : Nat.blt d S.n = true) (hg : X9 ops S gd)
  (h : Walk P ops draw K rest ((l.length, ⟨some d, .next x true, ty, pos, aft, gd⟩, ⟨X7 ops gd ++ [(x, .ptr γ 0)], some (d, .tup [ab false]), [(γ, .iter s p)], [], []⟩) :: l) (S.set d (.tup [ab false]))) :
  Walk P ops draw K (⟨some d, .next x true, ty, pos, aft, gd⟩ :: rest) l S := by
 refine Xp ⟨[(x, .ptr γ 0)], some (d, .tup [ab false]), [(γ, .iter s p)], [], []⟩ (XG rfl fun E S g a w hs hq hl => ?_) hg ⟨⟨hx, trivial⟩, ⟨hL, trivial⟩, trivial, hd⟩ h
 have ho := hs.1.obj γ
 rw [hl.1] at ho
 have ho : w.heap[g.blk γ]? = some (.stringIter s p) := ho
 have hv := hq.1
 simp only [AVal.sat] at hv
 refine ⟨.tuple #[.bool false], ?_, ?_⟩
 ·simp only [execOp, hv, Instr.next, getObj, Sem.run_bind, Sem.run, ho, Result.andThen, show ¬ p < s.size by omega, if_false]
  simp [ho, show ¬ p < s.size by omega]
 ·simp only [AVal.sat]
  refine ⟨_, rfl, ?_⟩
  simp [Xa, AVal.sat, D.rep, Value.oneCell']
end
end Go.Fw
namespace Go.Fw
open Go
set_option linter.unusedVariables false
set_option linter.unusedSimpArgs false
section
variable {P : Program} {ops : Array Oper} {draw : Bool} {K : St → Prop} {rest : List Oper} {l : XE} {S : St}
variable {d : Nat} {ty : TypeId} {pos : String} {aft : Array Edge} {gd : Option (Nat × Bool)}
theorem X72 {b : List UInt8} {k : Nat} {c : UInt8} (h : b[k]? = some c) : (X5 b)[k]? = some c := by
 have hlt : k < (X5 b).size := (List.getElem?_eq_some_iff.1 h).1
 rw [getElem?_pos (X5 b) k hlt]
 exact congrArg some (List.getElem?_eq_some_iff.1 h).2
theorem X4S {t : TypeId} {x i : Operand} {k : Nat} {kd : IntKind} {m : Int} {b : List UInt8} {c : UInt8} (hx : S.ev x = as (X5 b)) (hi : S.ev i = .d (.v (.int kd m))) (hk : m = (k : Nat)) (hc : b[k]? = some c)
  (ht : UQ P t = true) (hd : Nat.blt d S.n = true) (hg : X9 ops S gd)
  (h : Walk P ops draw K rest ((l.length, ⟨some d, .index t x i, ty, pos, aft, gd⟩, ⟨X7 ops gd ++ [(x, as (X5 b)), (i, .d (.v (.int kd m)))], some (d, .d (.v (.int .u8 c.toNat))), [], [], []⟩) :: l) (S.set d (.d (.v (.int .u8 c.toNat))))) :
  Walk P ops draw K (⟨some d, .index t x i, ty, pos, aft, gd⟩ :: rest) l S :=
 Xp ⟨[(x, as (X5 b)), (i, .d (.v (.int kd m)))], some (d, .d (.v (.int .u8 c.toNat))), [], [], []⟩ (XG rfl fun E S g a w hs hq hl => by
  refine ⟨.int .u8 c.toNat, ?_, Ug rfl⟩
  subst hk
  have h0 : (0 : Int) ≤ (k : Int) := by omega
  have hu := run_underlying (P := P) (w := w) (X1r ht)
  simp only [execOp, Instr.index, Y8 hq.1, Y8 hq.2.1, asIntOf, Sem.run_bind, Sem.run_pure, Result.andThen_ok, hu, if_pos h0, Int.toNat_natCast, X72 hc]) hg ⟨⟨hx, hi, trivial⟩, trivial, trivial, hd⟩ h
end
end Go.Fw
