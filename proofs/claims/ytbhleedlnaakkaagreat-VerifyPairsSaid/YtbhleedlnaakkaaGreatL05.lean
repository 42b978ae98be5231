/- Tenth part: literals of slices, make, slice expressions, strings, rows that are read and written in place. -/
import Derived.WalkSpells
import Derived.Laws.Strings
import Derived.Laws.BytesString
import Derived.Laws.StructEq
import Derived.Test.YtbhleedlnaakkaaGreatL04
namespace Go.Fw
open Go
set_option linter.unusedVariables false
set_option linter.unusedSimpArgs false
theorem X4Z {g : Gh} {w : World} {sz : Nat} {xs : List (List D)} {vs : Array Value} {cap : Nat} (hlen : ∀ x ∈ xs, x.length = sz) (hsat : Xc g (xs.flatten.map .d) (vs.toList.take (xs.length * sz))) (hM : XL g.M (g.lay w.heap.size vs).M)
  (hcap : xs.length ≤ cap) (hmax : cap ≤ maxLen) : (AVal.d (.sl sz xs)).sat (g.lay w.heap.size vs) (.slice (some ⟨w.heap.size, 0, none⟩) xs.length cap) := by
 simp only [AVal.sat, D.rep]
 refine ⟨_, cap, rfl, hcap, hmax, .inr ⟨w.heap.size, 0, rfl, X2o xs 0 hlen fun i d hd => ?_⟩⟩
 obtain ⟨hl, hr⟩ := X0y hsat
 obtain ⟨u, hu, hsu⟩ := hr i d hd
 refine ⟨u, ?_, D.rep_mono hM _ _ hsu⟩
 show (if _ then _ else _) = _
 rw [if_pos ⟨rfl, rfl⟩, Nat.zero_add]
 rw [List.getElem?_take] at hu
 split at hu
 ·simpa using hu
 ·simp at hu
theorem X3U {E : Env} {S : St} {g : Gh} {w : World} (hi : Inv E S.obj g w) (γ : Nat) (hf : S.free γ = true) (hdead : S.obj γ = .dead) {sz : Nat} {xs : List (List D)} {vs : Array Value} {e : TypeId} {fr : Nat × Nat} {cap : Nat}
  (hlen : ∀ x ∈ xs, x.length = sz) (hsat : Xc g (xs.flatten.map .d) (vs.toList.take (xs.length * sz))) (hcap : xs.length ≤ cap) (hmax : cap ≤ maxLen) (hsz : cap * sz ≤ vs.size) (hfr : VN fr vs.size) :
  Inv E (Xd .dead ((γ, .row sz xs) :: S.L)) (g.put γ 0 (.slice (some ⟨w.heap.size, 0, none⟩) xs.length cap)) (w.alloc (.cells vs e fr)) :=
 X1X hi γ hf hdead _ _ _ (Va w _) (X0a w _) rfl rfl
  ⟨hlen, .inr ⟨w.heap.size, cap, vs, e, fr, by simp [Gh.put], hcap, hmax, heap_alloc_new w _, hfr, hsz, X3g (X6D _ _) hsat⟩⟩
  (fun k hk => by obtain ⟨a, n, c, e, rfl⟩ := hk; simp only [Gh.put, if_true] at e; cases e; exact Nat.le_refl _)
theorem X3N {g : Gh} {w : World} {γ n cap : Nat} {a : Option Addr} : (AVal.own γ n).sat (g.put γ 0 (.slice a n cap)) (.slice a n cap) := by
 simp only [AVal.sat]
 exact ⟨rfl, a, n, cap, by simp [Gh.put], Nat.le_refl _, fun _ => rfl⟩
def Y2 (z : List Value) (n : Nat) : List Value := (List.replicate n z).flatten
def Uc (P : Program) (t : TypeId) : Option (List Value) :=
 match P.underlying t with
 | some (.slice e) => UR P e
 | _ => none
theorem X4f {P : Program} {t : TypeId} {zs : List Value} (h : Uc P t = some zs) : ∃ e, P.underlying t = some (.slice e) ∧ UR P e = some zs := by
 unfold Uc at h
 cases hu : P.underlying t with
 | none => simp [hu] at h
 | some de => rw [hu] at h; cases de <;> simp at h; exact ⟨_, rfl, h⟩
theorem X41 (z : Array Value) (n : Nat) : ((Array.range (n * z.size)).map (fun i => z[i % z.size]!)).toList = Y2 z.toList n := by
 induction n with
 | zero => simp [Y2]
 | succ n ih =>
  have e1 : Y2 z.toList (n + 1) = Y2 z.toList n ++ z.toList := by
   simp [Y2, List.replicate_succ']
  rw [e1, ← ih]
  apply List.ext_getElem?
  intro j
  simp only [Array.toList_map, Array.toList_range, List.getElem?_map, List.getElem?_append, List.length_map, List.length_range]
  have hm : (n + 1) * z.size = n * z.size + z.size := Nat.succ_mul _ _
  by_cases h1 : j < n * z.size
  ·rw [if_pos h1, List.getElem?_range (by omega), List.getElem?_range h1]
  ·rw [if_neg h1]
   by_cases h2 : j < (n + 1) * z.size
   ·rw [List.getElem?_range h2]
    have h3 : j - n * z.size < z.size := by omega
    have h4 : j % z.size = j - n * z.size := by
     have : j = (j - n * z.size) + n * z.size := by omega
     rw [this, Nat.add_mul_mod_self_right, Nat.mod_eq_of_lt h3]
     omega
    simp [h4, h3]
   ·rw [List.getElem?_eq_none (by simp; omega)]
    symm
    rw [Option.map_none, List.getElem?_eq_none (by simp; omega)]
theorem X8F {P : Program} {e : TypeId} {zs : List Value} (h : UR P e = some zs) : ∃ z : Value, z.cells.toList = zs ∧ (∀ w, (zeroValue e).run P w = .ok z w) := X2C h
section
variable {P : Program} {ops : Array Oper} {draw : Bool} {K : St → Prop} {rest : List Oper} {l : XJ} {S : St}
variable {d : Nat} {ty : TypeId} {pos : String} {aft : Array Edge} {gd : Option (Nat × Bool)}
theorem X99 {T : TypeId} {len sz : Nat} {zs : List Value} {parts : Array (Nat × Value)} {us : Array Value} (hT : U0 P T sz = true) (hz : Uc P T = some zs) (hzl : zs.length = sz) (hsmall : len * sz ≤ 16777216)
  (hfill : Instr.fill (fun i => some (i * sz, sz)) (Y2 zs len).toArray parts.toList = some us) (w : World) :
  ∃ e, (Instr.buildSlice T len parts).run P w = .ok (.slice (some ⟨w.heap.size, 0, none⟩) len len) (w.alloc (.cells us e)) := by
 obtain ⟨e, h1, h2, _⟩ := X12 hT
 obtain ⟨e', h1', hze⟩ := X4f hz
 rw [h1] at h1'; cases h1'
 obtain ⟨z, hz1, hz2⟩ := X8F hze
 refine ⟨e, ?_⟩
 have hzs : z.cells.size = sz := by rw [← hzl, ← hz1]; simp
 have hsmall' : ¬ (16777216 < len * sz) := by omega
 have hfill' : Instr.fill (fun i => some (i * sz, sz)) ((Array.range (len * sz)).map (fun i => z.cells[i % z.cells.size]!)) parts.toList = some us := by
  rw [← hfill]
  congr 1
  apply Array.ext'
  have := X41 z.cells len
  rw [hzs] at this ⊢
  rw [this, hz1]
 by_cases h0 : len * sz = 0
 ·have hem : (Y2 zs len).toArray = #[] := by
   apply Array.ext'
   simp only [Y2]
   rcases Nat.mul_eq_zero.1 h0 with h | h
   ·subst h; simp
   ·have : zs = [] := by rw [← hzl] at h; exact List.length_eq_zero_iff.1 h
    subst this; simp
  rw [hem] at hfill
  simp [Instr.buildSlice, run_underlying h1, h2 w, h0, hfill, newRow, Array.range_zero']
 ·simp [Instr.buildSlice, run_underlying h1, h2 w, hsmall', h0, hz2 w, hfill', newRow]
theorem X4r {T : TypeId} {len sz : Nat} {parts : Array (Nat × Operand)} {pl : List (Nat × Operand)} {zs : List Value} {ps : List (Nat × AVal)} {out : List AVal} {xs : List (List D)} (hpl : parts.toList = pl)
  (hkeys : ps.map (·.1) = pl.map (·.1)) (hT : U0 P T sz = true) (hz : Uc P T = some zs) (hzl : Nat.beq zs.length sz = true) (hz1 : YJ (Y2 zs len) = true) (hsmall : Nat.ble (len * sz) 16777216 = true) (hsl : Nat.ble len 16777216 = true)
  (hout : UH (fun i => some (i * sz, sz)) (dvL (Y2 zs len)) ps = some out) (hxs : UL sz len out = some xs) {g : Gh} {a : Act} (w : World) (hq : U4 g a (YZ pl ps)) :
  ∃ e, ∃ us : Array Value, (Instr.buildSlice T len (parts.map fun p => (p.1, a.eval p.2))).run P w = .ok (.slice (some ⟨w.heap.size, 0, none⟩) len len) (w.alloc (.cells us e)) ∧
   us.toList.length = xs.length * sz ∧ Xc g (xs.flatten.map .d) us.toList ∧ xs.length = len ∧ (∀ x ∈ xs, x.length = sz) ∧ len ≤ maxLen := by
 obtain ⟨us, k1, k2⟩ := X3t (vs := (Y2 zs len).toArray) hkeys hq (by simpa using X0M hz1) hout
 obtain ⟨r1, r2, r3⟩ := X5j hxs
 have hsm : len * sz ≤ 16777216 := by simpa using hsmall
 obtain ⟨e, he⟩ := X99 (P := P) (T := T) (len := len) (parts := parts.map fun p => (p.1, a.eval p.2)) hT hz (by simpa using hzl) hsm (by
  have : (parts.map fun p => (p.1, a.eval p.2)).toList = pl.map fun p => (p.1, a.eval p.2) := by simp [hpl]
  rw [this]; exact k1) w
 rw [← r1] at k2
 have hl := Yf k2
 simp only [List.length_map, Uk xs r3] at hl
 refine ⟨e, us, he, hl, k2, r2, r3, ?_⟩
 unfold maxLen
 have : len ≤ 16777216 := by simpa using hsl
 omega
theorem X2w (S : St) : ∀ pl : List (Nat × Operand), (evL S pl).map (·.1) = pl.map (·.1)
 | [] => rfl
 | p :: r => by simp [evL, X2w S r]
theorem X3v (S : St) : ∀ pl : List (Nat × Operand), U8 S (YZ pl (evL S pl))
 | [] => trivial
 | p :: r => ⟨rfl, X3v S r⟩
theorem Xau {T : TypeId} {len sz : Nat} {parts : Array (Nat × Operand)} {pl : List (Nat × Operand)} {zs : List Value} {ps : List (Nat × AVal)} {out : List AVal} {xs : List (List D)} (hpl : parts.toList = pl)
  (hps : evL S pl = ps) (hz : Uc P T = some zs) (hS : zs.length = sz) (hT : U0 P T sz = true) (hzl : Nat.beq zs.length sz = true) (hz1 : YJ (Y2 zs len) = true) (hsmall : Nat.ble (len * sz) 16777216 = true) (hsl : Nat.ble len 16777216 = true)
  (hout : UH (fun i => some (i * sz, sz)) (dvL (Y2 zs len)) ps = some out) (hxs : UL sz len out = some xs) (hd : Nat.blt d S.n = true) (hg : Xb ops S gd)
  (h : Walk P ops draw K rest ((l.length, ⟨some d, .buildSlice T len parts, ty, pos, aft, gd⟩, ⟨Xa ops gd ++ YZ pl ps, some (d, .d (.sl sz xs)), [], [], []⟩) :: l) (S.set d (.d (.sl sz xs)))) :
  Walk P ops draw K (⟨some d, .buildSlice T len parts, ty, pos, aft, gd⟩ :: rest) l S := by
 have hkeys : ps.map (·.1) = pl.map (·.1) := by rw [← hps]; exact X2w S pl
 have hrd : U8 S (YZ pl ps) := by rw [← hps]; exact X3v S pl
 refine Xw ⟨YZ pl ps, some (d, .d (.sl sz xs)), [], [], []⟩ ?_ hg ⟨hrd, trivial, trivial, hd⟩ h
 intro E S a w g hs hok Q K hK
 obtain ⟨e, us, k1, k2, k3, k4, k5, k6⟩ := X4r (P := P) hpl hkeys hT hz hzl hz1 hsmall hsl hout hxs w (Vv hs _ hok.1)
 have hle := X3o hs.1 us
 have hrun : (execOp a.eval ⟨some d, .buildSlice T len parts, ty, pos, aft, gd⟩).run P w = .ok (.value (.slice (some ⟨w.heap.size, 0, none⟩) len len)) (w.alloc (.cells us e)) := by
  simp only [execOp, Sem.run_bind, k1]; rfl
 unfold Oper.wp
 rw [hrun, Oper.upon_value]
 refine hK _ _ (Vk (X5o hs.1 us e (0, 0)) hs.2.1 hs.2.2.1 (fun t => X22 (g := g) (g' := g.lay w.heap.size us) hle rfl rfl rfl (hs.2.2.2 t)) ?_ hok.2.2.2)
 have := X4Z (g := g) (w := w) (cap := len) k5 (by rw [List.take_of_length_le (by omega)]; exact k3) hle (by omega) k6
 rwa [k4] at this
theorem Xaw {T : TypeId} {len sz γ : Nat} {parts : Array (Nat × Operand)} {pl : List (Nat × Operand)} {zs : List Value} {ps : List (Nat × AVal)} {out : List AVal} {xs : List (List D)} (hpl : parts.toList = pl)
  (hps : evL S pl = ps) (hz : Uc P T = some zs) (hS : zs.length = sz) (hT : U0 P T sz = true) (hzl : Nat.beq zs.length sz = true) (hz1 : YJ (Y2 zs len) = true) (hsmall : Nat.ble (len * sz) 16777216 = true) (hsl : Nat.ble len 16777216 = true)
  (hout : UH (fun i => some (i * sz, sz)) (dvL (Y2 zs len)) ps = some out) (hxs : UL sz len out = some xs) (hdead : S.obj γ = .dead) (hf : S.free γ = true) (hd : Nat.blt d S.n = true) (hg : Xb ops S gd)
  (h : Walk P ops draw K rest ((l.length, ⟨some d, .buildSlice T len parts, ty, pos, aft, gd⟩, ⟨Xa ops gd ++ YZ pl ps, some (d, .own γ len), [(γ, .dead)], [(γ, .row sz xs)], [γ]⟩) :: l) ((S.set d (.own γ len)).own γ (.row sz xs))) :
  Walk P ops draw K (⟨some d, .buildSlice T len parts, ty, pos, aft, gd⟩ :: rest) l S := by
 have hkeys : ps.map (·.1) = pl.map (·.1) := by rw [← hps]; exact X2w S pl
 have hrd : U8 S (YZ pl ps) := by rw [← hps]; exact X3v S pl
 refine Xw ⟨YZ pl ps, some (d, .own γ len), [(γ, .dead)], [(γ, .row sz xs)], [γ]⟩ (Vw rfl fun E S g a w hs hq hl hn => ?_) hg ⟨hrd, ⟨hdead, trivial⟩, ⟨hf, trivial⟩, hd⟩ h
 obtain ⟨e, us, k1, k2, k3, k4, k5, k6⟩ := X4r (P := P) hpl hkeys hT hz hzl hz1 hsmall hsl hout hxs w hq
 have hsz : us.size = len * sz := by rw [← k4]; simpa using k2
 refine ⟨.slice (some ⟨w.heap.size, 0, none⟩) xs.length len, _, w.alloc (.cells us e), by simp only [execOp, Sem.run_bind, k1]; rw [k4]; rfl, by rw [← k4]; exact X3N (w := w), X3U hs.1 γ hn.1 hl.1 (cap := len) k5 (by rw [List.take_of_length_le (by omega)]; exact k3) (by omega) k6 (by omega) (X0O _), X0s hn.1 hs.2.2.2⟩
theorem X3T {T : TypeId} {sz bytes n : Nat} {zs : List Value} (hT : UQ P T sz bytes = true) (hz : Uc P T = some zs) (hroom : n * bytes ≤ 2 ^ 48) (hn : n < 2 ^ 63) (k1 k2 : IntKind) (w : World) :
  ∃ e, (Instr.makeSlice T (.int k1 n) (.int k2 n)).run P w = .ok (.slice (some ⟨w.heap.size, 0, none⟩) n n) (w.alloc (.cells (Y2 zs n).toArray e)) := by
 obtain ⟨e, i, z, hu, hi, hsz, hbt, hz0, hzs, hz1⟩ := X3x hT
 obtain ⟨e', h1', hze⟩ := X4f hz
 rw [hu] at h1'; cases h1'
 have hzz : z.cells.toList = zs := by
  unfold UR at hze
  simp [hi, hz0] at hze
  exact hze
 have hw : IntKind.i64.wrap (n : Int) = n := IntWalk.i64_in _ (by omega)
 have hnn : ¬ ((n : Int) < 0) := by omega
 have ha : ∀ k, (asInt (.int k (n : Int))).run P w = .ok (n : Int) w := fun k => by simp [asInt, asIntOf]
 have hbig : ¬ (281474976710656 < (i.bytes : Int) * (n : Int)) := by
  rw [hbt]
  have : (n * bytes : Nat) ≤ 2 ^ 48 := hroom
  have h2 : ((bytes : Int) * (n : Int)) = ((n * bytes : Nat) : Int) := by rw [Nat.mul_comm]; exact (Int.natCast_mul _ _).symm
  rw [h2]; omega
 have harr : (Array.range (n * sz)).map (fun x => z.cells[x % z.cells.size]!) = (Y2 zs n).toArray := by
  apply Array.ext'
  have := X41 z.cells n
  rw [hzs] at this ⊢
  rw [this, hzz]
 refine ⟨e, ?_⟩
 by_cases h0 : n * sz = 0
 ·have hem : (Y2 zs n).toArray = #[] := by rw [← harr, h0]; simp [Array.range_zero']
  rw [hem]
  simp [Instr.makeSlice, run_underlying hu, ha, typeInfo, hi, hw, hnn, hbig, sizeOf, hsz, h0, newRow, Array.range_zero']
 ·simp [Instr.makeSlice, run_underlying hu, ha, typeInfo, hi, hw, hnn, hbig, sizeOf, hsz, h0, newRow, zeroValue, hz0, harr]
def zD : List Value → List D
 | [] => []
 | v :: r => .v v :: zD r
theorem X4J : ∀ zs : List Value, (zD zs).map .d = dvL zs
 | [] => rfl
 | v :: r => by simp [zD, dvL, X4J r]
theorem X2U : ∀ zs : List Value, (zD zs).length = zs.length
 | [] => rfl
 | v :: r => by simp [zD, X2U r]
theorem X43 {g : Gh} {zs : List Value} (h1 : YJ zs = true) (n : Nat) : Xc g ((List.replicate n (zD zs)).flatten.map .d) (Y2 zs n) := by
 induction n with
 | zero => simp [Y2, Xc]
 | succ n ih =>
  simp only [List.replicate_succ, List.flatten_cons, Y2, List.map_append, X4J]
  exact UO (X0M h1) ih
theorem X9N {T : TypeId} {sz bytes n : Nat} {k1 k2 : IntKind} {x y : Operand} {m m' : Int} {zs : List Value} (hx : S.ev x = .d (.v (.int k1 m))) (hy : S.ev y = .d (.v (.int k2 m'))) (hm : m = (n : Nat)) (hm' : m' = (n : Nat))
  (hz : Uc P T = some zs) (hB : elB P T = bytes) (hS : zs.length = sz) (hT : UQ P T sz bytes = true) (h1 : YJ zs = true) (hl : Nat.beq zs.length sz = true) (hroom : n * bytes ≤ 281474976710656) (hn : n < 9223372036854775808) (hd : Nat.blt d S.n = true) (hg : Xb ops S gd)
  (h : Walk P ops draw K rest ((l.length, ⟨some d, .makeSlice T x y, ty, pos, aft, gd⟩, ⟨Xa ops gd ++ [(x, .d (.v (.int k1 m))), (y, .d (.v (.int k2 m')))], some (d, .d (.sl sz (List.replicate n (zD zs)))), [], [], []⟩) :: l) (S.set d (.d (.sl sz (List.replicate n (zD zs)))))) :
  Walk P ops draw K (⟨some d, .makeSlice T x y, ty, pos, aft, gd⟩ :: rest) l S := by
 refine Xw ⟨[(x, .d (.v (.int k1 m))), (y, .d (.v (.int k2 m')))], some (d, .d (.sl sz (List.replicate n (zD zs)))), [], [], []⟩ ?_ hg ⟨⟨hx, hy, trivial⟩, trivial, trivial, hd⟩ h
 intro E S a w g hs hok Q K hK
 have hq := Vv hs _ hok.1
 obtain ⟨e, he⟩ := X3T (P := P) hT hz (by simpa using hroom) (by simpa using hn) k1 k2 w
 have hle := X3o hs.1 (Y2 zs n).toArray
 have hzl : zs.length = sz := by simpa using hl
 have hrun : (execOp a.eval ⟨some d, .makeSlice T x y, ty, pos, aft, gd⟩).run P w = .ok (.value (.slice (some ⟨w.heap.size, 0, none⟩) n n)) (w.alloc (.cells (Y2 zs n).toArray e)) := by
  simp only [execOp, Sem.run_bind, Y6 hq.1, Y6 hq.2.1, hm, hm', he]; rfl
 unfold Oper.wp
 rw [hrun, Oper.upon_value]
 refine hK _ _ (Vk (X5o hs.1 _ e (0, 0)) hs.2.1 hs.2.2.1 (fun t => X22 (g := g) (g' := g.lay w.heap.size (Y2 zs n).toArray) hle rfl rfl rfl (hs.2.2.2 t)) ?_ hok.2.2.2)
 have hlen : ∀ x ∈ List.replicate n (zD zs), x.length = sz := fun x hx => by rw [(List.mem_replicate.1 hx).2, X2U, hzl]
 have hs1 := X43 (g := g) h1 n
 have := X4Z (g := g) (w := w) (vs := (Y2 zs n).toArray) (cap := n) hlen (by
  have hl := Yf hs1
  rw [List.length_map, Uk _ hlen] at hl
  rw [List.take_of_length_le (by simpa using Nat.le_of_eq hl)]; exact hs1) hle (by simp) (by unfold maxLen; omega)
 rwa [List.length_replicate] at this
theorem X8X {T : TypeId} {sz bytes n γ : Nat} {k1 k2 : IntKind} {x y : Operand} {m m' : Int} {zs : List Value} (hx : S.ev x = .d (.v (.int k1 m))) (hy : S.ev y = .d (.v (.int k2 m'))) (hm : m = (n : Nat)) (hm' : m' = (n : Nat))
  (hz : Uc P T = some zs) (hB : elB P T = bytes) (hS : zs.length = sz) (hT : UQ P T sz bytes = true) (h1 : YJ zs = true) (hl : Nat.beq zs.length sz = true) (hroom : n * bytes ≤ 281474976710656) (hn : n < 9223372036854775808) (hdead : S.obj γ = .dead) (hf : S.free γ = true) (hd : Nat.blt d S.n = true) (hg : Xb ops S gd)
  (h : Walk P ops draw K rest ((l.length, ⟨some d, .makeSlice T x y, ty, pos, aft, gd⟩, ⟨Xa ops gd ++ [(x, .d (.v (.int k1 m))), (y, .d (.v (.int k2 m')))], some (d, .own γ n), [(γ, .dead)], [(γ, .row sz (List.replicate n (zD zs)))], [γ]⟩) :: l) ((S.set d (.own γ n)).own γ (.row sz (List.replicate n (zD zs))))) :
  Walk P ops draw K (⟨some d, .makeSlice T x y, ty, pos, aft, gd⟩ :: rest) l S := by
 refine Xw ⟨[(x, .d (.v (.int k1 m))), (y, .d (.v (.int k2 m')))], some (d, .own γ n), [(γ, .dead)], [(γ, .row sz (List.replicate n (zD zs)))], [γ]⟩ (Vw rfl fun E S g a w hs hq hl' hn' => ?_) hg ⟨⟨hx, hy, trivial⟩, ⟨hdead, trivial⟩, ⟨hf, trivial⟩, hd⟩ h
 obtain ⟨e, he⟩ := X3T (P := P) hT hz (by simpa using hroom) (by simpa using hn) k1 k2 w
 have hzl : zs.length = sz := by simpa using hl
 have hlen : ∀ x ∈ List.replicate n (zD zs), x.length = sz := fun x hx => by rw [(List.mem_replicate.1 hx).2, X2U, hzl]
 have hs1 := X43 (g := g) h1 n
 have hl1 := Yf hs1
 rw [List.length_map, Uk _ hlen, List.length_replicate] at hl1
 have hinv := X3U hs.1 γ hn'.1 hl'.1 (vs := (Y2 zs n).toArray) (e := e) (fr := (0, 0)) (cap := n) hlen (by
  rw [List.take_of_length_le (by simp only [List.length_replicate]; omega)]; exact hs1) (by simp) (by unfold maxLen; omega) (by simp only [List.size_toArray]; omega) (X0O _)
 rw [List.length_replicate] at hinv
 exact ⟨_, _, _, by simp only [execOp, Sem.run_bind, Y6 hq.1, Y6 hq.2.1, hm, hm', he]; rfl, X3N (w := w), hinv, X0s hn'.1 hs.2.2.2⟩
def X31 (S : St) : Option Operand → Nat → Prop
 | none, l => l = 0
 | some x, l => S.ev x = ai l
def X2D (S : St) (len : Nat) : Option Operand → Nat → Prop
 | none, h => h = len
 | some x, h => S.ev x = ai h
def UC : Option Operand → Nat → List (Operand × AVal)
 | none, _ => []
 | some x, n => [(x, ai n)]
theorem X3L {g : Gh} {a : Act} : ∀ {l m : List (Operand × AVal)}, U4 g a (l ++ m) ↔ U4 g a l ∧ U4 g a m
 | [], m => by simp [U4]
 | p :: r, m => by simp [U4, X3L, and_assoc]
theorem Xbu {S : St} {l m : List (Operand × AVal)} : U8 S (l ++ m) ↔ U8 S l ∧ U8 S m := by
 simp only [UX, List.mem_append]
 exact ⟨fun h => ⟨fun p hp => h p (.inl hp), fun p hp => h p (.inr hp)⟩, fun h p hp => hp.elim (h.1 p) (h.2 p)⟩
theorem X9s {g : Gh} {a : Act} {lo hi : Option Operand} {l h len cap : Nat} {isSl : Bool} (h1 : lo = none → l = 0) (h2 : hi = none → h = len) (hlo : U4 g a (UC lo l)) (hhi : U4 g a (UC hi h)) (hlh : l ≤ h) (hc : h ≤ cap) (w : World) :
  (Instr.sliceBounds isSl len cap (lo.map a.eval) (hi.map a.eval) none).run P w = .ok (l, h, cap) w := by
 cases lo with
 | none =>
  have := h1 rfl; subst this
  cases hi with
  | none => have := h2 rfl; subst this; simp [Instr.sliceBounds]
  | some y =>
   have e2 := Y6 hhi.1
   simp [Instr.sliceBounds, e2, run_sliceBound, hc]
 | some x =>
  have e1 := Y6 hlo.1
  cases hi with
  | none => have := h2 rfl; subst this; simp [Instr.sliceBounds, e1, run_sliceBound, hlh]
  | some y =>
   have e2 := Y6 hhi.1
   simp [Instr.sliceBounds, e1, e2, run_sliceBound, hlh, hc]
theorem X6w {S : St} {lo : Option Operand} {l : Nat} (h : ∀ x, lo = some x → S.ev x = ai l) : U8 S (UC lo l) := by
 cases lo with
 | none => trivial
 | some x => exact ⟨h x rfl, trivial⟩
theorem Xah {T : TypeId} {x : Operand} {lo hi : Option Operand} {sz lb hb : Nat} {xs : List (List D)} (hx : S.ev x = .d (.sl sz xs)) (hlo : X31 S lo lb) (hhi : X2D S xs.length hi hb) (hlh : lb ≤ hb) (hh : hb ≤ xs.length)
  (hT : U0 P T sz = true) (hd : Nat.blt d S.n = true) (hg : Xb ops S gd)
  (h : Walk P ops draw K rest ((l.length, ⟨some d, .slice T x lo hi none, ty, pos, aft, gd⟩, ⟨Xa ops gd ++ ((x, .d (.sl sz xs)) :: (UC lo lb ++ UC hi hb)), some (d, .d (.sl sz ((xs.take hb).drop lb))), [], [], []⟩) :: l) (S.set d (.d (.sl sz ((xs.take hb).drop lb))))) :
  Walk P ops draw K (⟨some d, .slice T x lo hi none, ty, pos, aft, gd⟩ :: rest) l S := by
 refine Xw ⟨(x, .d (.sl sz xs)) :: (UC lo lb ++ UC hi hb), some (d, .d (.sl sz ((xs.take hb).drop lb))), [], [], []⟩ (XS rfl fun E S g a w hs hq hl => ?_) hg
  ⟨⟨hx, Xbu.2 ⟨X6w fun y e => by subst e; exact hlo, X6w fun y e => by subst e; exact hhi⟩⟩, trivial, trivial, hd⟩ h
 obtain ⟨e, h1, h2, h3⟩ := X12 hT
 obtain ⟨hq1, hq2⟩ := hq
 rw [X3L] at hq2
 simp only [AVal.sat, D.rep] at hq1
 obtain ⟨b, cap, hv, c1, c2, c3⟩ := hq1
 have hbd := X9s (P := P) (isSl := true) (len := xs.length) (cap := cap) (fun e => by subst e; exact hlo) (fun e => by subst e; exact hhi) hq2.1 hq2.2 hlh (Nat.le_trans hh c1) w
 have hrun := run_slice_any (P := P) w T b xs.length cap (by rw [h3]; exact h1) (lo.map a.eval) (hi.map a.eval) none
 rw [hbd, Result.andThen_ok, h3, h2 w, Result.andThen_ok] at hrun
 have hat : (Instr.sliceAt T (.slice b xs.length cap) (lo.map a.eval) (hi.map a.eval) none) = Instr.slice T (.slice b xs.length cap) (lo.map a.eval) (hi.map a.eval) none ∨ True := .inr trivial
 refine ⟨sliced b lb hb cap sz, ?_, ?_⟩
 ·simp only [execOp, hv, Instr.sliceAt, Sem.run_bind, run_underlying h1, Result.andThen_ok, Option.map_none, hrun]; rfl
 ·simp only [AVal.sat, D.rep, sliced]
  have hlen : ((xs.take hb).drop lb).length = hb - lb := by simp; omega
  refine ⟨if cap = lb then b else b.map fun p => p.add (lb * sz), cap - lb, by rw [hlen], by omega, by omega, ?_⟩
  rcases c3 with rfl | ⟨b', o, rfl, hr⟩
  ·left; simp
  ·by_cases hem : (xs.take hb).drop lb = []
   ·exact .inl hem
   ·right
    have hne : cap ≠ lb := by
     intro e
     apply hem
     apply List.eq_nil_of_length_eq_zero
     omega
    refine ⟨b', o + lb * sz, ?_, X9L (Xaj hr hb) lb⟩
    rw [if_neg hne, Option.map_some, Yx]
theorem X79 {xt yt : TypeId} {x : Operand} {sz : Nat} {xs : List (List D)} (hx : S.ev x = .d (.sl sz xs)) (ht : isSl P xt = true) (hd : Nat.blt d S.n = true) (hg : Xb ops S gd)
  (h : Walk P ops draw K rest ((l.length, ⟨some d, .binOp .eql xt x (.const (.slice none 0 0)) yt, ty, pos, aft, gd⟩, ⟨Xa ops gd ++ [(x, .d (.sl sz xs))], some (d, .bq (xs = []) True), [], [], []⟩) :: l) (S.set d (.bq (xs = []) True))) :
  Walk P ops draw K (⟨some d, .binOp .eql xt x (.const (.slice none 0 0)) yt, ty, pos, aft, gd⟩ :: rest) l S :=
 Xw ⟨[(x, .d (.sl sz xs))], some (d, .bq (xs = []) True), [], [], []⟩ (XS rfl fun E S g a w hs hq hl => by
  have hq1 := hq.1
  simp only [AVal.sat, D.rep] at hq1
  obtain ⟨b, cap, hv, c1, c2, c3⟩ := hq1
  refine ⟨.bool b.isNone, ?_, ?_⟩
  ·obtain ⟨e, he⟩ := X2B ht
   have e1 : eqGuard .eql xt x (.const (.slice none 0 0)) (.slice b xs.length cap) (.slice none 0 0) = pure () := eqGuard_at_slice _ _ _ _ _ _ _ _
   simp only [execOp, hv, show a.eval (.const (.slice none 0 0)) = .slice none 0 0 from rfl, e1, Sem.run_bind, Sem.run_pure, Result.andThen_ok, Lib.run_eql_slice_nil w xt e b xs.length cap 0 0 he]
  ·simp only [AVal.sat]
   refine ⟨b.isNone, rfl, fun h => ?_, fun _ => trivial⟩
   rcases c3 with h' | ⟨b', o, rfl, _⟩
   ·exact h'
   ·simp at h) hg ⟨⟨hx, trivial⟩, trivial, trivial, hd⟩ h
end
theorem Xe {S : St} (t : Nat) {y : AVal} (h : (S.get t).le y) : S.le (S.set t (y)) := by
 rintro E a w ⟨g, hs⟩
 refine X0U hs hs.1 rfl fun k => ?_
 by_cases hk : k = t
 ·subst hk
  show AVal.sat _ (Xd .any ((k, _) :: S.τ) k) _
  rw [Yr]; exact h g _ (hs.2.2.2 k)
 ·show AVal.sat _ (Xd .any ((t, _) :: S.τ) k) _
  rw [Yu _ _ _ (Ne.symm hk)]; exact hs.2.2.2 k
end Go.Fw
namespace Go.Fw
open Go
set_option linter.unusedVariables false
set_option linter.unusedSimpArgs false
section
variable {P : Program} {ops : Array Oper} {draw : Bool} {K : St → Prop} {rest : List Oper} {l : XJ} {S : St}
variable {d : Nat} {ty : TypeId} {pos : String} {aft : Array Edge} {gd : Option (Nat × Bool)}
theorem X2j {sz : Nat} : ∀ (zs : List (List D)) (n : Nat), (∀ z ∈ zs, z.length = sz) → n ≤ zs.length → (zs.take n).flatten = zs.flatten.take (n * sz) ∧ (zs.drop n).flatten = zs.flatten.drop (n * sz)
 | [], n, _, hn => by simp at hn; subst hn; simp
 | z :: zs, 0, _, _ => by simp
 | z :: zs, n + 1, hz, hn => by
  have hzl := hz z (by simp)
  obtain ⟨i1, i2⟩ := X2j zs n (fun q hq => hz q (by simp [hq])) (by simpa using hn)
  have e : (n + 1) * sz = z.length + n * sz := by rw [hzl, Nat.add_mul]; omega
  constructor
  ·rw [List.take_succ_cons, List.flatten_cons, List.flatten_cons, i1, e, List.take_length_add_append]
  ·rw [List.drop_succ_cons, List.flatten_cons, i2, e, List.drop_length_add_append]
theorem X5P {α : Type} {A N : List α} {a m L : Nat} (hN : N.length = m) (h1 : a + m ≤ L) (h2 : L ≤ A.length) :
  (A.take a ++ N ++ A.drop (a + m)).take L = (A.take L).take a ++ N ++ (A.take L).drop (a + m) := by
 apply List.ext_getElem?
 intro j
 simp only [List.getElem?_take, List.getElem?_append, List.getElem?_drop, List.length_append, List.length_take, hN]
 have e1 : min a A.length = a := by omega
 have e2 : min a (min L A.length) = a := by omega
 rw [e1, e2]
 by_cases c0 : j < L
 ·by_cases c1 : j < a
  ·simp [c0, c1, show j < a + m by omega]
  ·by_cases c2 : j < a + m
   ·simp [c0, c1, c2]
   ·simp [c0, c2, show a + m + (j - (a + m)) < L by omega]
 ·simp [c0, show ¬ j < a + m by omega, show ¬ a + m + (j - (a + m)) < L by omega]
theorem X6T {P : Program} {g : Gh} {w : World} {h : Value} {sz m k : Nat} {xs ys : List (List D)} (hr : U3 g w h sz xs) (hm : k + m ≤ xs.length) (hyl : ∀ y ∈ ys, y.length = sz) (hym : ys.length = m) {news : Array Value} (hns : news.size = m * sz) (hsat : Xc g (ys.flatten.map .d) news.toList) :
  ∃ w', (match h with | .slice (some a) _ _ => (storeCells (a.add (k * sz)) news.toList).run P w | _ => .ok () w) = .ok () w' ∧ U3 g w' h sz (xs.take k ++ ys ++ xs.drop (k + m)) ∧
   (∀ b, ¬ US h b → w'.heap[b]? = w.heap[b]?) ∧ w'.heap.size = w.heap.size ∧ w'.os = w.os ∧ w'.output = w.output := by
 have hlen' : ∀ r ∈ xs.take k ++ ys ++ xs.drop (k + m), r.length = sz := by
  intro r hrr
  simp only [List.mem_append] at hrr
  rcases hrr with (h | h) | h
  ·exact hr.1 r (List.mem_of_mem_take h)
  ·exact hyl r h
  ·exact hr.1 r (List.mem_of_mem_drop h)
 have hll : (xs.take k ++ ys ++ xs.drop (k + m)).length = xs.length := by simp [hym]; omega
 rcases hr.2 with ⟨rfl, rfl⟩ | ⟨b, cap, vs, e, fr, rfl, h2, h3, h4, h5, h6, h7⟩
 ·have : m = 0 ∧ k = 0 := by simpa [Nat.add_comm] using hm
  obtain ⟨rfl, rfl⟩ := this
  have : ys = [] := List.eq_nil_of_length_eq_zero hym
  subst this
  exact ⟨w, rfl, ⟨by simp, .inl ⟨rfl, by simp⟩⟩, fun _ _ => rfl, rfl, rfl, rfl⟩
 ·have hfx := Uk xs hr.1
  have hfy := Uk ys hyl
  have hbnd : k * sz + m * sz ≤ vs.size := by
   rw [← Nat.add_mul]
   exact Nat.le_trans (Nat.mul_le_mul_right _ (Nat.le_trans hm h2)) h6
  obtain ⟨vs', k1, k2⟩ := X0I (P := P) b e fr vs.size h5 news.toList (k * sz) 0 vs w h4 rfl (by simp [hns]; omega) (fun u hu => by
   obtain ⟨j, hj, rfl⟩ := List.getElem_of_mem hu
   have hjl : j < ys.flatten.length := by rw [hfy, hym, ← hns]; simpa using hj
   obtain ⟨_, hrep⟩ := X0y hsat
   obtain ⟨u, hu1, hu2⟩ := hrep j _ (List.getElem?_eq_getElem hjl)
   rw [List.getElem?_eq_getElem hj] at hu1; cases hu1
   exact D.rep_one hu2)
  simp only [Nat.add_zero, Array.length_toList, hns] at k2
  have hvs' : vs'.size = vs.size := by
   have := congrArg List.length k2
   simp [hns] at this; omega
  refine ⟨w.setRow b vs', ?_, ⟨hlen', .inr ⟨b, cap, vs', e, fr, by rw [hll], by rw [hll]; exact h2, h3, setRow_heap w b vs _ e fr h4, by rw [hvs']; exact h5, by rw [hvs']; exact h6, ?_⟩⟩, fun c hc => setRow_other w b c vs' (fun e => hc (by rw [e]; exact ⟨_, _, _, rfl, rfl⟩)), by simp, rfl, rfl⟩
  ·simp only [Yx, Nat.zero_add]; exact k1
  ·rw [hll]
   have hxt : (vs.toList.take (xs.length * sz)).length = xs.length * sz := by have := Yf h7; simp only [List.length_map, hfx] at this; exact this
   have hle : k * sz + m * sz ≤ xs.length * sz := by rw [← Nat.add_mul]; exact Nat.mul_le_mul_right _ hm
   have e1 : vs'.toList.take (xs.length * sz) = (vs.toList.take (xs.length * sz)).take (k * sz) ++ news.toList ++ (vs.toList.take (xs.length * sz)).drop (k * sz + m * sz) := by
    rw [k2]
    exact X5P (by simp [hns]) hle (by simp at hxt ⊢; omega)
   rw [e1]
   have e2 : (xs.take k ++ ys ++ xs.drop (k + m)).flatten = xs.flatten.take (k * sz) ++ ys.flatten ++ xs.flatten.drop (k * sz + m * sz) := by
    obtain ⟨t1, _⟩ := X2j xs k hr.1 (by omega)
    obtain ⟨_, t2⟩ := X2j xs (k + m) hr.1 hm
    rw [List.flatten_append, List.flatten_append, t1, t2, Nat.add_mul]
   rw [e2, List.map_append, List.map_append, List.map_take, List.map_drop]
   exact UO (UO (VI h7 _) hsat) (VP h7 _)
theorem Xb4 {x y : Operand} {tys : Array TypeId} {k : IntKind} {a b : Int} (hx : S.ev x = .d (.v (.int k a))) (hy : S.ev y = .d (.v (.int k b))) (hd : Nat.blt d S.n = true) (hg : Xb ops S gd)
  (h : Walk P ops draw K rest ((l.length, ⟨some d, .call ⟨.builtin .max, #[x, y], tys⟩, ty, pos, aft, gd⟩, ⟨Xa ops gd ++ [(x, .d (.v (.int k a))), (y, .d (.v (.int k b)))], some (d, .d (.v (.int k (max a b)))), [], [], []⟩) :: l) (S.set d (.d (.v (.int k (max a b)))))) :
  Walk P ops draw K (⟨some d, .call ⟨.builtin .max, #[x, y], tys⟩, ty, pos, aft, gd⟩ :: rest) l S :=
 Xw ⟨[(x, .d (.v (.int k a))), (y, .d (.v (.int k b)))], some (d, .d (.v (.int k (max a b)))), [], [], []⟩ (XS rfl fun E S g act w hs hq hl => by
  refine ⟨_, ?_, UI rfl⟩
  have e : (if b > a then b else a) = max a b := by
   by_cases h : b > a <;> simp [h] <;> omega
  simp [execOp, resolve, invoke, builtin, Builtin.max_, Builtin.max2, Y6 hq.1, Y6 hq.2.1]
  omega) hg ⟨⟨hx, hy, trivial⟩, trivial, trivial, hd⟩ h
end
end Go.Fw
namespace Go.Fw
open Go
set_option linter.unusedVariables false
set_option linter.unusedSimpArgs false
mutual
def AVal.ren (ρ : Nat → Nat) : AVal → AVal
 | .any => .any
 | .d x => .d x
 | .ptr γ o => .ptr (ρ γ) o
 | .own γ n => .own (ρ γ) n
 | .rptr γ n o => .rptr (ρ γ) n o
 | .inn γ i => .inn (ρ γ) i
 | .bsl γ n => .bsl (ρ γ) n
 | .mptr γ n i => .mptr (ρ γ) n i
 | .cut γ n k sz => .cut (ρ γ) n k sz
 | .dptr row => .dptr row
 | .bq p q => .bq p q
 | .agg cs => .agg (YV ρ cs)
 | .tup cs => .tup (YV ρ cs)
 | .fn f cs => .fn f (YV ρ cs)
def YV (ρ : Nat → Nat) : List AVal → List AVal
 | [] => []
 | x :: r => x.ren ρ :: YV ρ r
end
def AObj.ren (ρ : Nat → Nat) : AObj → AObj
 | .dead => .dead
 | .box cs => .box (YV ρ cs)
 | .row sz xs => .row sz xs
 | .froz sz xs => .froz sz xs
 | .mat sz rows => .mat sz rows
 | .iter s p => .iter s p
 | .imap es => .imap es
def U2 (ρ : Nat → Nat) : List (Nat × AObj) → List (Nat × AObj)
 | [] => []
 | (k, o) :: r => (ρ k, o.ren ρ) :: U2 ρ r
def Gh.pull (g : Gh) (ρ : Nat → Nat) : Gh := { blk := fun k => g.blk (ρ k), hd := fun k => g.hd (ρ k), ihd := fun k => g.ihd (ρ k), M := g.M }
mutual
theorem X44 {g : Gh} {ρ : Nat → Nat} : ∀ (x : AVal) (u : Value), (x.ren ρ).sat g u ↔ x.sat (g.pull ρ) u
 | .any, _ => by simp only [AVal.ren, AVal.sat]
 | .d x, _ => by simp only [AVal.ren, AVal.sat, Gh.pull]
 | .ptr γ o, _ => by simp only [AVal.ren, AVal.sat, Gh.pull]
 | .own γ n, _ => by simp only [AVal.ren, AVal.sat, Gh.pull]
 | .rptr γ n o, _ => by simp only [AVal.ren, AVal.sat, Gh.pull]
 | .inn γ i, _ => by simp only [AVal.ren, AVal.sat, Gh.pull]
 | .bsl γ n, _ => by simp only [AVal.ren, AVal.sat, Gh.pull]
 | .mptr γ n i, _ => by simp only [AVal.ren, AVal.sat, Gh.pull]
 | .cut γ n k sz, _ => by simp only [AVal.ren, AVal.sat, Gh.pull]
 | .dptr row, _ => by simp only [AVal.ren, AVal.sat, Gh.pull]
 | .bq p q, _ => by simp only [AVal.ren, AVal.sat]
 | .agg cs, u => by simp only [AVal.ren, AVal.sat, VG cs]
 | .tup cs, u => by simp only [AVal.ren, AVal.sat, VG cs]
 | .fn f cs, u => by simp only [AVal.ren, AVal.sat, VG cs]
theorem VG {g : Gh} {ρ : Nat → Nat} : ∀ (xs : List AVal) (us : List Value), Xc g (YV ρ xs) us ↔ Xc (g.pull ρ) xs us
 | [], [] => by simp only [YV, Xc]
 | [], _ :: _ => by simp only [YV, Xc]
 | _ :: _, [] => by simp only [YV, Xc]
 | x :: xs, u :: us => by simp only [YV, Xc, X44 x u, VG xs us]
end
theorem X3M {ρ : Nat → Nat} : ∀ (cs : List AVal), (∀ c ∈ cs, c.cellish = true) ↔ ∀ c ∈ YV ρ cs, c.cellish = true
 | [] => by simp [YV]
 | c :: r => by
  simp only [YV, List.mem_cons, forall_eq_or_imp, ← X3M r]
  refine and_congr_left fun _ => ?_
  cases c <;> simp [AVal.ren, AVal.cellish]
theorem X8m {g : Gh} {ρ : Nat → Nat} {l : List D} {us : List Value} : Xc (g.pull ρ) (l.map .d) us ↔ Xc g (l.map .d) us := by
 have h : YV ρ (l.map .d) = l.map .d := by
  induction l with
  | nil => rfl
  | cons x r ih => simp [YV, AVal.ren, ih]
 rw [← VG, h]
theorem X6Q {g : Gh} {ρ : Nat → Nat} {w : World} {h : Value} {sz : Nat} {xs : List (List D)} : U3 (g.pull ρ) w h sz xs ↔ U3 g w h sz xs := by
 simp only [U3, X8m]
theorem X6s {g : Gh} {ρ : Nat → Nat} {w : World} {γ : Nat} (o : AObj) : Ys g w (ρ γ) (o.ren ρ) ↔ Ys (g.pull ρ) w γ o := by
 cases o with
 | dead => exact Iff.rfl
 | box cs => simp only [AObj.ren, Ys, VG, ← X3M cs]; rfl
 | row sz xs => simp only [AObj.ren, Ys]; exact X6Q.symm
 | froz sz xs => exact Iff.rfl
 | iter s p => exact Iff.rfl
 | imap es => exact Iff.rfl
 | mat sz rows => simp only [AObj.ren, Ys, X2V, X6Q]; rfl
theorem X2Q {g : Gh} {ρ : Nat → Nat} {γ b : Nat} (o : AObj) : Xv g (o.ren ρ) (ρ γ) b ↔ Xv (g.pull ρ) o γ b := by
 cases o <;> exact Iff.rfl
theorem VZ {ρ σ : Nat → Nat} (h1 : ∀ k, σ (ρ k) = k) : ∀ (L : List (Nat × AObj)) (γ : Nat), Xd .dead (U2 ρ L) (ρ γ) = (Xd .dead L γ).ren ρ
 | [], γ => rfl
 | (k, o) :: r, γ => by
  simp only [U2]
  by_cases h : k = γ
  ·subst h; rw [Yr, Yr]
  ·rw [Yu _ _ _ h, Yu _ _ _ (fun e => h (by rw [← h1 k, ← h1 γ, e])), VZ h1 r γ]
theorem X5S {ρ σ : Nat → Nat} (h1 : ∀ k, σ (ρ k) = k) : ∀ (L : List (Nat × AObj)) (γ : Nat), Xh (ρ γ) (U2 ρ L) = Xh γ L
 | [], γ => rfl
 | (k, o) :: r, γ => by
  simp only [U2, Xh, X5S h1 r γ]
  congr 1
  rw [Bool.eq_iff_iff]
  simp only [Nat.beq_eq]
  exact ⟨fun e => by rw [← h1 k, ← h1 γ, e], fun e => by rw [e]⟩
theorem X6C {E : Env} {ρ σ : Nat → Nat} (h1 : ∀ k, σ (ρ k) = k) (h2 : ∀ k, ρ (σ k) = k) {L : List (Nat × AObj)} {g : Gh} {w : World} {g0 : Gh} :
  Inv { E with g0 := g } (Xd .dead (U2 ρ L)) g w ↔ Inv { E with g0 := g.pull ρ } (Xd .dead L) (g.pull ρ) w := by
 have hlv : ∀ γ b, Xv g (Xd .dead (U2 ρ L) (ρ γ)) (ρ γ) b ↔ Xv (g.pull ρ) (Xd .dead L γ) γ b := fun γ b => by rw [VZ h1]; exact X2Q _
 constructor
 ·intro hi
  refine ⟨fun γ => ?_, fun γ γ' b h h' => ?_, hi.mem, fun γ b h => hi.sep (ρ γ) b ((hlv _ _).2 h), fun γ b h => hi.new (ρ γ) b ((hlv _ _).2 h), hi.ext, hi.lim, hi.frame, hi.size, hi.os, hi.out, fun _ _ => Gh.keeps_refl _ _⟩
  ·have := hi.obj (ρ γ); rw [VZ h1] at this; exact (X6s _).1 this
  ·have := hi.inj (ρ γ) (ρ γ') b ((hlv _ _).2 h) ((hlv _ _).2 h')
   rw [← h1 γ, ← h1 γ', this]
 ·intro hi
  have hs : ∀ γ b, Xv g (Xd .dead (U2 ρ L) γ) γ b → Xv (g.pull ρ) (Xd .dead L (σ γ)) (σ γ) b := fun γ b h => by
   have := (hlv (σ γ) b).1; rw [h2] at this; exact this h
  refine ⟨fun γ => ?_, fun γ γ' b h h' => ?_, hi.mem, fun γ b h => hi.sep (σ γ) b (hs _ _ h), fun γ b h => hi.new (σ γ) b (hs _ _ h), hi.ext, hi.lim, hi.frame, hi.size, hi.os, hi.out, fun _ _ => Gh.keeps_refl _ _⟩
  ·have := hi.obj (σ γ)
   rw [← X6s (ρ := ρ), ← VZ h1, h2] at this
   exact this
  ·have := hi.inj (σ γ) (σ γ') b (hs _ _ h) (hs _ _ h')
   rw [← h2 γ, ← h2 γ', this]
theorem XbD {g g' : Gh} {ρ : Nat → Nat} {γ : Nat} : (g.pull ρ).keeps (g'.pull ρ) γ ↔ g.keeps g' (ρ γ) := Iff.rfl
theorem Xbv {P : Program} {f : FuncId} {Li Lo : List (Nat × AObj)} {args : List AVal} {res : AVal} (ρ σ : Nat → Nat) (h1 : ∀ k, σ (ρ k) = k) (h2 : ∀ k, ρ (σ k) = k) (h : Con P f Li args Lo res) :
  Con P f (U2 ρ Li) (YV ρ args) (U2 ρ Lo) (res.ren ρ) := by
 intro g w vs hi hs
 have hA : ∀ b, (∃ γ, Xv g (Xd .dead (U2 ρ Li) γ) γ b) ↔ ∃ γ, Xv (g.pull ρ) (Xd .dead Li γ) γ b := by
  intro b
  constructor
  ·rintro ⟨γ, hγ⟩
   refine ⟨σ γ, ?_⟩
   rw [← h2 γ, VZ h1, X2Q] at hγ
   exact hγ
  ·rintro ⟨γ, hγ⟩
   refine ⟨ρ γ, ?_⟩
   rw [VZ h1, X2Q]; exact hγ
 have hE : YP (g.pull ρ) w Li = { YP g w (U2 ρ Li) with g0 := g.pull ρ } := by
  simp only [YP, Env.mk.injEq, true_and, and_true]
  exact ⟨rfl, funext fun b => propext (hA b).symm⟩
 have hi' : Inv (YP (g.pull ρ) w Li) (Xd .dead Li) (g.pull ρ) w := by
  rw [hE]; exact (X6C (g0 := g) h1 h2).1 hi
 refine (h (g.pull ρ) w vs hi' ((VG _ _).1 hs)).mono ?_
 rintro e w' ⟨v, g', rfl, hv, hi2, hk⟩
 have hgp : (g'.pull σ).pull ρ = g' := by simp only [Gh.pull, h1]
 refine ⟨v, g'.pull σ, rfl, (X44 _ _).2 (by rw [hgp]; exact hv), ?_, fun γ hγ => ?_⟩
 ·refine (X6C (E := YP g w (U2 ρ Li)) (g0 := g) h1 h2).2 ?_
  rw [hgp]
  have : ({ YP (g.pull ρ) w Li with g0 := g' } : Env) = { YP g w (U2 ρ Li) with g0 := g' } := by rw [hE]
  rw [← this]; exact hi2
 ·have hγ' : Xh (σ γ) Li = true := by rw [← X5S h1, h2]; exact hγ
  have := hk (σ γ) hγ'
  rw [← hgp, XbD, h2] at this
  exact this
def swp (a b k : Nat) : Nat := bif Nat.beq k a then b else bif Nat.beq k b then a else k
theorem X4M (a b k : Nat) : swp a b (swp a b k) = k := by
 simp only [swp]
 by_cases h1 : k = a
 ·subst h1
  by_cases h2 : b = k
  ·subst h2; simp
  ·have : Nat.beq b k = false := by cases h : Nat.beq b k with | false => rfl | true => exact absurd (Nat.eq_of_beq_eq_true h) h2
   simp [this]
 ·have e1 : Nat.beq k a = false := by cases h : Nat.beq k a with | false => rfl | true => exact absurd (Nat.eq_of_beq_eq_true h) h1
  by_cases h2 : k = b
  ·subst h2; simp [e1]
  ·have e2 : Nat.beq k b = false := by cases h : Nat.beq k b with | false => rfl | true => exact absurd (Nat.eq_of_beq_eq_true h) h2
   simp [e1, e2]
theorem X8k {P : Program} {f : FuncId} {Li Lo : List (Nat × AObj)} {args : List AVal} {res : AVal} (a b : Nat) (h : Con P f Li args Lo res) :
  Con P f (U2 (swp a b) Li) (YV (swp a b) args) (U2 (swp a b) Lo) (res.ren (swp a b)) :=
 Xbv _ _ (X4M a b) (X4M a b) h
section
variable {P : Program} {ops : Array Oper} {draw : Bool} {K : St → Prop} {rest : List Oper} {l : XJ} {S : St}
variable {d : Nat} {ty : TypeId} {pos : String} {aft : Array Edge} {gd : Option (Nat × Bool)}
theorem X8H {t : Tmp} {f : FuncId} {caps : List AVal} {args : Array Operand} {tys : Array TypeId} {xs : List Operand} {ys zs : List AVal} {Li Lo : List (Nat × AObj)} {res : AVal}
  (ht : S.ev (.tmp t) = .fn f caps) (hxs : args.toList = xs) (hys : evA S xs = ys) (hle : leL (ys ++ caps) zs) (hcon : Con P f Li zs Lo res) (hf : X0r P f = true)
  (hLi : Y9 S Li) (hin : Vm Li Lo = true) (hbox : UB Lo Lo = true) (hres : res.within Lo = true) (hnew : Uy S (Y5 Li Lo)) (hdead : Y9 S (Us (Y5 Li Lo)))
  (hd : Nat.blt d S.n = true) (hg : Xb ops S gd)
  (h : Walk P ops draw K rest ((l.length, ⟨some d, .call ⟨.value (.tmp t), args, tys⟩, ty, pos, aft, gd⟩, ⟨Xa ops gd ++ ((.tmp t, .fn f caps) :: Vc xs ys), some (d, res), Li ++ Us (Y5 Li Lo), Lo, Y5 Li Lo⟩) :: l)
   ((S.set d res).cat Lo)) :
  Walk P ops draw K (⟨some d, .call ⟨.value (.tmp t), args, tys⟩, ty, pos, aft, gd⟩ :: rest) l S := by
 have hap : ∀ (A B : List (Nat × AObj)) (T : St), Y9 T (A ++ B) ↔ Y9 T A ∧ Y9 T B := by
  intro A B T
  simp only [V2, List.mem_append]
  exact ⟨fun h => ⟨fun p hp => h p (.inl hp), fun p hp => h p (.inr hp)⟩, fun h p hp => hp.elim (h.1 p) (h.2 p)⟩
 have hlen : ys.length = xs.length := by
  rw [← hys]; clear hys hxs h hle
  induction xs with
  | nil => rfl
  | cons x r ih => simp [evA, ih]
 refine Xw ⟨(.tmp t, .fn f caps) :: Vc xs ys, some (d, res), Li ++ Us (Y5 Li Lo), Lo, Y5 Li Lo⟩ ?_ hg ⟨⟨ht, by rw [← hys]; exact X2M S xs⟩, (hap _ _ _).2 ⟨hLi, hdead⟩, hnew, hd⟩ h
 intro E S a w g hs hok Q K hK
 obtain ⟨ok1, ok2, ok3, ok4⟩ := hok
 rw [hap] at ok2
 obtain ⟨hq1, hq2⟩ := Vv hs _ ok1
 simp only [AVal.sat] at hq1
 obtain ⟨cv, hcv, hcs⟩ := hq1
 have hsat := X0H hle (UO (X2W hlen hq2) hcs)
 have hinv : Inv (YP g w Li) (Xd .dead Li) g w := by
  have hsub := V8 ok2.1
  have hl : ∀ γ b, Xv g (Xd .dead Li γ) γ b → Xv g (S.obj γ) γ b := by
   intro γ b hb
   rcases hsub γ with e | e
   ·rw [← e]; exact hb
   ·rw [e] at hb; exact hb.elim
  refine ⟨fun γ => ?_, fun γ γ' b k k' => hs.1.inj γ γ' b (hl _ _ k) (hl _ _ k'), hs.1.mem, fun γ b k => hs.1.sep γ b (hl _ _ k), fun γ b k => .inr ⟨γ, k⟩, XL.refl _, fun a v ha => .inl ⟨v, ha⟩, fun _ _ _ => rfl, Nat.le_refl _, rfl, rfl, fun γ _ => Gh.keeps_refl _ _⟩
  rcases hsub γ with e | e
  ·rw [e]; exact hs.1.obj γ
  ·rw [e]; trivial
 have hcall := hcon g w (xs.map a.eval ++ cv.toList) hinv hsat
 have hrun : (execOp a.eval ⟨some d, .call ⟨.value (.tmp t), args, tys⟩, ty, pos, aft, gd⟩).run P w = .ok (.enter f (xs.map a.eval ++ cv.toList).toArray) w := by
  have e1 : (#[] ++ args.map a.eval ++ cv : Array Value) = (xs.map a.eval ++ cv.toList).toArray := by
   apply Array.ext'; simp [← hxs]
  simp only [execOp, resolve, hcv, Deferred.ofValue, Sem.run_bind, Sem.run_pure, Result.andThen_ok, invoke]
  rw [X5L hf]
  congr 2
 unfold Oper.wp
 rw [hrun, Oper.upon_enter]
 refine hcall.mono ?_
 rintro e w' ⟨v, g', rfl, hv, hi', hk⟩
 obtain ⟨j1, j2, j3⟩ := X4j hs.1 ok2.1 hin hbox ok3 ok2.2 hi' hk
 exact hK _ _ (Vk j1 hs.2.1 hs.2.2.1 (fun t => j3 t _ (hs.2.2.2 t)) (j2 _ _ hres hv) ok4)
end
end Go.Fw
namespace Go.Fw
open Go
set_option linter.unusedVariables false
set_option linter.unusedSimpArgs false
theorem VJ {S : St} (β : Nat) {cs cs' : List AVal} (hb : S.obj β = .box cs) (hle : leL cs cs') (hc : Ue cs' = true) : S.le (S.own β (.box cs')) := by
 rintro E a w ⟨g, hs⟩
 have ho := hs.1.obj β
 rw [hb] at ho
 obtain ⟨vs, e, fr, h1, h2, h3, h4⟩ := ho
 have hi2 : Inv E (Xd .dead ((β, .box cs') :: S.L)) g w := by
  refine Inv.upd hs.1 β _ (Yr _ _ _ _) (fun k hk => Yu _ _ _ (Ne.symm hk)) (fun _ _ _ => rfl) (Nat.le_refl _) rfl rfl rfl (fun _ _ => ⟨rfl, rfl, rfl⟩) (fun _ _ _ _ _ h => h) ?_ (fun b hb' => .inl (by rw [hb]; exact hb')) (fun _ => Gh.keeps_refl _ _)
  exact ⟨vs, e, fr, h1, h2, X0H hle h3, (X0j _).1 hc⟩
 exact X0U hs hi2 rfl hs.2.2.2
def X6 (l : List UInt8) : ByteArray := ⟨l.toArray⟩
theorem VU (l : List UInt8) : (X6 l).toList = l := by
 rw [ByteArray.toList_eq]; simp [X6]
section
variable {P : Program} {ops : Array Oper} {draw : Bool} {K : St → Prop} {rest : List Oper} {l : XJ} {S : St}
variable {d : Nat} {ty : TypeId} {pos : String} {aft : Array Edge} {gd : Option (Nat × Bool)}
theorem X9w {t : TypeId} {x y : Operand} {a b : List UInt8} (w : World) : (do eqGuard .eql t x y (.string (X6 a)) (.string (X6 b)); binOp .eql t (.string (X6 a)) (.string (X6 b)) : Sem Value).run P w = .ok (.bool (decide (a = b))) w := by
 simp [go_sem, VU]; exact Bool.beq_eq_decide_eq a b
theorem Xam {t : TypeId} {x y : Operand} {a b : List UInt8} (w : World) : (do eqGuard .neq t x y (.string (X6 a)) (.string (X6 b)); binOp .neq t (.string (X6 a)) (.string (X6 b)) : Sem Value).run P w = .ok (.bool (decide (a ≠ b))) w := by
 simp [go_sem, VU]; exact Bool.beq_eq_decide_eq a b
end
end Go.Fw
namespace Go.Fw
open Go
set_option linter.unusedVariables false
set_option linter.unusedSimpArgs false
section
variable {P : Program} {ops : Array Oper} {draw : Bool} {K : St → Prop} {rest : List Oper} {l : XJ} {S : St}
variable {d : Nat} {ty : TypeId} {pos : String} {aft : Array Edge} {gd : Option (Nat × Bool)}
theorem X92 {x i : Operand} {T : TypeId} {γ n k : Nat} {kd : IntKind} {m : Int} {xs : List (List D)} (hx : S.ev x = .own γ n) (hL : S.obj γ = .row 1 xs) (hi : S.ev i = .d (.v (.int kd m))) (hn : n = xs.length) (hk : m = (k : Nat)) (hlt : k < xs.length)
  (hT : U0 P T 1 = true) (hd : Nat.blt d S.n = true) (hg : Xb ops S gd)
  (h : Walk P ops draw K rest ((l.length, ⟨some d, .indexAddr T x i, ty, pos, aft, gd⟩, ⟨Xa ops gd ++ [(x, .own γ n), (i, .d (.v (.int kd m)))], some (d, .rptr γ n k), [(γ, .row 1 xs)], [], []⟩) :: l) (S.set d (.rptr γ n k))) :
  Walk P ops draw K (⟨some d, .indexAddr T x i, ty, pos, aft, gd⟩ :: rest) l S :=
 Xw ⟨[(x, .own γ n), (i, .d (.v (.int kd m)))], some (d, .rptr γ n k), [(γ, .row 1 xs)], [], []⟩ (XS rfl fun E S g a w hs hq hl => by
  obtain ⟨e, h1, h2, h3⟩ := X12 hT
  have ho := hs.1.obj γ
  rw [hl.1] at ho
  have hv := X21 hq.1 ho hn
  rcases ho.2 with ⟨e, rfl⟩ | ⟨b, cap, vs, e', fr, hh, _⟩
  ·simp at hlt
  ·rw [hh] at hv
   refine ⟨.pointer (some ⟨b, k, none⟩), ?_, ?_⟩
   ·have hb : (0 : Int) ≤ m ∧ m < (xs.length : Int) := by omega
    have hm : m.toNat = k := by omega
    have := run_indexAt_slice (P := P) w T ⟨b, 0, none⟩ xs.length cap kd m (by rw [h3]; exact h1)
    rw [if_pos hb, h3, h2 w, Result.andThen_ok, Yx, hm, Nat.mul_one, Nat.zero_add] at this
    simp only [execOp, hv, Y6 hq.2.1, Sem.run_bind, this]; rfl
   ·simp only [AVal.sat]
    exact ⟨rfl, _, _, _, hh, by omega, fun _ => ⟨_, rfl, rfl⟩⟩) hg ⟨⟨hx, hi, trivial⟩, ⟨hL, trivial⟩, trivial, hd⟩ h
theorem Xap {xs : List (List D)} (h : ∀ x ∈ xs, x.length = 1) {k : Nat} {y : D} (hk : xs[k]? = some [y]) : xs.flatten[k]? = some y := by
 induction xs generalizing k with
 | nil => simp at hk
 | cons x xs ih =>
  obtain ⟨z, rfl⟩ : ∃ z, x = [z] := by
   have := h x (List.mem_cons_self ..)
   match x, this with
   | [z], _ => exact ⟨z, rfl⟩
  cases k with
  | zero => simp at hk; simp [hk]
  | succ k => simp at hk; simp [ih (fun x hx => h x (List.mem_cons_of_mem _ hx)) hk]
theorem X7n {t : TypeId} {x : Operand} {γ n k : Nat} {xs : List (List D)} {y : D} (hx : S.ev x = .rptr γ n k) (hL : S.obj γ = .row 1 xs) (hn : n = xs.length) (hy : xs[k]? = some [y])
  (ht : Yt P t false 1 = true) (hd : Nat.blt d S.n = true) (hg : Xb ops S gd)
  (h : Walk P ops draw K rest ((l.length, ⟨some d, .load t x, ty, pos, aft, gd⟩, ⟨Xa ops gd ++ [(x, .rptr γ n k)], some (d, .d y), [(γ, .row 1 xs)], [], []⟩) :: l) (S.set d (.d y))) :
  Walk P ops draw K (⟨some d, .load t x, ty, pos, aft, gd⟩ :: rest) l S :=
 Xw ⟨[(x, .rptr γ n k)], some (d, .d y), [(γ, .row 1 xs)], [], []⟩ (XS rfl fun E S g a w hs hq hl => by
  have ho := hs.1.obj γ
  rw [hl.1] at ho
  have hq1 := hq.1
  simp only [AVal.sat] at hq1
  obtain ⟨_, a', m, c, q1, q2, q3⟩ := hq1
  have hlt : k < xs.length := (List.getElem?_eq_some_iff.1 hy).1
  rcases ho.2 with ⟨e, rfl⟩ | ⟨b, cap, vs, e', fr, hh, k2, k3, k4, k5, k6, k7⟩
  ·simp at hlt
  ·rw [hh] at q1; cases q1
   obtain ⟨b', e1, e2⟩ := q3 hn
   cases e1
   obtain ⟨u, hu, hsu⟩ := Uq k7 k (.d y) (by rw [List.getElem?_map, Xap ho.1 hy]; rfl)
   have hc : w.cell? ⟨b, k, none⟩ = some u := by
    rw [cell_of_row w _ _ vs e' fr k4]
    rw [List.getElem?_take] at hu
    split at hu
    ·simpa using hu
    ·simp at hu
   refine ⟨u, ?_, hsu⟩
   simp [execOp, e2, Instr.loadAt, Instr.sureAddr, X1R ht hc]) hg ⟨⟨hx, trivial⟩, ⟨hL, trivial⟩, trivial, hd⟩ h
theorem Xby {t : TypeId} {x v : Operand} {γ n k : Nat} {xs : List (List D)} {y : D} (hx : S.ev x = .rptr γ n k) (hL : S.obj γ = .row 1 xs) (hv : S.ev v = .d y) (hn : n = xs.length) (hlt : k < xs.length)
  (ht : Vi P t 1 = true) (hg : Xb ops S gd)
  (h : Walk P ops draw K rest ((l.length, ⟨none, .store t x v, ty, pos, aft, gd⟩, ⟨Xa ops gd ++ [(x, .rptr γ n k), (v, .d y)], none, [(γ, .row 1 xs)], [(γ, .row 1 (xs.take k ++ [[y]] ++ xs.drop (k + 1)))], []⟩) :: l)
   (S.own γ (.row 1 (xs.take k ++ [[y]] ++ xs.drop (k + 1))))) :
  Walk P ops draw K (⟨none, .store t x v, ty, pos, aft, gd⟩ :: rest) l S :=
 Xw ⟨[(x, .rptr γ n k), (v, .d y)], none, [(γ, .row 1 xs)], [(γ, .row 1 (xs.take k ++ [[y]] ++ xs.drop (k + 1)))], []⟩ (X1h rfl fun E S g a w hs hq hl hnn => by
  have ho := hs.1.obj γ
  rw [hl.1] at ho
  have hq1 := hq.1
  simp only [AVal.sat] at hq1
  obtain ⟨_, a', m, c, q1, q2, q3⟩ := hq1
  have hrow : U3 g w (g.hd γ) 1 xs := ho
  have hone : (a.eval v).cells = #[a.eval v] := by
   have := AVal.sat_one (x := .d y) rfl hq.2.1
   cases hvv : a.eval v <;> rw [hvv] at this <;> first | rfl | simp [Value.oneCell'] at this
  obtain ⟨w', s1, s2, s3, s4, s5, s6⟩ := X6T (P := P) (k := k) (m := 1) (ys := [[y]]) hrow (by omega) (by simp) rfl (news := #[a.eval v]) (by simp) (by
   simp only [List.flatten_cons, List.flatten_nil, List.append_nil, List.map_cons, List.map_nil, Xc]
   exact ⟨hq.2.1, trivial⟩)
  rcases hrow.2 with ⟨e, rfl⟩ | ⟨b, cap, vs, e', fr, hh, _⟩
  ·simp at hlt
  rw [hh] at q1 s1; cases q1
  obtain ⟨b', e1, e2⟩ := q3 hn
  cases e1
  simp only [Nat.mul_one, Yx, Nat.zero_add] at s1
  refine ⟨g, w', ?_, ?_, hs.2.2.2⟩
  ·have hsz := X36 ht w
   have s1' : (storeCells ⟨b, k, none⟩ [a.eval v]).run P w = .ok () w' := by simpa using s1
   simp [execOp, e2, Instr.storeAt, Instr.sureAddr, storeVar, hsz, hone, s1']
  ·refine Inv.upd hs.1 γ _ (Yr _ _ _ _) (fun j hj => Yu _ _ _ (Ne.symm hj)) (fun b hb hnl => s3 b fun hc => hnl (by rw [hl.1]; exact hc)) (by omega) s5 s6 rfl (fun _ _ => ⟨rfl, rfl, rfl⟩) (fun _ _ _ _ _ h => h) s2 (fun b hb => .inl (by rw [hl.1]; exact hb)) (fun _ => Gh.keeps_refl _ _)) hg ⟨⟨hx, hv, trivial⟩, ⟨hL, trivial⟩, trivial, trivial⟩ h
end
end Go.Fw
namespace Go.Fw
open Go
set_option linter.unusedVariables false
section
variable {P : Program}
def X1D (P : Program) (t : TypeId) : Bool := match P.underlying t with | some .bool => true | _ => false
theorem X56 {t : TypeId} (h : X1D P t = true) : P.underlying t = some .bool := by
 unfold X1D at h
 cases hu : P.underlying t with
 | none => rw [hu] at h; simp at h
 | some u => cases u <;> rw [hu] at h <;> simp at h ⊢
theorem X9u {t : TypeId} {x y : Operand} {a b : Bool} (ht : X1D P t = true) (w : World) : (do eqGuard .eql t x y (.bool a) (.bool b); binOp .eql t (.bool a) (.bool b) : Sem Value).run P w = .ok (.bool (decide (a = b))) w := by
 have h := run_equalIn_bool' (P := P) w 9999 t a b (X56 ht)
 have h2 : (Op.equal t (.bool a) (.bool b)).run P w = .ok (a == b) w := h
 simp [eqGuard, binOp, h2]
 exact Bool.beq_eq_decide_eq a b
theorem XaZ {t : TypeId} {x y : Operand} {k : IntKind} {a b : Int} (ha : 0 ≤ a) (hb : b ≠ 0) (w : World) : (do eqGuard .rem t x y (.int k a) (.int k b); binOp .rem t (.int k a) (.int k b) : Sem Value).run P w = .ok (.int k (a % b)) w := by
 simp [eqGuard, binOp, Op.intDiv, hb, go_sem, Int.tmod_eq_emod_of_nonneg ha]
end
section
variable {P : Program} {ops : Array Oper} {draw : Bool} {K : St → Prop} {rest : List Oper} {l : XJ} {S : St}
variable {d : Nat} {ty : TypeId} {pos : String} {aft : Array Edge} {gd : Option (Nat × Bool)}
theorem X4F {op : BinOp} {xt yt : TypeId} {x y : Operand} {u v r : Value} (r' : Value) (hr' : r = r') (hx : S.ev x = .d (.v u)) (hy : S.ev y = .d (.v v))
  (hr : ∀ w, (do eqGuard op xt x y u v; binOp op xt u v : Sem Value).run P w = .ok r w) (h1 : r'.oneCell' = true) (hd : Nat.blt d S.n = true) (hg : Xb ops S gd)
  (h : Walk P ops draw K rest ((l.length, ⟨some d, .binOp op xt x y yt, ty, pos, aft, gd⟩, ⟨Xa ops gd ++ [(x, .d (.v u)), (y, .d (.v v))], some (d, .d (.v r')), [], [], []⟩) :: l) (S.set d (.d (.v r')))) :
  Walk P ops draw K (⟨some d, .binOp op xt x y yt, ty, pos, aft, gd⟩ :: rest) l S := by
 subst hr'
 exact YY hx hy hr h1 hd hg h
end
end Go.Fw
