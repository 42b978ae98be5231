/- Thirteenth part: contracts under other keys; calls of function values. -/
import Derived.Test.YtaoggblfedekeaaDoorG05
import Derived.Laws.Strings
import Derived.Laws.BytesString
import Derived.Laws.StructEq
import Derived.Laws.Entries
import Derived.Laws.BitsLemmas
namespace Go.Fw
open Go
set_option linter.unusedVariables false
set_option linter.unusedSimpArgs false
mutual
def AVal.ren (ρ : Nat → Nat) : AVal → AVal
 | .any => .any
 | .d x => .d x
 | .ptr γ o => .ptr (ρ γ) o
 | .own γ n => .own (ρ γ) n
 | .rptr γ n o => .rptr (ρ γ) n o
 | .inn γ i => .inn (ρ γ) i
 | .bsl γ n => .bsl (ρ γ) n
 | .mptr γ n i => .mptr (ρ γ) n i
 | .cut γ n k sz => .cut (ρ γ) n k sz
 | .dptr row => .dptr row
 | .bq p q => .bq p q
 | .agg cs => .agg (YP ρ cs)
 | .tup cs => .tup (YP ρ cs)
 | .fn f cs => .fn f (YP ρ cs)
def YP (ρ : Nat → Nat) : List AVal → List AVal
 | [] => []
 | x :: r => x.ren ρ :: YP ρ r
end
def AObj.ren (ρ : Nat → Nat) : AObj → AObj
 | .dead => .dead
 | .box cs => .box (YP ρ cs)
 | .row sz xs => .row sz xs
 | .froz sz xs => .froz sz xs
 | .mat sz rows => .mat sz rows
 | .iter s p => .iter s p
def U0 (ρ : Nat → Nat) : List (Nat × AObj) → List (Nat × AObj)
 | [] => []
 | (k, o) :: r => (ρ k, o.ren ρ) :: U0 ρ r
def Gh.pull (g : Gh) (ρ : Nat → Nat) : Gh := { blk := fun k => g.blk (ρ k), hd := fun k => g.hd (ρ k), ihd := fun k => g.ihd (ρ k), M := g.M }
mutual
theorem X4V {g : Gh} {ρ : Nat → Nat} : ∀ (x : AVal) (u : Value), (x.ren ρ).sat g u ↔ x.sat (g.pull ρ) u
 | .any, _ => by simp only [AVal.ren, AVal.sat]
 | .d x, _ => by simp only [AVal.ren, AVal.sat, Gh.pull]
 | .ptr γ o, _ => by simp only [AVal.ren, AVal.sat, Gh.pull]
 | .own γ n, _ => by simp only [AVal.ren, AVal.sat, Gh.pull]
 | .rptr γ n o, _ => by simp only [AVal.ren, AVal.sat, Gh.pull]
 | .inn γ i, _ => by simp only [AVal.ren, AVal.sat, Gh.pull]
 | .bsl γ n, _ => by simp only [AVal.ren, AVal.sat, Gh.pull]
 | .mptr γ n i, _ => by simp only [AVal.ren, AVal.sat, Gh.pull]
 | .cut γ n k sz, _ => by simp only [AVal.ren, AVal.sat, Gh.pull]
 | .dptr row, _ => by simp only [AVal.ren, AVal.sat, Gh.pull]
 | .bq p q, _ => by simp only [AVal.ren, AVal.sat]
 | .agg cs, u => by simp only [AVal.ren, AVal.sat, Vy cs]
 | .tup cs, u => by simp only [AVal.ren, AVal.sat, Vy cs]
 | .fn f cs, u => by simp only [AVal.ren, AVal.sat, Vy cs]
theorem Vy {g : Gh} {ρ : Nat → Nat} : ∀ (xs : List AVal) (us : List Value), Xd g (YP ρ xs) us ↔ Xd (g.pull ρ) xs us
 | [], [] => by simp only [YP, Xd]
 | [], _ :: _ => by simp only [YP, Xd]
 | _ :: _, [] => by simp only [YP, Xd]
 | x :: xs, u :: us => by simp only [YP, Xd, X4V x u, Vy xs us]
end
theorem X48 {ρ : Nat → Nat} : ∀ (cs : List AVal), (∀ c ∈ cs, c.cellish = true) ↔ ∀ c ∈ YP ρ cs, c.cellish = true
 | [] => by simp [YP]
 | c :: r => by
  simp only [YP, List.mem_cons, forall_eq_or_imp, ← X48 r]
  refine and_congr_left fun _ => ?_
  cases c <;> simp [AVal.ren, AVal.cellish]
theorem X6W {g : Gh} {ρ : Nat → Nat} {l : List D} {us : List Value} : Xd (g.pull ρ) (l.map .d) us ↔ Xd g (l.map .d) us := by
 have h : YP ρ (l.map .d) = l.map .d := by
  induction l with
  | nil => rfl
  | cons x r ih => simp [YP, AVal.ren, ih]
 rw [← Vy, h]
theorem X3H {g : Gh} {ρ : Nat → Nat} {w : World} {h : Value} {sz : Nat} {xs : List (List D)} : Ub (g.pull ρ) w h sz xs ↔ Ub g w h sz xs := by
 simp only [Ub, X6W]
theorem X5u {g : Gh} {ρ : Nat → Nat} {w : World} {γ : Nat} (o : AObj) : Yz g w (ρ γ) (o.ren ρ) ↔ Yz (g.pull ρ) w γ o := by
 cases o with
 | dead => exact Iff.rfl
 | box cs => simp only [AObj.ren, Yz, Vy, ← X48 cs]; rfl
 | row sz xs => simp only [AObj.ren, Yz]; exact X3H.symm
 | froz sz xs => exact Iff.rfl
 | iter s p => exact Iff.rfl
 | mat sz rows => simp only [AObj.ren, Yz, X27, X3H]; rfl
theorem X2f {g : Gh} {ρ : Nat → Nat} {γ b : Nat} (o : AObj) : Xs g (o.ren ρ) (ρ γ) b ↔ Xs (g.pull ρ) o γ b := by
 cases o <;> exact Iff.rfl
theorem X0p {ρ σ : Nat → Nat} (h1 : ∀ k, σ (ρ k) = k) : ∀ (L : List (Nat × AObj)) (γ : Nat), Xe .dead (U0 ρ L) (ρ γ) = (Xe .dead L γ).ren ρ
 | [], γ => rfl
 | (k, o) :: r, γ => by
  simp only [U0]
  by_cases h : k = γ
  ·subst h; rw [Yf, Yf]
  ·rw [Yd _ _ _ h, Yd _ _ _ (fun e => h (by rw [← h1 k, ← h1 γ, e])), X0p h1 r γ]
theorem X5n {ρ σ : Nat → Nat} (h1 : ∀ k, σ (ρ k) = k) : ∀ (L : List (Nat × AObj)) (γ : Nat), Xj (ρ γ) (U0 ρ L) = Xj γ L
 | [], γ => rfl
 | (k, o) :: r, γ => by
  simp only [U0, Xj, X5n h1 r γ]
  congr 1
  rw [Bool.eq_iff_iff]
  simp only [Nat.beq_eq]
  exact ⟨fun e => by rw [← h1 k, ← h1 γ, e], fun e => by rw [e]⟩
theorem X4r {E : Env} {ρ σ : Nat → Nat} (h1 : ∀ k, σ (ρ k) = k) (h2 : ∀ k, ρ (σ k) = k) {L : List (Nat × AObj)} {g : Gh} {w : World} {g0 : Gh} :
  Inv { E with g0 := g } (Xe .dead (U0 ρ L)) g w ↔ Inv { E with g0 := g.pull ρ } (Xe .dead L) (g.pull ρ) w := by
 have hlv : ∀ γ b, Xs g (Xe .dead (U0 ρ L) (ρ γ)) (ρ γ) b ↔ Xs (g.pull ρ) (Xe .dead L γ) γ b := fun γ b => by rw [X0p h1]; exact X2f _
 constructor
 ·intro hi
  refine ⟨fun γ => ?_, fun γ γ' b h h' => ?_, hi.mem, fun γ b h => hi.sep (ρ γ) b ((hlv _ _).2 h), fun γ b h => hi.new (ρ γ) b ((hlv _ _).2 h), hi.ext, hi.lim, hi.frame, hi.size, hi.os, hi.out, fun _ _ => Gh.keeps_refl _ _⟩
  ·have := hi.obj (ρ γ); rw [X0p h1] at this; exact (X5u _).1 this
  ·have := hi.inj (ρ γ) (ρ γ') b ((hlv _ _).2 h) ((hlv _ _).2 h')
   rw [← h1 γ, ← h1 γ', this]
 ·intro hi
  have hs : ∀ γ b, Xs g (Xe .dead (U0 ρ L) γ) γ b → Xs (g.pull ρ) (Xe .dead L (σ γ)) (σ γ) b := fun γ b h => by
   have := (hlv (σ γ) b).1; rw [h2] at this; exact this h
  refine ⟨fun γ => ?_, fun γ γ' b h h' => ?_, hi.mem, fun γ b h => hi.sep (σ γ) b (hs _ _ h), fun γ b h => hi.new (σ γ) b (hs _ _ h), hi.ext, hi.lim, hi.frame, hi.size, hi.os, hi.out, fun _ _ => Gh.keeps_refl _ _⟩
  ·have := hi.obj (σ γ)
   rw [← X5u (ρ := ρ), ← X0p h1, h2] at this
   exact this
  ·have := hi.inj (σ γ) (σ γ') b (hs _ _ h) (hs _ _ h')
   rw [← h2 γ, ← h2 γ', this]
theorem X71 {g g' : Gh} {ρ : Nat → Nat} {γ : Nat} : (g.pull ρ).keeps (g'.pull ρ) γ ↔ g.keeps g' (ρ γ) := Iff.rfl
theorem X6L {P : Program} {f : FuncId} {Li Lo : List (Nat × AObj)} {args : List AVal} {res : AVal} (ρ σ : Nat → Nat) (h1 : ∀ k, σ (ρ k) = k) (h2 : ∀ k, ρ (σ k) = k) (h : Con P f Li args Lo res) :
  Con P f (U0 ρ Li) (YP ρ args) (U0 ρ Lo) (res.ren ρ) := by
 intro g w vs hi hs
 have hA : ∀ b, (∃ γ, Xs g (Xe .dead (U0 ρ Li) γ) γ b) ↔ ∃ γ, Xs (g.pull ρ) (Xe .dead Li γ) γ b := by
  intro b
  constructor
  ·rintro ⟨γ, hγ⟩
   refine ⟨σ γ, ?_⟩
   rw [← h2 γ, X0p h1, X2f] at hγ
   exact hγ
  ·rintro ⟨γ, hγ⟩
   refine ⟨ρ γ, ?_⟩
   rw [X0p h1, X2f]; exact hγ
 have hE : YH (g.pull ρ) w Li = { YH g w (U0 ρ Li) with g0 := g.pull ρ } := by
  simp only [YH, Env.mk.injEq, true_and, and_true]
  exact ⟨rfl, funext fun b => propext (hA b).symm⟩
 have hi' : Inv (YH (g.pull ρ) w Li) (Xe .dead Li) (g.pull ρ) w := by
  rw [hE]; exact (X4r (g0 := g) h1 h2).1 hi
 refine (h (g.pull ρ) w vs hi' ((Vy _ _).1 hs)).mono ?_
 rintro e w' ⟨v, g', rfl, hv, hi2, hk⟩
 have hgp : (g'.pull σ).pull ρ = g' := by simp only [Gh.pull, h1]
 refine ⟨v, g'.pull σ, rfl, (X4V _ _).2 (by rw [hgp]; exact hv), ?_, fun γ hγ => ?_⟩
 ·refine (X4r (E := YH g w (U0 ρ Li)) (g0 := g) h1 h2).2 ?_
  rw [hgp]
  have : ({ YH (g.pull ρ) w Li with g0 := g' } : Env) = { YH g w (U0 ρ Li) with g0 := g' } := by rw [hE]
  rw [← this]; exact hi2
 ·have hγ' : Xj (σ γ) Li = true := by rw [← X5n h1, h2]; exact hγ
  have := hk (σ γ) hγ'
  rw [← hgp, X71, h2] at this
  exact this
def swp (a b k : Nat) : Nat := bif Nat.beq k a then b else bif Nat.beq k b then a else k
theorem X3w (a b k : Nat) : swp a b (swp a b k) = k := by
 simp only [swp]
 by_cases h1 : k = a
 ·subst h1
  by_cases h2 : b = k
  ·subst h2; simp
  ·have : Nat.beq b k = false := by cases h : Nat.beq b k with | false => rfl | true => exact absurd (Nat.eq_of_beq_eq_true h) h2
   simp [this]
 ·have e1 : Nat.beq k a = false := by cases h : Nat.beq k a with | false => rfl | true => exact absurd (Nat.eq_of_beq_eq_true h) h1
  by_cases h2 : k = b
  ·subst h2; simp [e1]
  ·have e2 : Nat.beq k b = false := by cases h : Nat.beq k b with | false => rfl | true => exact absurd (Nat.eq_of_beq_eq_true h) h2
   simp [e1, e2]
theorem X0B {P : Program} {f : FuncId} {Li Lo : List (Nat × AObj)} {args : List AVal} {res : AVal} (a b : Nat) (h : Con P f Li args Lo res) :
  Con P f (U0 (swp a b) Li) (YP (swp a b) args) (U0 (swp a b) Lo) (res.ren (swp a b)) :=
 X6L _ _ (X3w a b) (X3w a b) h
section
variable {P : Program} {ops : Array Oper} {draw : Bool} {K : St → Prop} {rest : List Oper} {l : XH} {S : St}
variable {d : Nat} {ty : TypeId} {pos : String} {aft : Array Edge} {gd : Option (Nat × Bool)}
theorem X99 {t : Tmp} {f : FuncId} {caps : List AVal} {args : Array Operand} {tys : Array TypeId} {xs : List Operand} {ys zs : List AVal} {Li Lo : List (Nat × AObj)} {res : AVal}
  (ht : S.ev (.tmp t) = .fn f caps) (hxs : args.toList = xs) (hys : evA S xs = ys) (hle : leL (ys ++ caps) zs) (hcon : Con P f Li zs Lo res) (hf : X0r P f = true)
  (hLi : Y8 S Li) (hin : Vb Li Lo = true) (hbox : UB Lo Lo = true) (hres : res.within Lo = true) (hnew : Uu S (Y5 Li Lo)) (hdead : Y8 S (Us (Y5 Li Lo)))
  (hd : Nat.blt d S.n = true) (hg : X9 ops S gd)
  (h : Walk P ops draw K rest ((l.length, ⟨some d, .call ⟨.value (.tmp t), args, tys⟩, ty, pos, aft, gd⟩, ⟨X7 ops gd ++ ((.tmp t, .fn f caps) :: V2 xs ys), some (d, res), Li ++ Us (Y5 Li Lo), Lo, Y5 Li Lo⟩) :: l)
   ((S.set d res).cat Lo)) :
  Walk P ops draw K (⟨some d, .call ⟨.value (.tmp t), args, tys⟩, ty, pos, aft, gd⟩ :: rest) l S := by
 have hap : ∀ (A B : List (Nat × AObj)) (T : St), Y8 T (A ++ B) ↔ Y8 T A ∧ Y8 T B := by
  intro A B T
  simp only [V0, List.mem_append]
  exact ⟨fun h => ⟨fun p hp => h p (.inl hp), fun p hp => h p (.inr hp)⟩, fun h p hp => hp.elim (h.1 p) (h.2 p)⟩
 have hlen : ys.length = xs.length := by
  rw [← hys]; clear hys hxs h hle
  induction xs with
  | nil => rfl
  | cons x r ih => simp [evA, ih]
 refine Xw ⟨(.tmp t, .fn f caps) :: V2 xs ys, some (d, res), Li ++ Us (Y5 Li Lo), Lo, Y5 Li Lo⟩ ?_ hg ⟨⟨ht, by rw [← hys]; exact X2E S xs⟩, (hap _ _ _).2 ⟨hLi, hdead⟩, hnew, hd⟩ h
 intro E S a w g hs hok Q K hK
 obtain ⟨ok1, ok2, ok3, ok4⟩ := hok
 rw [hap] at ok2
 obtain ⟨hq1, hq2⟩ := UR hs _ ok1
 simp only [AVal.sat] at hq1
 obtain ⟨cv, hcv, hcs⟩ := hq1
 have hsat := X1a hle (V1 (X2H hlen hq2) hcs)
 have hinv : Inv (YH g w Li) (Xe .dead Li) g w := by
  have hsub := Xc ok2.1
  have hl : ∀ γ b, Xs g (Xe .dead Li γ) γ b → Xs g (S.obj γ) γ b := by
   intro γ b hb
   rcases hsub γ with e | e
   ·rw [← e]; exact hb
   ·rw [e] at hb; exact hb.elim
  refine ⟨fun γ => ?_, fun γ γ' b k k' => hs.1.inj γ γ' b (hl _ _ k) (hl _ _ k'), hs.1.mem, fun γ b k => hs.1.sep γ b (hl _ _ k), fun γ b k => .inr ⟨γ, k⟩, XG.refl _, fun a v ha => .inl ⟨v, ha⟩, fun _ _ _ => rfl, Nat.le_refl _, rfl, rfl, fun γ _ => Gh.keeps_refl _ _⟩
  rcases hsub γ with e | e
  ·rw [e]; exact hs.1.obj γ
  ·rw [e]; trivial
 have hcall := hcon g w (xs.map a.eval ++ cv.toList) hinv hsat
 have hrun : (execOp a.eval ⟨some d, .call ⟨.value (.tmp t), args, tys⟩, ty, pos, aft, gd⟩).run P w = .ok (.enter f (xs.map a.eval ++ cv.toList).toArray) w := by
  have e1 : (#[] ++ args.map a.eval ++ cv : Array Value) = (xs.map a.eval ++ cv.toList).toArray := by
   apply Array.ext'; simp [← hxs]
  simp only [execOp, resolve, hcv, Deferred.ofValue, Sem.run_bind, Sem.run_pure, Result.andThen_ok, invoke]
  rw [X3x hf]
  congr 2
 unfold Oper.wp
 rw [hrun, Oper.upon_enter]
 refine hcall.mono ?_
 rintro e w' ⟨v, g', rfl, hv, hi', hk⟩
 obtain ⟨j1, j2, j3⟩ := X5z hs.1 ok2.1 hin hbox ok3 ok2.2 hi' hk
 exact hK _ _ (UU j1 hs.2.1 hs.2.2.1 (fun t => j3 t _ (hs.2.2.2 t)) (j2 _ _ hres hv) ok4)
end
end Go.Fw
namespace Go.Fw
open Go
set_option linter.unusedVariables false
set_option linter.unusedSimpArgs false
section
variable {P : Program} {ops : Array Oper} {draw : Bool} {K : St → Prop} {rest : List Oper} {l : XH} {S : St}
variable {d : Nat} {ty : TypeId} {pos : String} {aft : Array Edge} {gd : Option (Nat × Bool)}
theorem X9N {x y : Operand} {T T2 : TypeId} {γ n sz m : Nat} {r ys : List (List D)} (hx : S.ev x = .own γ n) (hL : S.obj γ = .row sz r) (hn : n = r.length) (hy : S.ev y = .d (.sl sz ys)) (hm : m = min ys.length r.length)
  (hT : XS P T sz = true) {d' : Option (Nat × AVal)} (hd : Vg S d') (hd' : d' = none ∨ ∃ t, d' = some (t, ai m)) (hg : X9 ops S gd)
  (h : Walk P ops draw K rest ((l.length, ⟨d'.map (·.1), .call ⟨.builtin .copy, #[x, y], #[T, T2]⟩, ty, pos, aft, gd⟩, ⟨X7 ops gd ++ [(x, .own γ n), (y, .d (.sl sz ys))], d', [(γ, .row sz r)], [(γ, .row sz (ys.take m ++ r.drop m))], []⟩) :: l)
   ⟨S.n, d'.toList ++ S.τ, (γ, .row sz (ys.take m ++ r.drop m)) :: S.L⟩) :
  Walk P ops draw K (⟨d'.map (·.1), .call ⟨.builtin .copy, #[x, y], #[T, T2]⟩, ty, pos, aft, gd⟩ :: rest) l S := by
 refine Xw ⟨[(x, .own γ n), (y, .d (.sl sz ys))], d', [(γ, .row sz r)], [(γ, .row sz (ys.take m ++ r.drop m))], []⟩ ?_ hg ⟨⟨hx, hy, trivial⟩, ⟨hL, trivial⟩, trivial, hd⟩ h
 intro E S a w g hs hok Q K hK
 obtain ⟨ok1, ⟨l1, _⟩, _, ok4⟩ := hok
 have hq := UR hs _ ok1
 have ho := hs.1.obj γ
 rw [l1] at ho
 have hx' : a.eval x = g.hd γ := X1u hq.1 ho hn
 have hsy : (D.sl sz ys).rep g.M (a.eval y) := by have := hq.2.1; simpa only [AVal.sat] using this
 have hrow : Ub g w (g.hd γ) sz r := ho
 obtain ⟨news, n1, n2, n3, n4, n5⟩ := X4c (P := P) hs.1 hsy (m := m) (by omega)
 obtain ⟨w', s1, s2, s3, s4, s5, s6⟩ := X2Y (P := P) (k := 0) (m := m) hrow (by omega) n5 (by simp; omega) n2 n3
 simp only [List.take_zero, List.nil_append, Nat.zero_add] at s2
 have hhd : ∃ b c, g.hd γ = .slice b r.length c := by
  rcases hrow.2 with ⟨e, rfl⟩ | ⟨b, cap, vs, e', fr, e, _⟩
  ·exact ⟨_, _, e⟩
  ·exact ⟨_, _, e⟩
 obtain ⟨b0, c0, hhd⟩ := hhd
 have hrun := X5P (P := P) (T2 := T2) (ty := ty) hT hhd n4 hm n1 s1
 have hi : Inv E (Xe .dead ((γ, .row sz (ys.take m ++ r.drop m)) :: S.L)) g w' := by
  refine Inv.upd hs.1 γ _ (Yf _ _ _ _) (fun j hj => Yd _ _ _ (Ne.symm hj)) (fun b hb hnl => s3 b fun hc => hnl (by rw [l1]; exact hc)) (by omega) s5 s6 rfl (fun _ _ => ⟨rfl, rfl, rfl⟩) (fun _ _ _ _ _ h => h) s2 (fun b hb => .inl ?_) (fun _ => Gh.keeps_refl _ _)
  rw [l1]; exact hb
 have hrun' : (execOp a.eval ⟨d'.map (·.1), .call ⟨.builtin .copy, #[x, y], #[T, T2]⟩, ty, pos, aft, gd⟩).run P w = .ok (.value (.int .i64 m)) w' := by
  simp [execOp, resolve, invoke, builtin, hx', hrun]
 unfold Oper.wp
 rw [hrun', Oper.upon_value]
 rcases hd' with rfl | ⟨t, rfl⟩
 ·exact hK _ _ ⟨g, hi, hs.2.1, hs.2.2.1, hs.2.2.2⟩
 ·exact hK _ _ (UU hi hs.2.1 hs.2.2.1 hs.2.2.2 (Ud rfl) ok4)
theorem X76 {x y : Operand} {T T2 : TypeId} {γ n sz m : Nat} {r ys : List (List D)} (hx : S.ev x = .own γ n) (hL : S.obj γ = .row sz r) (hn : n = r.length) (hy : S.ev y = .d (.sl sz ys)) (hm : m = min ys.length r.length)
  (hT : XS P T sz = true) (hd : Nat.blt d S.n = true) (hg : X9 ops S gd)
  (h : Walk P ops draw K rest ((l.length, ⟨some d, .call ⟨.builtin .copy, #[x, y], #[T, T2]⟩, ty, pos, aft, gd⟩, ⟨X7 ops gd ++ [(x, .own γ n), (y, .d (.sl sz ys))], some (d, ai m), [(γ, .row sz r)], [(γ, .row sz (ys.take m ++ r.drop m))], []⟩) :: l)
   ((S.set d (ai m)).own γ (.row sz (ys.take m ++ r.drop m)))) :
  Walk P ops draw K (⟨some d, .call ⟨.builtin .copy, #[x, y], #[T, T2]⟩, ty, pos, aft, gd⟩ :: rest) l S :=
 X9N (d' := some (d, ai m)) hx hL hn hy hm hT hd (.inr ⟨d, rfl⟩) hg h
end
theorem XA {S : St} (β : Nat) {cs cs' : List AVal} (hb : S.obj β = .box cs) (hle : leL cs cs') (hc : U5 cs' = true) : S.le (S.own β (.box cs')) := by
 rintro E a w ⟨g, hs⟩
 have ho := hs.1.obj β
 rw [hb] at ho
 obtain ⟨vs, e, fr, h1, h2, h3, h4⟩ := ho
 have hi2 : Inv E (Xe .dead ((β, .box cs') :: S.L)) g w := by
  refine Inv.upd hs.1 β _ (Yf _ _ _ _) (fun k hk => Yd _ _ _ (Ne.symm hk)) (fun _ _ _ => rfl) (Nat.le_refl _) rfl rfl rfl (fun _ _ => ⟨rfl, rfl, rfl⟩) (fun _ _ _ _ _ h => h) ?_ (fun b hb' => .inl (by rw [hb]; exact hb')) (fun _ => Gh.keeps_refl _ _)
  exact ⟨vs, e, fr, h1, h2, X1a hle h3, (VC _).1 hc⟩
 exact VF hs hi2 rfl hs.2.2.2
def X4 (l : List UInt8) : ByteArray := ⟨l.toArray⟩
theorem X09 (l : List UInt8) : (X4 l).toList = l := by
 rw [ByteArray.toList_eq]; simp [X4]
theorem Xat (l : List UInt8) : ∀ s : ByteArray, (l.map fun b => (b.toNat : Int)).foldl (fun r n => r.push (UInt8.ofNat n.toNat)) s = ⟨s.data ++ l.toArray⟩ := by
 induction l with
 | nil => intro s; cases s; simp
 | cons b l ih =>
  intro s
  simp only [List.map_cons, List.foldl_cons, ih]
  cases s
  simp [ByteArray.push]
section
variable {P : Program} {ops : Array Oper} {draw : Bool} {K : St → Prop} {rest : List Oper} {l : XH} {S : St}
variable {d : Nat} {ty : TypeId} {pos : String} {aft : Array Edge} {gd : Option (Nat × Bool)}
theorem X7n {t : TypeId} {x y : Operand} {a b : List UInt8} (w : World) : (do eqGuard .eql t x y (.string (X4 a)) (.string (X4 b)); binOp .eql t (.string (X4 a)) (.string (X4 b)) : Sem Value).run P w = .ok (.bool (decide (a = b))) w := by
 simp [go_sem, X09]; exact Bool.beq_eq_decide_eq a b
theorem Xav {t : TypeId} {x y : Operand} {a b : List UInt8} (w : World) : (do eqGuard .neq t x y (.string (X4 a)) (.string (X4 b)); binOp .neq t (.string (X4 a)) (.string (X4 b)) : Sem Value).run P w = .ok (.bool (decide (a ≠ b))) w := by
 simp [go_sem, X09]; exact Bool.beq_eq_decide_eq a b
def X1M (P : Program) (src dst : TypeId) : Bool :=
 match P.underlying src, P.underlying dst with
 | some (.slice e), some .string => (match P.underlying e with | some (.int .u8) => true | _ => false)
 | _, _ => false
theorem XaE {src dst : TypeId} (h : X1M P src dst = true) : ∃ e, P.underlying src = some (.slice e) ∧ P.underlying e = some (.int .u8) ∧ P.underlying dst = some .string := by
 unfold X1M at h
 split at h
 ·rename_i e h1 h2
  split at h
  ·rename_i h3
   exact ⟨e, h1, h3, h2⟩
  ·simp at h
 ·simp at h
theorem Xa8 (b : List UInt8) : (b.map fun c => [D.v (.int .u8 c.toNat)]).flatten = b.map fun c => D.v (.int .u8 c.toNat) := by
 induction b with
 | nil => rfl
 | cons c b ih => simp [ih]
theorem X6v {src dst : TypeId} {x : Operand} {b : List UInt8} (hx : S.ev x = .d (.sl 1 (b.map fun c => [D.v (.int .u8 c.toNat)]))) (ht : X1M P src dst = true) (hd : Nat.blt d S.n = true) (hg : X9 ops S gd)
  (h : Walk P ops draw K rest ((l.length, ⟨some d, .convert src dst x, ty, pos, aft, gd⟩, ⟨X7 ops gd ++ [(x, .d (.sl 1 (b.map fun c => [D.v (.int .u8 c.toNat)])))], some (d, .d (.v (.string (X4 b)))), [], [], []⟩) :: l) (S.set d (.d (.v (.string (X4 b)))))) :
  Walk P ops draw K (⟨some d, .convert src dst x, ty, pos, aft, gd⟩ :: rest) l S := by
 refine Xw ⟨[(x, .d (.sl 1 (b.map fun c => [D.v (.int .u8 c.toNat)])))], some (d, .d (.v (.string (X4 b)))), [], [], []⟩ (XQ rfl fun E S g a w hs hq _ => ?_) hg ⟨⟨hx, trivial⟩, trivial, trivial, hd⟩ h
 refine ⟨.string (X4 b), ?_, Ud rfl⟩
 obtain ⟨e, t1, t2, t3⟩ := XaE ht
 have hsx := hq.1
 simp only [AVal.sat, D.rep] at hsx
 obtain ⟨ad, cap, hv, h2, h3, h4⟩ := hsx
 have hc : (convert src dst (a.eval x)).run P w = .ok (.string (X4 b)) w := by
  rw [hv, run_convert_bytes_string w src dst e ad _ cap t1 t2 t3]
  rcases h4 with h4 | ⟨bl, o, rfl, hr⟩
  ·have hb : b = [] := by simpa using h4
   subst hb
   cases ad with
   | none => simp [Conv.bytesToString, X4]; rfl
   | some q =>
    have := run_bytesToString (P := P) w q 0 cap [] (by simp [loadCells, loadCellsFrom])
    simp only [List.map_nil, List.foldl_nil] at this
    exact this
  ·obtain ⟨vs, k1, k2, k3⟩ := X2T hs.1.mem _ bl o hr
   have hvs : vs = (b.map fun c => (c.toNat : Int)).map (Value.int .u8) := by
    apply List.ext_getElem?
    intro i
    cases hbi : b[i]? with
    | none =>
     have h1 : b.length ≤ i := by simpa using hbi
     have h5 : vs.length ≤ i := by rw [k1]; simpa using h1
     simp [List.getElem?_eq_none h5, hbi]
    | some c =>
     have hi : i < b.length := (List.getElem?_eq_some_iff.1 hbi).1
     have hiv : i < vs.length := by rw [k1]; simpa using hi
     have := k3 i (D.v (.int .u8 c.toNat)) vs[i] (by
      rw [Xa8]; simp [hbi]) (List.getElem?_eq_getElem hiv)
     simp only [D.rep] at this
     rw [List.getElem?_eq_getElem hiv, this.1]; simp [hbi]
   have hload := run_loadCells_list (P := P) w ⟨bl, o, none⟩ vs (fun j v hv => by rw [Yj]; exact k2 j v hv)
   rw [k1, hvs] at hload
   have := run_bytesToString (P := P) w ⟨bl, o, none⟩ _ cap (b.map fun c => (c.toNat : Int)) (by simpa using hload)
   rw [Xat] at this
   simpa [X4] using this
 simp only [execOp, Sem.run_bind]
 rw [hc]; rfl
end
end Go.Fw
namespace Go.Fw
open Go
set_option linter.unusedVariables false
set_option linter.unusedSimpArgs false
section
variable {P : Program} {ops : Array Oper} {draw : Bool} {K : St → Prop} {rest : List Oper} {l : XH} {S : St}
variable {d : Nat} {ty : TypeId} {pos : String} {aft : Array Edge} {gd : Option (Nat × Bool)}
theorem X92 {x i : Operand} {T : TypeId} {γ n k : Nat} {kd : IntKind} {m : Int} {xs : List (List D)} (hx : S.ev x = .own γ n) (hL : S.obj γ = .row 1 xs) (hi : S.ev i = .d (.v (.int kd m))) (hn : n = xs.length) (hk : m = (k : Nat)) (hlt : k < xs.length)
  (hT : XS P T 1 = true) (hd : Nat.blt d S.n = true) (hg : X9 ops S gd)
  (h : Walk P ops draw K rest ((l.length, ⟨some d, .indexAddr T x i, ty, pos, aft, gd⟩, ⟨X7 ops gd ++ [(x, .own γ n), (i, .d (.v (.int kd m)))], some (d, .rptr γ n k), [(γ, .row 1 xs)], [], []⟩) :: l) (S.set d (.rptr γ n k))) :
  Walk P ops draw K (⟨some d, .indexAddr T x i, ty, pos, aft, gd⟩ :: rest) l S :=
 Xw ⟨[(x, .own γ n), (i, .d (.v (.int kd m)))], some (d, .rptr γ n k), [(γ, .row 1 xs)], [], []⟩ (XQ rfl fun E S g a w hs hq hl => by
  obtain ⟨e, h1, h2, h3⟩ := V6 hT
  have ho := hs.1.obj γ
  rw [hl.1] at ho
  have hv := X1u hq.1 ho hn
  rcases ho.2 with ⟨e, rfl⟩ | ⟨b, cap, vs, e', fr, hh, _⟩
  ·simp at hlt
  ·rw [hh] at hv
   refine ⟨.pointer (some ⟨b, k, none⟩), ?_, ?_⟩
   ·have hb : (0 : Int) ≤ m ∧ m < (xs.length : Int) := by omega
    have hm : m.toNat = k := by omega
    have := run_indexAt_slice (P := P) w T ⟨b, 0, none⟩ xs.length cap kd m (by rw [h3]; exact h1)
    rw [if_pos hb, h3, h2 w, Result.andThen_ok, Yj, hm, Nat.mul_one, Nat.zero_add] at this
    simp only [execOp, hv, XZ hq.2.1, Sem.run_bind, this]; rfl
   ·simp only [AVal.sat]
    exact ⟨rfl, _, _, _, hh, by omega, fun _ => ⟨_, rfl, rfl⟩⟩) hg ⟨⟨hx, hi, trivial⟩, ⟨hL, trivial⟩, trivial, hd⟩ h
theorem Xae {xs : List (List D)} (h : ∀ x ∈ xs, x.length = 1) {k : Nat} {y : D} (hk : xs[k]? = some [y]) : xs.flatten[k]? = some y := by
 induction xs generalizing k with
 | nil => simp at hk
 | cons x xs ih =>
  obtain ⟨z, rfl⟩ : ∃ z, x = [z] := by
   have := h x (List.mem_cons_self ..)
   match x, this with
   | [z], _ => exact ⟨z, rfl⟩
  cases k with
  | zero => simp at hk; simp [hk]
  | succ k => simp at hk; simp [ih (fun x hx => h x (List.mem_cons_of_mem _ hx)) hk]
theorem X7k {t : TypeId} {x : Operand} {γ n k : Nat} {xs : List (List D)} {y : D} (hx : S.ev x = .rptr γ n k) (hL : S.obj γ = .row 1 xs) (hn : n = xs.length) (hy : xs[k]? = some [y])
  (ht : YD P t false 1 = true) (hd : Nat.blt d S.n = true) (hg : X9 ops S gd)
  (h : Walk P ops draw K rest ((l.length, ⟨some d, .load t x, ty, pos, aft, gd⟩, ⟨X7 ops gd ++ [(x, .rptr γ n k)], some (d, .d y), [(γ, .row 1 xs)], [], []⟩) :: l) (S.set d (.d y))) :
  Walk P ops draw K (⟨some d, .load t x, ty, pos, aft, gd⟩ :: rest) l S :=
 Xw ⟨[(x, .rptr γ n k)], some (d, .d y), [(γ, .row 1 xs)], [], []⟩ (XQ rfl fun E S g a w hs hq hl => by
  have ho := hs.1.obj γ
  rw [hl.1] at ho
  have hq1 := hq.1
  simp only [AVal.sat] at hq1
  obtain ⟨_, a', m, c, q1, q2, q3⟩ := hq1
  have hlt : k < xs.length := (List.getElem?_eq_some_iff.1 hy).1
  rcases ho.2 with ⟨e, rfl⟩ | ⟨b, cap, vs, e', fr, hh, k2, k3, k4, k5, k6, k7⟩
  ·simp at hlt
  ·rw [hh] at q1; cases q1
   obtain ⟨b', e1, e2⟩ := q3 hn
   cases e1
   obtain ⟨u, hu, hsu⟩ := YZ k7 k (.d y) (by rw [List.getElem?_map, Xae ho.1 hy]; rfl)
   have hc : w.cell? ⟨b, k, none⟩ = some u := by
    rw [cell_of_row w _ _ vs e' fr k4]
    rw [List.getElem?_take] at hu
    split at hu
    ·simpa using hu
    ·simp at hu
   refine ⟨u, ?_, hsu⟩
   simp [execOp, e2, Instr.loadAt, Instr.sureAddr, X1y ht hc]) hg ⟨⟨hx, trivial⟩, ⟨hL, trivial⟩, trivial, hd⟩ h
theorem X7r {t : TypeId} {x v : Operand} {γ n k : Nat} {xs : List (List D)} {y : D} (hx : S.ev x = .rptr γ n k) (hL : S.obj γ = .row 1 xs) (hv : S.ev v = .d y) (hn : n = xs.length) (hlt : k < xs.length)
  (ht : X07 P t 1 = true) (hg : X9 ops S gd)
  (h : Walk P ops draw K rest ((l.length, ⟨none, .store t x v, ty, pos, aft, gd⟩, ⟨X7 ops gd ++ [(x, .rptr γ n k), (v, .d y)], none, [(γ, .row 1 xs)], [(γ, .row 1 (xs.take k ++ [[y]] ++ xs.drop (k + 1)))], []⟩) :: l)
   (S.own γ (.row 1 (xs.take k ++ [[y]] ++ xs.drop (k + 1))))) :
  Walk P ops draw K (⟨none, .store t x v, ty, pos, aft, gd⟩ :: rest) l S :=
 Xw ⟨[(x, .rptr γ n k), (v, .d y)], none, [(γ, .row 1 xs)], [(γ, .row 1 (xs.take k ++ [[y]] ++ xs.drop (k + 1)))], []⟩ (X5S rfl fun E S g a w hs hq hl hnn => by
  have ho := hs.1.obj γ
  rw [hl.1] at ho
  have hq1 := hq.1
  simp only [AVal.sat] at hq1
  obtain ⟨_, a', m, c, q1, q2, q3⟩ := hq1
  have hrow : Ub g w (g.hd γ) 1 xs := ho
  have hone : (a.eval v).cells = #[a.eval v] := by
   have := AVal.sat_one (x := .d y) rfl hq.2.1
   cases hvv : a.eval v <;> rw [hvv] at this <;> first | rfl | simp [Value.oneCell'] at this
  obtain ⟨w', s1, s2, s3, s4, s5, s6⟩ := X2Y (P := P) (k := k) (m := 1) (ys := [[y]]) hrow (by omega) (by simp) rfl (news := #[a.eval v]) (by simp) (by
   simp only [List.flatten_cons, List.flatten_nil, List.append_nil, List.map_cons, List.map_nil, Xd]
   exact ⟨hq.2.1, trivial⟩)
  rcases hrow.2 with ⟨e, rfl⟩ | ⟨b, cap, vs, e', fr, hh, _⟩
  ·simp at hlt
  rw [hh] at q1 s1; cases q1
  obtain ⟨b', e1, e2⟩ := q3 hn
  cases e1
  simp only [Nat.mul_one, Yj, Nat.zero_add] at s1
  refine ⟨g, w', ?_, ?_, hs.2.2.2⟩
  ·have hsz := X5k ht w
   have s1' : (storeCells ⟨b, k, none⟩ [a.eval v]).run P w = .ok () w' := by simpa using s1
   simp [execOp, e2, Instr.storeAt, Instr.sureAddr, storeVar, hsz, hone, s1']
  ·refine Inv.upd hs.1 γ _ (Yf _ _ _ _) (fun j hj => Yd _ _ _ (Ne.symm hj)) (fun b hb hnl => s3 b fun hc => hnl (by rw [hl.1]; exact hc)) (by omega) s5 s6 rfl (fun _ _ => ⟨rfl, rfl, rfl⟩) (fun _ _ _ _ _ h => h) s2 (fun b hb => .inl (by rw [hl.1]; exact hb)) (fun _ => Gh.keeps_refl _ _)) hg ⟨⟨hx, hv, trivial⟩, ⟨hL, trivial⟩, trivial, trivial⟩ h
end
end Go.Fw
namespace Go.Fw
open Go
set_option linter.unusedVariables false
section
variable {P : Program}
def X1N (P : Program) (t : TypeId) : Bool := match P.underlying t with | some .bool => true | _ => false
theorem X5i {t : TypeId} (h : X1N P t = true) : P.underlying t = some .bool := by
 unfold X1N at h
 cases hu : P.underlying t with
 | none => rw [hu] at h; simp at h
 | some u => cases u <;> rw [hu] at h <;> simp at h ⊢
theorem X9V {t : TypeId} {x y : Operand} {a b : Bool} (ht : X1N P t = true) (w : World) : (do eqGuard .eql t x y (.bool a) (.bool b); binOp .eql t (.bool a) (.bool b) : Sem Value).run P w = .ok (.bool (decide (a = b))) w := by
 have h := run_equalIn_bool' (P := P) w 9999 t a b (X5i ht)
 have h2 : (Op.equal t (.bool a) (.bool b)).run P w = .ok (a == b) w := h
 simp [eqGuard, binOp, h2]
 exact Bool.beq_eq_decide_eq a b
theorem X9d {t : TypeId} {x y : Operand} {a b : Bool} (ht : X1N P t = true) (w : World) : (do eqGuard .neq t x y (.bool a) (.bool b); binOp .neq t (.bool a) (.bool b) : Sem Value).run P w = .ok (.bool (decide (a ≠ b))) w := by
 have h := run_equalIn_bool' (P := P) w 9999 t a b (X5i ht)
 have h2 : (Op.equal t (.bool a) (.bool b)).run P w = .ok (a == b) w := h
 simp [eqGuard, binOp, h2, Bool.beq_eq_decide_eq]
theorem X6p {t : TypeId} {x y : Operand} {k : IntKind} {a b : Int} (ha : 0 ≤ a) (hb : b ≠ 0) (w : World) : (do eqGuard .rem t x y (.int k a) (.int k b); binOp .rem t (.int k a) (.int k b) : Sem Value).run P w = .ok (.int k (a % b)) w := by
 simp [eqGuard, binOp, Op.intDiv, hb, go_sem, Int.tmod_eq_emod_of_nonneg ha]
theorem X7V {src dst : TypeId} {b : UInt8} (hs : (P.underlying src).isSome = true) (hd : VA P dst .i64 = true) (w : World) :
  (convert src dst (.int .u8 (b.toNat : Int))).run P w = .ok (.int .i64 (b.toNat : Int)) w := by
 have h := X0V (P := P) (n := (b.toNat : Int)) (k := .u8) hs hd w
 have := b.toNat_lt
 rwa [IntWalk.i64_in _ ⟨by omega, by omega⟩] at h
theorem X8q {src dst : TypeId} {k : IntKind} {n : Int} (hs : (P.underlying src).isSome = true) (hd : VA P dst .i64 = true) (hn : -9223372036854775808 ≤ n ∧ n ≤ 9223372036854775807) (w : World) :
  (convert src dst (.int k n)).run P w = .ok (.int .i64 n) w := by
 have h := X0V (P := P) (n := n) (k := k) hs hd w
 rwa [IntWalk.i64_in _ hn] at h
end
section
variable {P : Program} {ops : Array Oper} {draw : Bool} {K : St → Prop} {rest : List Oper} {l : XH} {S : St}
variable {d : Nat} {ty : TypeId} {pos : String} {aft : Array Edge} {gd : Option (Nat × Bool)}
theorem X3e {op : BinOp} {xt yt : TypeId} {x y : Operand} {u v r : Value} (r' : Value) (hr' : r = r') (hx : S.ev x = .d (.v u)) (hy : S.ev y = .d (.v v))
  (hr : ∀ w, (do eqGuard op xt x y u v; binOp op xt u v : Sem Value).run P w = .ok r w) (h1 : r'.oneCell' = true) (hd : Nat.blt d S.n = true) (hg : X9 ops S gd)
  (h : Walk P ops draw K rest ((l.length, ⟨some d, .binOp op xt x y yt, ty, pos, aft, gd⟩, ⟨X7 ops gd ++ [(x, .d (.v u)), (y, .d (.v v))], some (d, .d (.v r')), [], [], []⟩) :: l) (S.set d (.d (.v r')))) :
  Walk P ops draw K (⟨some d, .binOp op xt x y yt, ty, pos, aft, gd⟩ :: rest) l S := by
 subst hr'
 exact U7 hx hy hr h1 hd hg h
end
end Go.Fw
namespace Go.Fw
open Go
set_option linter.unusedVariables false
def U1 (k : IntKind) : Nat := if k.signed then k.bits - 1 else k.bits
theorem Y0 : 2 ^ U1 .u8 = 256 := by decide
theorem Xz : 2 ^ U1 .u64 = 18446744073709551616 := by decide
theorem XJ : 2 ^ U1 .i64 = 9223372036854775808 := by decide
theorem X64 (k : IntKind) : 2 ^ U1 k ≤ 2 ^ k.bits := Nat.pow_le_pow_right (by omega) (by unfold U1; split <;> omega)
theorem X0k {k : IntKind} {n : Nat} (h : n < 2 ^ U1 k) : k.wrap (n : Int) = n := by
 cases k <;> simp [U1, IntKind.signed, IntKind.bits] at h <;> simp [IntKind.wrap, IntKind.bits, IntKind.signed] <;> omega
theorem X2h {k : IntKind} {n : Nat} (hs : k.signed = false) : k.wrap (n : Int) = ((n % 2 ^ k.bits : Nat) : Int) := by
 simp [IntKind.wrap, hs]
theorem X0a {m n : Nat} (h : n < 2 ^ m) : (BitVec.ofInt m (n : Int)).toNat = n := by
 rw [BitVec.ofInt_natCast, BitVec.toNat_ofNat]; exact Nat.mod_eq_of_lt h
section
variable {P : Program} {t : TypeId} {x y : Operand} {k : IntKind} {a b : Nat}
theorem X3O {op : BinOp} {a b : Int} {r : Value} (h1 : op = .and ∨ op = .or ∨ op = .xor) (h : Op.intBits op k a b = pure r) (w : World) : (do eqGuard op t x y (.int k a) (.int k b); binOp op t (.int k a) (.int k b) : Sem Value).run P w = .ok r w := by
 rcases h1 with rfl | rfl | rfl <;> simp [eqGuard, binOp, h]
theorem X5X {op : BinOp} {a b : Int} {k' : IntKind} {r : Value} (h1 : op = .shl ∨ op = .shr) (h : Op.shift op k a k' b = pure r) (w : World) : (do eqGuard op t x y (.int k a) (.int k' b); binOp op t (.int k a) (.int k' b) : Sem Value).run P w = .ok r w := by
 rcases h1 with rfl | rfl <;> simp [eqGuard, binOp, h]
theorem YT (ha : a < 2 ^ U1 k) (hb : b < 2 ^ U1 k) (w : World) : (do eqGuard .and t x y (.int k a) (.int k b); binOp .and t (.int k a) (.int k b) : Sem Value).run P w = .ok (.int k ((a &&& b : Nat) : Int)) w := by
 have h := X64 k
 have := Nat.and_lt_two_pow a hb
 refine X3O (.inl rfl) ?_ w
 simp only [Op.intBits, BitVec.toNat_and, X0a (Nat.lt_of_lt_of_le ha h), X0a (Nat.lt_of_lt_of_le hb h), X0k this]
theorem U6 (ha : a < 2 ^ U1 k) (hb : b < 2 ^ U1 k) (w : World) : (do eqGuard .or t x y (.int k a) (.int k b); binOp .or t (.int k a) (.int k b) : Sem Value).run P w = .ok (.int k ((a ||| b : Nat) : Int)) w := by
 have h := X64 k
 have := Nat.or_lt_two_pow ha hb
 refine X3O (.inr (.inl rfl)) ?_ w
 simp only [Op.intBits, BitVec.toNat_or, X0a (Nat.lt_of_lt_of_le ha h), X0a (Nat.lt_of_lt_of_le hb h), X0k this]
theorem X2L {k' : IntKind} (hb : b ≤ k.bits) (w : World) : (do eqGuard .shr t x y (.int k a) (.int k' b); binOp .shr t (.int k a) (.int k' b) : Sem Value).run P w = .ok (.int k ((a / 2 ^ b : Nat) : Int)) w := by
 have e : (a : Int).fdiv (2 ^ b) = ((a / 2 ^ b : Nat) : Int) := by
  rw [Int.fdiv_eq_ediv_of_nonneg _ (by exact Int.le_of_lt (Int.pow_pos (by omega)))]; simp
 refine X5X (.inr rfl) ?_ w
 have hb0 : ¬ ((b : Int) < 0) := by omega
 simp only [Op.shift, if_neg hb0, Int.toNat_natCast, Nat.min_eq_left hb, e]
theorem YX {k' : IntKind} (hs : k.signed = false) (hb : b ≤ k.bits) (w : World) : (do eqGuard .shl t x y (.int k a) (.int k' b); binOp .shl t (.int k a) (.int k' b) : Sem Value).run P w = .ok (.int k ((a * 2 ^ b % 2 ^ k.bits : Nat) : Int)) w := by
 have e := X2h (k := k) (n := a * 2 ^ b) hs
 rw [show ((a * 2 ^ b : Nat) : Int) = (a : Int) * 2 ^ b by simp] at e
 refine X5X (.inl rfl) ?_ w
 have hb0 : ¬ ((b : Int) < 0) := by omega
 simp only [Op.shift, if_neg hb0, Int.toNat_natCast, Nat.min_eq_left hb, e]
theorem UV (hb : b ≠ 0) (h : a < 2 ^ U1 k) (w : World) : (do eqGuard .quo t x y (.int k a) (.int k b); binOp .quo t (.int k a) (.int k b) : Sem Value).run P w = .ok (.int k ((a / b : Nat) : Int)) w := by
 have e := X0k (k := k) (n := a / b) (Nat.lt_of_le_of_lt (Nat.div_le_self _ _) h)
 have hb' : (b : Int) ≠ 0 := by omega
 have e2 : (a : Int).tdiv b = ((a / b : Nat) : Int) := by rw [Int.tdiv_eq_ediv_of_nonneg (by omega)]; simp
 simp only [eqGuard, binOp, Op.intDiv, if_neg hb', e2, e]
 simp [go_sem]
theorem Yy (hb : b ≠ 0) (w : World) : (do eqGuard .rem t x y (.int k a) (.int k b); binOp .rem t (.int k a) (.int k b) : Sem Value).run P w = .ok (.int k ((a % b : Nat) : Int)) w := by
 have hb' : (b : Int) ≠ 0 := by omega
 have e2 : (a : Int).tmod b = ((a % b : Nat) : Int) := by rw [Int.tmod_eq_emod_of_nonneg (by omega)]; simp
 simp only [eqGuard, binOp, Op.intDiv, if_neg hb', e2]
 simp [go_sem]
theorem V7 (h : a + b < 2 ^ U1 k) (w : World) : (do eqGuard .add t x y (.int k a) (.int k b); binOp .add t (.int k a) (.int k b) : Sem Value).run P w = .ok (.int k ((a + b : Nat) : Int)) w := by
 rw [X45, ← Int.natCast_add, X0k h]
theorem YY (h : a * b < 2 ^ U1 k) (w : World) : (do eqGuard .mul t x y (.int k a) (.int k b); binOp .mul t (.int k a) (.int k b) : Sem Value).run P w = .ok (.int k ((a * b : Nat) : Int)) w := by
 rw [X3E, ← Int.natCast_mul, X0k h]
theorem X8r (hs : k.signed = false) (ha : a < 2 ^ k.bits) (w : World) : (Op.unary .xor (.int k a)).run P w = .ok (.int k ((2 ^ k.bits - 1 - a : Nat) : Int)) w := by
 have hp : 0 < 2 ^ k.bits := Nat.pow_pos (by omega)
 have e0 : k.max = ((2 ^ k.bits - 1 : Nat) : Int) := by
  have : ((2 ^ k.bits : Nat) : Int) = 2 ^ k.bits := by simp
  simp only [IntKind.max, hs, Bool.false_eq_true, if_false]; omega
 have e1 : (BitVec.ofInt k.bits ((2 ^ k.bits - 1 : Nat) : Int)) = BitVec.allOnes k.bits := by
  apply BitVec.eq_of_toNat_eq
  rw [X0a (by omega), BitVec.toNat_allOnes]
 have e2 : (BitVec.allOnes k.bits ^^^ BitVec.ofInt k.bits (a : Int)).toNat = 2 ^ k.bits - 1 - a := by
  rw [BitVec.allOnes_xor, BitVec.toNat_not, X0a ha]
 have e3 := X2h (k := k) (n := 2 ^ k.bits - 1 - a) hs
 rw [Nat.mod_eq_of_lt (by omega)] at e3
 simp only [Op.unary, hs, Bool.false_eq_true, if_false, Op.intBits, e0, e1, e2, e3]
 simp [go_sem]
theorem X8R {n : Int} (h : -9223372036854775808 ≤ n ∧ n ≤ 9223372036854775807) (w : World) : (Op.unary .xor (.int .i64 n)).run P w = .ok (.int .i64 (-n - 1)) w := by
 have e1 : BitVec.ofInt 64 (-1) = BitVec.allOnes 64 := by decide
 have e2 : IntKind.i64.wrap ((BitVec.allOnes 64 ^^^ BitVec.ofInt 64 n).toNat : Int) = -n - 1 := by
  rw [BitVec.allOnes_xor, BitVec.toNat_not, BitVec.toNat_ofInt, IntKind.wrap_i64]
  omega
 have e : Op.unary .xor (.int .i64 n) = pure (.int .i64 (-n - 1)) := by
  show Op.intBits .xor .i64 (-1) n = _
  show (pure (Value.int .i64 (IntKind.i64.wrap ((BitVec.ofInt 64 (-1) ^^^ BitVec.ofInt 64 n).toNat : Int))) : Sem Value) = _
  rw [e1, e2]
 rw [e]; rfl
theorem X7v {n : Int} (h : -9223372036854775807 ≤ n ∧ n ≤ 9223372036854775807) (w : World) : (Op.unary .neg (.int .i64 n)).run P w = .ok (.int .i64 (-n)) w := by
 have e : IntKind.i64.wrap (0 - n) = -n := by rw [IntWalk.i64_in _ (by omega)]; omega
 have e' : Op.unary .neg (.int .i64 n) = pure (.int .i64 (-n)) := by
  show (pure (Value.int .i64 (IntKind.i64.wrap (0 - n))) : Sem Value) = _
  rw [e]
 rw [e']; rfl
variable {src dst : TypeId} {q : IntKind}
theorem YE (hs : (P.underlying src).isSome = true) (hd : VA P dst q = true) (ha : a < 2 ^ U1 q) (w : World) : (convert src dst (.int k (a : Int))).run P w = .ok (.int q (a : Int)) w := by
 have h := X0V (P := P) (n := (a : Int)) (k := k) hs hd w
 rwa [X0k ha] at h
theorem Xal (hs : (P.underlying src).isSome = true) (hd : VA P dst q = true) (hq : q.signed = false) (w : World) : (convert src dst (.int k (a : Int))).run P w = .ok (.int q ((a % 2 ^ q.bits : Nat) : Int)) w := by
 have h := X0V (P := P) (n := (a : Int)) (k := k) hs hd w
 rwa [X2h hq] at h
end
end Go.Fw
namespace Go.Fw
open Go
set_option linter.unusedVariables false
set_option linter.unusedSimpArgs false
structure SrcV (P : Program) (y : AVal) (sz : Nat) (ys : List (List D)) : Prop where
 src : ∀ (E : Env) (L : Nat → AObj) (g : Gh) (w : World) (u : Value), Inv E L g w → y.sat g u → ∀ m, m ≤ ys.length →
  ∃ news, (Builtin.firstCells sz m u).run P w = .ok news w ∧ news.size = m * sz ∧ Xd g ((ys.take m).flatten.map .d) news.toList ∧ (Builtin.lenOf u).run P w = .ok ys.length w ∧ ∀ y ∈ ys.take m, y.length = sz
theorem X9g {P : Program} {sz : Nat} {ys : List (List D)} : SrcV P (.d (.sl sz ys)) sz ys := by
 refine ⟨fun E L g w u hi hs m hm => X4c hi ?_ hm⟩
 simpa only [AVal.sat] using hs
theorem X65 {g : Gh} : ∀ l : List UInt8, Xd g ((l.map fun b => [D.v (.int .u8 b.toNat)]).flatten.map .d) (l.map fun b => Value.int .u8 b.toNat)
 | [] => by simp [Xd]
 | b :: l => by
  simp only [List.map_cons, List.flatten_cons, List.singleton_append, Xd]
  exact ⟨Ud rfl, X65 l⟩
theorem X6w {P : Program} {l : List UInt8} : SrcV P (as (X4 l)) 1 (l.map fun b => [.v (.int .u8 b.toNat)]) := by
 refine ⟨fun E L g w u hi hs m hm => ?_⟩
 have hu := XZ hs
 subst hu
 rw [List.length_map] at hm
 have hsz : (X4 l).size = l.length := rfl
 have hex : ((X4 l).extract 0 m).data = (l.take m).toArray := by
  rw [ByteArray.data_extract]
  simp [X4]
 refine ⟨((l.take m).map fun b => Value.int .u8 b.toNat).toArray, ?_, by simp; omega, ?_, by simp [Builtin.lenOf, hsz], ?_⟩
 ·simp only [Builtin.firstCells, hex, Sem.run_pure]
  congr 1
  simp
 ·rw [← List.map_take]
  exact X65 _
 ·intro y hy
  rw [← List.map_take] at hy
  obtain ⟨b, _, rfl⟩ := List.mem_map.1 hy
  rfl
section
variable {P : Program} {ops : Array Oper} {draw : Bool} {K : St → Prop} {rest : List Oper} {l : XH} {S : St}
variable {d : Nat} {ty : TypeId} {pos : String} {aft : Array Edge} {gd : Option (Nat × Bool)}
theorem X4I {g : Gh} {w : World} {h : Value} {sz : Nat} {xs : List (List D)} (hr : Ub g w h sz xs) : ∃ b c, h = .slice b xs.length c ∧ xs.length ≤ c := by
 rcases hr.2 with ⟨e, rfl⟩ | ⟨b, cap, vs, e', fr, e, hc, _⟩
 ·exact ⟨none, 0, e, Nat.le_refl _⟩
 ·exact ⟨_, _, e, hc⟩
theorem X6E {T : TypeId} {x lo : Operand} {γ n sz k : Nat} {xs : List (List D)} (hx : S.ev x = .own γ n) (hL : S.obj γ = .row sz xs) (hlo : S.ev lo = ai k) (hn : n = xs.length) (hk : k ≤ xs.length)
  (hT : XS P T sz = true) (hd : Nat.blt d S.n = true) (hg : X9 ops S gd)
  (h : Walk P ops draw K rest ((l.length, ⟨some d, .slice T x (some lo) none none, ty, pos, aft, gd⟩, ⟨X7 ops gd ++ [(x, .own γ n), (lo, ai k)], some (d, .cut γ n k sz), [(γ, .row sz xs)], [], []⟩) :: l) (S.set d (.cut γ n k sz))) :
  Walk P ops draw K (⟨some d, .slice T x (some lo) none none, ty, pos, aft, gd⟩ :: rest) l S := by
 refine Xw ⟨[(x, .own γ n), (lo, ai k)], some (d, .cut γ n k sz), [(γ, .row sz xs)], [], []⟩ (XQ rfl fun E S g a w hs hq hl => ?_) hg
  ⟨⟨hx, hlo, trivial⟩, ⟨hL, trivial⟩, trivial, hd⟩ h
 have ho := hs.1.obj γ
 rw [hl.1] at ho
 obtain ⟨e, h1, h2, h3⟩ := V6 hT
 have hv : a.eval x = g.hd γ := X1u hq.1 ho hn
 obtain ⟨b, cap, hh, c1⟩ := X4I (h := g.hd γ) ho
 have hbd := X4a (P := P) (g := g) (a := a) (lo := some lo) (hi := none) (l := k) (h := xs.length) (isSl := true) (len := xs.length) (cap := cap) (fun e => by cases e) (fun _ => rfl) ⟨hq.2.1, trivial⟩ trivial hk c1 w
 have hrun := run_slice_any (P := P) w T b xs.length cap (by rw [h3]; exact h1) (some (a.eval lo)) none none
 simp only [Option.map_some, Option.map_none] at hbd
 rw [hbd, Result.andThen_ok, h3, h2 w, Result.andThen_ok] at hrun
 refine ⟨sliced b k xs.length cap sz, ?_, ?_⟩
 ·simp only [execOp, hv, hh, Instr.sliceAt, Sem.run_bind, run_underlying h1, Result.andThen_ok, Option.map_some, Option.map_none, hrun]; rfl
 ·simp only [AVal.sat, sliced]
  exact ⟨rfl, b, xs.length, cap, hh, by omega, fun _ => by rw [hn]⟩
theorem XaQ {x y : Operand} {yv : AVal} {T T2 : TypeId} {γ n sz m k : Nat} {r ys : List (List D)} (hx : S.ev x = .cut γ n k sz) (hL : S.obj γ = .row sz r) (hn : n = r.length) (hk : k ≤ r.length) (hy : S.ev y = yv) (hsrc : SrcV P yv sz ys) (hm : m = min ys.length (r.length - k))
  (hT : XS P T sz = true) {d' : Option (Nat × AVal)} (hd : Vg S d') (hd' : d' = none ∨ ∃ t, d' = some (t, ai m)) (hg : X9 ops S gd)
  (h : Walk P ops draw K rest ((l.length, ⟨d'.map (·.1), .call ⟨.builtin .copy, #[x, y], #[T, T2]⟩, ty, pos, aft, gd⟩, ⟨X7 ops gd ++ [(x, .cut γ n k sz), (y, yv)], d', [(γ, .row sz r)], [(γ, .row sz (r.take k ++ ys.take m ++ r.drop (k + m)))], []⟩) :: l)
   ⟨S.n, d'.toList ++ S.τ, (γ, .row sz (r.take k ++ ys.take m ++ r.drop (k + m))) :: S.L⟩) :
  Walk P ops draw K (⟨d'.map (·.1), .call ⟨.builtin .copy, #[x, y], #[T, T2]⟩, ty, pos, aft, gd⟩ :: rest) l S := by
 refine Xw ⟨[(x, .cut γ n k sz), (y, yv)], d', [(γ, .row sz r)], [(γ, .row sz (r.take k ++ ys.take m ++ r.drop (k + m)))], []⟩ ?_ hg ⟨⟨hx, hy, trivial⟩, ⟨hL, trivial⟩, trivial, hd⟩ h
 intro E S a w g hs hok Q K hK
 obtain ⟨ok1, ⟨l1, _⟩, _, ok4⟩ := hok
 have hq := UR hs _ ok1
 have ho := hs.1.obj γ
 rw [l1] at ho
 have hrow : Ub g w (g.hd γ) sz r := ho
 obtain ⟨b, cap, hh, c1⟩ := X4I hrow
 have hx' : a.eval x = .slice (if cap = k then b else b.map fun p => p.add (k * sz)) (n - k) (cap - k) := by
  have := hq.1
  simp only [AVal.sat] at this
  obtain ⟨_, a', m', c', e1, _, e3⟩ := this
  rw [hh] at e1; cases e1
  exact e3 hn
 obtain ⟨news, n1, n2, n3, n4, n5⟩ := hsrc.src E _ g w _ hs.1 hq.2.1 m (by omega)
 obtain ⟨w', s1, s2, s3, s4, s5, s6⟩ := X2Y (P := P) (k := k) (m := m) hrow (by omega) n5 (by simp; omega) n2 n3
 have hst : (match Value.slice (if cap = k then b else b.map fun p => p.add (k * sz)) (n - k) (cap - k) with | .slice (some a) _ _ => (storeCells (a.add (0 * sz)) news.toList).run P w | _ => .ok () w) = .ok () w' := by
  by_cases hck : cap = k
  ·have hm0 : m = 0 := by omega
   have hnil : news.toList = [] := by
    apply List.eq_nil_of_length_eq_zero
    rw [Array.length_toList, n2, hm0, Nat.zero_mul]
   rw [hnil, hh] at s1
   rw [if_pos hck, hnil]
   cases b with
   | none => exact s1
   | some p => simpa [storeCells] using s1
  ·rw [if_neg hck]
   rw [hh] at s1
   cases b with
   | none => exact s1
   | some p =>
    simp only [Option.map_some, Nat.zero_mul, Addr.add_zero']
    exact s1
 have hrun := X5P (P := P) (T2 := T2) (ty := ty) (m := m) hT hx' n4 (by omega) n1 (by rw [hx']; exact hst)
 have hi : Inv E (Xe .dead ((γ, .row sz (r.take k ++ ys.take m ++ r.drop (k + m))) :: S.L)) g w' := by
  refine Inv.upd hs.1 γ _ (Yf _ _ _ _) (fun j hj => Yd _ _ _ (Ne.symm hj)) (fun b hb hnl => s3 b fun hc => hnl (by rw [l1]; exact hc)) (by omega) s5 s6 rfl (fun _ _ => ⟨rfl, rfl, rfl⟩) (fun _ _ _ _ _ h => h) s2 (fun b hb => .inl ?_) (fun _ => Gh.keeps_refl _ _)
  rw [l1]; exact hb
 have hrun' : (execOp a.eval ⟨d'.map (·.1), .call ⟨.builtin .copy, #[x, y], #[T, T2]⟩, ty, pos, aft, gd⟩).run P w = .ok (.value (.int .i64 m)) w' := by
  simp [execOp, resolve, invoke, builtin, hrun]
 unfold Oper.wp
 rw [hrun', Oper.upon_value]
 rcases hd' with rfl | ⟨t, rfl⟩
 ·exact hK _ _ ⟨g, hi, hs.2.1, hs.2.2.1, hs.2.2.2⟩
 ·exact hK _ _ (UU hi hs.2.1 hs.2.2.1 hs.2.2.2 (Ud rfl) ok4)
theorem X7l {x y : Operand} {yv : AVal} {T T2 : TypeId} {γ n sz m k : Nat} {r ys : List (List D)} (hx : S.ev x = .cut γ n k sz) (hL : S.obj γ = .row sz r) (hn : n = r.length) (hk : k ≤ r.length) (hy : S.ev y = yv) (hsrc : SrcV P yv sz ys) (hm : m = min ys.length (r.length - k))
  (hT : XS P T sz = true) (hd : Nat.blt d S.n = true) (hg : X9 ops S gd)
  (h : Walk P ops draw K rest ((l.length, ⟨some d, .call ⟨.builtin .copy, #[x, y], #[T, T2]⟩, ty, pos, aft, gd⟩, ⟨X7 ops gd ++ [(x, .cut γ n k sz), (y, yv)], some (d, ai m), [(γ, .row sz r)], [(γ, .row sz (r.take k ++ ys.take m ++ r.drop (k + m)))], []⟩) :: l)
   ((S.set d (ai m)).own γ (.row sz (r.take k ++ ys.take m ++ r.drop (k + m))))) :
  Walk P ops draw K (⟨some d, .call ⟨.builtin .copy, #[x, y], #[T, T2]⟩, ty, pos, aft, gd⟩ :: rest) l S :=
 XaQ (d' := some (d, ai m)) hx hL hn hk hy hsrc hm hT hd (.inr ⟨d, rfl⟩) hg h
theorem X8J {T : TypeId} {x lo hi mx : Operand} {sz lb hb mb : Nat} {xs : List (List D)} (hx : S.ev x = .d (.sl sz xs)) (hlo : S.ev lo = ai lb) (hhi : S.ev hi = ai hb) (hmx : S.ev mx = ai mb) (hlh : lb ≤ hb) (hh : hb ≤ mb) (hm : mb ≤ xs.length)
  (hT : XS P T sz = true) (hd : Nat.blt d S.n = true) (hg : X9 ops S gd)
  (h : Walk P ops draw K rest ((l.length, ⟨some d, .slice T x (some lo) (some hi) (some mx), ty, pos, aft, gd⟩, ⟨X7 ops gd ++ [(x, .d (.sl sz xs)), (lo, ai lb), (hi, ai hb), (mx, ai mb)], some (d, .d (.sl sz ((xs.take hb).drop lb))), [], [], []⟩) :: l) (S.set d (.d (.sl sz ((xs.take hb).drop lb))))) :
  Walk P ops draw K (⟨some d, .slice T x (some lo) (some hi) (some mx), ty, pos, aft, gd⟩ :: rest) l S := by
 refine Xw ⟨[(x, .d (.sl sz xs)), (lo, ai lb), (hi, ai hb), (mx, ai mb)], some (d, .d (.sl sz ((xs.take hb).drop lb))), [], [], []⟩ (XQ rfl fun E S g a w hs hq hl => ?_) hg
  ⟨⟨hx, hlo, hhi, hmx, trivial⟩, trivial, trivial, hd⟩ h
 obtain ⟨e, h1, h2, h3⟩ := V6 hT
 obtain ⟨hq1, hq2, hq3, hq4, _⟩ := hq
 simp only [AVal.sat, D.rep] at hq1
 obtain ⟨b, cap, hv, c1, c2, c3⟩ := hq1
 have e2 := XZ hq2
 have e3 := XZ hq3
 have e4 := XZ hq4
 have hmc : mb ≤ cap := by omega
 have hbd : (Instr.sliceBounds true xs.length cap (some (a.eval lo)) (some (a.eval hi)) (some (a.eval mx))).run P w = .ok (lb, hb, mb) w := by
  simp [Instr.sliceBounds, e2, e3, e4, run_sliceBound, hlh, hh, hmc]
 have hrun := run_slice_any (P := P) w T b xs.length cap (by rw [h3]; exact h1) (some (a.eval lo)) (some (a.eval hi)) (some (a.eval mx))
 rw [hbd, Result.andThen_ok, h3, h2 w, Result.andThen_ok] at hrun
 refine ⟨sliced b lb hb mb sz, ?_, ?_⟩
 ·simp only [execOp, hv, Instr.sliceAt, Sem.run_bind, run_underlying h1, Result.andThen_ok, Option.map_some, hrun]; rfl
 ·simp only [AVal.sat, D.rep, sliced]
  have hlen : ((xs.take hb).drop lb).length = hb - lb := by simp; omega
  refine ⟨if mb = lb then b else b.map fun p => p.add (lb * sz), mb - lb, by rw [hlen], by omega, by omega, ?_⟩
  rcases c3 with rfl | ⟨b', o, rfl, hr⟩
  ·left; simp
  ·by_cases hem : (xs.take hb).drop lb = []
   ·exact .inl hem
   ·right
    have hne : mb ≠ lb := by
     intro e
     apply hem
     apply List.eq_nil_of_length_eq_zero
     omega
    refine ⟨b', o + lb * sz, ?_, X34 (X1I hr hb) lb⟩
    rw [if_neg hne, Option.map_some, Yj]
end
end Go.Fw
