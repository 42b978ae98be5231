/- Thirteenth part: contracts under other keys; calls of function values. -/
import Derived.Laws.Strings
import Derived.Laws.BytesString
import Derived.Laws.StructEq
import Derived.Laws.Entries
import Derived.Laws.BitsLemmas
import Derived.Test.YtbhleedlnaakkaaGreatG05
namespace Go.Fw
open Go
set_option linter.unusedVariables false
set_option linter.unusedSimpArgs false
mutual
def AVal.ren (ρ : Nat → Nat) : AVal → AVal
 | .any => .any
 | .d x => .d x
 | .ptr γ o => .ptr (ρ γ) o
 | .own γ n => .own (ρ γ) n
 | .rptr γ n o => .rptr (ρ γ) n o
 | .inn γ i => .inn (ρ γ) i
 | .bsl γ n => .bsl (ρ γ) n
 | .mptr γ n i => .mptr (ρ γ) n i
 | .cut γ n k sz => .cut (ρ γ) n k sz
 | .dptr row => .dptr row
 | .bq p q => .bq p q
 | .agg cs => .agg (UZ ρ cs)
 | .tup cs => .tup (UZ ρ cs)
 | .fn f cs => .fn f (UZ ρ cs)
def UZ (ρ : Nat → Nat) : List AVal → List AVal
 | [] => []
 | x :: r => x.ren ρ :: UZ ρ r
end
def AObj.ren (ρ : Nat → Nat) : AObj → AObj
 | .dead => .dead
 | .box cs => .box (UZ ρ cs)
 | .row sz xs => .row sz xs
 | .froz sz xs => .froz sz xs
 | .mat sz rows => .mat sz rows
 | .iter s p => .iter s p
 | .imap es => .imap es
def V8 (ρ : Nat → Nat) : List (Nat × AObj) → List (Nat × AObj)
 | [] => []
 | (k, o) :: r => (ρ k, o.ren ρ) :: V8 ρ r
def Gh.pull (g : Gh) (ρ : Nat → Nat) : Gh := { blk := fun k => g.blk (ρ k), hd := fun k => g.hd (ρ k), ihd := fun k => g.ihd (ρ k), M := g.M }
mutual
theorem X9D {g : Gh} {ρ : Nat → Nat} : ∀ (x : AVal) (u : Value), (x.ren ρ).sat g u ↔ x.sat (g.pull ρ) u
 | .any, _ => by simp only [AVal.ren, AVal.sat]
 | .d x, _ => by simp only [AVal.ren, AVal.sat, Gh.pull]
 | .ptr γ o, _ => by simp only [AVal.ren, AVal.sat, Gh.pull]
 | .own γ n, _ => by simp only [AVal.ren, AVal.sat, Gh.pull]
 | .rptr γ n o, _ => by simp only [AVal.ren, AVal.sat, Gh.pull]
 | .inn γ i, _ => by simp only [AVal.ren, AVal.sat, Gh.pull]
 | .bsl γ n, _ => by simp only [AVal.ren, AVal.sat, Gh.pull]
 | .mptr γ n i, _ => by simp only [AVal.ren, AVal.sat, Gh.pull]
 | .cut γ n k sz, _ => by simp only [AVal.ren, AVal.sat, Gh.pull]
 | .dptr row, _ => by simp only [AVal.ren, AVal.sat, Gh.pull]
 | .bq p q, _ => by simp only [AVal.ren, AVal.sat]
 | .agg cs, u => by simp only [AVal.ren, AVal.sat, X1I cs]
 | .tup cs, u => by simp only [AVal.ren, AVal.sat, X1I cs]
 | .fn f cs, u => by simp only [AVal.ren, AVal.sat, X1I cs]
theorem X1I {g : Gh} {ρ : Nat → Nat} : ∀ (xs : List AVal) (us : List Value), Xl g (UZ ρ xs) us ↔ Xl (g.pull ρ) xs us
 | [], [] => by simp only [UZ, Xl]
 | [], _ :: _ => by simp only [UZ, Xl]
 | _ :: _, [] => by simp only [UZ, Xl]
 | x :: xs, u :: us => by simp only [UZ, Xl, X9D x u, X1I xs us]
end
theorem Xa4 {ρ : Nat → Nat} : ∀ (cs : List AVal), (∀ c ∈ cs, c.cellish = true) ↔ ∀ c ∈ UZ ρ cs, c.cellish = true
 | [] => by simp [UZ]
 | c :: r => by
  simp only [UZ, List.mem_cons, forall_eq_or_imp, ← Xa4 r]
  refine and_congr_left fun _ => ?_
  cases c <;> simp [AVal.ren, AVal.cellish]
theorem XcE {g : Gh} {ρ : Nat → Nat} {l : List D} {us : List Value} : Xl (g.pull ρ) (l.map .d) us ↔ Xl g (l.map .d) us := by
 have h : UZ ρ (l.map .d) = l.map .d := by
  induction l with
  | nil => rfl
  | cons x r ih => simp [UZ, AVal.ren, ih]
 rw [← X1I, h]
theorem X7H {g : Gh} {ρ : Nat → Nat} {w : World} {h : Value} {sz : Nat} {xs : List (List D)} : Vs (g.pull ρ) w h sz xs ↔ Vs g w h sz xs := by
 simp only [Vs, XcE]
theorem X7x {g : Gh} {ρ : Nat → Nat} {w : World} {γ : Nat} (o : AObj) : Uy g w (ρ γ) (o.ren ρ) ↔ Uy (g.pull ρ) w γ o := by
 cases o with
 | dead => exact Iff.rfl
 | box cs => simp only [AObj.ren, Uy, X1I, ← Xa4 cs]; rfl
 | row sz xs => simp only [AObj.ren, Uy]; exact X7H.symm
 | froz sz xs => exact Iff.rfl
 | iter s p => exact Iff.rfl
 | imap es => exact Iff.rfl
 | mat sz rows => simp only [AObj.ren, Uy, X5O, X7H]; rfl
theorem X5F {g : Gh} {ρ : Nat → Nat} {γ b : Nat} (o : AObj) : XV g (o.ren ρ) (ρ γ) b ↔ XV (g.pull ρ) o γ b := by
 cases o <;> exact Iff.rfl
theorem X27 {ρ σ : Nat → Nat} (h1 : ∀ k, σ (ρ k) = k) : ∀ (L : List (Nat × AObj)) (γ : Nat), Xo .dead (V8 ρ L) (ρ γ) = (Xo .dead L γ).ren ρ
 | [], γ => rfl
 | (k, o) :: r, γ => by
  simp only [V8]
  by_cases h : k = γ
  ·subst h; rw [YE, YE]
  ·rw [YS _ _ _ h, YS _ _ _ (fun e => h (by rw [← h1 k, ← h1 γ, e])), X27 h1 r γ]
theorem XaY {ρ σ : Nat → Nat} (h1 : ∀ k, σ (ρ k) = k) : ∀ (L : List (Nat × AObj)) (γ : Nat), XB (ρ γ) (V8 ρ L) = XB γ L
 | [], γ => rfl
 | (k, o) :: r, γ => by
  simp only [V8, XB, XaY h1 r γ]
  congr 1
  rw [Bool.eq_iff_iff]
  simp only [Nat.beq_eq]
  exact ⟨fun e => by rw [← h1 k, ← h1 γ, e], fun e => by rw [e]⟩
theorem X7v {E : Env} {ρ σ : Nat → Nat} (h1 : ∀ k, σ (ρ k) = k) (h2 : ∀ k, ρ (σ k) = k) {L : List (Nat × AObj)} {g : Gh} {w : World} {g0 : Gh} :
  Inv { E with g0 := g } (Xo .dead (V8 ρ L)) g w ↔ Inv { E with g0 := g.pull ρ } (Xo .dead L) (g.pull ρ) w := by
 have hlv : ∀ γ b, XV g (Xo .dead (V8 ρ L) (ρ γ)) (ρ γ) b ↔ XV (g.pull ρ) (Xo .dead L γ) γ b := fun γ b => by rw [X27 h1]; exact X5F _
 constructor
 ·intro hi
  refine ⟨fun γ => ?_, fun γ γ' b h h' => ?_, hi.mem, fun γ b h => hi.sep (ρ γ) b ((hlv _ _).2 h), fun γ b h => hi.new (ρ γ) b ((hlv _ _).2 h), hi.ext, hi.lim, hi.frame, hi.size, hi.os, hi.out, fun _ _ => Gh.keeps_refl _ _⟩
  ·have := hi.obj (ρ γ); rw [X27 h1] at this; exact (X7x _).1 this
  ·have := hi.inj (ρ γ) (ρ γ') b ((hlv _ _).2 h) ((hlv _ _).2 h')
   rw [← h1 γ, ← h1 γ', this]
 ·intro hi
  have hs : ∀ γ b, XV g (Xo .dead (V8 ρ L) γ) γ b → XV (g.pull ρ) (Xo .dead L (σ γ)) (σ γ) b := fun γ b h => by
   have := (hlv (σ γ) b).1; rw [h2] at this; exact this h
  refine ⟨fun γ => ?_, fun γ γ' b h h' => ?_, hi.mem, fun γ b h => hi.sep (σ γ) b (hs _ _ h), fun γ b h => hi.new (σ γ) b (hs _ _ h), hi.ext, hi.lim, hi.frame, hi.size, hi.os, hi.out, fun _ _ => Gh.keeps_refl _ _⟩
  ·have := hi.obj (σ γ)
   rw [← X7x (ρ := ρ), ← X27 h1, h2] at this
   exact this
  ·have := hi.inj (σ γ) (σ γ') b (hs _ _ h) (hs _ _ h')
   rw [← h2 γ, ← h2 γ', this]
theorem XhR {g g' : Gh} {ρ : Nat → Nat} {γ : Nat} : (g.pull ρ).keeps (g'.pull ρ) γ ↔ g.keeps g' (ρ γ) := Iff.rfl
theorem XgS {P : Program} {f : FuncId} {Li Lo : List (Nat × AObj)} {args : List AVal} {res : AVal} (ρ σ : Nat → Nat) (h1 : ∀ k, σ (ρ k) = k) (h2 : ∀ k, ρ (σ k) = k) (h : Con P f Li args Lo res) :
  Con P f (V8 ρ Li) (UZ ρ args) (V8 ρ Lo) (res.ren ρ) := by
 intro g w vs hi hs
 have hA : ∀ b, (∃ γ, XV g (Xo .dead (V8 ρ Li) γ) γ b) ↔ ∃ γ, XV (g.pull ρ) (Xo .dead Li γ) γ b := by
  intro b
  constructor
  ·rintro ⟨γ, hγ⟩
   refine ⟨σ γ, ?_⟩
   rw [← h2 γ, X27 h1, X5F] at hγ
   exact hγ
  ·rintro ⟨γ, hγ⟩
   refine ⟨ρ γ, ?_⟩
   rw [X27 h1, X5F]; exact hγ
 have hE : UP (g.pull ρ) w Li = { UP g w (V8 ρ Li) with g0 := g.pull ρ } := by
  simp only [UP, Env.mk.injEq, true_and, and_true]
  exact ⟨rfl, funext fun b => propext (hA b).symm⟩
 have hi' : Inv (UP (g.pull ρ) w Li) (Xo .dead Li) (g.pull ρ) w := by
  rw [hE]; exact (X7v (g0 := g) h1 h2).1 hi
 refine (h (g.pull ρ) w vs hi' ((X1I _ _).1 hs)).mono ?_
 rintro e w' ⟨v, g', rfl, hv, hi2, hk⟩
 have hgp : (g'.pull σ).pull ρ = g' := by simp only [Gh.pull, h1]
 refine ⟨v, g'.pull σ, rfl, (X9D _ _).2 (by rw [hgp]; exact hv), ?_, fun γ hγ => ?_⟩
 ·refine (X7v (E := UP g w (V8 ρ Li)) (g0 := g) h1 h2).2 ?_
  rw [hgp]
  have : ({ UP (g.pull ρ) w Li with g0 := g' } : Env) = { UP g w (V8 ρ Li) with g0 := g' } := by rw [hE]
  rw [← this]; exact hi2
 ·have hγ' : XB (σ γ) Li = true := by rw [← XaY h1, h2]; exact hγ
  have := hk (σ γ) hγ'
  rw [← hgp, XhR, h2] at this
  exact this
def swp (a b k : Nat) : Nat := bif Nat.beq k a then b else bif Nat.beq k b then a else k
theorem Xbx (a b k : Nat) : swp a b (swp a b k) = k := by
 simp only [swp]
 by_cases h1 : k = a
 ·subst h1
  by_cases h2 : b = k
  ·subst h2; simp
  ·have : Nat.beq b k = false := by cases h : Nat.beq b k with | false => rfl | true => exact absurd (Nat.eq_of_beq_eq_true h) h2
   simp [this]
 ·have e1 : Nat.beq k a = false := by cases h : Nat.beq k a with | false => rfl | true => exact absurd (Nat.eq_of_beq_eq_true h) h1
  by_cases h2 : k = b
  ·subst h2; simp [e1]
  ·have e2 : Nat.beq k b = false := by cases h : Nat.beq k b with | false => rfl | true => exact absurd (Nat.eq_of_beq_eq_true h) h2
   simp [e1, e2]
theorem UO {P : Program} {f : FuncId} {Li Lo : List (Nat × AObj)} {args : List AVal} {res : AVal} (a b : Nat) (h : Con P f Li args Lo res) :
  Con P f (V8 (swp a b) Li) (UZ (swp a b) args) (V8 (swp a b) Lo) (res.ren (swp a b)) :=
 XgS _ _ (Xbx a b) (Xbx a b) h
section
variable {P : Program} {ops : Array Oper} {draw : Bool} {K : St → Prop} {rest : List Oper} {l : Yc} {S : St}
variable {d : Nat} {ty : TypeId} {pos : String} {aft : Array Edge} {gd : Option (Nat × Bool)}
theorem XgI {t : Tmp} {f : FuncId} {caps : List AVal} {args : Array Operand} {tys : Array TypeId} {xs : List Operand} {ys zs : List AVal} {Li Lo : List (Nat × AObj)} {res : AVal}
  (ht : S.ev (.tmp t) = .fn f caps) (hxs : args.toList = xs) (hys : evA S xs = ys) (hle : leL (ys ++ caps) zs) (hcon : Con P f Li zs Lo res) (hf : X2y P f = true)
  (hLi : YZ S Li) (hin : X0Z Li Lo = true) (hbox : X02 Lo Lo = true) (hres : res.within Lo = true) (hnew : VL S (YY Li Lo)) (hdead : YZ S (VH (YY Li Lo)))
  (hd : Nat.blt d S.n = true) (hg : Xg ops S gd)
  (h : Walk P ops draw K rest ((l.length, ⟨some d, .call ⟨.value (.tmp t), args, tys⟩, ty, pos, aft, gd⟩, ⟨Xf ops gd ++ ((.tmp t, .fn f caps) :: X0O xs ys), some (d, res), Li ++ VH (YY Li Lo), Lo, YY Li Lo⟩) :: l)
   ((S.set d res).cat Lo)) :
  Walk P ops draw K (⟨some d, .call ⟨.value (.tmp t), args, tys⟩, ty, pos, aft, gd⟩ :: rest) l S := by
 have hap : ∀ (A B : List (Nat × AObj)) (T : St), YZ T (A ++ B) ↔ YZ T A ∧ YZ T B := by
  intro A B T
  simp only [X0N, List.mem_append]
  exact ⟨fun h => ⟨fun p hp => h p (.inl hp), fun p hp => h p (.inr hp)⟩, fun h p hp => hp.elim (h.1 p) (h.2 p)⟩
 have hlen : ys.length = xs.length := by
  rw [← hys]; clear hys hxs h hle
  induction xs with
  | nil => rfl
  | cons x r ih => simp [evA, ih]
 refine XX ⟨(.tmp t, .fn f caps) :: X0O xs ys, some (d, res), Li ++ VH (YY Li Lo), Lo, YY Li Lo⟩ ?_ hg ⟨⟨ht, by rw [← hys]; exact X7h S xs⟩, (hap _ _ _).2 ⟨hLi, hdead⟩, hnew, hd⟩ h
 intro E S a w g hs hok Q K hK
 obtain ⟨ok1, ok2, ok3, ok4⟩ := hok
 rw [hap] at ok2
 obtain ⟨hq1, hq2⟩ := X08 hs _ ok1
 simp only [AVal.sat] at hq1
 obtain ⟨cv, hcv, hcs⟩ := hq1
 have hsat := X3y hle (X0J (X77 hlen hq2) hcs)
 have hinv : Inv (UP g w Li) (Xo .dead Li) g w := by
  have hsub := Xd ok2.1
  have hl : ∀ γ b, XV g (Xo .dead Li γ) γ b → XV g (S.obj γ) γ b := by
   intro γ b hb
   rcases hsub γ with e | e
   ·rw [← e]; exact hb
   ·rw [e] at hb; exact hb.elim
  refine ⟨fun γ => ?_, fun γ γ' b k k' => hs.1.inj γ γ' b (hl _ _ k) (hl _ _ k'), hs.1.mem, fun γ b k => hs.1.sep γ b (hl _ _ k), fun γ b k => .inr ⟨γ, k⟩, Yk.refl _, fun a v ha => .inl ⟨v, ha⟩, fun _ _ _ => rfl, Nat.le_refl _, rfl, rfl, fun γ _ => Gh.keeps_refl _ _⟩
  rcases hsub γ with e | e
  ·rw [e]; exact hs.1.obj γ
  ·rw [e]; trivial
 have hcall := hcon g w (xs.map a.eval ++ cv.toList) hinv hsat
 have hrun : (execOp a.eval ⟨some d, .call ⟨.value (.tmp t), args, tys⟩, ty, pos, aft, gd⟩).run P w = .ok (.enter f (xs.map a.eval ++ cv.toList).toArray) w := by
  have e1 : (#[] ++ args.map a.eval ++ cv : Array Value) = (xs.map a.eval ++ cv.toList).toArray := by
   apply Array.ext'; simp [← hxs]
  simp only [execOp, resolve, hcv, Deferred.ofValue, Sem.run_bind, Sem.run_pure, Result.andThen_ok, invoke]
  rw [Xbj hf]
  congr 2
 unfold Oper.wp
 rw [hrun, Oper.upon_enter]
 refine hcall.mono ?_
 rintro e w' ⟨v, g', rfl, hv, hi', hk⟩
 obtain ⟨j1, j2, j3⟩ := Xaa hs.1 ok2.1 hin hbox ok3 ok2.2 hi' hk
 exact hK _ _ (X0i j1 hs.2.1 hs.2.2.1 (fun t => j3 t _ (hs.2.2.2 t)) (j2 _ _ hres hv) ok4)
end
end Go.Fw
namespace Go.Fw
open Go
set_option linter.unusedVariables false
set_option linter.unusedSimpArgs false
section
variable {P : Program} {ops : Array Oper} {draw : Bool} {K : St → Prop} {rest : List Oper} {l : Yc} {S : St}
variable {d : Nat} {ty : TypeId} {pos : String} {aft : Array Edge} {gd : Option (Nat × Bool)}
theorem Xcg {x y : Operand} {T T2 : TypeId} {γ n sz m : Nat} {r ys : List (List D)} (hx : S.ev x = .own γ n) (hL : S.obj γ = .row sz r) (hn : n = r.length) (hy : S.ev y = .d (.sl sz ys)) (hm : m = min ys.length r.length)
  (hT : Yt P T sz = true) {d' : Option (Nat × AVal)} (hd : X19 S d') (hd' : d' = none ∨ ∃ t, d' = some (t, ai m)) (hg : Xg ops S gd)
  (h : Walk P ops draw K rest ((l.length, ⟨d'.map (·.1), .call ⟨.builtin .copy, #[x, y], #[T, T2]⟩, ty, pos, aft, gd⟩, ⟨Xf ops gd ++ [(x, .own γ n), (y, .d (.sl sz ys))], d', [(γ, .row sz r)], [(γ, .row sz (ys.take m ++ r.drop m))], []⟩) :: l)
   ⟨S.n, d'.toList ++ S.τ, (γ, .row sz (ys.take m ++ r.drop m)) :: S.L⟩) :
  Walk P ops draw K (⟨d'.map (·.1), .call ⟨.builtin .copy, #[x, y], #[T, T2]⟩, ty, pos, aft, gd⟩ :: rest) l S := by
 refine XX ⟨[(x, .own γ n), (y, .d (.sl sz ys))], d', [(γ, .row sz r)], [(γ, .row sz (ys.take m ++ r.drop m))], []⟩ ?_ hg ⟨⟨hx, hy, trivial⟩, ⟨hL, trivial⟩, trivial, hd⟩ h
 intro E S a w g hs hok Q K hK
 obtain ⟨ok1, ⟨l1, _⟩, _, ok4⟩ := hok
 have hq := X08 hs _ ok1
 have ho := hs.1.obj γ
 rw [l1] at ho
 have hx' : a.eval x = g.hd γ := X2u hq.1 ho hn
 have hsy : (D.sl sz ys).rep g.M (a.eval y) := by have := hq.2.1; simpa only [AVal.sat] using this
 have hrow : Vs g w (g.hd γ) sz r := ho
 obtain ⟨news, n1, n2, n3, n4, n5⟩ := XaF (P := P) hs.1 hsy (m := m) (by omega)
 obtain ⟨w', s1, s2, s3, s4, s5, s6⟩ := X5j (P := P) (k := 0) (m := m) hrow (by omega) n5 (by simp; omega) n2 n3
 simp only [List.take_zero, List.nil_append, Nat.zero_add] at s2
 have hhd : ∃ b c, g.hd γ = .slice b r.length c := by
  rcases hrow.2 with ⟨e, rfl⟩ | ⟨b, cap, vs, e', fr, e, _⟩
  ·exact ⟨_, _, e⟩
  ·exact ⟨_, _, e⟩
 obtain ⟨b0, c0, hhd⟩ := hhd
 have hrun := Xaz (P := P) (T2 := T2) (ty := ty) hT hhd n4 hm n1 s1
 have hi : Inv E (Xo .dead ((γ, .row sz (ys.take m ++ r.drop m)) :: S.L)) g w' := by
  refine Inv.upd hs.1 γ _ (YE _ _ _ _) (fun j hj => YS _ _ _ (Ne.symm hj)) (fun b hb hnl => s3 b fun hc => hnl (by rw [l1]; exact hc)) (by omega) s5 s6 rfl (fun _ _ => ⟨rfl, rfl, rfl⟩) (fun _ _ _ _ _ h => h) s2 (fun b hb => .inl ?_) (fun _ => Gh.keeps_refl _ _)
  rw [l1]; exact hb
 have hrun' : (execOp a.eval ⟨d'.map (·.1), .call ⟨.builtin .copy, #[x, y], #[T, T2]⟩, ty, pos, aft, gd⟩).run P w = .ok (.value (.int .i64 m)) w' := by
  simp [execOp, resolve, invoke, builtin, hx', hrun]
 unfold Oper.wp
 rw [hrun', Oper.upon_value]
 rcases hd' with rfl | ⟨t, rfl⟩
 ·exact hK _ _ ⟨g, hi, hs.2.1, hs.2.2.1, hs.2.2.2⟩
 ·exact hK _ _ (X0i hi hs.2.1 hs.2.2.1 hs.2.2.2 (Vy rfl) ok4)
theorem Xfb {x y : Operand} {T T2 : TypeId} {γ n sz m : Nat} {r ys : List (List D)} (hx : S.ev x = .own γ n) (hL : S.obj γ = .row sz r) (hn : n = r.length) (hy : S.ev y = .d (.sl sz ys)) (hm : m = min ys.length r.length)
  (hT : Yt P T sz = true) (hd : Nat.blt d S.n = true) (hg : Xg ops S gd)
  (h : Walk P ops draw K rest ((l.length, ⟨some d, .call ⟨.builtin .copy, #[x, y], #[T, T2]⟩, ty, pos, aft, gd⟩, ⟨Xf ops gd ++ [(x, .own γ n), (y, .d (.sl sz ys))], some (d, ai m), [(γ, .row sz r)], [(γ, .row sz (ys.take m ++ r.drop m))], []⟩) :: l)
   ((S.set d (ai m)).own γ (.row sz (ys.take m ++ r.drop m)))) :
  Walk P ops draw K (⟨some d, .call ⟨.builtin .copy, #[x, y], #[T, T2]⟩, ty, pos, aft, gd⟩ :: rest) l S :=
 Xcg (d' := some (d, ai m)) hx hL hn hy hm hT hd (.inr ⟨d, rfl⟩) hg h
end
theorem XI {S : St} (β : Nat) {cs cs' : List AVal} (hb : S.obj β = .box cs) (hle : leL cs cs') (hc : Vp cs' = true) : S.le (S.own β (.box cs')) := by
 rintro E a w ⟨g, hs⟩
 have ho := hs.1.obj β
 rw [hb] at ho
 obtain ⟨vs, e, fr, h1, h2, h3, h4⟩ := ho
 have hi2 : Inv E (Xo .dead ((β, .box cs') :: S.L)) g w := by
  refine Inv.upd hs.1 β _ (YE _ _ _ _) (fun k hk => YS _ _ _ (Ne.symm hk)) (fun _ _ _ => rfl) (Nat.le_refl _) rfl rfl rfl (fun _ _ => ⟨rfl, rfl, rfl⟩) (fun _ _ _ _ _ h => h) ?_ (fun b hb' => .inl (by rw [hb]; exact hb')) (fun _ => Gh.keeps_refl _ _)
  exact ⟨vs, e, fr, h1, h2, X3y hle h3, (X1s _).1 hc⟩
 exact X1X hs hi2 rfl hs.2.2.2
def X5 (l : List UInt8) : ByteArray := ⟨l.toArray⟩
theorem X1F (l : List UInt8) : (X5 l).toList = l := by
 rw [ByteArray.toList_eq]; simp [X5]
theorem Xh0 (l : List UInt8) : ∀ s : ByteArray, (l.map fun b => (b.toNat : Int)).foldl (fun r n => r.push (UInt8.ofNat n.toNat)) s = ⟨s.data ++ l.toArray⟩ := by
 induction l with
 | nil => intro s; cases s; simp
 | cons b l ih =>
  intro s
  simp only [List.map_cons, List.foldl_cons, ih]
  cases s
  simp [ByteArray.push]
section
variable {P : Program} {ops : Array Oper} {draw : Bool} {K : St → Prop} {rest : List Oper} {l : Yc} {S : St}
variable {d : Nat} {ty : TypeId} {pos : String} {aft : Array Edge} {gd : Option (Nat × Bool)}
theorem Xej {t : TypeId} {x y : Operand} {a b : List UInt8} (w : World) : (do eqGuard .eql t x y (.string (X5 a)) (.string (X5 b)); binOp .eql t (.string (X5 a)) (.string (X5 b)) : Sem Value).run P w = .ok (.bool (decide (a = b))) w := by
 simp [go_sem, X1F]; exact Bool.beq_eq_decide_eq a b
theorem XhM {t : TypeId} {x y : Operand} {a b : List UInt8} (w : World) : (do eqGuard .neq t x y (.string (X5 a)) (.string (X5 b)); binOp .neq t (.string (X5 a)) (.string (X5 b)) : Sem Value).run P w = .ok (.bool (decide (a ≠ b))) w := by
 simp [go_sem, X1F]; exact Bool.beq_eq_decide_eq a b
def X3J (P : Program) (src dst : TypeId) : Bool :=
 match P.underlying src, P.underlying dst with
 | some (.slice e), some .string => (match P.underlying e with | some (.int .u8) => true | _ => false)
 | _, _ => false
theorem XdL {src dst : TypeId} (h : X3J P src dst = true) : ∃ e, P.underlying src = some (.slice e) ∧ P.underlying e = some (.int .u8) ∧ P.underlying dst = some .string := by
 unfold X3J at h
 split at h
 ·rename_i e h1 h2
  split at h
  ·rename_i h3
   exact ⟨e, h1, h3, h2⟩
  ·simp at h
 ·simp at h
theorem XeH (b : List UInt8) : (b.map fun c => [D.v (.int .u8 c.toNat)]).flatten = b.map fun c => D.v (.int .u8 c.toNat) := by
 induction b with
 | nil => rfl
 | cons c b ih => simp [ih]
theorem XbT {src dst : TypeId} {x : Operand} {b : List UInt8} (hx : S.ev x = .d (.sl 1 (b.map fun c => [D.v (.int .u8 c.toNat)]))) (ht : X3J P src dst = true) (hd : Nat.blt d S.n = true) (hg : Xg ops S gd)
  (h : Walk P ops draw K rest ((l.length, ⟨some d, .convert src dst x, ty, pos, aft, gd⟩, ⟨Xf ops gd ++ [(x, .d (.sl 1 (b.map fun c => [D.v (.int .u8 c.toNat)])))], some (d, .d (.v (.string (X5 b)))), [], [], []⟩) :: l) (S.set d (.d (.v (.string (X5 b)))))) :
  Walk P ops draw K (⟨some d, .convert src dst x, ty, pos, aft, gd⟩ :: rest) l S := by
 refine XX ⟨[(x, .d (.sl 1 (b.map fun c => [D.v (.int .u8 c.toNat)])))], some (d, .d (.v (.string (X5 b)))), [], [], []⟩ (YB rfl fun E S g a w hs hq _ => ?_) hg ⟨⟨hx, trivial⟩, trivial, trivial, hd⟩ h
 refine ⟨.string (X5 b), ?_, Vy rfl⟩
 obtain ⟨e, t1, t2, t3⟩ := XdL ht
 have hsx := hq.1
 simp only [AVal.sat, D.rep] at hsx
 obtain ⟨ad, cap, hv, h2, h3, h4⟩ := hsx
 have hc : (convert src dst (a.eval x)).run P w = .ok (.string (X5 b)) w := by
  rw [hv, run_convert_bytes_string w src dst e ad _ cap t1 t2 t3]
  rcases h4 with h4 | ⟨bl, o, rfl, hr⟩
  ·have hb : b = [] := by simpa using h4
   subst hb
   cases ad with
   | none => simp [Conv.bytesToString, X5]; rfl
   | some q =>
    have := run_bytesToString (P := P) w q 0 cap [] (by simp [loadCells, loadCellsFrom])
    simp only [List.map_nil, List.foldl_nil] at this
    exact this
  ·obtain ⟨vs, k1, k2, k3⟩ := X6l hs.1.mem _ bl o hr
   have hvs : vs = (b.map fun c => (c.toNat : Int)).map (Value.int .u8) := by
    apply List.ext_getElem?
    intro i
    cases hbi : b[i]? with
    | none =>
     have h1 : b.length ≤ i := by simpa using hbi
     have h5 : vs.length ≤ i := by rw [k1]; simpa using h1
     simp [List.getElem?_eq_none h5, hbi]
    | some c =>
     have hi : i < b.length := (List.getElem?_eq_some_iff.1 hbi).1
     have hiv : i < vs.length := by rw [k1]; simpa using hi
     have := k3 i (D.v (.int .u8 c.toNat)) vs[i] (by
      rw [XeH]; simp [hbi]) (List.getElem?_eq_getElem hiv)
     simp only [D.rep] at this
     rw [List.getElem?_eq_getElem hiv, this.1]; simp [hbi]
   have hload := run_loadCells_list (P := P) w ⟨bl, o, none⟩ vs (fun j v hv => by rw [Up]; exact k2 j v hv)
   rw [k1, hvs] at hload
   have := run_bytesToString (P := P) w ⟨bl, o, none⟩ _ cap (b.map fun c => (c.toNat : Int)) (by simpa using hload)
   rw [Xh0] at this
   simpa [X5] using this
 simp only [execOp, Sem.run_bind]
 rw [hc]; rfl
end
end Go.Fw
namespace Go.Fw
open Go
set_option linter.unusedVariables false
set_option linter.unusedSimpArgs false
section
variable {P : Program} {ops : Array Oper} {draw : Bool} {K : St → Prop} {rest : List Oper} {l : Yc} {S : St}
variable {d : Nat} {ty : TypeId} {pos : String} {aft : Array Edge} {gd : Option (Nat × Bool)}
theorem Xe3 {x y : Operand} {T T2 : TypeId} {γ n sz bytes : Nat} {xs ys : List (List D)} (hx : S.ev x = .own γ n) (hL : S.obj γ = .row sz xs) (hy : S.ev y = .d (.sl sz ys)) (hn : n = xs.length)
  (hB : elB P T = bytes) (hT : Vn P T sz bytes = true) (hT2 : X1K P T2 = true) (hb0 : Nat.beq bytes 0 = false) (hroom : (xs.length + ys.length) * bytes ≤ 140737488355328)
  (hd : Nat.blt d S.n = true) (hg : Xg ops S gd)
  (h : Walk P ops draw K rest ((l.length, ⟨some d, .call ⟨.builtin .append, #[x, y], #[T, T2]⟩, ty, pos, aft, gd⟩, ⟨Xf ops gd ++ [(x, .own γ n), (y, .d (.sl sz ys))], some (d, .d (.sl sz (xs ++ ys))), [(γ, .row sz xs)], [(γ, .froz sz (xs ++ ys))], []⟩) :: l)
   ((S.set d (.d (.sl sz (xs ++ ys)))).own γ (.froz sz (xs ++ ys)))) :
  Walk P ops draw K (⟨some d, .call ⟨.builtin .append, #[x, y], #[T, T2]⟩, ty, pos, aft, gd⟩ :: rest) l S :=
 XX ⟨[(x, .own γ n), (y, .d (.sl sz ys))], some (d, .d (.sl sz (xs ++ ys))), [(γ, .row sz xs)], [(γ, .froz sz (xs ++ ys))], []⟩ (VU rfl fun E S g a w hs hq hl hnw => by
  have ho := hs.1.obj γ
  rw [hl.1] at ho
  have hv := X2u hq.1 ho hn
  have hsy : (D.sl sz ys).rep g.M (a.eval y) := by have := hq.2.1; simpa only [AVal.sat] using this
  obtain ⟨news, k1, k2, k3⟩ := XaM (P := P) hs.1 hsy
  have hyl : ∀ r ∈ ys, r.length = sz := by rcases k3 with rfl | k3; simp; exact k3
  obtain ⟨v, g', w', r1, r2, r3, r4⟩ := X8N hs hl.1 (ty := ty) hT hT2 (X30 hb0) k1 rfl hyl k2 (by simpa using hroom)
  obtain ⟨M', hle, hi⟩ := X54 (S := S.own γ (.row sz (xs ++ ys))) r3 (YE _ _ _ _)
  have hi2 : Inv E (Xo .dead ((γ, .froz sz (xs ++ ys)) :: S.L)) { g' with M := M' } w' := by
   refine hi.sub fun k => .inl ?_
   by_cases hk : γ = k
   ·subst hk; rw [YE, YE]
   ·rw [YS _ _ _ hk]
    show _ = Xo .dead ((γ, .froz sz (xs ++ ys)) :: (γ, .row sz (xs ++ ys)) :: S.L) k
    rw [YS _ _ _ hk, YS _ _ _ hk]
  have ho2 := hi2.obj γ
  rw [YE] at ho2
  exact ⟨v, { g' with M := M' }, w', Xbq rfl (by rw [hv]; exact r1), X3i ho2 (by simp) (X0G (g := g') (g' := { g' with M := M' }) hle rfl rfl rfl r2), hi2, fun t => X0G (g := g') (g' := { g' with M := M' }) hle rfl rfl rfl (r4 t)⟩) hg ⟨⟨hx, hy, trivial⟩, ⟨hL, trivial⟩, trivial, hd⟩ h
end
end Go.Fw
namespace Go.Fw
open Go
set_option linter.unusedVariables false
set_option linter.unusedSimpArgs false
section
variable {P : Program} {ops : Array Oper} {draw : Bool} {K : St → Prop} {rest : List Oper} {l : Yc} {S : St}
variable {d : Nat} {ty : TypeId} {pos : String} {aft : Array Edge} {gd : Option (Nat × Bool)}
theorem XeB {x i : Operand} {T : TypeId} {γ n k : Nat} {kd : IntKind} {m : Int} {xs : List (List D)} (hx : S.ev x = .own γ n) (hL : S.obj γ = .row 1 xs) (hi : S.ev i = .d (.v (.int kd m))) (hn : n = xs.length) (hk : m = (k : Nat)) (hlt : k < xs.length)
  (hT : Yt P T 1 = true) (hd : Nat.blt d S.n = true) (hg : Xg ops S gd)
  (h : Walk P ops draw K rest ((l.length, ⟨some d, .indexAddr T x i, ty, pos, aft, gd⟩, ⟨Xf ops gd ++ [(x, .own γ n), (i, .d (.v (.int kd m)))], some (d, .rptr γ n k), [(γ, .row 1 xs)], [], []⟩) :: l) (S.set d (.rptr γ n k))) :
  Walk P ops draw K (⟨some d, .indexAddr T x i, ty, pos, aft, gd⟩ :: rest) l S :=
 XX ⟨[(x, .own γ n), (i, .d (.v (.int kd m)))], some (d, .rptr γ n k), [(γ, .row 1 xs)], [], []⟩ (YB rfl fun E S g a w hs hq hl => by
  obtain ⟨e, h1, h2, h3⟩ := X0R hT
  have ho := hs.1.obj γ
  rw [hl.1] at ho
  have hv := X2u hq.1 ho hn
  rcases ho.2 with ⟨e, rfl⟩ | ⟨b, cap, vs, e', fr, hh, _⟩
  ·simp at hlt
  ·rw [hh] at hv
   refine ⟨.pointer (some ⟨b, k, none⟩), ?_, ?_⟩
   ·have hb : (0 : Int) ≤ m ∧ m < (xs.length : Int) := by omega
    have hm : m.toNat = k := by omega
    have := run_indexAt_slice (P := P) w T ⟨b, 0, none⟩ xs.length cap kd m (by rw [h3]; exact h1)
    rw [if_pos hb, h3, h2 w, Result.andThen_ok, Up, hm, Nat.mul_one, Nat.zero_add] at this
    simp only [execOp, hv, Yx hq.2.1, Sem.run_bind, this]; rfl
   ·simp only [AVal.sat]
    exact ⟨rfl, _, _, _, hh, by omega, fun _ => ⟨_, rfl, rfl⟩⟩) hg ⟨⟨hx, hi, trivial⟩, ⟨hL, trivial⟩, trivial, hd⟩ h
theorem XfK {xs : List (List D)} (h : ∀ x ∈ xs, x.length = 1) {k : Nat} {y : D} (hk : xs[k]? = some [y]) : xs.flatten[k]? = some y := by
 induction xs generalizing k with
 | nil => simp at hk
 | cons x xs ih =>
  obtain ⟨z, rfl⟩ : ∃ z, x = [z] := by
   have := h x (List.mem_cons_self ..)
   match x, this with
   | [z], _ => exact ⟨z, rfl⟩
  cases k with
  | zero => simp at hk; simp [hk]
  | succ k => simp at hk; simp [ih (fun x hx => h x (List.mem_cons_of_mem _ hx)) hk]
theorem XeD {t : TypeId} {x : Operand} {γ n k : Nat} {xs : List (List D)} {y : D} (hx : S.ev x = .rptr γ n k) (hL : S.obj γ = .row 1 xs) (hn : n = xs.length) (hy : xs[k]? = some [y])
  (ht : UK P t false 1 = true) (hd : Nat.blt d S.n = true) (hg : Xg ops S gd)
  (h : Walk P ops draw K rest ((l.length, ⟨some d, .load t x, ty, pos, aft, gd⟩, ⟨Xf ops gd ++ [(x, .rptr γ n k)], some (d, .d y), [(γ, .row 1 xs)], [], []⟩) :: l) (S.set d (.d y))) :
  Walk P ops draw K (⟨some d, .load t x, ty, pos, aft, gd⟩ :: rest) l S :=
 XX ⟨[(x, .rptr γ n k)], some (d, .d y), [(γ, .row 1 xs)], [], []⟩ (YB rfl fun E S g a w hs hq hl => by
  have ho := hs.1.obj γ
  rw [hl.1] at ho
  have hq1 := hq.1
  simp only [AVal.sat] at hq1
  obtain ⟨_, a', m, c, q1, q2, q3⟩ := hq1
  have hlt : k < xs.length := (List.getElem?_eq_some_iff.1 hy).1
  rcases ho.2 with ⟨e, rfl⟩ | ⟨b, cap, vs, e', fr, hh, k2, k3, k4, k5, k6, k7⟩
  ·simp at hlt
  ·rw [hh] at q1; cases q1
   obtain ⟨b', e1, e2⟩ := q3 hn
   cases e1
   obtain ⟨u, hu, hsu⟩ := Ve k7 k (.d y) (by rw [List.getElem?_map, XfK ho.1 hy]; rfl)
   have hc : w.cell? ⟨b, k, none⟩ = some u := by
    rw [cell_of_row w _ _ vs e' fr k4]
    rw [List.getElem?_take] at hu
    split at hu
    ·simpa using hu
    ·simp at hu
   refine ⟨u, ?_, hsu⟩
   simp [execOp, e2, Instr.loadAt, Instr.sureAddr, X3X ht hc]) hg ⟨⟨hx, trivial⟩, ⟨hL, trivial⟩, trivial, hd⟩ h
theorem XgU {t : TypeId} {x v : Operand} {γ n k : Nat} {xs : List (List D)} {y : D} (hx : S.ev x = .rptr γ n k) (hL : S.obj γ = .row 1 xs) (hv : S.ev v = .d y) (hn : n = xs.length) (hlt : k < xs.length)
  (ht : X2J P t 1 = true) (hg : Xg ops S gd)
  (h : Walk P ops draw K rest ((l.length, ⟨none, .store t x v, ty, pos, aft, gd⟩, ⟨Xf ops gd ++ [(x, .rptr γ n k), (v, .d y)], none, [(γ, .row 1 xs)], [(γ, .row 1 (xs.take k ++ [[y]] ++ xs.drop (k + 1)))], []⟩) :: l)
   (S.own γ (.row 1 (xs.take k ++ [[y]] ++ xs.drop (k + 1))))) :
  Walk P ops draw K (⟨none, .store t x v, ty, pos, aft, gd⟩ :: rest) l S :=
 XX ⟨[(x, .rptr γ n k), (v, .d y)], none, [(γ, .row 1 xs)], [(γ, .row 1 (xs.take k ++ [[y]] ++ xs.drop (k + 1)))], []⟩ (X8V rfl fun E S g a w hs hq hl hnn => by
  have ho := hs.1.obj γ
  rw [hl.1] at ho
  have hq1 := hq.1
  simp only [AVal.sat] at hq1
  obtain ⟨_, a', m, c, q1, q2, q3⟩ := hq1
  have hrow : Vs g w (g.hd γ) 1 xs := ho
  have hone : (a.eval v).cells = #[a.eval v] := by
   have := AVal.sat_one (x := .d y) rfl hq.2.1
   cases hvv : a.eval v <;> rw [hvv] at this <;> first | rfl | simp [Value.oneCell'] at this
  obtain ⟨w', s1, s2, s3, s4, s5, s6⟩ := X5j (P := P) (k := k) (m := 1) (ys := [[y]]) hrow (by omega) (by simp) rfl (news := #[a.eval v]) (by simp) (by
   simp only [List.flatten_cons, List.flatten_nil, List.append_nil, List.map_cons, List.map_nil, Xl]
   exact ⟨hq.2.1, trivial⟩)
  rcases hrow.2 with ⟨e, rfl⟩ | ⟨b, cap, vs, e', fr, hh, _⟩
  ·simp at hlt
  rw [hh] at q1 s1; cases q1
  obtain ⟨b', e1, e2⟩ := q3 hn
  cases e1
  simp only [Nat.mul_one, Up, Nat.zero_add] at s1
  refine ⟨g, w', ?_, ?_, hs.2.2.2⟩
  ·have hsz := Xbm ht w
   have s1' : (storeCells ⟨b, k, none⟩ [a.eval v]).run P w = .ok () w' := by simpa using s1
   simp [execOp, e2, Instr.storeAt, Instr.sureAddr, storeVar, hsz, hone, s1']
  ·refine Inv.upd hs.1 γ _ (YE _ _ _ _) (fun j hj => YS _ _ _ (Ne.symm hj)) (fun b hb hnl => s3 b fun hc => hnl (by rw [hl.1]; exact hc)) (by omega) s5 s6 rfl (fun _ _ => ⟨rfl, rfl, rfl⟩) (fun _ _ _ _ _ h => h) s2 (fun b hb => .inl (by rw [hl.1]; exact hb)) (fun _ => Gh.keeps_refl _ _)) hg ⟨⟨hx, hv, trivial⟩, ⟨hL, trivial⟩, trivial, trivial⟩ h
end
end Go.Fw
namespace Go.Fw
open Go
set_option linter.unusedVariables false
section
variable {P : Program}
def X4P (P : Program) (t : TypeId) : Bool := match P.underlying t with | some .bool => true | _ => false
theorem X8g {t : TypeId} (h : X4P P t = true) : P.underlying t = some .bool := by
 unfold X4P at h
 cases hu : P.underlying t with
 | none => rw [hu] at h; simp at h
 | some u => cases u <;> rw [hu] at h <;> simp at h ⊢
theorem Xi8 {t : TypeId} {x y : Operand} {a b : Bool} (ht : X4P P t = true) (w : World) : (do eqGuard .eql t x y (.bool a) (.bool b); binOp .eql t (.bool a) (.bool b) : Sem Value).run P w = .ok (.bool (decide (a = b))) w := by
 have h := run_equalIn_bool' (P := P) w 9999 t a b (X8g ht)
 have h2 : (Op.equal t (.bool a) (.bool b)).run P w = .ok (a == b) w := h
 simp [eqGuard, binOp, h2]
 exact Bool.beq_eq_decide_eq a b
theorem XbP {t : TypeId} {x y : Operand} {a b : Bool} (ht : X4P P t = true) (w : World) : (do eqGuard .neq t x y (.bool a) (.bool b); binOp .neq t (.bool a) (.bool b) : Sem Value).run P w = .ok (.bool (decide (a ≠ b))) w := by
 have h := run_equalIn_bool' (P := P) w 9999 t a b (X8g ht)
 have h2 : (Op.equal t (.bool a) (.bool b)).run P w = .ok (a == b) w := h
 simp [eqGuard, binOp, h2, Bool.beq_eq_decide_eq]
theorem X7R {t : TypeId} {x y : Operand} {k : IntKind} {a b : Int} (ha : 0 ≤ a) (hb : b ≠ 0) (w : World) : (do eqGuard .rem t x y (.int k a) (.int k b); binOp .rem t (.int k a) (.int k b) : Sem Value).run P w = .ok (.int k (a % b)) w := by
 simp [eqGuard, binOp, Op.intDiv, hb, go_sem, Int.tmod_eq_emod_of_nonneg ha]
theorem XcL {src dst : TypeId} {b : UInt8} (hs : (P.underlying src).isSome = true) (hd : X1R P dst .i64 = true) (w : World) :
  (convert src dst (.int .u8 (b.toNat : Int))).run P w = .ok (.int .i64 (b.toNat : Int)) w := by
 have h := X2X (P := P) (n := (b.toNat : Int)) (k := .u8) hs hd w
 have := b.toNat_lt
 rwa [IntWalk.i64_in _ ⟨by omega, by omega⟩] at h
theorem Xew {src dst : TypeId} {k : IntKind} {n : Int} (hs : (P.underlying src).isSome = true) (hd : X1R P dst .i64 = true) (hn : -9223372036854775808 ≤ n ∧ n ≤ 9223372036854775807) (w : World) :
  (convert src dst (.int k n)).run P w = .ok (.int .i64 n) w := by
 have h := X2X (P := P) (n := n) (k := k) hs hd w
 rwa [IntWalk.i64_in _ hn] at h
end
section
variable {P : Program} {ops : Array Oper} {draw : Bool} {K : St → Prop} {rest : List Oper} {l : Yc} {S : St}
variable {d : Nat} {ty : TypeId} {pos : String} {aft : Array Edge} {gd : Option (Nat × Bool)}
theorem X5W {op : BinOp} {xt yt : TypeId} {x y : Operand} {u v r : Value} (r' : Value) (hr' : r = r') (hx : S.ev x = .d (.v u)) (hy : S.ev y = .d (.v v))
  (hr : ∀ w, (do eqGuard op xt x y u v; binOp op xt u v : Sem Value).run P w = .ok r w) (h1 : r'.oneCell' = true) (hd : Nat.blt d S.n = true) (hg : Xg ops S gd)
  (h : Walk P ops draw K rest ((l.length, ⟨some d, .binOp op xt x y yt, ty, pos, aft, gd⟩, ⟨Xf ops gd ++ [(x, .d (.v u)), (y, .d (.v v))], some (d, .d (.v r')), [], [], []⟩) :: l) (S.set d (.d (.v r')))) :
  Walk P ops draw K (⟨some d, .binOp op xt x y yt, ty, pos, aft, gd⟩ :: rest) l S := by
 subst hr'
 exact UY hx hy hr h1 hd hg h
end
end Go.Fw
namespace Go.Fw
open Go
set_option linter.unusedVariables false
def UQ (k : IntKind) : Nat := if k.signed then k.bits - 1 else k.bits
theorem YM : 2 ^ UQ .u8 = 256 := by decide
theorem UT : 2 ^ UQ .u32 = 4294967296 := by decide
theorem XK : 2 ^ UQ .u64 = 18446744073709551616 := by decide
theorem Xx : 2 ^ UQ .i64 = 9223372036854775808 := by decide
theorem X67 (k : IntKind) : 2 ^ UQ k ≤ 2 ^ k.bits := Nat.pow_le_pow_right (by omega) (by unfold UQ; split <;> omega)
theorem X1j {k : IntKind} {n : Nat} (h : n < 2 ^ UQ k) : k.wrap (n : Int) = n := by
 cases k <;> simp [UQ, IntKind.signed, IntKind.bits] at h <;> simp [IntKind.wrap, IntKind.bits, IntKind.signed] <;> omega
theorem X6s {k : IntKind} {n : Nat} (hs : k.signed = false) : k.wrap (n : Int) = ((n % 2 ^ k.bits : Nat) : Int) := by
 simp [IntKind.wrap, hs]
theorem X16 {m n : Nat} (h : n < 2 ^ m) : (BitVec.ofInt m (n : Int)).toNat = n := by
 rw [BitVec.ofInt_natCast, BitVec.toNat_ofNat]; exact Nat.mod_eq_of_lt h
section
variable {P : Program} {t : TypeId} {x y : Operand} {k : IntKind} {a b : Nat}
theorem X6n {op : BinOp} {a b : Int} {r : Value} (h1 : op = .and ∨ op = .or ∨ op = .xor) (h : Op.intBits op k a b = pure r) (w : World) : (do eqGuard op t x y (.int k a) (.int k b); binOp op t (.int k a) (.int k b) : Sem Value).run P w = .ok r w := by
 rcases h1 with rfl | rfl | rfl <;> simp [eqGuard, binOp, h]
theorem X6r {op : BinOp} {a b : Int} {k' : IntKind} {r : Value} (h1 : op = .shl ∨ op = .shr) (h : Op.shift op k a k' b = pure r) (w : World) : (do eqGuard op t x y (.int k a) (.int k' b); binOp op t (.int k a) (.int k' b) : Sem Value).run P w = .ok r w := by
 rcases h1 with rfl | rfl <;> simp [eqGuard, binOp, h]
theorem UV (ha : a < 2 ^ UQ k) (hb : b < 2 ^ UQ k) (w : World) : (do eqGuard .and t x y (.int k a) (.int k b); binOp .and t (.int k a) (.int k b) : Sem Value).run P w = .ok (.int k ((a &&& b : Nat) : Int)) w := by
 have h := X67 k
 have := Nat.and_lt_two_pow a hb
 refine X6n (.inl rfl) ?_ w
 simp only [Op.intBits, BitVec.toNat_and, X16 (Nat.lt_of_lt_of_le ha h), X16 (Nat.lt_of_lt_of_le hb h), X1j this]
theorem Vd (ha : a < 2 ^ UQ k) (hb : b < 2 ^ UQ k) (w : World) : (do eqGuard .or t x y (.int k a) (.int k b); binOp .or t (.int k a) (.int k b) : Sem Value).run P w = .ok (.int k ((a ||| b : Nat) : Int)) w := by
 have h := X67 k
 have := Nat.or_lt_two_pow ha hb
 refine X6n (.inr (.inl rfl)) ?_ w
 simp only [Op.intBits, BitVec.toNat_or, X16 (Nat.lt_of_lt_of_le ha h), X16 (Nat.lt_of_lt_of_le hb h), X1j this]
theorem X2U (ha : a < 2 ^ UQ k) (hb : b < 2 ^ UQ k) (w : World) : (do eqGuard .xor t x y (.int k a) (.int k b); binOp .xor t (.int k a) (.int k b) : Sem Value).run P w = .ok (.int k ((a ^^^ b : Nat) : Int)) w := by
 have h := X67 k
 have := Nat.xor_lt_two_pow ha hb
 refine X6n (.inr (.inr rfl)) ?_ w
 simp only [Op.intBits, BitVec.toNat_xor, X16 (Nat.lt_of_lt_of_le ha h), X16 (Nat.lt_of_lt_of_le hb h), X1j this]
theorem X1a {k' : IntKind} (hb : b ≤ k.bits) (w : World) : (do eqGuard .shr t x y (.int k a) (.int k' b); binOp .shr t (.int k a) (.int k' b) : Sem Value).run P w = .ok (.int k ((a / 2 ^ b : Nat) : Int)) w := by
 have e : (a : Int).fdiv (2 ^ b) = ((a / 2 ^ b : Nat) : Int) := by
  rw [Int.fdiv_eq_ediv_of_nonneg _ (by exact Int.le_of_lt (Int.pow_pos (by omega)))]; simp
 refine X6r (.inr rfl) ?_ w
 have hb0 : ¬ ((b : Int) < 0) := by omega
 simp only [Op.shift, if_neg hb0, Int.toNat_natCast, Nat.min_eq_left hb, e]
theorem Xgj {k' : IntKind} (hb : b ≤ k.bits) (h : a * 2 ^ b < 2 ^ UQ k) (w : World) : (do eqGuard .shl t x y (.int k a) (.int k' b); binOp .shl t (.int k a) (.int k' b) : Sem Value).run P w = .ok (.int k ((a * 2 ^ b : Nat) : Int)) w := by
 have e := X1j h
 rw [show ((a * 2 ^ b : Nat) : Int) = (a : Int) * 2 ^ b by simp] at e
 refine X6r (.inl rfl) ?_ w
 have hb0 : ¬ ((b : Int) < 0) := by omega
 simp only [Op.shift, if_neg hb0, Int.toNat_natCast, Nat.min_eq_left hb, e]
 simp
theorem Vc {k' : IntKind} (hs : k.signed = false) (hb : b ≤ k.bits) (w : World) : (do eqGuard .shl t x y (.int k a) (.int k' b); binOp .shl t (.int k a) (.int k' b) : Sem Value).run P w = .ok (.int k ((a * 2 ^ b % 2 ^ k.bits : Nat) : Int)) w := by
 have e := X6s (k := k) (n := a * 2 ^ b) hs
 rw [show ((a * 2 ^ b : Nat) : Int) = (a : Int) * 2 ^ b by simp] at e
 refine X6r (.inl rfl) ?_ w
 have hb0 : ¬ ((b : Int) < 0) := by omega
 simp only [Op.shift, if_neg hb0, Int.toNat_natCast, Nat.min_eq_left hb, e]
theorem UN (hb : b ≠ 0) (h : a < 2 ^ UQ k) (w : World) : (do eqGuard .quo t x y (.int k a) (.int k b); binOp .quo t (.int k a) (.int k b) : Sem Value).run P w = .ok (.int k ((a / b : Nat) : Int)) w := by
 have e := X1j (k := k) (n := a / b) (Nat.lt_of_le_of_lt (Nat.div_le_self _ _) h)
 have hb' : (b : Int) ≠ 0 := by omega
 have e2 : (a : Int).tdiv b = ((a / b : Nat) : Int) := by rw [Int.tdiv_eq_ediv_of_nonneg (by omega)]; simp
 simp only [eqGuard, binOp, Op.intDiv, if_neg hb', e2, e]
 simp [go_sem]
theorem YG (hb : b ≠ 0) (w : World) : (do eqGuard .rem t x y (.int k a) (.int k b); binOp .rem t (.int k a) (.int k b) : Sem Value).run P w = .ok (.int k ((a % b : Nat) : Int)) w := by
 have hb' : (b : Int) ≠ 0 := by omega
 have e2 : (a : Int).tmod b = ((a % b : Nat) : Int) := by rw [Int.tmod_eq_emod_of_nonneg (by omega)]; simp
 simp only [eqGuard, binOp, Op.intDiv, if_neg hb', e2]
 simp [go_sem]
theorem Yb (h : a + b < 2 ^ UQ k) (w : World) : (do eqGuard .add t x y (.int k a) (.int k b); binOp .add t (.int k a) (.int k b) : Sem Value).run P w = .ok (.int k ((a + b : Nat) : Int)) w := by
 rw [X9n, ← Int.natCast_add, X1j h]
theorem YV (h : a * b < 2 ^ UQ k) (w : World) : (do eqGuard .mul t x y (.int k a) (.int k b); binOp .mul t (.int k a) (.int k b) : Sem Value).run P w = .ok (.int k ((a * b : Nat) : Int)) w := by
 rw [Xd7, ← Int.natCast_mul, X1j h]
theorem XaT (hs : k.signed = false) (ha : a < 2 ^ k.bits) (w : World) : (Op.unary .xor (.int k a)).run P w = .ok (.int k ((2 ^ k.bits - 1 - a : Nat) : Int)) w := by
 have hp : 0 < 2 ^ k.bits := Nat.pow_pos (by omega)
 have e0 : k.max = ((2 ^ k.bits - 1 : Nat) : Int) := by
  have : ((2 ^ k.bits : Nat) : Int) = 2 ^ k.bits := by simp
  simp only [IntKind.max, hs, Bool.false_eq_true, if_false]; omega
 have e1 : (BitVec.ofInt k.bits ((2 ^ k.bits - 1 : Nat) : Int)) = BitVec.allOnes k.bits := by
  apply BitVec.eq_of_toNat_eq
  rw [X16 (by omega), BitVec.toNat_allOnes]
 have e2 : (BitVec.allOnes k.bits ^^^ BitVec.ofInt k.bits (a : Int)).toNat = 2 ^ k.bits - 1 - a := by
  rw [BitVec.allOnes_xor, BitVec.toNat_not, X16 ha]
 have e3 := X6s (k := k) (n := 2 ^ k.bits - 1 - a) hs
 rw [Nat.mod_eq_of_lt (by omega)] at e3
 simp only [Op.unary, hs, Bool.false_eq_true, if_false, Op.intBits, e0, e1, e2, e3]
 simp [go_sem]
theorem Xh1 {n : Int} (h : -9223372036854775808 ≤ n ∧ n ≤ 9223372036854775807) (w : World) : (Op.unary .xor (.int .i64 n)).run P w = .ok (.int .i64 (-n - 1)) w := by
 have e1 : BitVec.ofInt 64 (-1) = BitVec.allOnes 64 := by decide
 have e2 : IntKind.i64.wrap ((BitVec.allOnes 64 ^^^ BitVec.ofInt 64 n).toNat : Int) = -n - 1 := by
  rw [BitVec.allOnes_xor, BitVec.toNat_not, BitVec.toNat_ofInt, IntKind.wrap_i64]
  omega
 have e : Op.unary .xor (.int .i64 n) = pure (.int .i64 (-n - 1)) := by
  show Op.intBits .xor .i64 (-1) n = _
  show (pure (Value.int .i64 (IntKind.i64.wrap ((BitVec.ofInt 64 (-1) ^^^ BitVec.ofInt 64 n).toNat : Int))) : Sem Value) = _
  rw [e1, e2]
 rw [e]; rfl
theorem X5J {n : Int} (h : -9223372036854775807 ≤ n ∧ n ≤ 9223372036854775807) (w : World) : (Op.unary .neg (.int .i64 n)).run P w = .ok (.int .i64 (-n)) w := by
 have e : IntKind.i64.wrap (0 - n) = -n := by rw [IntWalk.i64_in _ (by omega)]; omega
 have e' : Op.unary .neg (.int .i64 n) = pure (.int .i64 (-n)) := by
  show (pure (Value.int .i64 (IntKind.i64.wrap (0 - n))) : Sem Value) = _
  rw [e]
 rw [e']; rfl
variable {src dst : TypeId} {q : IntKind}
theorem Yu (hs : (P.underlying src).isSome = true) (hd : X1R P dst q = true) (ha : a < 2 ^ UQ q) (w : World) : (convert src dst (.int k (a : Int))).run P w = .ok (.int q (a : Int)) w := by
 have h := X2X (P := P) (n := (a : Int)) (k := k) hs hd w
 rwa [X1j ha] at h
theorem XhP (hs : (P.underlying src).isSome = true) (hd : X1R P dst q = true) (hq : q.signed = false) (w : World) : (convert src dst (.int k (a : Int))).run P w = .ok (.int q ((a % 2 ^ q.bits : Nat) : Int)) w := by
 have h := X2X (P := P) (n := (a : Int)) (k := k) hs hd w
 rwa [X6s hq] at h
end
end Go.Fw
namespace Go.Fw
open Go
set_option linter.unusedVariables false
set_option linter.unusedSimpArgs false
structure SrcV (P : Program) (y : AVal) (sz : Nat) (ys : List (List D)) : Prop where
 src : ∀ (E : Env) (L : Nat → AObj) (g : Gh) (w : World) (u : Value), Inv E L g w → y.sat g u → ∀ m, m ≤ ys.length →
  ∃ news, (Builtin.firstCells sz m u).run P w = .ok news w ∧ news.size = m * sz ∧ Xl g ((ys.take m).flatten.map .d) news.toList ∧ (Builtin.lenOf u).run P w = .ok ys.length w ∧ ∀ y ∈ ys.take m, y.length = sz
theorem XgH {P : Program} {sz : Nat} {ys : List (List D)} : SrcV P (.d (.sl sz ys)) sz ys := by
 refine ⟨fun E L g w u hi hs m hm => XaF hi ?_ hm⟩
 simpa only [AVal.sat] using hs
theorem X4A {g : Gh} : ∀ l : List UInt8, Xl g ((l.map fun b => [D.v (.int .u8 b.toNat)]).flatten.map .d) (l.map fun b => Value.int .u8 b.toNat)
 | [] => by simp [Xl]
 | b :: l => by
  simp only [List.map_cons, List.flatten_cons, List.singleton_append, Xl]
  exact ⟨Vy rfl, X4A l⟩
theorem Xc0 {P : Program} {l : List UInt8} : SrcV P (as (X5 l)) 1 (l.map fun b => [.v (.int .u8 b.toNat)]) := by
 refine ⟨fun E L g w u hi hs m hm => ?_⟩
 have hu := Yx hs
 subst hu
 rw [List.length_map] at hm
 have hsz : (X5 l).size = l.length := rfl
 have hex : ((X5 l).extract 0 m).data = (l.take m).toArray := by
  rw [ByteArray.data_extract]
  simp [X5]
 refine ⟨((l.take m).map fun b => Value.int .u8 b.toNat).toArray, ?_, by simp; omega, ?_, by simp [Builtin.lenOf, hsz], ?_⟩
 ·simp only [Builtin.firstCells, hex, Sem.run_pure]
  congr 1
  simp
 ·rw [← List.map_take]
  exact X4A _
 ·intro y hy
  rw [← List.map_take] at hy
  obtain ⟨b, _, rfl⟩ := List.mem_map.1 hy
  rfl
section
variable {P : Program} {ops : Array Oper} {draw : Bool} {K : St → Prop} {rest : List Oper} {l : Yc} {S : St}
variable {d : Nat} {ty : TypeId} {pos : String} {aft : Array Edge} {gd : Option (Nat × Bool)}
theorem Xa1 {g : Gh} {w : World} {h : Value} {sz : Nat} {xs : List (List D)} (hr : Vs g w h sz xs) : ∃ b c, h = .slice b xs.length c ∧ xs.length ≤ c := by
 rcases hr.2 with ⟨e, rfl⟩ | ⟨b, cap, vs, e', fr, e, hc, _⟩
 ·exact ⟨none, 0, e, Nat.le_refl _⟩
 ·exact ⟨_, _, e, hc⟩
theorem Xgo {T : TypeId} {x lo : Operand} {γ n sz k : Nat} {xs : List (List D)} (hx : S.ev x = .own γ n) (hL : S.obj γ = .row sz xs) (hlo : S.ev lo = ai k) (hn : n = xs.length) (hk : k ≤ xs.length)
  (hT : Yt P T sz = true) (hd : Nat.blt d S.n = true) (hg : Xg ops S gd)
  (h : Walk P ops draw K rest ((l.length, ⟨some d, .slice T x (some lo) none none, ty, pos, aft, gd⟩, ⟨Xf ops gd ++ [(x, .own γ n), (lo, ai k)], some (d, .cut γ n k sz), [(γ, .row sz xs)], [], []⟩) :: l) (S.set d (.cut γ n k sz))) :
  Walk P ops draw K (⟨some d, .slice T x (some lo) none none, ty, pos, aft, gd⟩ :: rest) l S := by
 refine XX ⟨[(x, .own γ n), (lo, ai k)], some (d, .cut γ n k sz), [(γ, .row sz xs)], [], []⟩ (YB rfl fun E S g a w hs hq hl => ?_) hg
  ⟨⟨hx, hlo, trivial⟩, ⟨hL, trivial⟩, trivial, hd⟩ h
 have ho := hs.1.obj γ
 rw [hl.1] at ho
 obtain ⟨e, h1, h2, h3⟩ := X0R hT
 have hv : a.eval x = g.hd γ := X2u hq.1 ho hn
 obtain ⟨b, cap, hh, c1⟩ := Xa1 (h := g.hd γ) ho
 have hbd := Xbl (P := P) (g := g) (a := a) (lo := some lo) (hi := none) (l := k) (h := xs.length) (isSl := true) (len := xs.length) (cap := cap) (fun e => by cases e) (fun _ => rfl) ⟨hq.2.1, trivial⟩ trivial hk c1 w
 have hrun := run_slice_any (P := P) w T b xs.length cap (by rw [h3]; exact h1) (some (a.eval lo)) none none
 simp only [Option.map_some, Option.map_none] at hbd
 rw [hbd, Result.andThen_ok, h3, h2 w, Result.andThen_ok] at hrun
 refine ⟨sliced b k xs.length cap sz, ?_, ?_⟩
 ·simp only [execOp, hv, hh, Instr.sliceAt, Sem.run_bind, run_underlying h1, Result.andThen_ok, Option.map_some, Option.map_none, hrun]; rfl
 ·simp only [AVal.sat, sliced]
  exact ⟨rfl, b, xs.length, cap, hh, by omega, fun _ => by rw [hn]⟩
theorem XdH {x y : Operand} {yv : AVal} {T T2 : TypeId} {γ n sz m k : Nat} {r ys : List (List D)} (hx : S.ev x = .cut γ n k sz) (hL : S.obj γ = .row sz r) (hn : n = r.length) (hk : k ≤ r.length) (hy : S.ev y = yv) (hsrc : SrcV P yv sz ys) (hm : m = min ys.length (r.length - k))
  (hT : Yt P T sz = true) {d' : Option (Nat × AVal)} (hd : X19 S d') (hd' : d' = none ∨ ∃ t, d' = some (t, ai m)) (hg : Xg ops S gd)
  (h : Walk P ops draw K rest ((l.length, ⟨d'.map (·.1), .call ⟨.builtin .copy, #[x, y], #[T, T2]⟩, ty, pos, aft, gd⟩, ⟨Xf ops gd ++ [(x, .cut γ n k sz), (y, yv)], d', [(γ, .row sz r)], [(γ, .row sz (r.take k ++ ys.take m ++ r.drop (k + m)))], []⟩) :: l)
   ⟨S.n, d'.toList ++ S.τ, (γ, .row sz (r.take k ++ ys.take m ++ r.drop (k + m))) :: S.L⟩) :
  Walk P ops draw K (⟨d'.map (·.1), .call ⟨.builtin .copy, #[x, y], #[T, T2]⟩, ty, pos, aft, gd⟩ :: rest) l S := by
 refine XX ⟨[(x, .cut γ n k sz), (y, yv)], d', [(γ, .row sz r)], [(γ, .row sz (r.take k ++ ys.take m ++ r.drop (k + m)))], []⟩ ?_ hg ⟨⟨hx, hy, trivial⟩, ⟨hL, trivial⟩, trivial, hd⟩ h
 intro E S a w g hs hok Q K hK
 obtain ⟨ok1, ⟨l1, _⟩, _, ok4⟩ := hok
 have hq := X08 hs _ ok1
 have ho := hs.1.obj γ
 rw [l1] at ho
 have hrow : Vs g w (g.hd γ) sz r := ho
 obtain ⟨b, cap, hh, c1⟩ := Xa1 hrow
 have hx' : a.eval x = .slice (if cap = k then b else b.map fun p => p.add (k * sz)) (n - k) (cap - k) := by
  have := hq.1
  simp only [AVal.sat] at this
  obtain ⟨_, a', m', c', e1, _, e3⟩ := this
  rw [hh] at e1; cases e1
  exact e3 hn
 obtain ⟨news, n1, n2, n3, n4, n5⟩ := hsrc.src E _ g w _ hs.1 hq.2.1 m (by omega)
 obtain ⟨w', s1, s2, s3, s4, s5, s6⟩ := X5j (P := P) (k := k) (m := m) hrow (by omega) n5 (by simp; omega) n2 n3
 have hst : (match Value.slice (if cap = k then b else b.map fun p => p.add (k * sz)) (n - k) (cap - k) with | .slice (some a) _ _ => (storeCells (a.add (0 * sz)) news.toList).run P w | _ => .ok () w) = .ok () w' := by
  by_cases hck : cap = k
  ·have hm0 : m = 0 := by omega
   have hnil : news.toList = [] := by
    apply List.eq_nil_of_length_eq_zero
    rw [Array.length_toList, n2, hm0, Nat.zero_mul]
   rw [hnil, hh] at s1
   rw [if_pos hck, hnil]
   cases b with
   | none => exact s1
   | some p => simpa [storeCells] using s1
  ·rw [if_neg hck]
   rw [hh] at s1
   cases b with
   | none => exact s1
   | some p =>
    simp only [Option.map_some, Nat.zero_mul, Addr.add_zero']
    exact s1
 have hrun := Xaz (P := P) (T2 := T2) (ty := ty) (m := m) hT hx' n4 (by omega) n1 (by rw [hx']; exact hst)
 have hi : Inv E (Xo .dead ((γ, .row sz (r.take k ++ ys.take m ++ r.drop (k + m))) :: S.L)) g w' := by
  refine Inv.upd hs.1 γ _ (YE _ _ _ _) (fun j hj => YS _ _ _ (Ne.symm hj)) (fun b hb hnl => s3 b fun hc => hnl (by rw [l1]; exact hc)) (by omega) s5 s6 rfl (fun _ _ => ⟨rfl, rfl, rfl⟩) (fun _ _ _ _ _ h => h) s2 (fun b hb => .inl ?_) (fun _ => Gh.keeps_refl _ _)
  rw [l1]; exact hb
 have hrun' : (execOp a.eval ⟨d'.map (·.1), .call ⟨.builtin .copy, #[x, y], #[T, T2]⟩, ty, pos, aft, gd⟩).run P w = .ok (.value (.int .i64 m)) w' := by
  simp [execOp, resolve, invoke, builtin, hrun]
 unfold Oper.wp
 rw [hrun', Oper.upon_value]
 rcases hd' with rfl | ⟨t, rfl⟩
 ·exact hK _ _ ⟨g, hi, hs.2.1, hs.2.2.1, hs.2.2.2⟩
 ·exact hK _ _ (X0i hi hs.2.1 hs.2.2.1 hs.2.2.2 (Vy rfl) ok4)
theorem Xcw {x y : Operand} {yv : AVal} {T T2 : TypeId} {γ n sz m k : Nat} {r ys : List (List D)} (hx : S.ev x = .cut γ n k sz) (hL : S.obj γ = .row sz r) (hn : n = r.length) (hk : k ≤ r.length) (hy : S.ev y = yv) (hsrc : SrcV P yv sz ys) (hm : m = min ys.length (r.length - k))
  (hT : Yt P T sz = true) (hd : Nat.blt d S.n = true) (hg : Xg ops S gd)
  (h : Walk P ops draw K rest ((l.length, ⟨some d, .call ⟨.builtin .copy, #[x, y], #[T, T2]⟩, ty, pos, aft, gd⟩, ⟨Xf ops gd ++ [(x, .cut γ n k sz), (y, yv)], some (d, ai m), [(γ, .row sz r)], [(γ, .row sz (r.take k ++ ys.take m ++ r.drop (k + m)))], []⟩) :: l)
   ((S.set d (ai m)).own γ (.row sz (r.take k ++ ys.take m ++ r.drop (k + m))))) :
  Walk P ops draw K (⟨some d, .call ⟨.builtin .copy, #[x, y], #[T, T2]⟩, ty, pos, aft, gd⟩ :: rest) l S :=
 XdH (d' := some (d, ai m)) hx hL hn hk hy hsrc hm hT hd (.inr ⟨d, rfl⟩) hg h
theorem Xac {T : TypeId} {x lo hi mx : Operand} {sz lb hb mb : Nat} {xs : List (List D)} (hx : S.ev x = .d (.sl sz xs)) (hlo : S.ev lo = ai lb) (hhi : S.ev hi = ai hb) (hmx : S.ev mx = ai mb) (hlh : lb ≤ hb) (hh : hb ≤ mb) (hm : mb ≤ xs.length)
  (hT : Yt P T sz = true) (hd : Nat.blt d S.n = true) (hg : Xg ops S gd)
  (h : Walk P ops draw K rest ((l.length, ⟨some d, .slice T x (some lo) (some hi) (some mx), ty, pos, aft, gd⟩, ⟨Xf ops gd ++ [(x, .d (.sl sz xs)), (lo, ai lb), (hi, ai hb), (mx, ai mb)], some (d, .d (.sl sz ((xs.take hb).drop lb))), [], [], []⟩) :: l) (S.set d (.d (.sl sz ((xs.take hb).drop lb))))) :
  Walk P ops draw K (⟨some d, .slice T x (some lo) (some hi) (some mx), ty, pos, aft, gd⟩ :: rest) l S := by
 refine XX ⟨[(x, .d (.sl sz xs)), (lo, ai lb), (hi, ai hb), (mx, ai mb)], some (d, .d (.sl sz ((xs.take hb).drop lb))), [], [], []⟩ (YB rfl fun E S g a w hs hq hl => ?_) hg
  ⟨⟨hx, hlo, hhi, hmx, trivial⟩, trivial, trivial, hd⟩ h
 obtain ⟨e, h1, h2, h3⟩ := X0R hT
 obtain ⟨hq1, hq2, hq3, hq4, _⟩ := hq
 simp only [AVal.sat, D.rep] at hq1
 obtain ⟨b, cap, hv, c1, c2, c3⟩ := hq1
 have e2 := Yx hq2
 have e3 := Yx hq3
 have e4 := Yx hq4
 have hmc : mb ≤ cap := by omega
 have hbd : (Instr.sliceBounds true xs.length cap (some (a.eval lo)) (some (a.eval hi)) (some (a.eval mx))).run P w = .ok (lb, hb, mb) w := by
  simp [Instr.sliceBounds, e2, e3, e4, run_sliceBound, hlh, hh, hmc]
 have hrun := run_slice_any (P := P) w T b xs.length cap (by rw [h3]; exact h1) (some (a.eval lo)) (some (a.eval hi)) (some (a.eval mx))
 rw [hbd, Result.andThen_ok, h3, h2 w, Result.andThen_ok] at hrun
 refine ⟨sliced b lb hb mb sz, ?_, ?_⟩
 ·simp only [execOp, hv, Instr.sliceAt, Sem.run_bind, run_underlying h1, Result.andThen_ok, Option.map_some, hrun]; rfl
 ·simp only [AVal.sat, D.rep, sliced]
  have hlen : ((xs.take hb).drop lb).length = hb - lb := by simp; omega
  refine ⟨if mb = lb then b else b.map fun p => p.add (lb * sz), mb - lb, by rw [hlen], by omega, by omega, ?_⟩
  rcases c3 with rfl | ⟨b', o, rfl, hr⟩
  ·left; simp
  ·by_cases hem : (xs.take hb).drop lb = []
   ·exact .inl hem
   ·right
    have hne : mb ≠ lb := by
     intro e
     apply hem
     apply List.eq_nil_of_length_eq_zero
     omega
    refine ⟨b', o + lb * sz, ?_, X7j (X47 hr hb) lb⟩
    rw [if_neg hne, Option.map_some, Up]
def X2C (P : Program) (src dst : TypeId) : Bool :=
 match P.underlying src, P.underlying dst with
 | some .string, some (.slice e) => (match P.underlying e with | some (.int .u8) => true | _ => false)
 | _, _ => false
theorem X80 {src dst : TypeId} (h : X2C P src dst = true) : ∃ e, P.underlying src = some .string ∧ P.underlying dst = some (.slice e) ∧ P.underlying e = some (.int .u8) := by
 unfold X2C at h
 split at h
 ·rename_i e h1 h2
  split at h
  ·rename_i h3; exact ⟨e, h1, h2, h3⟩
  ·simp at h
 ·simp at h
theorem Xfc {src dst : TypeId} {x : Operand} {b : List UInt8} (hx : S.ev x = as (X5 b)) (hb : b.length ≤ 9223372036854775807) (ht : X2C P src dst = true) (hd : Nat.blt d S.n = true) (hg : Xg ops S gd)
  (h : Walk P ops draw K rest ((l.length, ⟨some d, .convert src dst x, ty, pos, aft, gd⟩, ⟨Xf ops gd ++ [(x, as (X5 b))], some (d, .d (.sl 1 (b.map fun c => [D.v (.int .u8 c.toNat)]))), [], [], []⟩) :: l) (S.set d (.d (.sl 1 (b.map fun c => [D.v (.int .u8 c.toNat)]))))) :
  Walk P ops draw K (⟨some d, .convert src dst x, ty, pos, aft, gd⟩ :: rest) l S := by
 refine XX ⟨[(x, as (X5 b))], some (d, .d (.sl 1 (b.map fun c => [D.v (.int .u8 c.toNat)]))), [], [], []⟩ ?_ hg ⟨⟨hx, trivial⟩, trivial, trivial, hd⟩ h
 intro E S a w g hs hok Q K hK
 have hq := X08 hs _ hok.1
 obtain ⟨e, t1, t2, t3⟩ := X80 ht
 have hsz : (X5 b).size = b.length := rfl
 have hrow := run_bytes_of_string (P := P) w src dst e (X5 b) t1 t2 t3
 rw [hsz] at hrow
 generalize hc : grownCap w b.length 0 e = cap at hrow
 have hc1 : b.length ≤ cap := by rw [← hc]; exact grownCap_ge w _ _ _
 have hc2 : cap ≤ maxLen := by rw [← hc]; exact grownCap_le_maxLen w _ _ _ (by unfold maxLen; omega)
 have hs' : Vm E S g a w.drew := ⟨X92 hs.1, hs.2⟩
 have hle := X4x hs'.1 (bytesRow (X5 b) cap)
 have hrun : (execOp a.eval ⟨some d, .convert src dst x, ty, pos, aft, gd⟩).run P w = .ok (.value (.slice (some ⟨w.heap.size, 0, none⟩) b.length cap)) (w.drew.alloc (.cells (bytesRow (X5 b) cap) e ((bytesRow (X5 b) cap).size, (bytesRow (X5 b) cap).size + 1))) := by
  simp only [execOp, Sem.run_bind, Yx hq.1, hrow]; rfl
 unfold Oper.wp
 rw [hrun, Oper.upon_value]
 refine hK _ _ (X0i (X5N hs'.1 _ e _) hs.2.1 hs.2.2.1 (fun t => X0G (g := g) (g' := g.lay w.drew.heap.size (bytesRow (X5 b) cap)) hle rfl rfl rfl (hs.2.2.2 t)) ?_ hok.2.2.2)
 have := X6k (g := g) (w := w.drew) (sz := 1) (xs := b.map fun c => [D.v (.int .u8 c.toNat)]) (vs := bytesRow (X5 b) cap) (cap := cap) (by simp) (by
  have hb1 := X4A (g := g) b
  rw [List.length_map, Nat.mul_one]
  have : (bytesRow (X5 b) cap).toList.take b.length = b.map fun c => Value.int .u8 c.toNat := by
   simp only [bytesRow, X5, Array.toList_append, Array.toList_map]
   rw [List.take_append_of_le_length (by simp), List.take_of_length_le (by simp)]
  rw [this]; exact hb1) hle (by simpa using hc1) hc2
 rw [List.length_map] at this
 exact this
end
end Go.Fw
