/- Thirteenth part: contracts under other keys; calls of function values. -/
import Derived.Laws.Strings
import Derived.Laws.BytesString
import Derived.Laws.StructEq
import Derived.Laws.Entries
import Derived.Laws.BitsLemmas
import Derived.Test.YtonekjkmnhfjmaaGreatDoorM05
namespace Go.Fw
open Go
set_option linter.unusedVariables false
set_option linter.unusedSimpArgs false
mutual
def AVal.ren (ρ : Nat → Nat) : AVal → AVal
 | .any => .any
 | .d x => .d x
 | .ptr γ o => .ptr (ρ γ) o
 | .own γ n => .own (ρ γ) n
 | .rptr γ n o => .rptr (ρ γ) n o
 | .inn γ i => .inn (ρ γ) i
 | .bsl γ n => .bsl (ρ γ) n
 | .rs γ o n c => .rs (ρ γ) o n c
 | .mptr γ n i => .mptr (ρ γ) n i
 | .cut γ n k sz => .cut (ρ γ) n k sz
 | .dptr row => .dptr row
 | .dx sz xs => .dx sz xs
 | .bq p q => .bq p q
 | .agg cs => .agg (YS ρ cs)
 | .tup cs => .tup (YS ρ cs)
 | .fn f cs => .fn f (YS ρ cs)
def YS (ρ : Nat → Nat) : List AVal → List AVal
 | [] => []
 | x :: r => x.ren ρ :: YS ρ r
end
def AObj.ren (ρ : Nat → Nat) : AObj → AObj
 | .dead => .dead
 | .box cs => .box (YS ρ cs)
 | .row sz xs => .row sz xs
 | .froz sz xs => .froz sz xs
 | .mat sz rows => .mat sz rows
 | .iter s p => .iter s p
 | .imap es => .imap es
 | .nest sz xs => .nest sz xs
 | .bag hs => .bag hs
 | .raw cs ho => .raw cs (ho.map fun h => (h.1, h.2.ren ρ))
def Ut (ρ : Nat → Nat) : List (Nat × AObj) → List (Nat × AObj)
 | [] => []
 | (k, o) :: r => (ρ k, o.ren ρ) :: Ut ρ r
def Gh.pull (g : Gh) (ρ : Nat → Nat) : Gh := { blk := fun k => g.blk (ρ k), hd := fun k => g.hd (ρ k), ihd := fun k => g.ihd (ρ k), M := g.M }
mutual
theorem X3R {g : Gh} {ρ : Nat → Nat} : ∀ (x : AVal) (u : Value), (x.ren ρ).sat g u ↔ x.sat (g.pull ρ) u
 | .any, _ => by simp only [AVal.ren, AVal.sat]
 | .d x, _ => by simp only [AVal.ren, AVal.sat, Gh.pull]
 | .ptr γ o, _ => by simp only [AVal.ren, AVal.sat, Gh.pull]
 | .own γ n, _ => by simp only [AVal.ren, AVal.sat, Gh.pull]
 | .rptr γ n o, _ => by simp only [AVal.ren, AVal.sat, Gh.pull]
 | .inn γ i, _ => by simp only [AVal.ren, AVal.sat, Gh.pull]
 | .bsl γ n, _ => by simp only [AVal.ren, AVal.sat, Gh.pull]
 | .rs γ o n c, _ => by simp only [AVal.ren, AVal.sat, Gh.pull]
 | .mptr γ n i, _ => by simp only [AVal.ren, AVal.sat, Gh.pull]
 | .cut γ n k sz, _ => by simp only [AVal.ren, AVal.sat, Gh.pull]
 | .dptr row, _ => by simp only [AVal.ren, AVal.sat, Gh.pull]
 | .dx sz xs, _ => by simp only [AVal.ren, AVal.sat, Gh.pull]
 | .bq p q, _ => by simp only [AVal.ren, AVal.sat]
 | .agg cs, u => by simp only [AVal.ren, AVal.sat, X0Z cs]
 | .tup cs, u => by simp only [AVal.ren, AVal.sat, X0Z cs]
 | .fn f cs, u => by simp only [AVal.ren, AVal.sat, X0Z cs]
theorem X0Z {g : Gh} {ρ : Nat → Nat} : ∀ (xs : List AVal) (us : List Value), Xk g (YS ρ xs) us ↔ Xk (g.pull ρ) xs us
 | [], [] => by simp only [YS, Xk]
 | [], _ :: _ => by simp only [YS, Xk]
 | _ :: _, [] => by simp only [YS, Xk]
 | x :: xs, u :: us => by simp only [YS, Xk, X3R x u, X0Z xs us]
end
theorem Xbg {ρ : Nat → Nat} : ∀ (cs : List AVal), (∀ c ∈ cs, c.cellish = true) ↔ ∀ c ∈ YS ρ cs, c.cellish = true
 | [] => by simp [YS]
 | c :: r => by
  simp only [YS, List.mem_cons, forall_eq_or_imp, ← Xbg r]
  refine and_congr_left fun _ => ?_
  cases c <;> simp [AVal.ren, AVal.cellish]
theorem XgY {g : Gh} {ρ : Nat → Nat} {l : List D} {us : List Value} : Xk (g.pull ρ) (l.map .d) us ↔ Xk g (l.map .d) us := by
 have h : YS ρ (l.map .d) = l.map .d := by
  induction l with
  | nil => rfl
  | cons x r ih => simp [YS, AVal.ren, ih]
 rw [← X0Z, h]
theorem X4B {g : Gh} {ρ : Nat → Nat} {w : World} {h : Value} {sz : Nat} {xs : List (List D)} : Yp (g.pull ρ) w h sz xs ↔ Yp g w h sz xs := by
 simp only [Yp, XgY]
theorem X5N (ρ : Nat → Nat) : ∀ cs : List (Option D), YS ρ (cs.map oA) = cs.map oA
 | [] => rfl
 | c :: cs => by rw [List.map_cons, YS, X5N ρ cs]; cases c <;> rfl
theorem X8V (ρ : Nat → Nat) : ∀ (l : List AVal) (j : Nat) (c : AVal), YS ρ (l.set j c) = (YS ρ l).set j (c.ren ρ)
 | [], _, _ => rfl
 | x :: l, 0, c => rfl
 | x :: l, j + 1, c => by rw [List.set_cons_succ, YS, YS, List.set_cons_succ, X8V ρ l j c]
theorem Xfs (ρ : Nat → Nat) (cs : List (Option D)) (ho : Option (Nat × AVal)) : XA cs (ho.map fun h => (h.1, h.2.ren ρ)) = YS ρ (XA cs ho) := by
 cases ho with
 | none => exact (X5N ρ cs).symm
 | some h => simp only [XA, Option.map_some, X8V, X5N]
theorem Xa2 {g : Gh} {ρ : Nat → Nat} {w : World} {γ : Nat} (o : AObj) : Y7 g w (ρ γ) (o.ren ρ) ↔ Y7 (g.pull ρ) w γ o := by
 cases o with
 | dead => exact Iff.rfl
 | box cs => simp only [AObj.ren, Y7, X0Z, ← Xbg cs]; rfl
 | row sz xs => simp only [AObj.ren, Y7]; exact X4B.symm
 | froz sz xs => exact Iff.rfl
 | iter s p => exact Iff.rfl
 | imap es => exact Iff.rfl
 | mat sz rows => simp only [AObj.ren, Y7, X5X, X4B]; rfl
 | nest sz xs => simp only [AObj.ren, Y7, X5z, Ve, X4B]; rfl
 | bag hs => simp only [AObj.ren, Y7, Ve, X4B]
 | raw cs ho => simp only [AObj.ren, Y7, Xfs, X0Z]; rfl
theorem X5L {g : Gh} {ρ : Nat → Nat} {γ b : Nat} (o : AObj) : Xr g (o.ren ρ) (ρ γ) b ↔ Xr (g.pull ρ) o γ b := by
 cases o <;> exact Iff.rfl
theorem X1W {ρ σ : Nat → Nat} (h1 : ∀ k, σ (ρ k) = k) : ∀ (L : List (Nat × AObj)) (γ : Nat), Xa .dead (Ut ρ L) (ρ γ) = (Xa .dead L γ).ren ρ
 | [], γ => rfl
 | (k, o) :: r, γ => by
  simp only [Ut]
  by_cases h : k = γ
  ·subst h; rw [XT, XT]
  ·rw [XK _ _ _ h, XK _ _ _ (fun e => h (by rw [← h1 k, ← h1 γ, e])), X1W h1 r γ]
theorem Xb3 {ρ σ : Nat → Nat} (h1 : ∀ k, σ (ρ k) = k) : ∀ (L : List (Nat × AObj)) (γ : Nat), Xt (ρ γ) (Ut ρ L) = Xt γ L
 | [], γ => rfl
 | (k, o) :: r, γ => by
  simp only [Ut, Xt, Xb3 h1 r γ]
  congr 1
  rw [Bool.eq_iff_iff]
  simp only [Nat.beq_eq]
  exact ⟨fun e => by rw [← h1 k, ← h1 γ, e], fun e => by rw [e]⟩
theorem X3S {E : Env} {ρ σ : Nat → Nat} (h1 : ∀ k, σ (ρ k) = k) (h2 : ∀ k, ρ (σ k) = k) {L : List (Nat × AObj)} {g : Gh} {w : World} {g0 : Gh} :
  Inv { E with g0 := g } (Xa .dead (Ut ρ L)) g w ↔ Inv { E with g0 := g.pull ρ } (Xa .dead L) (g.pull ρ) w := by
 have hlv : ∀ γ b, Xr g (Xa .dead (Ut ρ L) (ρ γ)) (ρ γ) b ↔ Xr (g.pull ρ) (Xa .dead L γ) γ b := fun γ b => by rw [X1W h1]; exact X5L _
 constructor
 ·intro hi
  refine ⟨fun γ => ?_, fun γ γ' b h h' => ?_, hi.mem, fun γ b h => hi.sep (ρ γ) b ((hlv _ _).2 h), fun γ b h => hi.new (ρ γ) b ((hlv _ _).2 h), hi.ext, hi.lim, hi.frame, hi.size, hi.os, hi.out, fun _ _ => Gh.keeps_refl _ _⟩
  ·have := hi.obj (ρ γ); rw [X1W h1] at this; exact (Xa2 _).1 this
  ·have := hi.inj (ρ γ) (ρ γ') b ((hlv _ _).2 h) ((hlv _ _).2 h')
   rw [← h1 γ, ← h1 γ', this]
 ·intro hi
  have hs : ∀ γ b, Xr g (Xa .dead (Ut ρ L) γ) γ b → Xr (g.pull ρ) (Xa .dead L (σ γ)) (σ γ) b := fun γ b h => by
   have := (hlv (σ γ) b).1; rw [h2] at this; exact this h
  refine ⟨fun γ => ?_, fun γ γ' b h h' => ?_, hi.mem, fun γ b h => hi.sep (σ γ) b (hs _ _ h), fun γ b h => hi.new (σ γ) b (hs _ _ h), hi.ext, hi.lim, hi.frame, hi.size, hi.os, hi.out, fun _ _ => Gh.keeps_refl _ _⟩
  ·have := hi.obj (σ γ)
   rw [← Xa2 (ρ := ρ), ← X1W h1, h2] at this
   exact this
  ·have := hi.inj (σ γ) (σ γ') b (hs _ _ h) (hs _ _ h')
   rw [← h2 γ, ← h2 γ', this]
theorem XbU {g g' : Gh} {ρ : Nat → Nat} {γ : Nat} : (g.pull ρ).keeps (g'.pull ρ) γ ↔ g.keeps g' (ρ γ) := Iff.rfl
theorem Xhz {P : Program} {f : FuncId} {Li Lo : List (Nat × AObj)} {args : List AVal} {res : AVal} (ρ σ : Nat → Nat) (h1 : ∀ k, σ (ρ k) = k) (h2 : ∀ k, ρ (σ k) = k) (h : Con P f Li args Lo res) :
  Con P f (Ut ρ Li) (YS ρ args) (Ut ρ Lo) (res.ren ρ) := by
 intro g w vs hi hs
 have hA : ∀ b, (∃ γ, Xr g (Xa .dead (Ut ρ Li) γ) γ b) ↔ ∃ γ, Xr (g.pull ρ) (Xa .dead Li γ) γ b := by
  intro b
  constructor
  ·rintro ⟨γ, hγ⟩
   refine ⟨σ γ, ?_⟩
   rw [← h2 γ, X1W h1, X5L] at hγ
   exact hγ
  ·rintro ⟨γ, hγ⟩
   refine ⟨ρ γ, ?_⟩
   rw [X1W h1, X5L]; exact hγ
 have hE : YL (g.pull ρ) w Li = { YL g w (Ut ρ Li) with g0 := g.pull ρ } := by
  simp only [YL, Env.mk.injEq, true_and, and_true]
  exact ⟨rfl, funext fun b => propext (hA b).symm⟩
 have hi' : Inv (YL (g.pull ρ) w Li) (Xa .dead Li) (g.pull ρ) w := by
  rw [hE]; exact (X3S (g0 := g) h1 h2).1 hi
 refine (h (g.pull ρ) w vs hi' ((X0Z _ _).1 hs)).mono ?_
 rintro e w' ⟨v, g', rfl, hv, hi2, hk⟩
 have hgp : (g'.pull σ).pull ρ = g' := by simp only [Gh.pull, h1]
 refine ⟨v, g'.pull σ, rfl, (X3R _ _).2 (by rw [hgp]; exact hv), ?_, fun γ hγ => ?_⟩
 ·refine (X3S (E := YL g w (Ut ρ Li)) (g0 := g) h1 h2).2 ?_
  rw [hgp]
  have : ({ YL (g.pull ρ) w Li with g0 := g' } : Env) = { YL g w (Ut ρ Li) with g0 := g' } := by rw [hE]
  rw [← this]; exact hi2
 ·have hγ' : Xt (σ γ) Li = true := by rw [← Xb3 h1, h2]; exact hγ
  have := hk (σ γ) hγ'
  rw [← hgp, XbU, h2] at this
  exact this
def swp (a b k : Nat) : Nat := bif Nat.beq k a then b else bif Nat.beq k b then a else k
theorem X0T (a b k : Nat) : swp a b (swp a b k) = k := by
 simp only [swp]
 by_cases h1 : k = a
 ·subst h1
  by_cases h2 : b = k
  ·subst h2; simp
  ·have : Nat.beq b k = false := by cases h : Nat.beq b k with | false => rfl | true => exact absurd (Nat.eq_of_beq_eq_true h) h2
   simp [this]
 ·have e1 : Nat.beq k a = false := by cases h : Nat.beq k a with | false => rfl | true => exact absurd (Nat.eq_of_beq_eq_true h) h1
  by_cases h2 : k = b
  ·subst h2; simp [e1]
  ·have e2 : Nat.beq k b = false := by cases h : Nat.beq k b with | false => rfl | true => exact absurd (Nat.eq_of_beq_eq_true h) h2
   simp [e1, e2]
theorem YE {P : Program} {f : FuncId} {Li Lo : List (Nat × AObj)} {args : List AVal} {res : AVal} (a b : Nat) (h : Con P f Li args Lo res) :
  Con P f (Ut (swp a b) Li) (YS (swp a b) args) (Ut (swp a b) Lo) (res.ren (swp a b)) :=
 Xhz _ _ (X0T a b) (X0T a b) h
section
variable {P : Program} {ops : Array Oper} {draw : Bool} {K : Xy → St → Prop} {rest : List Oper} {l : Xy} {S : St}
variable {d : Nat} {ty : TypeId} {pos : String} {aft : Array Edge} {gd : Option (Nat × Bool)}
theorem Xeo {t : Tmp} {f : FuncId} {caps : List AVal} {args : Array Operand} {tys : Array TypeId} {xs : List Operand} {ys zs : List AVal} {Li Lo : List (Nat × AObj)} {res : AVal}
  (ht : S.ev (.tmp t) = .fn f caps) (hxs : args.toList = xs) (hys : evA S xs = ys) (hle : leL (ys ++ caps) zs) (hcon : Con P f Li zs Lo res) (hf : Vk P f = true)
  (hLi : Yu S Li) (hin : X0o Li Lo = true) (hbox : X03 Lo Lo = true) (hres : res.within Lo = true) (hnew : VG S (Yv Li Lo)) (hdead : Yu S (VJ (Yv Li Lo)))
  (hd : Nat.blt d S.n = true) (hg : Xj ops S gd)
  (h : Walk P ops draw K rest ((l.length, ⟨some d, .call ⟨.value (.tmp t), args, tys⟩, ty, pos, aft, gd⟩, ⟨Xg ops gd ++ ((.tmp t, .fn f caps) :: VD xs ys), some (d, res), Li ++ VJ (Yv Li Lo), Lo, Yv Li Lo⟩) :: l)
   ((S.set d res).cat Lo)) :
  Walk P ops draw K (⟨some d, .call ⟨.value (.tmp t), args, tys⟩, ty, pos, aft, gd⟩ :: rest) l S := by
 have hap : ∀ (A B : List (Nat × AObj)) (T : St), Yu T (A ++ B) ↔ Yu T A ∧ Yu T B := by
  intro A B T
  simp only [X0A, List.mem_append]
  exact ⟨fun h => ⟨fun p hp => h p (.inl hp), fun p hp => h p (.inr hp)⟩, fun h p hp => hp.elim (h.1 p) (h.2 p)⟩
 have hlen : ys.length = xs.length := by
  rw [← hys]; clear hys hxs h hle
  induction xs with
  | nil => rfl
  | cons x r ih => simp [evA, ih]
 refine XO ⟨(.tmp t, .fn f caps) :: VD xs ys, some (d, res), Li ++ VJ (Yv Li Lo), Lo, Yv Li Lo⟩ ?_ hg ⟨⟨ht, by rw [← hys]; exact X2U S xs⟩, (hap _ _ _).2 ⟨hLi, hdead⟩, hnew, hd⟩ h
 intro E S a w g hs hok Q K hK
 obtain ⟨ok1, ok2, ok3, ok4⟩ := hok
 rw [hap] at ok2
 obtain ⟨hq1, hq2⟩ := Vr hs _ ok1
 simp only [AVal.sat] at hq1
 obtain ⟨cv, hcv, hcs⟩ := hq1
 have hsat := X2c hle (Vm (X36 hlen hq2) hcs)
 have hinv : Inv (YL g w Li) (Xa .dead Li) g w := by
  have hsub := XZ ok2.1
  have hl : ∀ γ b, Xr g (Xa .dead Li γ) γ b → Xr g (S.obj γ) γ b := by
   intro γ b hb
   rcases hsub γ with e | e
   ·rw [← e]; exact hb
   ·rw [e] at hb; exact hb.elim
  refine ⟨fun γ => ?_, fun γ γ' b k k' => hs.1.inj γ γ' b (hl _ _ k) (hl _ _ k'), hs.1.mem, fun γ b k => hs.1.sep γ b (hl _ _ k), fun γ b k => .inr ⟨γ, k⟩, XQ.refl _, fun a v ha => .inl ⟨v, ha⟩, fun _ _ _ => rfl, Nat.le_refl _, rfl, rfl, fun γ _ => Gh.keeps_refl _ _⟩
  rcases hsub γ with e | e
  ·rw [e]; exact hs.1.obj γ
  ·rw [e]; trivial
 have hcall := hcon g w (xs.map a.eval ++ cv.toList) hinv hsat
 have hrun : (execOp a.eval ⟨some d, .call ⟨.value (.tmp t), args, tys⟩, ty, pos, aft, gd⟩).run P w = .ok (.enter f (xs.map a.eval ++ cv.toList).toArray) w := by
  have e1 : (#[] ++ args.map a.eval ++ cv : Array Value) = (xs.map a.eval ++ cv.toList).toArray := by
   apply Array.ext'; simp [← hxs]
  simp only [execOp, resolve, hcv, Deferred.ofValue, Sem.run_bind, Sem.run_pure, Result.andThen_ok, invoke]
  rw [X4V hf]
  congr 2
 unfold Oper.wp
 rw [hrun, Oper.upon_enter]
 refine hcall.mono ?_
 rintro e w' ⟨v, g', rfl, hv, hi', hk⟩
 obtain ⟨j1, j2, j3⟩ := X6U hs.1 ok2.1 hin hbox ok3 ok2.2 hi' hk
 exact hK _ _ (X00 j1 hs.2.1 hs.2.2.1 (fun t => j3 t _ (hs.2.2.2 t)) (j2 _ _ hres hv) ok4)
theorem XgL {f : FuncId} {caps : Array Operand} {xs : List Operand} {ys : List AVal} (hxs : caps.toList = xs) (hys : evA S xs = ys) (hd : Nat.blt d S.n = true) (hg : Xj ops S gd)
  (h : Walk P ops draw K rest ((l.length, ⟨some d, .makeFunc (.func f) #[] caps, ty, pos, aft, gd⟩, ⟨Xg ops gd ++ VD xs ys, some (d, .fn f ys), [], [], []⟩) :: l) (S.set d (.fn f ys))) :
  Walk P ops draw K (⟨some d, .makeFunc (.func f) #[] caps, ty, pos, aft, gd⟩ :: rest) l S := by
 have hlen : ys.length = xs.length := by
  rw [← hys]; clear hys hxs h
  induction xs with
  | nil => rfl
  | cons x r ih => simp [evA, ih]
 refine XO ⟨VD xs ys, some (d, .fn f ys), [], [], []⟩ (Y2 rfl fun E S g a w hs hq hl => ?_) hg ⟨by rw [← hys]; exact X2U S xs, trivial, trivial, hd⟩ h
 refine ⟨.func (.func f) #[] (caps.map a.eval), by simp [execOp, Instr.makeFunc], ?_⟩
 simp only [AVal.sat]
 refine ⟨_, rfl, ?_⟩
 have := X36 hlen hq
 rw [show (caps.map a.eval).toList = xs.map a.eval by simp [← hxs]]
 exact this
end
theorem Y5 {S : St} (β : Nat) {cs cs' : List AVal} (hb : S.obj β = .box cs) (hle : leL cs cs') (hc : UX cs' = true) : S.le (S.own β (.box cs')) := by
 rintro E a w ⟨g, hs⟩
 have ho := hs.1.obj β
 rw [hb] at ho
 obtain ⟨vs, e, fr, h1, h2, h3, h4⟩ := ho
 have hi2 : Inv E (Xa .dead ((β, .box cs') :: S.L)) g w := by
  refine Inv.upd hs.1 β _ (XT _ _ _ _) (fun k hk => XK _ _ _ (Ne.symm hk)) (fun _ _ _ => rfl) (Nat.le_refl _) rfl rfl rfl (fun _ _ => ⟨rfl, rfl, rfl⟩) (fun _ _ _ _ _ h => h) ?_ (fun b hb' => .inl (by rw [hb]; exact hb')) (fun _ => Gh.keeps_refl _ _)
  exact ⟨vs, e, fr, h1, h2, X2c hle h3, (X0U _).1 hc⟩
 exact X1d hs hi2 rfl hs.2.2.2
def X5 (l : List UInt8) : ByteArray := ⟨l.toArray⟩
theorem X0h (l : List UInt8) : (X5 l).toList = l := by
 rw [ByteArray.toList_eq]; simp [X5]
section
variable {P : Program} {ops : Array Oper} {draw : Bool} {K : Xy → St → Prop} {rest : List Oper} {l : Xy} {S : St}
variable {d : Nat} {ty : TypeId} {pos : String} {aft : Array Edge} {gd : Option (Nat × Bool)}
theorem Xef {t : TypeId} {x y : Operand} {a b : List UInt8} (w : World) : (do eqGuard .eql t x y (.string (X5 a)) (.string (X5 b)); binOp .eql t (.string (X5 a)) (.string (X5 b)) : Sem Value).run P w = .ok (.bool (decide (a = b))) w := by
 simp [go_sem, X0h]; exact Bool.beq_eq_decide_eq a b
theorem Xhi {t : TypeId} {x y : Operand} {a b : List UInt8} (w : World) : (do eqGuard .neq t x y (.string (X5 a)) (.string (X5 b)); binOp .neq t (.string (X5 a)) (.string (X5 b)) : Sem Value).run P w = .ok (.bool (decide (a ≠ b))) w := by
 simp [go_sem, X0h]; exact Bool.beq_eq_decide_eq a b
end
section
variable {P : Program} {ops : Array Oper} {draw : Bool} {K : Xy → St → Prop} {rest : List Oper} {l : Xy} {S : St}
variable {d : Nat} {ty : TypeId} {pos : String} {aft : Array Edge} {gd : Option (Nat × Bool)}
theorem XeF {x i : Operand} {T : TypeId} {γ n k : Nat} {kd : IntKind} {m : Int} {xs : List (List D)} (hx : S.ev x = .own γ n) (hL : S.obj γ = .row 1 xs) (hi : S.ev i = .d (.v (.int kd m))) (hn : n = xs.length) (hk : m = (k : Nat)) (hlt : k < xs.length)
  (hT : Y8 P T 1 = true) (hd : Nat.blt d S.n = true) (hg : Xj ops S gd)
  (h : Walk P ops draw K rest ((l.length, ⟨some d, .indexAddr T x i, ty, pos, aft, gd⟩, ⟨Xg ops gd ++ [(x, .own γ n), (i, .d (.v (.int kd m)))], some (d, .rptr γ n k), [(γ, .row 1 xs)], [], []⟩) :: l) (S.set d (.rptr γ n k))) :
  Walk P ops draw K (⟨some d, .indexAddr T x i, ty, pos, aft, gd⟩ :: rest) l S :=
 XO ⟨[(x, .own γ n), (i, .d (.v (.int kd m)))], some (d, .rptr γ n k), [(γ, .row 1 xs)], [], []⟩ (Y2 rfl fun E S g a w hs hq hl => by
  obtain ⟨e, h1, h2, h3⟩ := VX hT
  have ho := hs.1.obj γ
  rw [hl.1] at ho
  have hv := X0J hq.1 ho hn
  rcases ho.2 with ⟨e, rfl⟩ | ⟨b, cap, vs, e', fr, hh, _⟩
  ·simp at hlt
  ·rw [hh] at hv
   refine ⟨.pointer (some ⟨b, k, none⟩), ?_, ?_⟩
   ·have hb : (0 : Int) ≤ m ∧ m < (xs.length : Int) := by omega
    have hm : m.toNat = k := by omega
    have := run_indexAt_slice (P := P) w T ⟨b, 0, none⟩ xs.length cap kd m (by rw [h3]; exact h1)
    rw [if_pos hb, h3, h2 w, Result.andThen_ok, YQ, hm, Nat.mul_one, Nat.zero_add] at this
    simp only [execOp, hv, Yn hq.2.1, Sem.run_bind, this]; rfl
   ·simp only [AVal.sat]
    exact ⟨rfl, _, _, _, hh, by omega, fun _ => ⟨_, rfl, rfl⟩⟩) hg ⟨⟨hx, hi, trivial⟩, ⟨hL, trivial⟩, trivial, hd⟩ h
theorem XbF {xs : List (List D)} (h : ∀ x ∈ xs, x.length = 1) {k : Nat} {y : D} (hk : xs[k]? = some [y]) : xs.flatten[k]? = some y := by
 induction xs generalizing k with
 | nil => simp at hk
 | cons x xs ih =>
  obtain ⟨z, rfl⟩ : ∃ z, x = [z] := by
   have := h x (List.mem_cons_self ..)
   match x, this with
   | [z], _ => exact ⟨z, rfl⟩
  cases k with
  | zero => simp at hk; simp [hk]
  | succ k => simp at hk; simp [ih (fun x hx => h x (List.mem_cons_of_mem _ hx)) hk]
theorem Xhu {t : TypeId} {x : Operand} {γ n k : Nat} {xs : List (List D)} {y : D} (hx : S.ev x = .rptr γ n k) (hL : S.obj γ = .row 1 xs) (hn : n = xs.length) (hy : xs[k]? = some [y])
  (ht : YO P t false 1 = true) (hd : Nat.blt d S.n = true) (hg : Xj ops S gd)
  (h : Walk P ops draw K rest ((l.length, ⟨some d, .load t x, ty, pos, aft, gd⟩, ⟨Xg ops gd ++ [(x, .rptr γ n k)], some (d, .d y), [(γ, .row 1 xs)], [], []⟩) :: l) (S.set d (.d y))) :
  Walk P ops draw K (⟨some d, .load t x, ty, pos, aft, gd⟩ :: rest) l S :=
 XO ⟨[(x, .rptr γ n k)], some (d, .d y), [(γ, .row 1 xs)], [], []⟩ (Y2 rfl fun E S g a w hs hq hl => by
  have ho := hs.1.obj γ
  rw [hl.1] at ho
  have hq1 := hq.1
  simp only [AVal.sat] at hq1
  obtain ⟨_, a', m, c, q1, q2, q3⟩ := hq1
  have hlt : k < xs.length := (List.getElem?_eq_some_iff.1 hy).1
  rcases ho.2 with ⟨e, rfl⟩ | ⟨b, cap, vs, e', fr, hh, k2, k3, k4, k5, k6, k7⟩
  ·simp at hlt
  ·rw [hh] at q1; cases q1
   obtain ⟨b', e1, e2⟩ := q3 hn
   cases e1
   obtain ⟨u, hu, hsu⟩ := YG k7 k (.d y) (by rw [List.getElem?_map, XbF ho.1 hy]; rfl)
   have hc : w.cell? ⟨b, k, none⟩ = some u := by
    rw [cell_of_row w _ _ vs e' fr k4]
    rw [List.getElem?_take] at hu
    split at hu
    ·simpa using hu
    ·simp at hu
   refine ⟨u, ?_, hsu⟩
   simp [execOp, e2, Instr.loadAt, Instr.sureAddr, X38 ht hc]) hg ⟨⟨hx, trivial⟩, ⟨hL, trivial⟩, trivial, hd⟩ h
theorem XhY {t : TypeId} {x v : Operand} {γ n k : Nat} {xs : List (List D)} {y : D} (hx : S.ev x = .rptr γ n k) (hL : S.obj γ = .row 1 xs) (hv : S.ev v = .d y) (hn : n = xs.length) (hlt : k < xs.length)
  (ht : X0b P t 1 = true) (hg : Xj ops S gd)
  (h : Walk P ops draw K rest ((l.length, ⟨none, .store t x v, ty, pos, aft, gd⟩, ⟨Xg ops gd ++ [(x, .rptr γ n k), (v, .d y)], none, [(γ, .row 1 xs)], [(γ, .row 1 (xs.take k ++ [[y]] ++ xs.drop (k + 1)))], []⟩) :: l)
   (S.own γ (.row 1 (xs.take k ++ [[y]] ++ xs.drop (k + 1))))) :
  Walk P ops draw K (⟨none, .store t x v, ty, pos, aft, gd⟩ :: rest) l S :=
 XO ⟨[(x, .rptr γ n k), (v, .d y)], none, [(γ, .row 1 xs)], [(γ, .row 1 (xs.take k ++ [[y]] ++ xs.drop (k + 1)))], []⟩ (X45 rfl fun E S g a w hs hq hl hnn => by
  have ho := hs.1.obj γ
  rw [hl.1] at ho
  have hq1 := hq.1
  simp only [AVal.sat] at hq1
  obtain ⟨_, a', m, c, q1, q2, q3⟩ := hq1
  have hrow : Yp g w (g.hd γ) 1 xs := ho
  have hone : (a.eval v).cells = #[a.eval v] := by
   have := AVal.sat_one (x := .d y) rfl hq.2.1
   cases hvv : a.eval v <;> rw [hvv] at this <;> first | rfl | simp [Value.oneCell'] at this
  obtain ⟨w', s1, s2, s3, s4, s5, s6⟩ := Xba (P := P) (k := k) (m := 1) (ys := [[y]]) hrow (by omega) (by simp) rfl (news := #[a.eval v]) (by simp) (by
   simp only [List.flatten_cons, List.flatten_nil, List.append_nil, List.map_cons, List.map_nil, Xk]
   exact ⟨hq.2.1, trivial⟩)
  rcases hrow.2 with ⟨e, rfl⟩ | ⟨b, cap, vs, e', fr, hh, _⟩
  ·simp at hlt
  rw [hh] at q1 s1; cases q1
  obtain ⟨b', e1, e2⟩ := q3 hn
  cases e1
  simp only [Nat.mul_one, YQ, Nat.zero_add] at s1
  refine ⟨g, w', ?_, ?_, hs.2.2.2⟩
  ·have hsz := X4X ht w
   have s1' : (storeCells ⟨b, k, none⟩ [a.eval v]).run P w = .ok () w' := by simpa using s1
   simp [execOp, e2, Instr.storeAt, Instr.sureAddr, storeVar, hsz, hone, s1']
  ·refine Inv.upd hs.1 γ _ (XT _ _ _ _) (fun j hj => XK _ _ _ (Ne.symm hj)) (fun b hb hnl => s3 b fun hc => hnl (by rw [hl.1]; exact hc)) (by omega) s5 s6 rfl (fun _ _ => ⟨rfl, rfl, rfl⟩) (fun _ _ _ _ _ h => h) s2 (fun b hb => .inl (by rw [hl.1]; exact hb)) (fun _ => Gh.keeps_refl _ _)) hg ⟨⟨hx, hv, trivial⟩, ⟨hL, trivial⟩, trivial, trivial⟩ h
end
section
variable {P : Program}
def X4x (P : Program) (t : TypeId) : Bool := match P.underlying t with | some .bool => true | _ => false
theorem X91 {t : TypeId} (h : X4x P t = true) : P.underlying t = some .bool := by
 unfold X4x at h
 cases hu : P.underlying t with
 | none => rw [hu] at h; simp at h
 | some u => cases u <;> rw [hu] at h <;> simp at h ⊢
theorem XdX {t : TypeId} {x y : Operand} {a b : Bool} (ht : X4x P t = true) (w : World) : (do eqGuard .eql t x y (.bool a) (.bool b); binOp .eql t (.bool a) (.bool b) : Sem Value).run P w = .ok (.bool (decide (a = b))) w := by
 have h := run_equalIn_bool' (P := P) w 9999 t a b (X91 ht)
 have h2 : (Op.equal t (.bool a) (.bool b)).run P w = .ok (a == b) w := h
 simp [eqGuard, binOp, h2]
 exact Bool.beq_eq_decide_eq a b
theorem Xey {t : TypeId} {x y : Operand} {a b : Bool} (ht : X4x P t = true) (w : World) : (do eqGuard .neq t x y (.bool a) (.bool b); binOp .neq t (.bool a) (.bool b) : Sem Value).run P w = .ok (.bool (decide (a ≠ b))) w := by
 have h := run_equalIn_bool' (P := P) w 9999 t a b (X91 ht)
 have h2 : (Op.equal t (.bool a) (.bool b)).run P w = .ok (a == b) w := h
 simp [eqGuard, binOp, h2, Bool.beq_eq_decide_eq]
theorem Xd9 {t : TypeId} {x y : Operand} {k : IntKind} {a b : Int} (ha : 0 ≤ a) (hb : b ≠ 0) (w : World) : (do eqGuard .rem t x y (.int k a) (.int k b); binOp .rem t (.int k a) (.int k b) : Sem Value).run P w = .ok (.int k (a % b)) w := by
 simp [eqGuard, binOp, Op.intDiv, hb, go_sem, Int.tmod_eq_emod_of_nonneg ha]
end
section
variable {P : Program} {ops : Array Oper} {draw : Bool} {K : Xy → St → Prop} {rest : List Oper} {l : Xy} {S : St}
variable {d : Nat} {ty : TypeId} {pos : String} {aft : Array Edge} {gd : Option (Nat × Bool)}
theorem X2w {op : BinOp} {xt yt : TypeId} {x y : Operand} {u v r : Value} (r' : Value) (hr' : r = r') (hx : S.ev x = .d (.v u)) (hy : S.ev y = .d (.v v))
  (hr : ∀ w, (do eqGuard op xt x y u v; binOp op xt u v : Sem Value).run P w = .ok r w) (h1 : r'.oneCell' = true) (hd : Nat.blt d S.n = true) (hg : Xj ops S gd)
  (h : Walk P ops draw K rest ((l.length, ⟨some d, .binOp op xt x y yt, ty, pos, aft, gd⟩, ⟨Xg ops gd ++ [(x, .d (.v u)), (y, .d (.v v))], some (d, .d (.v r')), [], [], []⟩) :: l) (S.set d (.d (.v r')))) :
  Walk P ops draw K (⟨some d, .binOp op xt x y yt, ty, pos, aft, gd⟩ :: rest) l S := by
 subst hr'
 exact Us hx hy hr h1 hd hg h
end
def X0X (k : IntKind) : Nat := if k.signed then k.bits - 1 else k.bits
theorem X0z : 2 ^ X0X .u64 = 18446744073709551616 := by decide
theorem Y4 : 2 ^ X0X .i64 = 9223372036854775808 := by decide
theorem X4c {k : IntKind} {n : Nat} (h : n < 2 ^ X0X k) : k.wrap (n : Int) = n := by
 cases k <;> simp [X0X, IntKind.signed, IntKind.bits] at h <;> simp [IntKind.wrap, IntKind.bits, IntKind.signed] <;> omega
section
variable {P : Program} {t : TypeId} {x y : Operand} {k : IntKind} {a b : Nat}
theorem Xd1 {op : BinOp} {a b : Int} {k' : IntKind} {r : Value} (h1 : op = .shl ∨ op = .shr) (h : Op.shift op k a k' b = pure r) (w : World) : (do eqGuard op t x y (.int k a) (.int k' b); binOp op t (.int k a) (.int k' b) : Sem Value).run P w = .ok r w := by
 rcases h1 with rfl | rfl <;> simp [eqGuard, binOp, h]
theorem X0g {k' : IntKind} (hb : b ≤ k.bits) (w : World) : (do eqGuard .shr t x y (.int k a) (.int k' b); binOp .shr t (.int k a) (.int k' b) : Sem Value).run P w = .ok (.int k ((a / 2 ^ b : Nat) : Int)) w := by
 have e : (a : Int).fdiv (2 ^ b) = ((a / 2 ^ b : Nat) : Int) := by
  rw [Int.fdiv_eq_ediv_of_nonneg _ (by exact Int.le_of_lt (Int.pow_pos (by omega)))]; simp
 refine Xd1 (.inr rfl) ?_ w
 have hb0 : ¬ ((b : Int) < 0) := by omega
 simp only [Op.shift, if_neg hb0, Int.toNat_natCast, Nat.min_eq_left hb, e]
theorem Vz (hb : b ≠ 0) (h : a < 2 ^ X0X k) (w : World) : (do eqGuard .quo t x y (.int k a) (.int k b); binOp .quo t (.int k a) (.int k b) : Sem Value).run P w = .ok (.int k ((a / b : Nat) : Int)) w := by
 have e := X4c (k := k) (n := a / b) (Nat.lt_of_le_of_lt (Nat.div_le_self _ _) h)
 have hb' : (b : Int) ≠ 0 := by omega
 have e2 : (a : Int).tdiv b = ((a / b : Nat) : Int) := by rw [Int.tdiv_eq_ediv_of_nonneg (by omega)]; simp
 simp only [eqGuard, binOp, Op.intDiv, if_neg hb', e2, e]
 simp [go_sem]
theorem Ul (hb : b ≠ 0) (w : World) : (do eqGuard .rem t x y (.int k a) (.int k b); binOp .rem t (.int k a) (.int k b) : Sem Value).run P w = .ok (.int k ((a % b : Nat) : Int)) w := by
 have hb' : (b : Int) ≠ 0 := by omega
 have e2 : (a : Int).tmod b = ((a % b : Nat) : Int) := by rw [Int.tmod_eq_emod_of_nonneg (by omega)]; simp
 simp only [eqGuard, binOp, Op.intDiv, if_neg hb', e2]
 simp [go_sem]
theorem UF (h : a + b < 2 ^ X0X k) (w : World) : (do eqGuard .add t x y (.int k a) (.int k b); binOp .add t (.int k a) (.int k b) : Sem Value).run P w = .ok (.int k ((a + b : Nat) : Int)) w := by
 rw [X7U, ← Int.natCast_add, X4c h]
theorem X8g (h : a * b < 2 ^ X0X k) (w : World) : (do eqGuard .mul t x y (.int k a) (.int k b); binOp .mul t (.int k a) (.int k b) : Sem Value).run P w = .ok (.int k ((a * b : Nat) : Int)) w := by
 rw [Xax, ← Int.natCast_mul, X4c h]
theorem XbT {n : Int} (h : -9223372036854775807 ≤ n ∧ n ≤ 9223372036854775807) (w : World) : (Op.unary .neg (.int .i64 n)).run P w = .ok (.int .i64 (-n)) w := by
 have e : IntKind.i64.wrap (0 - n) = -n := by rw [IntWalk.i64_in _ (by omega)]; omega
 have e' : Op.unary .neg (.int .i64 n) = pure (.int .i64 (-n)) := by
  show (pure (Value.int .i64 (IntKind.i64.wrap (0 - n))) : Sem Value) = _
  rw [e]
 rw [e']; rfl
variable {src dst : TypeId} {q : IntKind}
theorem Uj (hs : (P.underlying src).isSome = true) (hd : X5j P dst q = true) (ha : a < 2 ^ X0X q) (w : World) : (convert src dst (.int k (a : Int))).run P w = .ok (.int q (a : Int)) w := by
 have h := Xe7 (P := P) (n := (a : Int)) (k := k) hs hd w
 rwa [X4c ha] at h
end
structure SrcV (P : Program) (y : AVal) (sz : Nat) (ys : List (List D)) : Prop where
 src : ∀ (E : Env) (L : Nat → AObj) (g : Gh) (w : World) (u : Value), Inv E L g w → y.sat g u → ∀ m, m ≤ ys.length →
  ∃ news, (Builtin.firstCells sz m u).run P w = .ok news w ∧ news.size = m * sz ∧ Xk g ((ys.take m).flatten.map .d) news.toList ∧ (Builtin.lenOf u).run P w = .ok ys.length w ∧ ∀ y ∈ ys.take m, y.length = sz
theorem X8K {P : Program} {sz : Nat} {ys : List (List D)} : SrcV P (.d (.sl sz ys)) sz ys := by
 refine ⟨fun E L g w u hi hs m hm => XdJ hi ?_ hm⟩
 simpa only [AVal.sat] using hs
theorem X8O {g : Gh} : ∀ l : List UInt8, Xk g ((l.map fun b => [D.v (.int .u8 b.toNat)]).flatten.map .d) (l.map fun b => Value.int .u8 b.toNat)
 | [] => by simp [Xk]
 | b :: l => by
  simp only [List.map_cons, List.flatten_cons, List.singleton_append, Xk]
  exact ⟨Ui rfl, X8O l⟩
theorem X9A {P : Program} {l : List UInt8} : SrcV P (aZ (X5 l)) 1 (l.map fun b => [.v (.int .u8 b.toNat)]) := by
 refine ⟨fun E L g w u hi hs m hm => ?_⟩
 have hu := Yn hs
 subst hu
 rw [List.length_map] at hm
 have hsz : (X5 l).size = l.length := rfl
 have hex : ((X5 l).extract 0 m).data = (l.take m).toArray := by
  rw [ByteArray.data_extract]
  simp [X5]
 refine ⟨((l.take m).map fun b => Value.int .u8 b.toNat).toArray, ?_, by simp; omega, ?_, by simp [Builtin.lenOf, hsz], ?_⟩
 ·simp only [Builtin.firstCells, hex, Sem.run_pure]
  congr 1
  simp
 ·rw [← List.map_take]
  exact X8O _
 ·intro y hy
  rw [← List.map_take] at hy
  obtain ⟨b, _, rfl⟩ := List.mem_map.1 hy
  rfl
section
variable {P : Program} {ops : Array Oper} {draw : Bool} {K : Xy → St → Prop} {rest : List Oper} {l : Xy} {S : St}
variable {d : Nat} {ty : TypeId} {pos : String} {aft : Array Edge} {gd : Option (Nat × Bool)}
theorem XaJ {g : Gh} {w : World} {h : Value} {sz : Nat} {xs : List (List D)} (hr : Yp g w h sz xs) : ∃ b c, h = .slice b xs.length c ∧ xs.length ≤ c := by
 rcases hr.2 with ⟨e, rfl⟩ | ⟨b, cap, vs, e', fr, e, hc, _⟩
 ·exact ⟨none, 0, e, Nat.le_refl _⟩
 ·exact ⟨_, _, e, hc⟩
theorem XcP {T : TypeId} {x lo : Operand} {γ n sz k : Nat} {xs : List (List D)} (hx : S.ev x = .own γ n) (hL : S.obj γ = .row sz xs) (hlo : S.ev lo = ai k) (hn : n = xs.length) (hk : k ≤ xs.length)
  (hT : Y8 P T sz = true) (hd : Nat.blt d S.n = true) (hg : Xj ops S gd)
  (h : Walk P ops draw K rest ((l.length, ⟨some d, .slice T x (some lo) none none, ty, pos, aft, gd⟩, ⟨Xg ops gd ++ [(x, .own γ n), (lo, ai k)], some (d, .cut γ n k sz), [(γ, .row sz xs)], [], []⟩) :: l) (S.set d (.cut γ n k sz))) :
  Walk P ops draw K (⟨some d, .slice T x (some lo) none none, ty, pos, aft, gd⟩ :: rest) l S := by
 refine XO ⟨[(x, .own γ n), (lo, ai k)], some (d, .cut γ n k sz), [(γ, .row sz xs)], [], []⟩ (Y2 rfl fun E S g a w hs hq hl => ?_) hg
  ⟨⟨hx, hlo, trivial⟩, ⟨hL, trivial⟩, trivial, hd⟩ h
 have ho := hs.1.obj γ
 rw [hl.1] at ho
 obtain ⟨e, h1, h2, h3⟩ := VX hT
 have hv : a.eval x = g.hd γ := X0J hq.1 ho hn
 obtain ⟨b, cap, hh, c1⟩ := XaJ (h := g.hd γ) ho
 have hbd := X6F (P := P) (g := g) (a := a) (lo := some lo) (hi := none) (l := k) (h := xs.length) (isSl := true) (len := xs.length) (cap := cap) (fun e => by cases e) (fun _ => rfl) ⟨hq.2.1, trivial⟩ trivial hk c1 w
 have hrun := run_slice_any (P := P) w T b xs.length cap (by rw [h3]; exact h1) (some (a.eval lo)) none none
 simp only [Option.map_some, Option.map_none] at hbd
 rw [hbd, Result.andThen_ok, h3, h2 w, Result.andThen_ok] at hrun
 refine ⟨sliced b k xs.length cap sz, ?_, ?_⟩
 ·simp only [execOp, hv, hh, Instr.sliceAt, Sem.run_bind, run_underlying h1, Result.andThen_ok, Option.map_some, Option.map_none, hrun]; rfl
 ·simp only [AVal.sat, sliced]
  exact ⟨rfl, b, xs.length, cap, hh, by omega, fun _ => by rw [hn]⟩
theorem Xgy {x y : Operand} {yv : AVal} {T T2 : TypeId} {γ n sz m k : Nat} {r ys : List (List D)} (hx : S.ev x = .cut γ n k sz) (hL : S.obj γ = .row sz r) (hn : n = r.length) (hk : k ≤ r.length) (hy : S.ev y = yv) (hsrc : SrcV P yv sz ys) (hm : m = min ys.length (r.length - k))
  (hT : Y8 P T sz = true) {d' : Option (Nat × AVal)} (hd : X0M S d') (hd' : d' = none ∨ ∃ t, d' = some (t, ai m)) (hg : Xj ops S gd)
  (h : Walk P ops draw K rest ((l.length, ⟨d'.map (·.1), .call ⟨.builtin .copy, #[x, y], #[T, T2]⟩, ty, pos, aft, gd⟩, ⟨Xg ops gd ++ [(x, .cut γ n k sz), (y, yv)], d', [(γ, .row sz r)], [(γ, .row sz (r.take k ++ ys.take m ++ r.drop (k + m)))], []⟩) :: l)
   ⟨S.n, d'.toList ++ S.τ, (γ, .row sz (r.take k ++ ys.take m ++ r.drop (k + m))) :: S.L⟩) :
  Walk P ops draw K (⟨d'.map (·.1), .call ⟨.builtin .copy, #[x, y], #[T, T2]⟩, ty, pos, aft, gd⟩ :: rest) l S := by
 refine XO ⟨[(x, .cut γ n k sz), (y, yv)], d', [(γ, .row sz r)], [(γ, .row sz (r.take k ++ ys.take m ++ r.drop (k + m)))], []⟩ ?_ hg ⟨⟨hx, hy, trivial⟩, ⟨hL, trivial⟩, trivial, hd⟩ h
 intro E S a w g hs hok Q K hK
 obtain ⟨ok1, ⟨l1, _⟩, _, ok4⟩ := hok
 have hq := Vr hs _ ok1
 have ho := hs.1.obj γ
 rw [l1] at ho
 have hrow : Yp g w (g.hd γ) sz r := ho
 obtain ⟨b, cap, hh, c1⟩ := XaJ hrow
 have hx' : a.eval x = .slice (if cap = k then b else b.map fun p => p.add (k * sz)) (n - k) (cap - k) := by
  have := hq.1
  simp only [AVal.sat] at this
  obtain ⟨_, a', m', c', e1, _, e3⟩ := this
  rw [hh] at e1; cases e1
  exact e3 hn
 obtain ⟨news, n1, n2, n3, n4, n5⟩ := hsrc.src E _ g w _ hs.1 hq.2.1 m (by omega)
 obtain ⟨w', s1, s2, s3, s4, s5, s6⟩ := Xba (P := P) (k := k) (m := m) hrow (by omega) n5 (by simp; omega) n2 n3
 have hst : (match Value.slice (if cap = k then b else b.map fun p => p.add (k * sz)) (n - k) (cap - k) with | .slice (some a) _ _ => (storeCells (a.add (0 * sz)) news.toList).run P w | _ => .ok () w) = .ok () w' := by
  by_cases hck : cap = k
  ·have hm0 : m = 0 := by omega
   have hnil : news.toList = [] := by
    apply List.eq_nil_of_length_eq_zero
    rw [Array.length_toList, n2, hm0, Nat.zero_mul]
   rw [hnil, hh] at s1
   rw [if_pos hck, hnil]
   cases b with
   | none => exact s1
   | some p => simpa [storeCells] using s1
  ·rw [if_neg hck]
   rw [hh] at s1
   cases b with
   | none => exact s1
   | some p =>
    simp only [Option.map_some, Nat.zero_mul, Addr.add_zero']
    exact s1
 have hrun := X6n (P := P) (T2 := T2) (ty := ty) (m := m) hT hx' n4 (by omega) n1 (by rw [hx']; exact hst)
 have hi : Inv E (Xa .dead ((γ, .row sz (r.take k ++ ys.take m ++ r.drop (k + m))) :: S.L)) g w' := by
  refine Inv.upd hs.1 γ _ (XT _ _ _ _) (fun j hj => XK _ _ _ (Ne.symm hj)) (fun b hb hnl => s3 b fun hc => hnl (by rw [l1]; exact hc)) (by omega) s5 s6 rfl (fun _ _ => ⟨rfl, rfl, rfl⟩) (fun _ _ _ _ _ h => h) s2 (fun b hb => .inl ?_) (fun _ => Gh.keeps_refl _ _)
  rw [l1]; exact hb
 have hrun' : (execOp a.eval ⟨d'.map (·.1), .call ⟨.builtin .copy, #[x, y], #[T, T2]⟩, ty, pos, aft, gd⟩).run P w = .ok (.value (.int .i64 m)) w' := by
  simp [execOp, resolve, invoke, builtin, hrun]
 unfold Oper.wp
 rw [hrun', Oper.upon_value]
 rcases hd' with rfl | ⟨t, rfl⟩
 ·exact hK _ _ ⟨g, hi, hs.2.1, hs.2.2.1, hs.2.2.2⟩
 ·exact hK _ _ (X00 hi hs.2.1 hs.2.2.1 hs.2.2.2 (Ui rfl) ok4)
theorem Xcv {x y : Operand} {yv : AVal} {T T2 : TypeId} {γ n sz m k : Nat} {r ys : List (List D)} (hx : S.ev x = .cut γ n k sz) (hL : S.obj γ = .row sz r) (hn : n = r.length) (hk : k ≤ r.length) (hy : S.ev y = yv) (hsrc : SrcV P yv sz ys) (hm : m = min ys.length (r.length - k))
  (hT : Y8 P T sz = true) (hd : Nat.blt d S.n = true) (hg : Xj ops S gd)
  (h : Walk P ops draw K rest ((l.length, ⟨some d, .call ⟨.builtin .copy, #[x, y], #[T, T2]⟩, ty, pos, aft, gd⟩, ⟨Xg ops gd ++ [(x, .cut γ n k sz), (y, yv)], some (d, ai m), [(γ, .row sz r)], [(γ, .row sz (r.take k ++ ys.take m ++ r.drop (k + m)))], []⟩) :: l)
   ((S.set d (ai m)).own γ (.row sz (r.take k ++ ys.take m ++ r.drop (k + m))))) :
  Walk P ops draw K (⟨some d, .call ⟨.builtin .copy, #[x, y], #[T, T2]⟩, ty, pos, aft, gd⟩ :: rest) l S :=
 Xgy (d' := some (d, ai m)) hx hL hn hk hy hsrc hm hT hd (.inr ⟨d, rfl⟩) hg h
end
theorem Con.data {P : Program} {f : FuncId} {args : List AVal} {γ sz n : Nat} {xs : List (List D)} (h : Con P f [] args [(γ, .row sz xs)] (.own γ n)) (hn : n = xs.length) : Con P f [] args [] (.d (.sl sz xs)) := by
 intro g w vs hi hs
 refine (h g w vs hi hs).mono ?_
 rintro e w' ⟨v, g', h1, h2, h3, _⟩
 obtain ⟨M', hle, hi2⟩ := X63 (S := ⟨0, [], [(γ, .row sz xs)]⟩) h3 (XT _ _ _ _)
 have ho := hi2.obj γ
 rw [XT] at ho
 have hs2 : (AVal.own γ n).sat { g' with M := M' } v := X1N (g := g') (g' := { g' with M := M' }) hle rfl rfl rfl h2
 refine ⟨v, { g' with M := M' }, h1, X4D ho hn hs2, ?_, fun γ hγ => by simp [Xt] at hγ⟩
 refine (hi2.free (g0 := { g' with M := M' }) fun γ _ => Gh.keeps_refl _ _).sub fun k => .inr rfl
section
variable {P : Program} {ops : Array Oper} {draw : Bool} {K : Xy → St → Prop} {rest : List Oper} {l : Xy} {S : St}
variable {d : Nat} {ty : TypeId} {pos : String} {aft : Array Edge} {gd : Option (Nat × Bool)}
theorem XdZ {T : TypeId} {x : Operand} {lo hi : Option Operand} {sz lb hb : Nat} {xs ys : List (List D)} (hx : S.ev x = .d (.sl sz xs)) (hlo : X1Y S lo lb) (hhi : X2o S xs.length hi hb) (hlh : lb ≤ hb) (hh : hb ≤ xs.length) (hys : (xs.take hb).drop lb = ys)
  (hT : Y8 P T sz = true) (hd : Nat.blt d S.n = true) (hg : Xj ops S gd)
  (h : Walk P ops draw K rest ((l.length, ⟨some d, .slice T x lo hi none, ty, pos, aft, gd⟩, ⟨Xg ops gd ++ ((x, .d (.sl sz xs)) :: (Uv lo lb ++ Uv hi hb)), some (d, .d (.sl sz ys)), [], [], []⟩) :: l) (S.set d (.d (.sl sz ys)))) :
  Walk P ops draw K (⟨some d, .slice T x lo hi none, ty, pos, aft, gd⟩ :: rest) l S := by
 subst hys
 exact X9s hx hlo hhi hlh hh hT hd hg h
theorem XbZ {t : TypeId} {γ : Nat} {x : Operand} {s : ByteArray} (hx : S.ev x = aZ s) (ht : X1c P t = true) (hdead : S.obj γ = .dead) (hf : S.free γ = true)
  (hd : Nat.blt d S.n = true) (hg : Xj ops S gd)
  (h : Walk P ops draw K rest ((l.length, ⟨some d, .range t x, ty, pos, aft, gd⟩, ⟨Xg ops gd ++ [(x, aZ s)], some (d, .ptr γ 0), [(γ, .dead)], [(γ, .iter s 0)], [γ]⟩) :: l)
   ((S.set d (.ptr γ 0)).own γ (.iter s 0))) :
  Walk P ops draw K (⟨some d, .range t x, ty, pos, aft, gd⟩ :: rest) l S :=
 XO ⟨[(x, aZ s)], some (d, .ptr γ 0), [(γ, .dead)], [(γ, .iter s 0)], [γ]⟩ (X0e rfl fun E S g a w hs hq hl hn => by
  refine ⟨.pointer (some ⟨w.heap.size, 0, none⟩), X0w g w γ, w.alloc (.stringIter s 0), ?_, ?_, ?_, X0Y hn.1 hs.2.2.2⟩
  ·have := run_underlying (P := P) (w := w) (X6S ht)
   simp only [execOp, Instr.range, Yn hq.1, Sem.run_bind, this, Result.andThen_ok]
   rfl
  ·simp [AVal.sat, X0w, Gh.put]
  ·refine X26 hs.1 γ hn.1 hl.1 _ _ _ (X0G w _) (X1P w _) rfl rfl ?_ (fun k hk => ?_)
   ·show (w.alloc (.stringIter s 0)).heap[(X0w g w γ).blk γ]? = some (.stringIter s 0)
    simp only [X0w, Gh.put, if_true]
    exact heap_alloc_new w _
   ·have hk : (g.put γ w.heap.size undef).blk γ = k := hk
    simp only [Gh.put, if_true] at hk; omega) hg ⟨⟨hx, trivial⟩, ⟨hdead, trivial⟩, ⟨hf, trivial⟩, hd⟩ h
theorem XfU {x : Operand} {γ p : Nat} {s : ByteArray} (hx : S.ev x = .ptr γ 0) (hL : S.obj γ = .iter s p) (hlt : p < s.size)
  (hd : Nat.blt d S.n = true) (hg : Xj ops S gd)
  (h : Walk P ops draw K rest ((l.length, ⟨some d, .next x true, ty, pos, aft, gd⟩, ⟨Xg ops gd ++ [(x, .ptr γ 0)], some (d, .tup [ab true, ai p, .d (.v (.int .i32 (Utf8.decode s p).1))]), [(γ, .iter s p)], [(γ, .iter s (p + (Utf8.decode s p).2))], []⟩) :: l)
   ((S.set d (.tup [ab true, ai p, .d (.v (.int .i32 (Utf8.decode s p).1))])).own γ (.iter s (p + (Utf8.decode s p).2)))) :
  Walk P ops draw K (⟨some d, .next x true, ty, pos, aft, gd⟩ :: rest) l S := by
 refine XO ⟨[(x, .ptr γ 0)], some (d, .tup [ab true, ai p, .d (.v (.int .i32 (Utf8.decode s p).1))]), [(γ, .iter s p)], [(γ, .iter s (p + (Utf8.decode s p).2))], []⟩ (X0e rfl fun E S g a w hs hq hl hn => ?_) hg ⟨⟨hx, trivial⟩, ⟨hL, trivial⟩, trivial, hd⟩ h
 have ho := hs.1.obj γ
 rw [hl.1] at ho
 have ho : w.heap[g.blk γ]? = some (.stringIter s p) := ho
 have hb := (Array.getElem?_eq_some_iff.1 ho).1
 have hv := hq.1
 simp only [AVal.sat] at hv
 refine ⟨.tuple #[.bool true, goInt p, .int .i32 (Utf8.decode s p).1], g, { w with heap := w.heap.set! (g.blk γ) (.stringIter s (p + (Utf8.decode s p).2)) }, ?_, ?_, ?_, hs.2.2.2⟩
 ·simp only [execOp, hv, Instr.next, getObj, setObj, Sem.run_bind, Sem.run, ho, Result.andThen, hlt, if_true]
  simp [goInt, ho, hlt]
 ·simp only [AVal.sat]
  refine ⟨_, rfl, ?_⟩
  simp [Xk, AVal.sat, D.rep, goInt, Value.oneCell']
 ·refine Inv.upd hs.1 γ _ (XT _ _ _ _) (fun k hk => XK _ _ _ (Ne.symm hk)) (fun b hb2 hnl => ?_) (by simp) rfl rfl rfl (fun _ _ => ⟨rfl, rfl, rfl⟩) (fun _ _ _ _ _ h => h) ?_ (fun b hb2 => .inl ?_) (fun _ => Gh.keeps_refl _ _)
  ·have hne : g.blk γ ≠ b := fun e => hnl (by rw [hl.1]; exact e)
   simp [Array.set!, Array.getElem?_setIfInBounds, hne]
  ·show (w.heap.set! (g.blk γ) _)[g.blk γ]? = _
   simp [Array.set!, Array.getElem?_setIfInBounds, hb]
  ·rw [hl.1]; exact hb2
theorem XdD {x : Operand} {γ p : Nat} {s : ByteArray} (hx : S.ev x = .ptr γ 0) (hL : S.obj γ = .iter s p) (hge : s.size ≤ p)
  (hd : Nat.blt d S.n = true) (hg : Xj ops S gd)
  (h : Walk P ops draw K rest ((l.length, ⟨some d, .next x true, ty, pos, aft, gd⟩, ⟨Xg ops gd ++ [(x, .ptr γ 0)], some (d, .tup [ab false]), [(γ, .iter s p)], [], []⟩) :: l) (S.set d (.tup [ab false]))) :
  Walk P ops draw K (⟨some d, .next x true, ty, pos, aft, gd⟩ :: rest) l S := by
 refine XO ⟨[(x, .ptr γ 0)], some (d, .tup [ab false]), [(γ, .iter s p)], [], []⟩ (Y2 rfl fun E S g a w hs hq hl => ?_) hg ⟨⟨hx, trivial⟩, ⟨hL, trivial⟩, trivial, hd⟩ h
 have ho := hs.1.obj γ
 rw [hl.1] at ho
 have ho : w.heap[g.blk γ]? = some (.stringIter s p) := ho
 have hv := hq.1
 simp only [AVal.sat] at hv
 refine ⟨.tuple #[.bool false], ?_, ?_⟩
 ·simp only [execOp, hv, Instr.next, getObj, Sem.run_bind, Sem.run, ho, Result.andThen, show ¬ p < s.size by omega, if_false]
  simp [ho, show ¬ p < s.size by omega]
 ·simp only [AVal.sat]
  refine ⟨_, rfl, ?_⟩
  simp [Xk, AVal.sat, D.rep, Value.oneCell']
end
section
variable {P : Program} {ops : Array Oper} {draw : Bool} {K : Xy → St → Prop} {rest : List Oper} {l : Xy} {S : St}
variable {d : Nat} {ty : TypeId} {pos : String} {aft : Array Edge} {gd : Option (Nat × Bool)}
theorem Xed {b : List UInt8} {k : Nat} {c : UInt8} (h : b[k]? = some c) : (X5 b)[k]? = some c := by
 have hlt : k < (X5 b).size := (List.getElem?_eq_some_iff.1 h).1
 rw [getElem?_pos (X5 b) k hlt]
 exact congrArg some (List.getElem?_eq_some_iff.1 h).2
theorem XcV {t : TypeId} {x i : Operand} {k : Nat} {kd : IntKind} {m : Int} {b : List UInt8} {c : UInt8} (hx : S.ev x = aZ (X5 b)) (hi : S.ev i = .d (.v (.int kd m))) (hk : m = (k : Nat)) (hc : b[k]? = some c)
  (ht : X1c P t = true) (hd : Nat.blt d S.n = true) (hg : Xj ops S gd)
  (h : Walk P ops draw K rest ((l.length, ⟨some d, .index t x i, ty, pos, aft, gd⟩, ⟨Xg ops gd ++ [(x, aZ (X5 b)), (i, .d (.v (.int kd m)))], some (d, .d (.v (.int .u8 c.toNat))), [], [], []⟩) :: l) (S.set d (.d (.v (.int .u8 c.toNat))))) :
  Walk P ops draw K (⟨some d, .index t x i, ty, pos, aft, gd⟩ :: rest) l S :=
 XO ⟨[(x, aZ (X5 b)), (i, .d (.v (.int kd m)))], some (d, .d (.v (.int .u8 c.toNat))), [], [], []⟩ (Y2 rfl fun E S g a w hs hq hl => by
  refine ⟨.int .u8 c.toNat, ?_, Ui rfl⟩
  subst hk
  have h0 : (0 : Int) ≤ (k : Int) := by omega
  have hu := run_underlying (P := P) (w := w) (X6S ht)
  simp only [execOp, Instr.index, Yn hq.1, Yn hq.2.1, asIntOf, Sem.run_bind, Sem.run_pure, Result.andThen_ok, hu, if_pos h0, Int.toNat_natCast, Xed hc]) hg ⟨⟨hx, hi, trivial⟩, trivial, trivial, hd⟩ h
end
variable {P : Program} {ops : Array Oper} {draw : Bool} {K : Xy → St → Prop} {rest : List Oper} {l : Xy} {S : St} {d : Nat} {ty : TypeId} {pos : String} {aft : Array Edge} {gd : Option (Nat × Bool)}
theorem Xdi {x : Operand} {γ o : Nat} (hx : S.ev x = .ptr γ o) (hd : Nat.blt d S.n = true) (hg : Xj ops S gd)
  (h : Walk P ops draw K rest ((l.length, ⟨some d, .nilCheck x, ty, pos, aft, gd⟩, ⟨Xg ops gd ++ [(x, .ptr γ o)], some (d, .ptr γ o), [], [], []⟩) :: l) (S.set d (.ptr γ o))) :
  Walk P ops draw K (⟨some d, .nilCheck x, ty, pos, aft, gd⟩ :: rest) l S :=
 XO ⟨[(x, .ptr γ o)], some (d, .ptr γ o), [], [], []⟩ (Y2 rfl fun E S g a w hs hq hl => by
  have hp : a.eval x = .pointer (some ⟨g.blk γ, o, none⟩) := by have := hq.1; simpa only [AVal.sat] using this
  exact ⟨.pointer (some ⟨g.blk γ, o, none⟩), by simp [execOp, hp], by simp only [AVal.sat]⟩) hg ⟨⟨hx, trivial⟩, trivial, trivial, hd⟩ h
inductive SK where
 | i (k : IntKind)
 | b
 | s
def SK.of (P : Program) (t : TypeId) : Option SK := match P.underlying t with | some (.int k) => some (.i k) | some .bool => some .b | some .string => some .s | _ => none
section
variable {P : Program} {E : Env} {S : St} {Q : Exit → St → Prop}
theorem X2I {c : Operand} {x y : Code} {p : Prop} {inst : Decidable p} (hc : S.ev c = ab (@decide p inst)) (ht : p → AWP P E x S Q) (hf : ¬ p → AWP P E y S Q) : AWP P E (.cond c x y) S Q :=
 X4E hc (fun h => ht (of_decide_eq_true h)) (fun h => hf (of_decide_eq_false h))
theorem X8j {x y : Code} {Q' : Exit → St → Prop} (U : St) (h : AWP P E x S (X01 (fun T => T.le U) Q')) (k : AWP P E y U Q) : AWP P E x S (X01 (fun T => AWP P E y T Q) Q') :=
 X4S h fun e T hq => by
  cases e with
  | normal => exact Xm hq k
  | _ => exact hq
end
section
variable {P : Program} {ops : Array Oper} {draw : Bool} {K : Xy → St → Prop} {rest : List Oper} {l : Xy} {S : St}
theorem Vn {o : Oper} {j : Nat} {b : Bool} {p : Prop} {inst : Decidable p} (hg : o.guard = some (j, b)) (hx : S.get (VK ops j) = ab (@decide p inst)) (ht : p → Walk P ops draw K (o :: rest) l S) (hf : ¬ p → Walk P ops draw K (o :: rest) l S) : Walk P ops draw K (o :: rest) l S := by
 by_cases h : p
 ·exact ht h
 ·exact hf h
theorem XgU {o : Oper} {j : Nat} {b x : Bool} (hg : o.guard = some (j, b)) (hx : S.get (VK ops j) = ab x) (ht : x = true → Walk P ops draw K (o :: rest) l S) (hf : x = false → Walk P ops draw K (o :: rest) l S) : Walk P ops draw K (o :: rest) l S := by
 cases x
 ·exact hf rfl
 ·exact ht rfl
end
section
variable {P : Program} {E : Env} {S : St} {Q : Exit → St → Prop}
theorem YZ {c : Operand} {x y : Code} {b : Bool} (hc : S.ev c = ab (!b)) (ht : b = false → AWP P E x S Q) (hf : b = true → AWP P E y S Q) : AWP P E (.cond c x y) S Q :=
 X4E hc (fun h => ht (by simpa using h)) (fun h => hf (by simpa using h))
end
section
variable {P : Program} {ops : Array Oper} {draw : Bool} {K : Xy → St → Prop} {rest : List Oper} {l : Xy} {S : St}
theorem Yw {o : Oper} {j : Nat} {b x : Bool} (hg : o.guard = some (j, b)) (hx : S.get (VK ops j) = ab (!x)) (ht : x = true → Walk P ops draw K (o :: rest) l S) (hf : x = false → Walk P ops draw K (o :: rest) l S) : Walk P ops draw K (o :: rest) l S := by
 cases x
 ·exact hf rfl
 ·exact ht rfl
end
section
variable {P : Program} {t : TypeId} {x y : Operand} {a b : List UInt8}
theorem XcI (w : World) : (do eqGuard .lss t x y (.string (X5 a)) (.string (X5 b)); binOp .lss t (.string (X5 a)) (.string (X5 b)) : Sem Value).run P w = .ok (.bool (Op.bytesLess a b)) w := by
 simp [go_sem, binOp, Op.stringOp, X0h]
theorem Xh6 (w : World) : (do eqGuard .gtr t x y (.string (X5 a)) (.string (X5 b)); binOp .gtr t (.string (X5 a)) (.string (X5 b)) : Sem Value).run P w = .ok (.bool (!(Op.bytesLess a b || decide (a = b)))) w := by
 simp [go_sem, binOp, Op.stringOp, X0h]; rw [show (a == b) = decide (a = b) from Bool.beq_eq_decide_eq a b]
theorem XcM (w : World) : (do eqGuard .leq t x y (.string (X5 a)) (.string (X5 b)); binOp .leq t (.string (X5 a)) (.string (X5 b)) : Sem Value).run P w = .ok (.bool (Op.bytesLess a b || decide (a = b))) w := by
 simp [go_sem, binOp, Op.stringOp, X0h]; rw [show (a == b) = decide (a = b) from Bool.beq_eq_decide_eq a b]
end
theorem X3x : ∀ s : List UInt8, Op.bytesLess s s = false
 | [] => by simp [Op.bytesLess]
 | b :: s => by simp [Op.bytesLess, X3x s]
theorem Xa7 : ∀ s t : List UInt8, Op.bytesLess s t = true → Op.bytesLess t s = false
 | [], [], h => by simp [Op.bytesLess]
 | [], b :: t, h => by simp [Op.bytesLess]
 | a :: s, [], h => by simp [Op.bytesLess] at h
 | a :: s, b :: t, h => by
  simp only [Op.bytesLess, Bool.or_eq_true, decide_eq_true_eq, Bool.and_eq_true, beq_iff_eq, Bool.or_eq_false_iff, decide_eq_false_iff_not, Bool.and_eq_false_iff] at h ⊢
  rcases h with h | ⟨rfl, h⟩
  ·refine ⟨fun h' => ?_, .inl ?_⟩
   ·exact absurd (UInt8.lt_trans h h') (UInt8.lt_irrefl _)
   ·simp only [beq_eq_false_iff_ne, ne_eq]
    rintro rfl
    exact absurd h (UInt8.lt_irrefl _)
  ·exact ⟨UInt8.lt_irrefl _, .inr (Xa7 s t h)⟩
theorem X6m : ∀ s t : List UInt8, Op.bytesLess s t = false → Op.bytesLess t s = false → s = t
 | [], [], _, _ => rfl
 | [], b :: t, h, _ => by simp [Op.bytesLess] at h
 | a :: s, [], _, h => by simp [Op.bytesLess] at h
 | a :: s, b :: t, h, h' => by
  simp only [Op.bytesLess, Bool.or_eq_false_iff, decide_eq_false_iff_not, Bool.and_eq_false_iff, beq_eq_false_iff_ne] at h h'
  have e : a = b := by
   rcases UInt8.lt_or_lt_of_ne (a := a) (b := b) with h1
   by_cases e : a = b
   ·exact e
   ·rcases h1 e with h1 | h1
    ·exact absurd h1 h.1
    ·exact absurd h1 h'.1
  subst e
  have h2 := h.2.resolve_left (by simp)
  have h3 := h'.2.resolve_left (by simp)
  rw [X6m s t h2 h3]
section
variable {P : Program} {E : Env} {S : St}
theorem Xf4 {x : Code} {Q : Exit → St → Prop} (U : St) (h : AWP P E x S (X01 (fun T => T.le U) Q)) (k : ∀ T, T.le U → Q .normal T) : AWP P E x S Q :=
 X4S h fun e T hq => by
  cases e with
  | normal => exact k T hq
  | _ => exact hq
end
end Go.Fw
