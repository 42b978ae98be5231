/- Sixteenth part: append whose result is let go at once. -/
import Derived.Test.YtonekjkmnhfjmaaGreatDoorM06
namespace Go.Fw
open Go
set_option linter.unusedVariables false
set_option linter.unusedSimpArgs false
section
variable {P : Program} {ops : Array Oper} {draw : Bool} {K : Xy → St → Prop} {rest : List Oper} {l : Xy} {S : St}
variable {d : Nat} {ty : TypeId} {pos : String} {aft : Array Edge} {gd : Option (Nat × Bool)}
theorem Xe6 {x y : Operand} {T T2 : TypeId} {γ n sz bytes : Nat} {xs ys : List (List D)} (hx : S.ev x = .own γ n) (hL : S.obj γ = .row sz xs) (hy : S.ev y = .d (.sl sz ys)) (hn : n = xs.length)
  (hB : elB P T = bytes) (hT : UE P T sz bytes = true) (hT2 : X0P P T2 = true) (hb0 : Nat.beq bytes 0 = false) (hroom : (xs.length + ys.length) * bytes ≤ 140737488355328)
  (hd : Nat.blt d S.n = true) (hg : Xj ops S gd)
  (h : Walk P ops draw K rest ((l.length, ⟨some d, .call ⟨.builtin .append, #[x, y], #[T, T2]⟩, ty, pos, aft, gd⟩, ⟨Xg ops gd ++ [(x, .own γ n), (y, .d (.sl sz ys))], some (d, .d (.sl sz (xs ++ ys))), [(γ, .row sz xs)], [(γ, .froz sz (xs ++ ys))], []⟩) :: l)
   ((S.set d (.d (.sl sz (xs ++ ys)))).own γ (.froz sz (xs ++ ys)))) :
  Walk P ops draw K (⟨some d, .call ⟨.builtin .append, #[x, y], #[T, T2]⟩, ty, pos, aft, gd⟩ :: rest) l S :=
 XO ⟨[(x, .own γ n), (y, .d (.sl sz ys))], some (d, .d (.sl sz (xs ++ ys))), [(γ, .row sz xs)], [(γ, .froz sz (xs ++ ys))], []⟩ (X0e rfl fun E S g a w hs hq hl hnw => by
  have ho := hs.1.obj γ
  rw [hl.1] at ho
  have hv := X0J hq.1 ho hn
  have hsy : (D.sl sz ys).rep g.M (a.eval y) := by have := hq.2.1; simpa only [AVal.sat] using this
  obtain ⟨news, k1, k2, k3⟩ := Xaa (P := P) hs.1 hsy
  have hyl : ∀ r ∈ ys, r.length = sz := by rcases k3 with rfl | k3; simp; exact k3
  obtain ⟨v, g', w', r1, r2, r3, r4⟩ := XaQ hs hl.1 (ty := ty) hT hT2 (X1s hb0) k1 rfl hyl k2 (by simpa using hroom)
  obtain ⟨M', hle, hi⟩ := X63 (S := S.own γ (.row sz (xs ++ ys))) r3 (XT _ _ _ _)
  have hi2 : Inv E (Xa .dead ((γ, .froz sz (xs ++ ys)) :: S.L)) { g' with M := M' } w' := by
   refine hi.sub fun k => .inl ?_
   by_cases hk : γ = k
   ·subst hk; rw [XT, XT]
   ·rw [XK _ _ _ hk]
    show _ = Xa .dead ((γ, .froz sz (xs ++ ys)) :: (γ, .row sz (xs ++ ys)) :: S.L) k
    rw [XK _ _ _ hk, XK _ _ _ hk]
  have ho2 := hi2.obj γ
  rw [XT] at ho2
  exact ⟨v, { g' with M := M' }, w', X3H rfl (by rw [hv]; exact r1), X4D ho2 (by simp) (X1N (g := g') (g' := { g' with M := M' }) hle rfl rfl rfl r2), hi2, fun t => X1N (g := g') (g' := { g' with M := M' }) hle rfl rfl rfl (r4 t)⟩) hg ⟨⟨hx, hy, trivial⟩, ⟨hL, trivial⟩, trivial, hd⟩ h
end
end Go.Fw
