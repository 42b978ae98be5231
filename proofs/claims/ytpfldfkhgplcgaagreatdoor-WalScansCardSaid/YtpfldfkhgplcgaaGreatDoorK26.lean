/- The disk: W40f. -/
import Derived.Test.YtpfldfkhgplcgaaGreatDoorK25
set_option maxHeartbeats 8000000
namespace Go.Fw
open Go Go.Proofs
set_option maxRecDepth 100000
set_option linter.unusedVariables false
set_option linter.unusedSimpArgs false
def X07 (x : Int) : Nat := (min (max x 0) 64).toNat
def X2w (rows : List (List UInt8)) (w : Wr) (n : Nat) : List (List UInt8) := rows.set w.at_.toNat (w.b.take n ++ ((rows[w.at_.toNat]?).getD []).drop n)
def U5 (rows : List (List UInt8)) (pend : List Wr) (kv : Nat → Int) : Nat → List (List UInt8)
 | 0 => rows
 | k + 1 => match pend[k]? with
  | some w => X2w (U5 rows pend kv k) w (X07 (kv k))
  | none => U5 rows pend kv k
def okW (rows : List (List UInt8)) (pend : List Wr) : Prop := (∀ s ∈ rows, s.length = 64) ∧ ∀ w ∈ pend, 0 ≤ w.at_ ∧ w.at_ < rows.length ∧ w.b.length = 64
theorem X3A (x : Int) : X07 x ≤ 64 := by unfold X07; omega
theorem Xgc {rows : List (List UInt8)} {w : Wr} {n : Nat} (hn : n ≤ 64) (h : ∀ s ∈ rows, s.length = 64) (hw : 0 ≤ w.at_ ∧ w.at_ < rows.length ∧ w.b.length = 64) : ∀ s ∈ X2w rows w n, s.length = 64 := by
 intro s hs
 rcases List.mem_or_eq_of_mem_set hs with h1 | h1
 ·exact h s h1
 ·obtain ⟨r, hr⟩ := Xv (l := rows) (k := w.at_.toNat) (by omega)
  have hl := h r (List.mem_of_getElem? hr)
  rw [h1, hr]; simp [hl, hw.2.2]; omega
theorem Xe0 (rows : List (List UInt8)) (w : Wr) (n : Nat) : (X2w rows w n).length = rows.length := by simp [X2w]
theorem X1e (rows : List (List UInt8)) (pend : List Wr) (kv : Nat → Int) : ∀ k, (U5 rows pend kv k).length = rows.length
 | 0 => rfl
 | k + 1 => by
  simp only [U5]
  split
  ·rw [Xe0, X1e rows pend kv k]
  ·exact X1e rows pend kv k
theorem X2J {rows : List (List UInt8)} {pend : List Wr} (kv : Nat → Int) (h : okW rows pend) : ∀ k, ∀ s ∈ U5 rows pend kv k, s.length = 64
 | 0 => h.1
 | k + 1 => by
  simp only [U5]
  split
  ·rename_i w hw
   exact Xgc (X3A _) (X2J kv h k) (by rw [X1e]; exact h.2 w (List.mem_of_getElem? hw))
  ·exact X2J kv h k
theorem X8P {rows : List (List UInt8)} {pend : List Wr} {kv : Nat → Int} {k a : Nat} {b r : List UInt8} (hw : pend[k]? = some ⟨a, b⟩) (hr : (U5 rows pend kv k)[a]? = some r) :
  U5 rows pend kv (k + 1) = (U5 rows pend kv k).set a (b.take (X07 (kv k)) ++ r.drop (X07 (kv k))) := by
 simp only [U5, hw, X2w, Int.toNat_natCast, hr, Option.getD_some]
theorem XgU {b r : List UInt8} {n : Nat} (hn : n ≤ 64) (hb : b.length = 64) (hr : r.length = 64) :
  List.take (min (List.drop 0 (List.take n (List.map X7 b))).length (List.map X7 r).length) (List.drop 0 (List.take n (List.map X7 b))) ++ List.drop (min (List.drop 0 (List.take n (List.map X7 b))).length (List.map X7 r).length) (List.map X7 r) =
   (b.take n ++ r.drop n).map X7 := by
 have e : min (List.drop 0 (List.take n (List.map X7 b))).length (List.map X7 r).length = n := by simp; omega
 rw [e]; simp [List.take_take]
theorem Xc5 (i : Int) : Con Tryz.prog 59 [] [ai i] [] (ai 64) := by
 refine Xb (xs := [ai 64]) Tryz.func59 rfl Tryz.ntmps59 rfl rfl rfl (fun E => ?_)
 refine Qd ?_; exact Qga
section
variable {P : Program} {ops : Array Oper} {draw : Bool} {K : St → Prop} {rest : List Oper} {l : Ya} {S : St}
variable {d : Nat} {ty : TypeId} {pos : String} {aft : Array Edge} {gd : Option (Nat × Bool)}
theorem X79 {x y : Operand} {tys : Array TypeId} {k : IntKind} {a b : Int} (c : Nat) (hc : min a b = (c : Nat)) (hx : S.ev x = .d (.v (.int k a))) (hy : S.ev y = .d (.v (.int k b))) (hd : Nat.blt d S.n = true) (hg : Xe ops S gd)
  (h : Walk P ops draw K rest ((l.length, ⟨some d, .call ⟨.builtin .min, #[x, y], tys⟩, ty, pos, aft, gd⟩, ⟨Xd ops gd ++ [(x, .d (.v (.int k a))), (y, .d (.v (.int k b)))], some (d, .d (.v (.int k c))), [], [], []⟩) :: l) (S.set d (.d (.v (.int k c))))) :
  Walk P ops draw K (⟨some d, .call ⟨.builtin .min, #[x, y], tys⟩, ty, pos, aft, gd⟩ :: rest) l S := by
 rw [← hc] at h
 exact Xgi hx hy hd hg h
end
theorem X7x (x : Int) : min (max x 0) 64 = (X07 x : Int) := by unfold X07; omega
theorem Xhf (rows : List (List UInt8)) (pend : List Wr) (hok : okW rows pend) (hl : rows.length ≤ 4096) (hp : pend.length ≤ 4096) : Con Tryz.prog 80 [(0, .mat 1 (rows.map fun s => s.map X7))] [.agg [.d (XC pend)], .own 0 rows.length, .fn 59 []]
  [(0, .mat 1 ((U5 rows pend (fun _ => 64) pend.length).map fun s => s.map X7))] (.own 0 rows.length) := by
 refine Xb (xs := [.own 0 rows.length]) Tryz.func80 rfl Tryz.ntmps80 rfl rfl rfl (fun E => ?_)
 refine Qzb ?_; refine Qz ?_
 refine Xu (fun k : Nat => k ≤ pend.length) (fun k => ⟨35, [(1, .own 0 rows.length), (2, .fn 59 []), (11, .d (XC pend)), (12, ai (pend.map cWr).length), (13, ai k)], [(100, .box [.d (XC pend)]), (0, .mat 1 ((U5 rows pend (fun _ => 64) k).map fun s => s.map X7))]⟩) (fun k => pend.length - k) 0 (by omega)
  (Xa rfl ⟨JL, JL, JL, JL, JL, trivial⟩ ⟨rfl, rfl, trivial⟩) ?_
 intro k hk
 refine QA ?_
 refine VB rfl (fun h => ?_) (fun h => ?_)
 ·have h := of_decide_eq_true h
  simp only [List.length_map] at h
  obtain ⟨⟨at_, b⟩, hw⟩ := Xv (l := pend) (k := k) (by omega)
  obtain ⟨b1, b2, b3⟩ := hok.2 _ (List.mem_of_getElem? hw)
  simp only at b1 b2 b3
  obtain ⟨a, rfl⟩ : ∃ a : Nat, at_ = a := ⟨at_.toNat, by omega⟩
  have hpl := X1e rows pend (fun _ => 64) k
  obtain ⟨r, hr⟩ := Xv (l := U5 rows pend (fun _ => 64) k) (k := a) (by omega)
  have hrl := X2J (fun _ => 64) hok k r (List.mem_of_getElem? hr)
  have hc := X3A 64
  refine QB ?_; refine Qf ?_; refine QSa ?_; refine Zw (γ := 101) ?_; refine Z0 ?_; refine QTa ?_; refine Qi ?_; refine ZG (hcon := Xc5 k) ?_; refine Zz ?_; refine X79 (X07 64) (X7x 64) rfl rfl rfl (by (first | ((exact True.intro)) | ((exact ⟨rfl, rfl⟩)) | ((exact ⟨rfl, congrArg ab (by (first | ((rfl)) | ((assumption)) | ((simp only [List.length_map, List.length_take, List.length_append, decide_eq_true_eq, decide_eq_false_iff_not, ne_eq, Classical.not_not]; omega)) | ((simp <;> fail)) | ((simp [*] <;> fail)) | ((simp; omega)) | fail))⟩)) | fail)) ?_; refine Qc ?_; refine JR ?_; refine QIa ?_; refine Z09 ?_; refine Z0a ?_; refine QFa ?_; refine Z1 ?_; refine Z0b ?_; refine Z0c ?_; refine JD ?_; refine QI ?_
  refine ⟨k + 1, by omega, by omega, Xa rfl ⟨JL, JL, JL, JL, JL, trivial⟩ ⟨rfl, ?_, trivial⟩⟩
  refine Eq.trans (b := AObj.mat 1 (List.set _ _ _)) rfl ?_
  rw [X8P hw hr, List.map_set]
  congr 2
  exact XgU (X3A 64) b3 hrl
 have h := of_decide_eq_false h
 simp only [List.length_map] at h
 obtain rfl : k = pend.length := by omega
 refine Xn ?_; exact Qmc
abbrev X2A (x : Int) : List D := [.v (.int .i64 x)]
abbrev X2W (l : List Int) : D := .sl 1 (l.map X2A)
theorem Xf2 (rows : List (List UInt8)) (pend : List Wr) (hok : okW rows pend) (hl : rows.length ≤ 4096) (hp : pend.length ≤ 4096) : Con Tryz.prog 80 [(1, .mat 1 (rows.map fun s => s.map X7))] [.agg [.d (XC pend)], .own 1 rows.length, .fn 59 []]
  [(1, .mat 1 ((U5 rows pend (fun _ => 64) pend.length).map fun s => s.map X7))] (.own 1 rows.length) := by
 have h := Vv 0 1 (Xhf rows pend hok hl hp)
 exact h
theorem Xhr (rows : List (List UInt8)) (pend : List Wr) (on : Bool) (hok : okW rows pend) (hl : rows.length ≤ 4096) (hp : pend.length ≤ 4096) : Con Tryz.prog 55 [(0, .row 2 (pend.map cWr)), (1, .mat 1 (rows.map fun s => s.map X7))] [.agg [.own 0 pend.length, .own 1 rows.length, ab on], .fn 59 []]
  [(0, .froz 2 (pend.map cWr)), (1, .mat 1 ((U5 rows pend (fun _ => 64) pend.length).map fun s => s.map X7)), (122, .row 2 [])] (.agg [.own 122 0, .own 1 rows.length, ab on]) := by
 refine Xb (xs := [.agg [.own 122 0, .own 1 rows.length, ab on]]) Tryz.func55 rfl Tryz.ntmps55 rfl rfl rfl (fun E => ?_)
 refine Qsc ?_; refine JD ?_; refine Xm (Y4 0 rfl) ?_; refine Xm (Ut 100 0 0 (cs := [.own 0 pend.length, .own 1 rows.length, ab on]) (sz := 2) (xs := pend.map cWr) rfl rfl rfl (by simp)) ?_; refine Qb ?_; refine ZB ?_; refine ZL ?_; refine QFa ?_; refine Z1 ?_; refine Z9 (hcon := Xf2 rows pend hok hl hp) ?_; refine Qjd ?_; refine Qb ?_; refine ZB ?_; refine Qjd ?_; refine Qmd ?_; refine Xm (Vx 101 0 122 2 (cs := [ani, .own 1 rows.length, ab on]) rfl rfl rfl rfl rfl) ?_; exact X1 ⟨_, St.le_refl _, ⟨⟨101, 0, _, rfl, rfl, .inr ⟨3, _, rfl, rfl, rfl, rfl⟩⟩, trivial⟩, Xh ⟨rfl, rfl, rfl, trivial⟩⟩
theorem XfN (rows : List (List UInt8)) (pend : List Wr) (on : Bool) (hok : okW rows pend) (hl : rows.length ≤ 4096) (hp : pend.length ≤ 4096) : Con Tryz.prog 55 [(120, .row 2 (pend.map cWr)), (121, .mat 1 (rows.map fun s => s.map X7))] [.agg [.own 120 pend.length, .own 121 rows.length, ab on], .fn 59 []]
  [(120, .froz 2 (pend.map cWr)), (121, .mat 1 ((U5 rows pend (fun _ => 64) pend.length).map fun s => s.map X7)), (122, .row 2 [])] (.agg [.own 122 0, .own 121 rows.length, ab on]) := by
 have h := Vv 1 121 (Vv 0 120 (Xhr rows pend on hok hl hp))
 exact h
theorem Xfi (secs : List (List UInt8)) (n : Nat) (hn : secs.length = n) (on : Bool) : Con Tryz.prog 54 [(122, .row 2 []), (121, .mat 1 (secs.map fun s => s.map X7))] [.agg [.own 122 0, .own 121 n, ab on]] [(122, .froz 2 []), (121, .froz 1 (secs.map XZ))] (XK ⟨secs, [], on⟩) := by
 subst hn
 have h := Vv 1 121 (Vv 0 122 (Xa7 ⟨secs, [], on⟩))
 exact h
theorem XbI (d : Disk) (xs : List (List D)) (n : Nat) (hx : xs = d.pending.map cWr) (hn : n = d.pending.length) : Con Tryz.prog 54 [(120, .row 2 xs), (121, .mat 1 (d.sectors.map fun s => s.map X7))] [.agg [.own 120 n, .own 121 d.sectors.length, ab d.on]] [(120, .froz 2 xs), (121, .froz 1 (d.sectors.map XZ))] (XK d) := by
 subst hx hn
 exact Xdh d
abbrev X0T (x : AVal) (e : Int) : AVal := .tup [x, ai e]
def YU : List UInt8 := List.replicate 64 0
def Ub : Disk := ⟨[], [], false⟩
def X04 (n : Int) : Disk × Int := if 1 ≤ n ∧ n ≤ 4096 then (⟨List.replicate n.toNat YU, [], true⟩, 0) else (Ub, 1)
def YR (pend : List Wr) (a : Int) (s : List UInt8) : Nat → List UInt8
 | 0 => s
 | k + 1 => match pend[k]? with
  | some w => if w.at_ = a then w.b else YR pend a s k
  | none => YR pend a s k
def Y7 (d : Disk) (a : Int) : List UInt8 × Int :=
 if Yo d ≠ 0 then ([], Yo d) else if 0 ≤ a ∧ a < d.sectors.length then (YR d.pending a ((d.sectors[a.toNat]?).getD []) d.pending.length, 0) else ([], 1)
def Yw (d : Disk) (a : Int) (b : List UInt8) : Disk × Int :=
 if Yo d ≠ 0 then (Ub, Yo d) else if 0 ≤ a ∧ a < d.sectors.length ∧ b.length = 64 then (⟨d.sectors, d.pending ++ [⟨a, b⟩], d.on⟩, 0) else (Ub, 1)
def Vi (d : Disk) (kv : Nat → Int) : List (List UInt8) := U5 d.sectors d.pending kv d.pending.length
def Yh (d : Disk) : Disk × Int := if Yo d ≠ 0 then (Ub, Yo d) else (⟨Vi d (fun _ => 64), [], d.on⟩, 0)
theorem X2g {d : Disk} (h : Yp d = true) : okW d.sectors d.pending := by
 simp only [Yp, decide_eq_true_eq] at h
 exact ⟨h.2.2.2.1, h.2.2.2.2⟩
theorem X3K {d : Disk} (h : Yo d = 0) : Yp d = true ∧ d.on = true := by
 unfold Yo at h
 split at h
 ·rename_i hv
  split at h
  ·rename_i ho
   exact ⟨hv, ho⟩
  ·simp at h
 ·simp at h
open Go
def X0t (x : UInt8) : List UInt8 := if x.toNat ≤ 1 then [1, x + 1] else [x]
def Yg : List UInt8 → List UInt8
 | [] => []
 | x :: r => X0t x ++ Yg r
def YO (ep : Int) (r : Rcd) : List UInt8 := Xo ep ++ VD r
def Ur (ep : Int) (r : Rcd) : List UInt8 := Yg (YT (YO ep r)) ++ [0]
def XA (ep : Int) : List Rcd → List UInt8
 | [] => []
 | r :: l => Ur ep r ++ XA ep l
def Ux : List Rcd → Int
 | [] => 0
 | r :: l => if YJ r ≠ 0 then YJ r else Ux l
def X0w (ep : Int) (l : List Rcd) : List UInt8 := if Ux l ≠ 0 then [] else XA ep l
def XJ (d : Disk) (f t ep tail : Int) : Int :=
 if Yp d = false then 1 else if d.on = false then 22 else if f < 0 ∨ t ≤ f ∨ (d.sectors.length : Int) < t then 1
 else if ep < 0 ∨ 1000000000000000 < ep ∨ tail < 0 ∨ (t - f) * 64 < tail then 1 else 0
def Y0 (d : Disk) : Nat → Nat → List UInt8
 | _, 0 => []
 | f, n + 1 => (Y7 d (f : Nat)).1 ++ Y0 d (f + 1) n
def XO (d : Disk) (f t : Int) : List UInt8 := Y0 d f.toNat (t - f).toNat
def Ui (d : Disk) (a : Nat) (b : List UInt8) : Disk := ⟨d.sectors, d.pending ++ [⟨(a : Nat), b⟩], d.on⟩
def Vg : Disk → Nat → List (List UInt8) → List Disk
 | d, _, [] => [d]
 | d, a, b :: r => d :: Vg (Ui d a b) (a + 1) r
def Yb : Disk → Nat → List (List UInt8) → Disk
 | d, _, [] => d
 | d, a, b :: r => Yb (Ui d a b) (a + 1) r
def YD (d : Disk) (f t : Int) : Disk × Int :=
 if XJ d f t 0 0 ≠ 0 then (Ub, XJ d f t 0 0) else ((Yh (Yb d f.toNat (List.replicate (t - f).toNat YU))).1, 0)
def V3 (l : List UInt8) : List UInt8 := l ++ List.replicate ((64 - l.length % 64) % 64) 0
def YB : Nat → List UInt8 → List (List UInt8)
 | 0, _ => []
 | n + 1, l => l.take 64 :: YB n (l.drop 64)
def UP (d : Disk) (f t tail : Int) (add : List UInt8) : List UInt8 := V3 (((XO d f t).take tail.toNat).drop (tail.toNat / 64 * 64) ++ add)
def V8 (d : Disk) (f t tail : Int) (add : List UInt8) : List (List UInt8) :=
 if add = [] then [] else YB ((UP d f t tail add).length / 64) (UP d f t tail add)
def X0v (d : Disk) (f t tail : Int) (add : List UInt8) : List Disk :=
 Vg d (f.toNat + tail.toNat / 64) (V8 d f t tail add) ++ [(Yh (Yb d (f.toNat + tail.toNat / 64) (V8 d f t tail add))).1]
def XT (d : Disk) (f t ep tail : Int) (l : List Rcd) : List Disk × Int × Int :=
 if XJ d f t ep tail ≠ 0 then ([], 0, XJ d f t ep tail) else if Ux l ≠ 0 then ([], 0, Ux l)
 else if (t - f) * 64 < tail + (XA ep l).length then ([], 0, 20) else (X0v d f t tail (XA ep l), tail + (XA ep l).length, 0)
def Uz (d : Disk) (f t ep tail : Int) (l : List Rcd) : Disk × Int × Int :=
 if (XT d f t ep tail l).2.2 ≠ 0 then (Ub, 0, (XT d f t ep tail l).2.2) else (((XT d f t ep tail l).1.getLast?).getD Ub, (XT d f t ep tail l).2.1, 0)
def Yf : List UInt8 → Option (List UInt8)
 | [] => some []
 | [x] => if x = 1 then none else some [x]
 | x :: y :: r => if x = 1 then (if y = 1 ∨ y = 2 then (Yf r).map (fun l => (y - 1) :: l) else none) else (Yf (y :: r)).map (fun l => x :: l)
def X3i (c : List UInt8) (ep : Int) (u : Int × Int × Int) : Rcd × Bool :=
 if u.2.2 ≠ 0 ∨ u.1 ≠ ep then (X0F, false) else ((rdS (c.drop u.2.1.toNat)).1, decide ((rdS (c.drop u.2.1.toNat)).2 = 0))
def X1F (raw : List UInt8) (ep : Int) (u : List UInt8 × Int × Int) : Rcd × Bool :=
 if u.2.2 ≠ 0 ∨ u.2.1 ≠ raw.length then (X0F, false) else X3i u.1 ep (Xf u.1 0)
def Yu (b : List UInt8) (ep : Int) : Rcd × Bool := match Yf b with
 | none => (X0F, false)
 | some raw => X1F raw ep (Ue raw 0)
def Y8 (b : List UInt8) : List UInt8 := b.takeWhile fun x => x != 0
def UV (b : List UInt8) : Bool := b.any fun x => x == 0
def YS (ep : Int) : Nat → List UInt8 → Nat → List Rcd × Nat
 | 0, _, a => ([], a)
 | n + 1, b, a => if UV b = true ∧ (Yu (Y8 b) ep).2 = true then
   ((Yu (Y8 b) ep).1 :: (YS ep n (b.drop ((Y8 b).length + 1)) (a + ((Y8 b).length + 1))).1, (YS ep n (b.drop ((Y8 b).length + 1)) (a + ((Y8 b).length + 1))).2)
  else ([], a)
def X08 (ep : Int) (b : List UInt8) : List Rcd × Nat := YS ep (b.length + 1) b 0
def Yz (d : Disk) (f t ep : Int) : List Rcd × Int × Int :=
 if XJ d f t ep 0 ≠ 0 then ([], 0, XJ d f t ep 0) else ((X08 ep (XO d f t)).1, ((X08 ep (XO d f t)).2 : Nat), 0)
def X01 (f t tail : Int) : Int := if f < 0 ∨ t ≤ f ∨ 4096 < t ∨ tail < 0 ∨ (t - f) * 64 < tail then 0 else (t - f) * 64 - tail
def X1N (ep : Int) (l : List Rcd) : Int := if ep < 0 ∨ 1000000000000000 < ep then 0 else (X0w ep l).length
theorem X2N {α : Type} {l : List α} {i : Nat} {x : α} (h : l[i]? = some x) : l.take (i + 1) = l.take i ++ [x] := by
 rw [List.take_add_one, h]; rfl
theorem X5M : ∀ u v : List UInt8, Yg (u ++ v) = Yg u ++ Yg v
 | [], v => rfl
 | x :: u, v => by rw [List.cons_append, Yg, Yg, X5M u v, List.append_assoc]
theorem Xhk (x : UInt8) : (X0t x).length ≤ 2 := by unfold X0t; split <;> simp
theorem X3R : ∀ l : List UInt8, (Yg l).length ≤ 2 * l.length
 | [] => by simp [Yg]
 | x :: l => by
  have h1 := X3R l
  have h2 := Xhk x
  rw [Yg, List.length_append, List.length_cons]
  omega
theorem Xd9 {l : List UInt8} {i : Nat} {x : UInt8} (h : l[i]? = some x) : Yg (l.take (i + 1)) = Yg (l.take i) ++ X0t x := by
 rw [X2N h, X5M, Yg, Yg, List.append_nil]
theorem X89 (ep : Int) : ∀ u v : List Rcd, XA ep (u ++ v) = XA ep u ++ XA ep v
 | [], v => rfl
 | x :: u, v => by rw [List.cons_append, XA, XA, X89 ep u v, List.append_assoc]
theorem Xbd {ep : Int} {l : List Rcd} {i : Nat} {x : Rcd} (h : l[i]? = some x) : XA ep (l.take (i + 1)) = XA ep (l.take i) ++ Ur ep x := by
 rw [X2N h, X89, XA, XA, List.append_nil]
theorem XbG {l : List Rcd} {i : Nat} {x : Rcd} (h : l[i]? = some x) : Ux (l.drop i) = if YJ x ≠ 0 then YJ x else Ux (l.drop (i + 1)) := by
 obtain ⟨hi, rfl⟩ := List.getElem?_eq_some_iff.1 h
 rw [List.drop_eq_getElem_cons hi, Ux]
theorem X5y (d : Disk) : ∀ (n f : Nat), Y0 d f (n + 1) = Y0 d f n ++ (Y7 d ((f + n : Nat) : Int)).1
 | 0, f => by simp [Y0]
 | n + 1, f => by
  rw [Y0, X5y d n (f + 1), Y0, List.append_assoc]
  congr 3
  rw [show f + 1 + n = f + (n + 1) by omega]
theorem X9H (bs : List (List UInt8)) (b : List UInt8) : ∀ (d : Disk) (a : Nat), Yb d a (bs ++ [b]) = Ui (Yb d a bs) (a + bs.length) b := by
 induction bs with
 | nil => intro d a; rfl
 | cons x bs ih =>
  intro d a
  rw [List.cons_append, Yb, Yb, ih, List.length_cons]
  congr 1
  omega
theorem Xd8 (bs : List (List UInt8)) (b : List UInt8) : ∀ (d : Disk) (a : Nat), Vg d a (bs ++ [b]) = Vg d a bs ++ [Ui (Yb d a bs) (a + bs.length) b] := by
 induction bs with
 | nil => intro d a; rfl
 | cons x bs ih =>
  intro d a
  rw [List.cons_append, Vg, Vg, ih, List.length_cons, Yb]
  simp only [List.cons_append]
  congr 4
  omega
theorem X5k (bs : List (List UInt8)) : ∀ (d : Disk) (a : Nat), (Vg d a bs).length = bs.length + 1 := by
 induction bs with
 | nil => intro d a; rfl
 | cons x bs ih => intro d a; rw [Vg, List.length_cons, ih, List.length_cons]
theorem X17 (bs : List (List UInt8)) : ∀ (d : Disk) (a : Nat), (Yb d a bs).sectors = d.sectors ∧ (Yb d a bs).on = d.on ∧ (Yb d a bs).pending.length = d.pending.length + bs.length := by
 induction bs with
 | nil => intro d a; exact ⟨rfl, rfl, rfl⟩
 | cons x bs ih =>
  intro d a
  obtain ⟨h1, h2, h3⟩ := ih (Ui d a x) (a + 1)
  rw [Yb]
  refine ⟨h1, h2, h3.trans ?_⟩
  simp only [Ui, List.length_append, List.length_cons, List.length_nil]
  omega
theorem X9U (b : List UInt8) (d : Disk) (a n : Nat) : Yb d a (List.replicate (n + 1) b) = Ui (Yb d a (List.replicate n b)) (a + n) b := by
 have : List.replicate (n + 1) b = List.replicate n b ++ [b] := by rw [List.replicate_succ']
 rw [this, X9H, List.length_replicate]
theorem X0W : ∀ (n : Nat) (l : List UInt8), (YB n l).length = n
 | 0, _ => rfl
 | n + 1, l => by rw [YB, List.length_cons, X0W n]
theorem X5o : ∀ (n : Nat) (l : List UInt8), 64 * n ≤ l.length → ∀ c ∈ YB n l, c.length = 64
 | 0, _, _, c, h => by simp [YB] at h
 | n + 1, l, hl, c, h => by
  rw [YB, List.mem_cons] at h
  rcases h with rfl | h
  ·rw [List.length_take]; omega
  ·exact X5o n (l.drop 64) (by rw [List.length_drop]; omega) c h
theorem X4W : ∀ (n : Nat) (l : List UInt8), YB (n + 1) l = YB n l ++ [(l.drop (64 * n)).take 64]
 | 0, l => by simp [YB]
 | n + 1, l => by
  rw [YB, X4W n (l.drop 64), YB, List.cons_append, List.drop_drop, show 64 + 64 * n = 64 * (n + 1) by omega]
theorem X4v (l : List UInt8) : (V3 l).length % 64 = 0 ∧ l.length ≤ (V3 l).length ∧ (V3 l).length < l.length + 64 := by
 unfold V3
 rw [List.length_append, List.length_replicate]
 omega
structure DOk (d : Disk) : Prop where
 v : Yp d = true
 on : d.on = true
theorem DOk.use {d : Disk} (h : DOk d) : Yo d = 0 := by
 unfold Yo
 rw [if_pos h.v, if_pos h.on]
theorem X2f {d : Disk} (h : Yp d = true) : 1 ≤ d.sectors.length ∧ d.sectors.length ≤ 4096 ∧ (∀ s ∈ d.sectors, s.length = 64) ∧ ∀ w ∈ d.pending, 0 ≤ w.at_ ∧ w.at_ < d.sectors.length ∧ w.b.length = 64 := by
 unfold Yp at h
 simp only [decide_eq_true_eq] at h
 exact ⟨h.1, h.2.1, h.2.2.2.1, h.2.2.2.2⟩
theorem X7N {d : Disk} {a : Nat} {b : List UInt8} (h : DOk d) (ha : a < d.sectors.length) (hb : b.length = 64) : DOk (Ui d a b) := by
 obtain ⟨h1, h2, h3, h4⟩ := X2f h.v
 refine ⟨?_, h.on⟩
 unfold Yp Ui
 simp only [decide_eq_true_eq]
 refine ⟨h1, h2, .inl h.on, h3, fun w hw => ?_⟩
 rw [List.mem_append, List.mem_singleton] at hw
 rcases hw with hw | rfl
 ·exact h4 w hw
 ·exact ⟨by simp, by simpa using ha, hb⟩
theorem X6B {d : Disk} {a : Nat} {b : List UInt8} (h : DOk d) (ha : a < d.sectors.length) (hb : b.length = 64) : Yw d (a : Nat) b = (Ui d a b, 0) := by
 unfold Yw Ui
 rw [if_neg (by rw [h.use]; simp), if_pos ⟨by omega, by omega, hb⟩]
theorem X1K (bs : List (List UInt8)) : ∀ (d : Disk) (a : Nat), DOk d → a + bs.length ≤ d.sectors.length → (∀ c ∈ bs, c.length = 64) → DOk (Yb d a bs) := by
 induction bs with
 | nil => intro d a h _ _; exact h
 | cons x bs ih =>
  intro d a h hl hc
  rw [List.length_cons] at hl
  rw [Yb]
  exact ih (Ui d a x) (a + 1) (X7N h (by omega) (hc x (by simp))) (by show a + 1 + bs.length ≤ d.sectors.length; omega) fun c q => hc c (by simp [q])
theorem X0p {d : Disk} (h : Yp d = true) (hp : d.pending.length ≤ 4096) : UY d := by
 obtain ⟨h1, h2, h3, h4⟩ := X2f h
 exact ⟨h2, hp, fun s hs => by rw [h3 s hs]; omega, fun w hw => by rw [(h4 w hw).2.2]; omega⟩
theorem X5O {d : Disk} (h : DOk d) : Yh d = (⟨Vi d (fun _ => 64), [], true⟩, 0) := by
 unfold Yh
 rw [if_neg (by rw [h.use]; simp), h.on]
theorem X0X {d : Disk} {f t ep tail : Int} (h : XJ d f t ep tail = 0) : DOk d ∧ 0 ≤ f ∧ f < t ∧ t ≤ d.sectors.length ∧ 0 ≤ ep ∧ ep ≤ 1000000000000000 ∧ 0 ≤ tail ∧ tail ≤ (t - f) * 64 := by
 unfold XJ at h
 by_cases c1 : Yp d = false
 ·rw [if_pos c1] at h; simp at h
 rw [if_neg c1] at h
 by_cases c2 : d.on = false
 ·rw [if_pos c2] at h; simp at h
 rw [if_neg c2] at h
 by_cases c3 : f < 0 ∨ t ≤ f ∨ (d.sectors.length : Int) < t
 ·rw [if_pos c3] at h; simp at h
 rw [if_neg c3] at h
 by_cases c4 : ep < 0 ∨ 1000000000000000 < ep ∨ tail < 0 ∨ (t - f) * 64 < tail
 ·rw [if_pos c4] at h; simp at h
 exact ⟨⟨by simpa using c1, by simpa using c2⟩, by omega, by omega, by omega, by omega, by omega, by omega, by omega⟩
theorem X6v {pend : List Wr} {a : Int} {s : List UInt8} (hs : s.length = 64) (hp : ∀ w ∈ pend, w.b.length = 64) : ∀ n, (YR pend a s n).length = 64
 | 0 => hs
 | n + 1 => by
  rw [YR]
  cases h : pend[n]? with
  | none => exact X6v hs hp n
  | some w =>
   simp only
   split
   ·exact hp w (List.mem_of_getElem? h)
   ·exact X6v hs hp n
theorem X3x {d : Disk} (h : DOk d) {a : Nat} (ha : a < d.sectors.length) : (Y7 d (a : Nat)).1.length = 64 := by
 obtain ⟨h1, h2, h3, h4⟩ := X2f h.v
 unfold Y7
 rw [if_neg (by rw [h.use]; simp), if_pos ⟨by omega, by omega⟩]
 refine X6v ?_ (fun w hw => (h4 w hw).2.2) _
 rw [Int.toNat_natCast, List.getElem?_eq_getElem ha]
 exact h3 _ (List.getElem_mem ha)
theorem VQ {d : Disk} (h : DOk d) : ∀ (n f : Nat), f + n ≤ d.sectors.length → (Y0 d f n).length = 64 * n
 | 0, f, _ => rfl
 | n + 1, f, hl => by
  rw [Y0, List.length_append, X3x h (by omega), VQ h n (f + 1) (by omega)]
  omega
theorem X5n (d : Disk) (hl : UY d) : Con Tryz.prog 36 [] [XK d] [] (X0T (XK (Yh d).1) (Yh d).2) := by
 refine Xb (xs := [XK (Yh d).1, ai (Yh d).2]) Tryz.func36 rfl Tryz.ntmps36 rfl rfl rfl (fun E => ?_)
 by_cases hu : Yo d = 0
 ·rw [show Yh d = (⟨Vi d (fun _ => 64), [], d.on⟩, 0) by simp [Yh, hu]]
  have hok := X2g (X3K hu).1
  refine Qqe ?_; refine QYd ?_; refine Qeb ?_; refine Z9 (hcon := XaT d hl) ?_; refine Z9 (hcon := XfN d.sectors d.pending d.on hok hl.1 hl.2.1) ?_; refine Z9 (hcon := Xfi (Vi d (fun _ => 64)) d.sectors.length (X1e _ _ _ _) d.on) ?_; exact Qse
 ·rw [show Yh d = (Ub, Yo d) by simp [Yh, hu]]
  refine Qqe ?_; exact Que
theorem X9B (d : Disk) (a : Int) (b : List UInt8) (hl : UY d) (hbl : b.length ≤ 4096) : Con Tryz.prog 35 [] [XK d, ai a, .d (Xg b)] [] (X0T (XK (Yw d a b).1) (Yw d a b).2) := by
 refine Xb (xs := [XK (Yw d a b).1, ai (Yw d a b).2]) Tryz.func35 rfl Tryz.ntmps35 rfl rfl rfl (fun E => ?_)
 by_cases hu : Yo d = 0
 ·have hp := hl.2.1
  by_cases h1 : a < 0
  ·rw [show Yw d a b = (Ub, 1) by simp [Yw, hu]; omega]
   repeat first | refine X0 ?_ | (refine JR ?_; (repeat first | refine Z1 ?_ | refine Z0 ?_ | refine ZL ?_ | refine Z8 ?_ | refine Zv ?_ | refine Zw (γ := 101) ?_ | refine ZA (γ := 100) ?_ | refine Zy ?_ | refine Zx ?_ | refine Zn ?_ | refine Zo ?_ | refine Z9 (hcon := X05 d) ?_); refine JD ?_) | refine JT ?_ | refine JF ?_ | refine X4 ?_
   exact Qte
  by_cases h2 : (d.sectors.length : Int) ≤ a
  ·rw [show Yw d a b = (Ub, 1) by simp [Yw, hu]; omega]
   refine Qqe ?_; refine Qve ?_; refine QOa ?_; refine Quc ?_; exact Qte
  by_cases h3 : b.length ≠ 64
  ·rw [show Yw d a b = (Ub, 1) by simp [Yw, hu]; omega]
   refine Qqe ?_; refine Qwe ?_; refine Zq ?_; refine Quc ?_; exact Qte
  have h3 : b.length = 64 := by simpa using h3
  rw [show Yw d a b = (⟨d.sectors, d.pending ++ [⟨a, b⟩], d.on⟩, 0) by simp only [Yw, hu]; rw [if_neg (by simp), if_pos ⟨by omega, by omega, h3⟩]]
  refine Qqe ?_; refine Qwe ?_; refine Qfa ?_; refine Qeb ?_; refine Z9 (hcon := XaT d hl) ?_; refine Qbe ?_; refine Qb ?_; refine ZB ?_; refine QFa ?_; refine Qw ?_; refine Z9 (hcon := X7t (b.map X7) (by simp; omega)) ?_; refine Zx ?_; refine Z5 ?_; refine Z6 ?_; refine ZB ?_; refine Qjd ?_; refine Qeb ?_; refine Z9 (hcon := XbI ⟨d.sectors, d.pending ++ [⟨a, b⟩], d.on⟩ (d.pending.map cWr ++ [cWr ⟨a, b⟩]) ((d.pending.map cWr).length + 1) (by simp) (by simp)) ?_; exact Qse
 ·rw [show Yw d a b = (Ub, Yo d) by simp [Yw, hu]]
  refine Qqe ?_; exact Que
theorem Xd3 (d : Disk) : Con Tryz.prog 54 [] [.agg [.d (XC d.pending), .d (XB d.sectors), ab d.on]] [] (XK d) := by
 refine Xb (xs := [XK d]) Tryz.func54 rfl Tryz.ntmps54 rfl rfl rfl (fun E => ?_)
 refine Qsc ?_; refine JD ?_; refine QGa ?_; refine ZB ?_; refine Qhd ?_; refine Zx ?_; refine QTa ?_; exact Qxe
theorem Xbq {b r : List UInt8} (hb : b.length = 64) (hr : r.length = 64) : List.take (min (List.map X7 b).length (List.map X7 r).length) (List.map X7 b) ++ List.drop (min (List.map X7 b).length (List.map X7 r).length) (List.map X7 r) = List.map X7 b := by
 rw [List.length_map, List.length_map, hb, hr, List.take_of_length_le (by simp [hb]), List.drop_of_length_le (by simp [hr])]; simp
theorem X36 {d : Disk} {a : Int} {s : List UInt8} (hok : okW d.sectors d.pending) (hs : s.length = 64) : ∀ k, (YR d.pending a s k).length = 64
 | 0 => hs
 | k + 1 => by
  simp only [YR]
  split
  ·rename_i w hw
   split
   ·exact (hok.2 w (List.mem_of_getElem? hw)).2.2
   ·exact X36 hok hs k
  ·exact X36 hok hs k
theorem Xf0 (n : Int) : Con Tryz.prog 31 [] [ai n] [] (X0T (XK (X04 n).1) (X04 n).2) := by
 refine Xb (xs := [XK (X04 n).1, ai (X04 n).2]) Tryz.func31 rfl Tryz.ntmps31 rfl rfl rfl (fun E => ?_)
 by_cases h1 : n < 1
 ·rw [show X04 n = (Ub, 1) by unfold X04; rw [if_neg (by omega)]]
  refine Qia ?_; refine Qc ?_; refine Qn ?_; refine QHb ?_; refine Quc ?_; exact Qye
 by_cases h2 : 4096 < n
 ·rw [show X04 n = (Ub, 1) by unfold X04; rw [if_neg (by omega)]]
  refine Qia ?_; refine Qc ?_; refine Qvb ?_; refine Qaa ?_; refine Quc ?_; exact Qye
 obtain ⟨m, rfl⟩ : ∃ m : Nat, n = m := ⟨n.toNat, by omega⟩
 rw [show X04 (m : Int) = (⟨List.replicate m YU, [], true⟩, 0) by unfold X04; rw [if_pos (by omega), Int.toNat_natCast]]
 refine Qia ?_; refine Qc ?_; refine Qvb ?_; refine Qmb ?_; refine Qb ?_; refine Zx ?_; refine Qyd ?_; refine Qjb ?_; refine QE ?_; refine Xm (Vx 101 1 121 1 (cs := [ani, ani, ab true]) rfl rfl rfl rfl rfl) ?_
 refine Xu (fun k : Nat => k ≤ m) (fun k => ⟨25, [(2, .ptr 100 0), (4, .ptr 101 0), (13, ai m), (14, ai k)], [(100, .box [ani, ani, ab false]), (101, .box [ani, .own 121 k, ab true]), (121, .row 1 ((List.replicate k YU).map XZ))]⟩) (fun k => m - k) 0 (by omega)
  (Xa rfl ⟨JL, JL, JL, JL, trivial⟩ ⟨rfl, rfl, rfl, trivial⟩) ?_
 intro k hk
 refine QA ?_
 refine VB rfl (fun h => ?_) (fun h => ?_)
 ·have h := of_decide_eq_true h
  refine QB ?_; refine QWc ?_; refine ZS ?_; refine Z5 ?_; refine Z6 ?_; refine Qjd ?_; refine QI ?_
  refine ⟨k + 1, by omega, by omega, Xa rfl ⟨JL, JL, JL, JL, trivial⟩ ⟨rfl, ?_, ?_, trivial⟩⟩
  ·refine Eq.trans (b := AObj.box [ani, .own 121 _, ab true]) rfl ?_
   congr 3; simp
  ·refine Eq.trans (b := AObj.row 1 (_ ++ [_])) rfl ?_
   rw [show List.replicate (k + 1) YU = List.replicate k YU ++ [YU] from List.replicate_succ', List.map_append]; rfl
 have h := of_decide_eq_false h
 obtain rfl : k = m := by omega
 refine Xm (Y4 121 rfl) ?_; refine Xm (Ut 101 1 121 (cs := [ani, .own 121 k, ab true]) (sz := 1) (xs := (List.replicate k YU).map XZ) rfl rfl rfl (by simp)) ?_; refine Xm (Xl 101 (cs := [ani, .d (XB (List.replicate k YU)), ab true]) (cs' := [.d (XC []), .d (XB (List.replicate k YU)), ab true]) rfl ⟨AVal.le_nil 2, AVal.le_refl _, AVal.le_refl _, trivial⟩ rfl) ?_; refine Xn ?_; refine Qeb ?_; refine Z9 (hcon := Xd3 ⟨List.replicate k YU, [], true⟩) ?_; exact Qoa
theorem X7M (d : Disk) (a : Int) (hl : UY d) : Con Tryz.prog 33 [] [XK d, ai a] [] (X0T (.d (Xg (Y7 d a).1)) (Y7 d a).2) := by
 refine Xb (xs := [.d (Xg (Y7 d a).1), ai (Y7 d a).2]) Tryz.func33 rfl Tryz.ntmps33 rfl rfl rfl (fun E => ?_)
 by_cases hu : Yo d = 0
 ·have hp := hl.2.1
  by_cases h1 : a < 0
  ·rw [show Y7 d a = ([], 1) by simp [Y7, hu]; omega]
   repeat first | refine X0 ?_ | (refine JR ?_; (repeat first | refine Z1 ?_ | refine Z0 ?_ | refine ZL ?_ | refine Z8 ?_ | refine Zv ?_ | refine ZA (γ := 100) ?_ | refine Zn ?_ | refine Zo ?_ | refine Z9 (hcon := X05 d) ?_); refine JD ?_) | refine JT ?_ | refine JF ?_ | refine X4 ?_
   exact Qze
  by_cases h2 : (d.sectors.length : Int) ≤ a
  ·rw [show Y7 d a = ([], 1) by simp [Y7, hu]; omega]
   refine QDa ?_; refine Qya ?_; refine Qnc ?_; refine Z9 (hcon := X05 d) ?_; refine Qve ?_; refine QOb ?_; refine Qya ?_; exact Qze
  obtain ⟨k, rfl⟩ : ∃ k : Nat, a = k := ⟨a.toNat, by omega⟩
  obtain ⟨s, hs⟩ := Xv (l := d.sectors) (k := k) (by omega)
  have hsl := hl.2.2.1 s (List.mem_of_getElem? hs)
  repeat first | refine X0 ?_ | (refine JR ?_; (repeat first | refine Z1 ?_ | refine Z0 ?_ | refine ZB ?_ | refine ZC ?_ | refine ZL ?_ | refine Zk ?_ | refine Zd ?_ | refine Z8 ?_ | refine Z2 ?_ | refine Zv ?_ | refine ZA (γ := 100) ?_ | refine Zq ?_ | refine Zj ?_ | refine Z9 (hcon := X05 d) ?_ | refine Z9 (hcon := X9s (s.map X7) (by simp; omega)) ?_); refine JD ?_) | refine JF ?_ | refine X5 ?_ | refine X4 ?_
  have hok := X2g (X3K hu).1
  rw [show Y7 d (k : Int) = (YR d.pending k s d.pending.length, 0) by unfold Y7; rw [if_neg (by simpa using hu), if_pos (by omega), Int.toNat_natCast, hs]; rfl]
  refine Xu (fun j : Nat => j ≤ d.pending.length) (fun j => ⟨47, [(1, ai k), (2, .ptr 100 0), (7, .own 110 64), (31, .d (XC d.pending)), (32, ai (d.pending.map cWr).length), (33, ai j)], [(100, .box [.d (XB d.sectors), .d (XC d.pending), ab d.on]), (110, .row 1 ((YR d.pending k s j).map X7))]⟩) (fun j => d.pending.length - j) 0 (by omega)
   (Xa rfl ⟨JL, JL, (by refine AVal.le_of_eq ?_; refine Eq.trans (b := AVal.own 110 _) rfl ?_; simp [hok.1 s (List.mem_of_getElem? hs)]), JL, JL, JL, trivial⟩ ⟨rfl, rfl, trivial⟩) ?_
  intro j hj
  refine QA ?_
  refine VB rfl (fun h => ?_) (fun h => ?_)
  ·have h := of_decide_eq_true h
   simp only [List.length_map] at h
   obtain ⟨⟨at_, b⟩, hw⟩ := Xv (l := d.pending) (k := j) (by omega)
   obtain ⟨b1, b2, b3⟩ := hok.2 _ (List.mem_of_getElem? hw)
   simp only at b1 b2 b3
   have hbl := X36 (a := (k : Int)) hok (hok.1 s (List.mem_of_getElem? hs)) j
   by_cases hat : at_ = (k : Int)
   ·subst hat
    refine Qje ?_; refine QSa ?_; refine Qyd ?_; refine QWa ?_; refine Zl ?_; refine Qh ?_; refine JR ?_; refine QIa ?_; refine Z0e ?_; refine JD ?_; refine QI ?_
    refine ⟨j + 1, by omega, by omega, Xa rfl ⟨JL, JL, JL, JL, JL, JL, trivial⟩ ⟨rfl, ?_, trivial⟩⟩
    refine Eq.trans (b := AObj.row 1 _) rfl ?_
    simp only [YR, hw, if_true]
    exact congrArg (AObj.row 1) (Xbq b3 hbl)
   ·refine Qje ?_; refine QSa ?_; refine Qyd ?_; refine QWa ?_; refine Zl ?_; refine Qr ?_; refine QI ?_
    refine ⟨j + 1, by omega, by omega, Xa rfl ⟨JL, JL, JL, JL, JL, JL, trivial⟩ ⟨rfl, ?_, trivial⟩⟩
    refine Eq.trans (b := AObj.row 1 _) rfl ?_
    simp [YR, hw, hat]
  have h := of_decide_eq_false h
  simp only [List.length_map] at h
  obtain rfl : j = d.pending.length := by omega
  have hbl := X36 (a := (k : Int)) hok (hok.1 s (List.mem_of_getElem? hs)) d.pending.length
  refine Xn ?_; refine Qf ?_; refine Qya ?_
  refine X1 ⟨_, St.le_trans (Y4 110 rfl) (U1 4 110 rfl rfl (by simp [hbl])), ⟨rfl, rfl, trivial⟩, X3 _⟩
 ·rw [show Y7 d a = ([], Yo d) by simp [Y7, hu]]
  refine QDa ?_; refine Qya ?_; refine Qnc ?_; refine Z9 (hcon := X05 d) ?_; refine Qv ?_; refine QAa ?_; refine Qf ?_; refine Qya ?_; exact Qze
end Go.Fw
