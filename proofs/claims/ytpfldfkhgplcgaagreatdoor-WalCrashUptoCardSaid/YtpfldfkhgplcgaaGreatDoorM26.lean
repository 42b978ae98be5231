/- The disk: W40f. -/
import Derived.Test.YtpfldfkhgplcgaaGreatDoorM25
set_option maxHeartbeats 8000000
namespace Go.Fw
open Go Go.Proofs
set_option maxRecDepth 100000
set_option linter.unusedVariables false
set_option linter.unusedSimpArgs false
def X0b (x : Int) : Nat := (min (max x 0) 64).toNat
def X1X (rows : List (List UInt8)) (w : Wr) (n : Nat) : List (List UInt8) := rows.set w.at_.toNat (w.b.take n ++ ((rows[w.at_.toNat]?).getD []).drop n)
def YA (rows : List (List UInt8)) (pend : List Wr) (kv : Nat → Int) : Nat → List (List UInt8)
 | 0 => rows
 | k + 1 => match pend[k]? with
  | some w => X1X (YA rows pend kv k) w (X0b (kv k))
  | none => YA rows pend kv k
def okW (rows : List (List UInt8)) (pend : List Wr) : Prop := (∀ s ∈ rows, s.length = 64) ∧ ∀ w ∈ pend, 0 ≤ w.at_ ∧ w.at_ < rows.length ∧ w.b.length = 64
theorem X27 (x : Int) : X0b x ≤ 64 := by unfold X0b; omega
theorem XdI {rows : List (List UInt8)} {w : Wr} {n : Nat} (hn : n ≤ 64) (h : ∀ s ∈ rows, s.length = 64) (hw : 0 ≤ w.at_ ∧ w.at_ < rows.length ∧ w.b.length = 64) : ∀ s ∈ X1X rows w n, s.length = 64 := by
 intro s hs
 rcases List.mem_or_eq_of_mem_set hs with h1 | h1
 ·exact h s h1
 ·obtain ⟨r, hr⟩ := Xx (l := rows) (k := w.at_.toNat) (by omega)
  have hl := h r (List.mem_of_getElem? hr)
  rw [h1, hr]; simp [hl, hw.2.2]; omega
theorem Xgw (rows : List (List UInt8)) (w : Wr) (n : Nat) : (X1X rows w n).length = rows.length := by simp [X1X]
theorem X05 (rows : List (List UInt8)) (pend : List Wr) (kv : Nat → Int) : ∀ k, (YA rows pend kv k).length = rows.length
 | 0 => rfl
 | k + 1 => by
  simp only [YA]
  split
  ·rw [Xgw, X05 rows pend kv k]
  ·exact X05 rows pend kv k
theorem X0T {rows : List (List UInt8)} {pend : List Wr} (kv : Nat → Int) (h : okW rows pend) : ∀ k, ∀ s ∈ YA rows pend kv k, s.length = 64
 | 0 => h.1
 | k + 1 => by
  simp only [YA]
  split
  ·rename_i w hw
   exact XdI (X27 _) (X0T kv h k) (by rw [X05]; exact h.2 w (List.mem_of_getElem? hw))
  ·exact X0T kv h k
theorem X5B {rows : List (List UInt8)} {pend : List Wr} {kv : Nat → Int} {k a : Nat} {b r : List UInt8} (hw : pend[k]? = some ⟨a, b⟩) (hr : (YA rows pend kv k)[a]? = some r) :
  YA rows pend kv (k + 1) = (YA rows pend kv k).set a (b.take (X0b (kv k)) ++ r.drop (X0b (kv k))) := by
 simp only [YA, hw, X1X, Int.toNat_natCast, hr, Option.getD_some]
theorem X9A {b r : List UInt8} {n : Nat} (hn : n ≤ 64) (hb : b.length = 64) (hr : r.length = 64) :
  List.take (min (List.drop 0 (List.take n (List.map X6 b))).length (List.map X6 r).length) (List.drop 0 (List.take n (List.map X6 b))) ++ List.drop (min (List.drop 0 (List.take n (List.map X6 b))).length (List.map X6 r).length) (List.map X6 r) =
   (b.take n ++ r.drop n).map X6 := by
 have e : min (List.drop 0 (List.take n (List.map X6 b))).length (List.map X6 r).length = n := by simp; omega
 rw [e]; simp [List.take_take]
theorem Xcp (i : Int) : Con Tryz.prog 59 [] [ai i] [] (ai 64) := by
 refine Xa (xs := [ai 64]) Tryz.func59 rfl Tryz.ntmps59 rfl rfl rfl (fun E => ?_)
 refine Qd ?_; exact Qia
section
variable {P : Program} {ops : Array Oper} {draw : Bool} {K : St → Prop} {rest : List Oper} {l : Yb} {S : St}
variable {d : Nat} {ty : TypeId} {pos : String} {aft : Array Edge} {gd : Option (Nat × Bool)}
theorem X7a {x y : Operand} {tys : Array TypeId} {k : IntKind} {a b : Int} (c : Nat) (hc : min a b = (c : Nat)) (hx : S.ev x = .d (.v (.int k a))) (hy : S.ev y = .d (.v (.int k b))) (hd : Nat.blt d S.n = true) (hg : Xe ops S gd)
  (h : Walk P ops draw K rest ((l.length, ⟨some d, .call ⟨.builtin .min, #[x, y], tys⟩, ty, pos, aft, gd⟩, ⟨Xd ops gd ++ [(x, .d (.v (.int k a))), (y, .d (.v (.int k b)))], some (d, .d (.v (.int k c))), [], [], []⟩) :: l) (S.set d (.d (.v (.int k c))))) :
  Walk P ops draw K (⟨some d, .call ⟨.builtin .min, #[x, y], tys⟩, ty, pos, aft, gd⟩ :: rest) l S := by
 rw [← hc] at h
 exact Xcm hx hy hd hg h
end
theorem X5u (x : Int) : min (max x 0) 64 = (X0b x : Int) := by unfold X0b; omega
theorem Xco (rows : List (List UInt8)) (pend : List Wr) (hok : okW rows pend) (hl : rows.length ≤ 4096) (hp : pend.length ≤ 4096) : Con Tryz.prog 80 [(0, .mat 1 (rows.map fun s => s.map X6))] [.agg [.d (XA pend)], .own 0 rows.length, .fn 59 []]
  [(0, .mat 1 ((YA rows pend (fun _ => 64) pend.length).map fun s => s.map X6))] (.own 0 rows.length) := by
 refine Xa (xs := [.own 0 rows.length]) Tryz.func80 rfl Tryz.ntmps80 rfl rfl rfl (fun E => ?_)
 refine QAb ?_; refine QA ?_
 refine Xu (fun k : Nat => k ≤ pend.length) (fun k => ⟨35, [(1, .own 0 rows.length), (2, .fn 59 []), (11, .d (XA pend)), (12, ai (pend.map cWr).length), (13, ai k)], [(100, .box [.d (XA pend)]), (0, .mat 1 ((YA rows pend (fun _ => 64) k).map fun s => s.map X6))]⟩) (fun k => pend.length - k) 0 (by omega)
  (X9 rfl ⟨JL, JL, JL, JL, JL, trivial⟩ ⟨rfl, rfl, trivial⟩) ?_
 intro k hk
 refine QB ?_
 refine VB rfl (fun h => ?_) (fun h => ?_)
 ·have h := of_decide_eq_true h
  simp only [List.length_map] at h
  obtain ⟨⟨at_, b⟩, hw⟩ := Xx (l := pend) (k := k) (by omega)
  obtain ⟨b1, b2, b3⟩ := hok.2 _ (List.mem_of_getElem? hw)
  simp only at b1 b2 b3
  obtain ⟨a, rfl⟩ : ∃ a : Nat, at_ = a := ⟨at_.toNat, by omega⟩
  have hpl := X05 rows pend (fun _ => 64) k
  obtain ⟨r, hr⟩ := Xx (l := YA rows pend (fun _ => 64) k) (k := a) (by omega)
  have hrl := X0T (fun _ => 64) hok k r (List.mem_of_getElem? hr)
  have hc := X27 64
  refine QC ?_; refine Qf ?_; refine QVa ?_; refine Qrc ?_; refine Z0 ?_; refine QWa ?_; refine Qi ?_; refine ZG (hcon := Xcp k) ?_; refine Zz ?_; refine X7a (X0b 64) (X5u 64) rfl rfl rfl (by (first | ((exact True.intro)) | ((exact ⟨rfl, rfl⟩)) | ((exact ⟨rfl, congrArg ab (by (first | ((rfl)) | ((assumption)) | ((simp only [List.length_map, List.length_take, List.length_append, decide_eq_true_eq, decide_eq_false_iff_not, ne_eq, Classical.not_not]; omega)) | ((simp <;> fail)) | ((simp [*] <;> fail)) | ((simp; omega)) | fail))⟩)) | fail)) ?_; refine Qc ?_; refine JR ?_; refine QKa ?_; refine Z09 ?_; refine Z0a ?_; refine QHa ?_; refine Z1 ?_; refine Z0b ?_; refine Z0c ?_; refine JD ?_; refine QK ?_
  refine ⟨k + 1, by omega, by omega, X9 rfl ⟨JL, JL, JL, JL, JL, trivial⟩ ⟨rfl, ?_, trivial⟩⟩
  refine Eq.trans (b := AObj.mat 1 (List.set _ _ _)) rfl ?_
  rw [X5B hw hr, List.map_set]
  congr 2
  exact X9A (X27 64) b3 hrl
 have h := of_decide_eq_false h
 simp only [List.length_map] at h
 obtain rfl : k = pend.length := by omega
 refine Xp ?_; refine Qz ?_; exact Qr
abbrev X2J (x : Int) : List D := [.v (.int .i64 x)]
abbrev Vb (l : List Int) : D := .sl 1 (l.map X2J)
theorem XfX (rows : List (List UInt8)) (pend : List Wr) (hok : okW rows pend) (hl : rows.length ≤ 4096) (hp : pend.length ≤ 4096) : Con Tryz.prog 80 [(1, .mat 1 (rows.map fun s => s.map X6))] [.agg [.d (XA pend)], .own 1 rows.length, .fn 59 []]
  [(1, .mat 1 ((YA rows pend (fun _ => 64) pend.length).map fun s => s.map X6))] (.own 1 rows.length) := by
 have h := UX 0 1 (Xco rows pend hok hl hp)
 exact h
theorem XdF (rows : List (List UInt8)) (pend : List Wr) (on : Bool) (hok : okW rows pend) (hl : rows.length ≤ 4096) (hp : pend.length ≤ 4096) : Con Tryz.prog 55 [(0, .row 2 (pend.map cWr)), (1, .mat 1 (rows.map fun s => s.map X6))] [.agg [.own 0 pend.length, .own 1 rows.length, ab on], .fn 59 []]
  [(0, .froz 2 (pend.map cWr)), (1, .mat 1 ((YA rows pend (fun _ => 64) pend.length).map fun s => s.map X6)), (122, .row 2 [])] (.agg [.own 122 0, .own 1 rows.length, ab on]) := by
 refine Xa (xs := [.agg [.own 122 0, .own 1 rows.length, ab on]]) Tryz.func55 rfl Tryz.ntmps55 rfl rfl rfl (fun E => ?_)
 refine Qge ?_; refine Xi (XL 0 rfl) ?_; refine Xi (Vn 100 0 0 (cs := [.own 0 pend.length, .own 1 rows.length, ab on]) (sz := 2) (xs := pend.map cWr) rfl rfl rfl (by simp)) ?_; refine Qb ?_; refine ZB ?_; refine ZL ?_; refine QHa ?_; refine Z1 ?_; refine Z9 (hcon := XfX rows pend hok hl hp) ?_; refine Qhd ?_; refine Qb ?_; refine ZB ?_; refine Qhd ?_; refine Qjd ?_; refine Xi (X0a 101 0 122 2 (cs := [ani, .own 1 rows.length, ab on]) rfl rfl rfl rfl rfl) ?_; exact X1 ⟨_, St.le_refl _, ⟨⟨101, 0, _, rfl, rfl, .inr ⟨3, _, rfl, rfl, rfl, rfl⟩⟩, trivial⟩, Xj ⟨rfl, rfl, rfl, trivial⟩⟩
theorem XbT (rows : List (List UInt8)) (pend : List Wr) (on : Bool) (hok : okW rows pend) (hl : rows.length ≤ 4096) (hp : pend.length ≤ 4096) : Con Tryz.prog 55 [(120, .row 2 (pend.map cWr)), (121, .mat 1 (rows.map fun s => s.map X6))] [.agg [.own 120 pend.length, .own 121 rows.length, ab on], .fn 59 []]
  [(120, .froz 2 (pend.map cWr)), (121, .mat 1 ((YA rows pend (fun _ => 64) pend.length).map fun s => s.map X6)), (122, .row 2 [])] (.agg [.own 122 0, .own 121 rows.length, ab on]) := by
 have h := UX 1 121 (UX 0 120 (XdF rows pend on hok hl hp))
 exact h
theorem X88 (secs : List (List UInt8)) (n : Nat) (hn : secs.length = n) (on : Bool) : Con Tryz.prog 54 [(122, .row 2 []), (121, .mat 1 (secs.map fun s => s.map X6))] [.agg [.own 122 0, .own 121 n, ab on]] [(122, .froz 2 []), (121, .froz 1 (secs.map Yj))] (XK ⟨secs, [], on⟩) := by
 subst hn
 have h := UX 1 121 (UX 0 122 (X9z ⟨secs, [], on⟩))
 exact h
theorem Xd9 (d : Disk) (xs : List (List D)) (n : Nat) (hx : xs = d.pending.map cWr) (hn : n = d.pending.length) : Con Tryz.prog 54 [(120, .row 2 xs), (121, .mat 1 (d.sectors.map fun s => s.map X6))] [.agg [.own 120 n, .own 121 d.sectors.length, ab d.on]] [(120, .froz 2 xs), (121, .froz 1 (d.sectors.map Yj))] (XK d) := by
 subst hx hn
 exact X5g d
abbrev X1A (x : AVal) (e : Int) : AVal := .tup [x, ai e]
def Uc : List UInt8 := List.replicate 64 0
def Y8 : Disk := ⟨[], [], false⟩
def X0c (n : Int) : Disk × Int := if 1 ≤ n ∧ n ≤ 4096 then (⟨List.replicate n.toNat Uc, [], true⟩, 0) else (Y8, 1)
def YZ (pend : List Wr) (a : Int) (s : List UInt8) : Nat → List UInt8
 | 0 => s
 | k + 1 => match pend[k]? with
  | some w => if w.at_ = a then w.b else YZ pend a s k
  | none => YZ pend a s k
def Yn (d : Disk) (a : Int) : List UInt8 × Int :=
 if YF d ≠ 0 then ([], YF d) else if 0 ≤ a ∧ a < d.sectors.length then (YZ d.pending a ((d.sectors[a.toNat]?).getD []) d.pending.length, 0) else ([], 1)
def YO (d : Disk) (a : Int) (b : List UInt8) : Disk × Int :=
 if YF d ≠ 0 then (Y8, YF d) else if 0 ≤ a ∧ a < d.sectors.length ∧ b.length = 64 then (⟨d.sectors, d.pending ++ [⟨a, b⟩], d.on⟩, 0) else (Y8, 1)
def YC (d : Disk) (kv : Nat → Int) : List (List UInt8) := YA d.sectors d.pending kv d.pending.length
def Yv (d : Disk) : Disk × Int := if YF d ≠ 0 then (Y8, YF d) else (⟨YC d (fun _ => 64), [], d.on⟩, 0)
theorem X13 {d : Disk} (h : Yp d = true) : okW d.sectors d.pending := by
 simp only [Yp, decide_eq_true_eq] at h
 exact ⟨h.2.2.2.1, h.2.2.2.2⟩
theorem X56 {d : Disk} (h : YF d = 0) : Yp d = true ∧ d.on = true := by
 unfold YF at h
 split at h
 ·rename_i hv
  split at h
  ·rename_i ho
   exact ⟨hv, ho⟩
  ·simp at h
 ·simp at h
open Go
def VZ (x : UInt8) : List UInt8 := if x.toNat ≤ 1 then [1, x + 1] else [x]
def XC : List UInt8 → List UInt8
 | [] => []
 | x :: r => VZ x ++ XC r
def Y4 (ep : Int) (r : Rcd) : List UInt8 := Xh ep ++ U7 r
def Yi (ep : Int) (r : Rcd) : List UInt8 := XC (XD (Y4 ep r)) ++ [0]
def Xg (ep : Int) : List Rcd → List UInt8
 | [] => []
 | r :: l => Yi ep r ++ Xg ep l
def Y2 : List Rcd → Int
 | [] => 0
 | r :: l => if Yy r ≠ 0 then Yy r else Y2 l
def UY (ep : Int) (l : List Rcd) : List UInt8 := if Y2 l ≠ 0 then [] else Xg ep l
def XI (d : Disk) (f t ep tail : Int) : Int :=
 if Yp d = false then 1 else if d.on = false then 22 else if f < 0 ∨ t ≤ f ∨ (d.sectors.length : Int) < t then 1
 else if ep < 0 ∨ 1000000000000000 < ep ∨ tail < 0 ∨ (t - f) * 64 < tail then 1 else 0
def Yd (d : Disk) : Nat → Nat → List UInt8
 | _, 0 => []
 | f, n + 1 => (Yn d (f : Nat)).1 ++ Yd d (f + 1) n
def Xz (d : Disk) (f t : Int) : List UInt8 := Yd d f.toNat (t - f).toNat
def Uq (d : Disk) (a : Nat) (b : List UInt8) : Disk := ⟨d.sectors, d.pending ++ [⟨(a : Nat), b⟩], d.on⟩
def Va : Disk → Nat → List (List UInt8) → List Disk
 | d, _, [] => [d]
 | d, a, b :: r => d :: Va (Uq d a b) (a + 1) r
def XH : Disk → Nat → List (List UInt8) → Disk
 | d, _, [] => d
 | d, a, b :: r => XH (Uq d a b) (a + 1) r
def Yu (d : Disk) (f t : Int) : Disk × Int :=
 if XI d f t 0 0 ≠ 0 then (Y8, XI d f t 0 0) else ((Yv (XH d f.toNat (List.replicate (t - f).toNat Uc))).1, 0)
def Uy (l : List UInt8) : List UInt8 := l ++ List.replicate ((64 - l.length % 64) % 64) 0
def YB : Nat → List UInt8 → List (List UInt8)
 | 0, _ => []
 | n + 1, l => l.take 64 :: YB n (l.drop 64)
def UH (d : Disk) (f t tail : Int) (add : List UInt8) : List UInt8 := Uy (((Xz d f t).take tail.toNat).drop (tail.toNat / 64 * 64) ++ add)
def YI (d : Disk) (f t tail : Int) (add : List UInt8) : List (List UInt8) :=
 if add = [] then [] else YB ((UH d f t tail add).length / 64) (UH d f t tail add)
def VK (d : Disk) (f t tail : Int) (add : List UInt8) : List Disk :=
 Va d (f.toNat + tail.toNat / 64) (YI d f t tail add) ++ [(Yv (XH d (f.toNat + tail.toNat / 64) (YI d f t tail add))).1]
def Xr (d : Disk) (f t ep tail : Int) (l : List Rcd) : List Disk × Int × Int :=
 if XI d f t ep tail ≠ 0 then ([], 0, XI d f t ep tail) else if Y2 l ≠ 0 then ([], 0, Y2 l)
 else if (t - f) * 64 < tail + (Xg ep l).length then ([], 0, 20) else (VK d f t tail (Xg ep l), tail + (Xg ep l).length, 0)
def XB (d : Disk) (f t ep tail : Int) (l : List Rcd) : Disk × Int × Int :=
 if (Xr d f t ep tail l).2.2 ≠ 0 then (Y8, 0, (Xr d f t ep tail l).2.2) else (((Xr d f t ep tail l).1.getLast?).getD Y8, (Xr d f t ep tail l).2.1, 0)
def YE : List UInt8 → Option (List UInt8)
 | [] => some []
 | [x] => if x = 1 then none else some [x]
 | x :: y :: r => if x = 1 then (if y = 1 ∨ y = 2 then (YE r).map (fun l => (y - 1) :: l) else none) else (YE (y :: r)).map (fun l => x :: l)
def X40 (c : List UInt8) (ep : Int) (u : Int × Int × Int) : Rcd × Bool :=
 if u.2.2 ≠ 0 ∨ u.1 ≠ ep then (X0V, false) else ((rdS (c.drop u.2.1.toNat)).1, decide ((rdS (c.drop u.2.1.toNat)).2 = 0))
def X1Y (raw : List UInt8) (ep : Int) (u : List UInt8 × Int × Int) : Rcd × Bool :=
 if u.2.2 ≠ 0 ∨ u.2.1 ≠ raw.length then (X0V, false) else X40 u.1 ep (Xk u.1 0)
def Ud (b : List UInt8) (ep : Int) : Rcd × Bool := match YE b with
 | none => (X0V, false)
 | some raw => X1Y raw ep (Uo raw 0)
def Y3 (b : List UInt8) : List UInt8 := b.takeWhile fun x => x != 0
def Vw (b : List UInt8) : Bool := b.any fun x => x == 0
def UC (ep : Int) : Nat → List UInt8 → Nat → List Rcd × Nat
 | 0, _, a => ([], a)
 | n + 1, b, a => if Vw b = true ∧ (Ud (Y3 b) ep).2 = true then
   ((Ud (Y3 b) ep).1 :: (UC ep n (b.drop ((Y3 b).length + 1)) (a + ((Y3 b).length + 1))).1, (UC ep n (b.drop ((Y3 b).length + 1)) (a + ((Y3 b).length + 1))).2)
  else ([], a)
def X0P (ep : Int) (b : List UInt8) : List Rcd × Nat := UC ep (b.length + 1) b 0
def Uk (d : Disk) (f t ep : Int) : List Rcd × Int × Int :=
 if XI d f t ep 0 ≠ 0 then ([], 0, XI d f t ep 0) else ((X0P ep (Xz d f t)).1, ((X0P ep (Xz d f t)).2 : Nat), 0)
def X1x (f t tail : Int) : Int := if f < 0 ∨ t ≤ f ∨ 4096 < t ∨ tail < 0 ∨ (t - f) * 64 < tail then 0 else (t - f) * 64 - tail
def VC (ep : Int) (l : List Rcd) : Int := if ep < 0 ∨ 1000000000000000 < ep then 0 else (UY ep l).length
theorem X3v {α : Type} {l : List α} {i : Nat} {x : α} (h : l[i]? = some x) : l.take (i + 1) = l.take i ++ [x] := by
 rw [List.take_add_one, h]; rfl
theorem X5m : ∀ u v : List UInt8, XC (u ++ v) = XC u ++ XC v
 | [], v => rfl
 | x :: u, v => by rw [List.cons_append, XC, XC, X5m u v, List.append_assoc]
theorem Xgb (x : UInt8) : (VZ x).length ≤ 2 := by unfold VZ; split <;> simp
theorem X3H : ∀ l : List UInt8, (XC l).length ≤ 2 * l.length
 | [] => by simp [XC]
 | x :: l => by
  have h1 := X3H l
  have h2 := Xgb x
  rw [XC, List.length_append, List.length_cons]
  omega
theorem X8y {l : List UInt8} {i : Nat} {x : UInt8} (h : l[i]? = some x) : XC (l.take (i + 1)) = XC (l.take i) ++ VZ x := by
 rw [X3v h, X5m, XC, XC, List.append_nil]
theorem X0Z (ep : Int) : ∀ u v : List Rcd, Xg ep (u ++ v) = Xg ep u ++ Xg ep v
 | [], v => rfl
 | x :: u, v => by rw [List.cons_append, Xg, Xg, X0Z ep u v, List.append_assoc]
theorem XaW {ep : Int} {l : List Rcd} {i : Nat} {x : Rcd} (h : l[i]? = some x) : Xg ep (l.take (i + 1)) = Xg ep (l.take i) ++ Yi ep x := by
 rw [X3v h, X0Z, Xg, Xg, List.append_nil]
theorem Xa6 {l : List Rcd} {i : Nat} {x : Rcd} (h : l[i]? = some x) : Y2 (l.drop i) = if Yy x ≠ 0 then Yy x else Y2 (l.drop (i + 1)) := by
 obtain ⟨hi, rfl⟩ := List.getElem?_eq_some_iff.1 h
 rw [List.drop_eq_getElem_cons hi, Y2]
theorem X7p (d : Disk) : ∀ (n f : Nat), Yd d f (n + 1) = Yd d f n ++ (Yn d ((f + n : Nat) : Int)).1
 | 0, f => by simp [Yd]
 | n + 1, f => by
  rw [Yd, X7p d n (f + 1), Yd, List.append_assoc]
  congr 3
  rw [show f + 1 + n = f + (n + 1) by omega]
theorem XaR (bs : List (List UInt8)) (b : List UInt8) : ∀ (d : Disk) (a : Nat), XH d a (bs ++ [b]) = Uq (XH d a bs) (a + bs.length) b := by
 induction bs with
 | nil => intro d a; rfl
 | cons x bs ih =>
  intro d a
  rw [List.cons_append, XH, XH, ih, List.length_cons]
  congr 1
  omega
theorem Xh7 (bs : List (List UInt8)) (b : List UInt8) : ∀ (d : Disk) (a : Nat), Va d a (bs ++ [b]) = Va d a bs ++ [Uq (XH d a bs) (a + bs.length) b] := by
 induction bs with
 | nil => intro d a; rfl
 | cons x bs ih =>
  intro d a
  rw [List.cons_append, Va, Va, ih, List.length_cons, XH]
  simp only [List.cons_append]
  congr 4
  omega
theorem X3s (bs : List (List UInt8)) : ∀ (d : Disk) (a : Nat), (Va d a bs).length = bs.length + 1 := by
 induction bs with
 | nil => intro d a; rfl
 | cons x bs ih => intro d a; rw [Va, List.length_cons, ih, List.length_cons]
theorem X0n (bs : List (List UInt8)) : ∀ (d : Disk) (a : Nat), (XH d a bs).sectors = d.sectors ∧ (XH d a bs).on = d.on ∧ (XH d a bs).pending.length = d.pending.length + bs.length := by
 induction bs with
 | nil => intro d a; exact ⟨rfl, rfl, rfl⟩
 | cons x bs ih =>
  intro d a
  obtain ⟨h1, h2, h3⟩ := ih (Uq d a x) (a + 1)
  rw [XH]
  refine ⟨h1, h2, h3.trans ?_⟩
  simp only [Uq, List.length_append, List.length_cons, List.length_nil]
  omega
theorem XcO (b : List UInt8) (d : Disk) (a n : Nat) : XH d a (List.replicate (n + 1) b) = Uq (XH d a (List.replicate n b)) (a + n) b := by
 have : List.replicate (n + 1) b = List.replicate n b ++ [b] := by rw [List.replicate_succ']
 rw [this, XaR, List.length_replicate]
theorem X0C : ∀ (n : Nat) (l : List UInt8), (YB n l).length = n
 | 0, _ => rfl
 | n + 1, l => by rw [YB, List.length_cons, X0C n]
theorem X6O : ∀ (n : Nat) (l : List UInt8), 64 * n ≤ l.length → ∀ c ∈ YB n l, c.length = 64
 | 0, _, _, c, h => by simp [YB] at h
 | n + 1, l, hl, c, h => by
  rw [YB, List.mem_cons] at h
  rcases h with rfl | h
  ·rw [List.length_take]; omega
  ·exact X6O n (l.drop 64) (by rw [List.length_drop]; omega) c h
theorem X7i : ∀ (n : Nat) (l : List UInt8), YB (n + 1) l = YB n l ++ [(l.drop (64 * n)).take 64]
 | 0, l => by simp [YB]
 | n + 1, l => by
  rw [YB, X7i n (l.drop 64), YB, List.cons_append, List.drop_drop, show 64 + 64 * n = 64 * (n + 1) by omega]
theorem X31 (l : List UInt8) : (Uy l).length % 64 = 0 ∧ l.length ≤ (Uy l).length ∧ (Uy l).length < l.length + 64 := by
 unfold Uy
 rw [List.length_append, List.length_replicate]
 omega
structure DOk (d : Disk) : Prop where
 v : Yp d = true
 on : d.on = true
theorem DOk.use {d : Disk} (h : DOk d) : YF d = 0 := by
 unfold YF
 rw [if_pos h.v, if_pos h.on]
theorem X0E {d : Disk} (h : Yp d = true) : 1 ≤ d.sectors.length ∧ d.sectors.length ≤ 4096 ∧ (∀ s ∈ d.sectors, s.length = 64) ∧ ∀ w ∈ d.pending, 0 ≤ w.at_ ∧ w.at_ < d.sectors.length ∧ w.b.length = 64 := by
 unfold Yp at h
 simp only [decide_eq_true_eq] at h
 exact ⟨h.1, h.2.1, h.2.2.2.1, h.2.2.2.2⟩
theorem X9u {d : Disk} {a : Nat} {b : List UInt8} (h : DOk d) (ha : a < d.sectors.length) (hb : b.length = 64) : DOk (Uq d a b) := by
 obtain ⟨h1, h2, h3, h4⟩ := X0E h.v
 refine ⟨?_, h.on⟩
 unfold Yp Uq
 simp only [decide_eq_true_eq]
 refine ⟨h1, h2, .inl h.on, h3, fun w hw => ?_⟩
 rw [List.mem_append, List.mem_singleton] at hw
 rcases hw with hw | rfl
 ·exact h4 w hw
 ·exact ⟨by simp, by simpa using ha, hb⟩
theorem Xai {d : Disk} {a : Nat} {b : List UInt8} (h : DOk d) (ha : a < d.sectors.length) (hb : b.length = 64) : YO d (a : Nat) b = (Uq d a b, 0) := by
 unfold YO Uq
 rw [if_neg (by rw [h.use]; simp), if_pos ⟨by omega, by omega, hb⟩]
theorem X0N (bs : List (List UInt8)) : ∀ (d : Disk) (a : Nat), DOk d → a + bs.length ≤ d.sectors.length → (∀ c ∈ bs, c.length = 64) → DOk (XH d a bs) := by
 induction bs with
 | nil => intro d a h _ _; exact h
 | cons x bs ih =>
  intro d a h hl hc
  rw [List.length_cons] at hl
  rw [XH]
  exact ih (Uq d a x) (a + 1) (X9u h (by omega) (hc x (by simp))) (by show a + 1 + bs.length ≤ d.sectors.length; omega) fun c q => hc c (by simp [q])
theorem X1t {d : Disk} (h : Yp d = true) (hp : d.pending.length ≤ 4096) : UE d := by
 obtain ⟨h1, h2, h3, h4⟩ := X0E h
 exact ⟨h2, hp, fun s hs => by rw [h3 s hs]; omega, fun w hw => by rw [(h4 w hw).2.2]; omega⟩
theorem XbK {d : Disk} (h : DOk d) : Yv d = (⟨YC d (fun _ => 64), [], true⟩, 0) := by
 unfold Yv
 rw [if_neg (by rw [h.use]; simp), h.on]
theorem X1u {d : Disk} {f t ep tail : Int} (h : XI d f t ep tail = 0) : DOk d ∧ 0 ≤ f ∧ f < t ∧ t ≤ d.sectors.length ∧ 0 ≤ ep ∧ ep ≤ 1000000000000000 ∧ 0 ≤ tail ∧ tail ≤ (t - f) * 64 := by
 unfold XI at h
 by_cases c1 : Yp d = false
 ·rw [if_pos c1] at h; simp at h
 rw [if_neg c1] at h
 by_cases c2 : d.on = false
 ·rw [if_pos c2] at h; simp at h
 rw [if_neg c2] at h
 by_cases c3 : f < 0 ∨ t ≤ f ∨ (d.sectors.length : Int) < t
 ·rw [if_pos c3] at h; simp at h
 rw [if_neg c3] at h
 by_cases c4 : ep < 0 ∨ 1000000000000000 < ep ∨ tail < 0 ∨ (t - f) * 64 < tail
 ·rw [if_pos c4] at h; simp at h
 exact ⟨⟨by simpa using c1, by simpa using c2⟩, by omega, by omega, by omega, by omega, by omega, by omega, by omega⟩
theorem X78 {pend : List Wr} {a : Int} {s : List UInt8} (hs : s.length = 64) (hp : ∀ w ∈ pend, w.b.length = 64) : ∀ n, (YZ pend a s n).length = 64
 | 0 => hs
 | n + 1 => by
  rw [YZ]
  cases h : pend[n]? with
  | none => exact X78 hs hp n
  | some w =>
   simp only
   split
   ·exact hp w (List.mem_of_getElem? h)
   ·exact X78 hs hp n
theorem X3L {d : Disk} (h : DOk d) {a : Nat} (ha : a < d.sectors.length) : (Yn d (a : Nat)).1.length = 64 := by
 obtain ⟨h1, h2, h3, h4⟩ := X0E h.v
 unfold Yn
 rw [if_neg (by rw [h.use]; simp), if_pos ⟨by omega, by omega⟩]
 refine X78 ?_ (fun w hw => (h4 w hw).2.2) _
 rw [Int.toNat_natCast, List.getElem?_eq_getElem ha]
 exact h3 _ (List.getElem_mem ha)
theorem VW {d : Disk} (h : DOk d) : ∀ (n f : Nat), f + n ≤ d.sectors.length → (Yd d f n).length = 64 * n
 | 0, f, _ => rfl
 | n + 1, f, hl => by
  rw [Yd, List.length_append, X3L h (by omega), VW h n (f + 1) (by omega)]
  omega
theorem X60 (d : Disk) (hl : UE d) : Con Tryz.prog 36 [] [XK d] [] (X1A (XK (Yv d).1) (Yv d).2) := by
 refine Xa (xs := [XK (Yv d).1, ai (Yv d).2]) Tryz.func36 rfl Tryz.ntmps36 rfl rfl rfl (fun E => ?_)
 by_cases hu : YF d = 0
 ·rw [show Yv d = (⟨YC d (fun _ => 64), [], d.on⟩, 0) by simp [Yv, hu]]
  have hok := X13 (X56 hu).1
  refine Qie ?_; refine QOd ?_; refine Qje ?_; refine Z9 (hcon := XbT d.sectors d.pending d.on hok hl.1 hl.2.1) ?_; refine Z9 (hcon := X88 (YC d (fun _ => 64)) d.sectors.length (X05 _ _ _ _) d.on) ?_; exact Qle
 ·rw [show Yv d = (Y8, YF d) by simp [Yv, hu]]
  refine Qie ?_; exact Qne
theorem X9j (d : Disk) (a : Int) (b : List UInt8) (hl : UE d) (hbl : b.length ≤ 4096) : Con Tryz.prog 35 [] [XK d, ai a, .d (Xf b)] [] (X1A (XK (YO d a b).1) (YO d a b).2) := by
 refine Xa (xs := [XK (YO d a b).1, ai (YO d a b).2]) Tryz.func35 rfl Tryz.ntmps35 rfl rfl rfl (fun E => ?_)
 by_cases hu : YF d = 0
 ·have hp := hl.2.1
  by_cases h1 : a < 0
  ·rw [show YO d a b = (Y8, 1) by simp [YO, hu]; omega]
   repeat first | refine X0 ?_ | (refine JR ?_; (repeat first | refine Z1 ?_ | refine Z0 ?_ | refine ZL ?_ | refine Z8 ?_ | refine Zv ?_ | refine Zw (γ := 101) ?_ | refine ZA (γ := 100) ?_ | refine Zy ?_ | refine Zx ?_ | refine Zn ?_ | refine Zo ?_ | refine Z9 (hcon := X0j d) ?_); refine JD ?_) | refine JT ?_ | refine JF ?_ | refine X4 ?_
   exact Qme
  by_cases h2 : (d.sectors.length : Int) ≤ a
  ·rw [show YO d a b = (Y8, 1) by simp [YO, hu]; omega]
   refine Qie ?_; refine Qoe ?_; refine QQa ?_; refine Qtc ?_; exact Qme
  by_cases h3 : b.length ≠ 64
  ·rw [show YO d a b = (Y8, 1) by simp [YO, hu]; omega]
   refine Qie ?_; refine Qpe ?_; refine Zq ?_; refine Qtc ?_; exact Qme
  have h3 : b.length = 64 := by simpa using h3
  rw [show YO d a b = (⟨d.sectors, d.pending ++ [⟨a, b⟩], d.on⟩, 0) by simp only [YO, hu]; rw [if_neg (by simp), if_pos ⟨by omega, by omega, h3⟩]]
  refine Qie ?_; refine Qpe ?_; refine Qha ?_; refine Qje ?_; refine QWd ?_; refine Qb ?_; refine ZB ?_; refine QHa ?_; refine Qy ?_; refine Z9 (hcon := X9h (b.map X6) (by simp; omega)) ?_; refine Zx ?_; refine Qpd ?_; refine ZB ?_; refine Qhd ?_; refine Qgb ?_; refine Z9 (hcon := Xd9 ⟨d.sectors, d.pending ++ [⟨a, b⟩], d.on⟩ (d.pending.map cWr ++ [cWr ⟨a, b⟩]) ((d.pending.map cWr).length + 1) (by simp) (by simp)) ?_; exact Qle
 ·rw [show YO d a b = (Y8, YF d) by simp [YO, hu]]
  refine Qie ?_; exact Qne
theorem XeU (d : Disk) : Con Tryz.prog 54 [] [.agg [.d (XA d.pending), .d (XE d.sectors), ab d.on]] [] (XK d) := by
 refine Xa (xs := [XK d]) Tryz.func54 rfl Tryz.ntmps54 rfl rfl rfl (fun E => ?_)
 refine Qge ?_; refine QIa ?_; refine ZB ?_; refine Qed ?_; refine Zx ?_; exact Qqe
theorem XhO {b r : List UInt8} (hb : b.length = 64) (hr : r.length = 64) : List.take (min (List.map X6 b).length (List.map X6 r).length) (List.map X6 b) ++ List.drop (min (List.map X6 b).length (List.map X6 r).length) (List.map X6 r) = List.map X6 b := by
 rw [List.length_map, List.length_map, hb, hr, List.take_of_length_le (by simp [hb]), List.drop_of_length_le (by simp [hr])]; simp
theorem X3E {d : Disk} {a : Int} {s : List UInt8} (hok : okW d.sectors d.pending) (hs : s.length = 64) : ∀ k, (YZ d.pending a s k).length = 64
 | 0 => hs
 | k + 1 => by
  simp only [YZ]
  split
  ·rename_i w hw
   split
   ·exact (hok.2 w (List.mem_of_getElem? hw)).2.2
   ·exact X3E hok hs k
  ·exact X3E hok hs k
theorem Xab (n : Int) : Con Tryz.prog 31 [] [ai n] [] (X1A (XK (X0c n).1) (X0c n).2) := by
 refine Xa (xs := [XK (X0c n).1, ai (X0c n).2]) Tryz.func31 rfl Tryz.ntmps31 rfl rfl rfl (fun E => ?_)
 by_cases h1 : n < 1
 ·rw [show X0c n = (Y8, 1) by unfold X0c; rw [if_neg (by omega)]]
  refine Qka ?_; refine Qw ?_; refine Z8 ?_; refine QIb ?_; refine Qtc ?_; exact Qre
 by_cases h2 : 4096 < n
 ·rw [show X0c n = (Y8, 1) by unfold X0c; rw [if_neg (by omega)]]
  refine Qka ?_; refine Qw ?_; refine QOa ?_; refine Qba ?_; refine Qtc ?_; exact Qre
 obtain ⟨m, rfl⟩ : ∃ m : Nat, n = m := ⟨n.toNat, by omega⟩
 rw [show X0c (m : Int) = (⟨List.replicate m Uc, [], true⟩, 0) by unfold X0c; rw [if_pos (by omega), Int.toNat_natCast]]
 refine Qka ?_; refine Qw ?_; refine QOa ?_; refine Zs ?_; refine Qha ?_; refine Qb ?_; refine Zx ?_; refine Qrd ?_; refine Qkb ?_; refine QG ?_; refine Xi (X0a 101 1 121 1 (cs := [ani, ani, ab true]) rfl rfl rfl rfl rfl) ?_
 refine Xu (fun k : Nat => k ≤ m) (fun k => ⟨25, [(2, .ptr 100 0), (4, .ptr 101 0), (13, ai m), (14, ai k)], [(100, .box [ani, ani, ab false]), (101, .box [ani, .own 121 k, ab true]), (121, .row 1 ((List.replicate k Uc).map Yj))]⟩) (fun k => m - k) 0 (by omega)
  (X9 rfl ⟨JL, JL, JL, JL, trivial⟩ ⟨rfl, rfl, rfl, trivial⟩) ?_
 intro k hk
 refine QB ?_
 refine VB rfl (fun h => ?_) (fun h => ?_)
 ·have h := of_decide_eq_true h
  refine QC ?_; refine QUc ?_; refine ZS ?_; refine Qpd ?_; refine Qhd ?_; refine QK ?_
  refine ⟨k + 1, by omega, by omega, X9 rfl ⟨JL, JL, JL, JL, trivial⟩ ⟨rfl, ?_, ?_, trivial⟩⟩
  ·refine Eq.trans (b := AObj.box [ani, .own 121 _, ab true]) rfl ?_
   congr 3; simp
  ·refine Eq.trans (b := AObj.row 1 (_ ++ [_])) rfl ?_
   rw [show List.replicate (k + 1) Uc = List.replicate k Uc ++ [Uc] from List.replicate_succ', List.map_append]; rfl
 have h := of_decide_eq_false h
 obtain rfl : k = m := by omega
 refine Xi (XL 121 rfl) ?_; refine Xi (Vn 101 1 121 (cs := [ani, .own 121 k, ab true]) (sz := 1) (xs := (List.replicate k Uc).map Yj) rfl rfl rfl (by simp)) ?_; refine Xi (XJ 101 (cs := [ani, .d (XE (List.replicate k Uc)), ab true]) (cs' := [.d (XA []), .d (XE (List.replicate k Uc)), ab true]) rfl ⟨AVal.le_nil 2, AVal.le_refl _, AVal.le_refl _, trivial⟩ rfl) ?_; refine Xp ?_; refine Qgb ?_; refine Z9 (hcon := XeU ⟨List.replicate k Uc, [], true⟩) ?_; exact Qpa
theorem X8X (d : Disk) (a : Int) (hl : UE d) : Con Tryz.prog 33 [] [XK d, ai a] [] (X1A (.d (Xf (Yn d a).1)) (Yn d a).2) := by
 refine Xa (xs := [.d (Xf (Yn d a).1), ai (Yn d a).2]) Tryz.func33 rfl Tryz.ntmps33 rfl rfl rfl (fun E => ?_)
 by_cases hu : YF d = 0
 ·have hp := hl.2.1
  by_cases h1 : a < 0
  ·rw [show Yn d a = ([], 1) by simp [Yn, hu]; omega]
   repeat first | refine X0 ?_ | (refine JR ?_; (repeat first | refine Z1 ?_ | refine Z0 ?_ | refine ZL ?_ | refine Z8 ?_ | refine Zv ?_ | refine ZA (γ := 100) ?_ | refine Zn ?_ | refine Zo ?_ | refine Z9 (hcon := X0j d) ?_); refine JD ?_) | refine JT ?_ | refine JF ?_ | refine X4 ?_
   exact Qse
  by_cases h2 : (d.sectors.length : Int) ≤ a
  ·rw [show Yn d a = ([], 1) by simp [Yn, hu]; omega]
   refine QFa ?_; refine QAa ?_; refine Qkc ?_; refine Z9 (hcon := X0j d) ?_; refine Qoe ?_; refine QPb ?_; refine QAa ?_; exact Qse
  obtain ⟨k, rfl⟩ : ∃ k : Nat, a = k := ⟨a.toNat, by omega⟩
  obtain ⟨s, hs⟩ := Xx (l := d.sectors) (k := k) (by omega)
  have hsl := hl.2.2.1 s (List.mem_of_getElem? hs)
  repeat first | refine X0 ?_ | (refine JR ?_; (repeat first | refine Z1 ?_ | refine Z0 ?_ | refine ZB ?_ | refine ZC ?_ | refine ZL ?_ | refine Zk ?_ | refine Zd ?_ | refine Z8 ?_ | refine Z2 ?_ | refine Zv ?_ | refine ZA (γ := 100) ?_ | refine Zq ?_ | refine Zj ?_ | refine Z9 (hcon := X0j d) ?_ | refine Z9 (hcon := X8e (s.map X6) (by simp; omega)) ?_); refine JD ?_) | refine JF ?_ | refine X5 ?_ | refine X4 ?_
  have hok := X13 (X56 hu).1
  rw [show Yn d (k : Int) = (YZ d.pending k s d.pending.length, 0) by unfold Yn; rw [if_neg (by simpa using hu), if_pos (by omega), Int.toNat_natCast, hs]; rfl]
  refine Xu (fun j : Nat => j ≤ d.pending.length) (fun j => ⟨47, [(1, ai k), (2, .ptr 100 0), (7, .own 110 64), (31, .d (XA d.pending)), (32, ai (d.pending.map cWr).length), (33, ai j)], [(100, .box [.d (XE d.sectors), .d (XA d.pending), ab d.on]), (110, .row 1 ((YZ d.pending k s j).map X6))]⟩) (fun j => d.pending.length - j) 0 (by omega)
   (X9 rfl ⟨JL, JL, (by refine AVal.le_of_eq ?_; refine Eq.trans (b := AVal.own 110 _) rfl ?_; simp [hok.1 s (List.mem_of_getElem? hs)]), JL, JL, JL, trivial⟩ ⟨rfl, rfl, trivial⟩) ?_
  intro j hj
  refine QB ?_
  refine VB rfl (fun h => ?_) (fun h => ?_)
  ·have h := of_decide_eq_true h
   simp only [List.length_map] at h
   obtain ⟨⟨at_, b⟩, hw⟩ := Xx (l := d.pending) (k := j) (by omega)
   obtain ⟨b1, b2, b3⟩ := hok.2 _ (List.mem_of_getElem? hw)
   simp only at b1 b2 b3
   have hbl := X3E (a := (k : Int)) hok (hok.1 s (List.mem_of_getElem? hs)) j
   by_cases hat : at_ = (k : Int)
   ·subst hat
    refine Qce ?_; refine QVa ?_; refine Qrd ?_; refine QYa ?_; refine Zl ?_; refine Qh ?_; refine JR ?_; refine QKa ?_; refine Z0e ?_; refine JD ?_; refine QK ?_
    refine ⟨j + 1, by omega, by omega, X9 rfl ⟨JL, JL, JL, JL, JL, JL, trivial⟩ ⟨rfl, ?_, trivial⟩⟩
    refine Eq.trans (b := AObj.row 1 _) rfl ?_
    simp only [YZ, hw, if_true]
    exact congrArg (AObj.row 1) (XhO b3 hbl)
   ·refine Qce ?_; refine QVa ?_; refine Qrd ?_; refine QYa ?_; refine Qqb ?_; refine QK ?_
    refine ⟨j + 1, by omega, by omega, X9 rfl ⟨JL, JL, JL, JL, JL, JL, trivial⟩ ⟨rfl, ?_, trivial⟩⟩
    refine Eq.trans (b := AObj.row 1 _) rfl ?_
    simp [YZ, hw, hat]
  have h := of_decide_eq_false h
  simp only [List.length_map] at h
  obtain rfl : j = d.pending.length := by omega
  have hbl := X3E (a := (k : Int)) hok (hok.1 s (List.mem_of_getElem? hs)) d.pending.length
  refine Xp ?_; refine Qf ?_; refine QAa ?_
  refine X1 ⟨_, St.le_trans (XL 110 rfl) (Yc 4 110 rfl rfl (by simp [hbl])), ⟨rfl, rfl, trivial⟩, X3 _⟩
 ·rw [show Yn d a = ([], YF d) by simp [Yn, hu]]
  refine QFa ?_; refine QAa ?_; refine Qkc ?_; refine Z9 (hcon := X0j d) ?_; refine Qx ?_; refine Qte ?_; refine QAa ?_; exact Qse
end Go.Fw
