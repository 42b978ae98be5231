/- Labels and properties checked; the program's and the reference's. -/
import Derived.Test.YtbhleedlnaakkaaK12
set_option maxHeartbeats 16000000
namespace Go.Fw
open Go Go.Proofs
set_option maxRecDepth 100000
set_option linter.unusedVariables false
set_option linter.unusedSimpArgs false
def X07 (p : Prp) : Prop := p.key.length ≤ 9223372036854775807 ∧ UD p.v
theorem VL {α : Type} {l : List α} {i : Nat} {x : α} (h : l[i]? = some x) : l.take (i + 1) = l.take i ++ [x] := by
 obtain ⟨hi, rfl⟩ := List.getElem?_eq_some_iff.1 h
 rw [List.take_add_one, List.getElem?_eq_getElem hi]; rfl
theorem X5Q {l : List Prp} {i : Nat} {x : Prp} (h : l[i]? = some x) : ((l.take (i + 1)).map Prp.key).map Xo = ((l.take i).map Prp.key).map Xo ++ [Xo x.key] := by
 rw [VL h]; simp
theorem X8U {l : List Prp} {i : Nat} {x : Prp} (h : l[i]? = some x) : ((l.drop i).map Prp.v).all XJ = (XJ x.v && ((l.drop (i + 1)).map Prp.v).all XJ) := by
 obtain ⟨hi, rfl⟩ := List.getElem?_eq_some_iff.1 h
 rw [List.drop_eq_getElem_cons hi, List.map_cons, List.all_cons]
theorem X4M {ls : List (List UInt8)} {ps : List Prp} (h : 8 < ls.length ∨ 16 < ps.length) : Yf ls ps = 4 := if_pos h
theorem X8M {ls : List (List UInt8)} {ps : List Prp} (h1 : ¬ 8 < ls.length) (h2 : ¬ 16 < ps.length) : Yf ls ps = if ls.all Xg = false ∨ (ps.map Prp.key).all Xg = false then 6
 else if Yv ls = false ∨ Yv (ps.map Prp.key) = false then 26 else if (ps.map Prp.v).all XJ = false then 8 else 0 := if_neg (by omega)
theorem X46 (ls : List (List UInt8)) (ps : List Prp) (hls : ls.length ≤ 9223372036854775807) (hok : ∀ p ∈ ps, X07 p) : Con Try.prog 24 [] [.d (.sl 1 (ls.map Xo)), .d (.sl 6 (ps.map Xi))] [] (ai (Yf ls ps)) := by
 refine Xf (xs := [ai (Yf ls ps)]) Try.func24 rfl Try.ntmps24 rfl rfl rfl (fun E => ?_)
 have hlm : (ps.map Xi).length = ps.length := by simp
 have hlm2 : (ls.map Xo).length = ls.length := by simp
 by_cases h1 : 8 < ls.length
 ·rw [X4M (.inl h1)]
  have h1' : (8 : Int) < (ls.map Xo).length := by omega
  refine X0 ?_; refine JR ?_; refine Z0 ?_; refine JD ?_; refine X0 ?_; refine X0 ?_; refine JR ?_; refine Z1 ?_; refine Zw ?_; refine Za ?_; refine Z1 ?_; refine Z5 ?_; refine Z5 ?_; refine Z5 ?_
  refine Z4 ?_; refine JD ?_; refine JT ?_; refine X0 ?_; refine JR ?_; refine Z0 ?_; refine JD ?_
  exact X1 ⟨_, St.le_refl _, ⟨rfl, trivial⟩, X2 _⟩
 have h1' : ¬ (8 : Int) < (ls.map Xo).length := by omega
 by_cases h2 : 16 < ps.length
 ·rw [X4M (.inr h2)]
  have h2' : (16 : Int) < (ps.map Xi).length := by omega
  refine X0 ?_; refine JR ?_; refine Z0 ?_; refine JD ?_; refine X0 ?_; refine X0 ?_; refine JR ?_; refine Z1 ?_; refine Zw ?_; refine Za ?_; refine Z1 ?_; refine Z1 ?_; refine Zw ?_; refine Za ?_
  refine Z7 ?_; refine JD ?_; refine JT ?_; refine X0 ?_; refine JR ?_; refine Z0 ?_; refine JD ?_
  exact X1 ⟨_, St.le_refl _, ⟨rfl, trivial⟩, X2 _⟩
 have h2' : ¬ (16 : Int) < (ps.map Xi).length := by omega
 rw [X8M h1 h2]
 have hc1 := X2t ls hls
 have hc2 := X2t (ps.map Prp.key) (by simp only [List.length_map]; omega)
 have hr1 := X4x ls hls
 have hr2 := X4x (ps.map Prp.key) (by simp only [List.length_map]; omega)
 generalize ls.all Xg = n1 at *
 generalize Yv ls = r1 at *
 generalize (ps.map Prp.key).all Xg = n2 at *
 generalize Yv (ps.map Prp.key) = r2 at *
 generalize hG : (ps.map Prp.v).all XJ = G
 refine X0 ?_; refine JR ?_; refine Z0 ?_; refine JD ?_; refine X0 ?_; refine X0 ?_; refine JR ?_; refine Z1 ?_; refine Zw ?_; refine Za ?_; refine Z1 ?_; refine Z1 ?_; refine Zw ?_; refine Za ?_
 refine Z7 ?_; refine JD ?_; refine JF ?_; refine X3 ?_; refine X0 ?_; refine JR ?_; refine Z0 ?_; refine JD ?_; refine X0 ?_; refine X0 ?_; refine JR ?_; refine Z1 ?_; refine Zw ?_; refine Z1 ?_
 refine JD ?_; refine X4 ?_
 refine XH (Ut 5 130 1 rfl rfl rfl) ?_
 refine XD (fun i : Nat => i ≤ ps.length) (fun i => ⟨55, [(0, .d (.sl 1 (ls.map Xo))), (1, .d (.sl 6 (ps.map Xi))), (18, .d (.sl 6 (ps.map Xi))), (19, ai (ps.map Xi).length), (5, .own 130 (((ps.take i).map Prp.key).map Xo).length), (20, ai i)], [(130, .row 1 (((ps.take i).map Prp.key).map Xo))]⟩) (fun i => ps.length - i) 0 (Nat.zero_le _)
  (X8 rfl JM ⟨rfl, trivial⟩) ?_
 intro i hi
 by_cases hil : i < ps.length
 case pos =>
  have hn : (i : Int) < (ps.map Xi).length := by omega
  obtain ⟨x, hx⟩ := Xs (l := ps) hil
  have hxc : (ps.map Xi)[i]? = some (Xi x) := Xw hx
  have hroom : (((ps.take i).map Prp.key).map Xo).length ≤ 4294967296 := by simp only [List.length_map, List.length_take]; omega
  have hsn := X5Q hx
  obtain ⟨key, ⟨vk, vn, vd, vs, vl⟩⟩ := x
  simp only [Xi, Y9] at hxc hsn
  refine X0 ?_; refine JR ?_; refine Ze ?_; refine JD ?_; refine X0 ?_; refine JT ?_; refine X3 ?_; refine X0 ?_; refine X4 ?_; refine X0 ?_; refine JR ?_; refine Zy ?_; refine Zz ?_
  refine Zh (γ := 100) ?_; refine Zk ?_; refine JD ?_; refine JR ?_; refine Z1 ?_; refine Zo ?_; refine Zp ?_; refine ZA ?_; refine ZG ?_; refine Z0 ?_; refine JD ?_; refine JR ?_; refine Zf ?_; refine Z1 ?_; refine JD ?_
  refine ⟨i + 1, hil, by omega, ?_⟩
  rw [hsn]
  exact X8 rfl ⟨JL, JL, JL, JL, AVal.le_of_eq (by refine Eq.trans (b := AVal.own 130 (_ + _)) rfl ?_; simp only [List.length_append, List.length_map, List.length_cons, List.length_nil]), JL, trivial⟩ ⟨rfl, trivial⟩
 obtain rfl : i = ps.length := by omega
 have hn : ¬ ((ps.length : Nat) : Int) < (ps.map Xi).length := by omega
 rw [List.take_length]
 refine X0 ?_; refine JR ?_; refine Ze ?_; refine JD ?_; refine X0 ?_; refine JF ?_; refine Xz ?_; refine X0 ?_; refine X0 ?_
 refine XH (U0 130 rfl) ?_
 refine XH (U3 5 130 rfl rfl rfl) ?_
 by_cases b1 : n1 = false ∨ n2 = false
 ·rw [if_pos b1]
  cases n1 <;> cases n2 <;> first | (simp at b1; done) | skip
  ·refine JR ?_; refine Z1 ?_; refine Zc (hcon := hc1) ?_; refine Z1 ?_; refine Z5 ?_; refine Z5 ?_; refine Z4 ?_; refine JD ?_; refine JT ?_; refine X0 ?_; refine JR ?_; refine Z0 ?_; refine JD ?_
   exact X1 ⟨_, St.le_refl _, ⟨rfl, trivial⟩, X2 _⟩
  ·refine JR ?_; refine Z1 ?_; refine Zc (hcon := hc1) ?_; refine Z1 ?_; refine Z5 ?_; refine Z5 ?_; refine Z4 ?_; refine JD ?_; refine JT ?_; refine X0 ?_; refine JR ?_; refine Z0 ?_; refine JD ?_
   exact X1 ⟨_, St.le_refl _, ⟨rfl, trivial⟩, X2 _⟩
  ·refine JR ?_; refine Z1 ?_; refine Zc (hcon := hc1) ?_; refine Z1 ?_; refine Z1 ?_; refine Zc (hcon := hc2) ?_; refine Z7 ?_; refine JD ?_; refine JT ?_; refine X0 ?_; refine JR ?_; refine Z0 ?_; refine JD ?_
   exact X1 ⟨_, St.le_refl _, ⟨rfl, trivial⟩, X2 _⟩
 rw [if_neg b1]
 obtain ⟨rfl, rfl⟩ : n1 = true ∧ n2 = true := by cases n1 <;> cases n2 <;> simp_all
 by_cases b2 : r1 = false ∨ r2 = false
 ·rw [if_pos b2]
  cases r1 <;> cases r2 <;> first | (simp at b2; done) | skip
  ·refine JR ?_; refine Z1 ?_; refine Zc (hcon := hc1) ?_; refine Z1 ?_; refine Z1 ?_; refine Zc (hcon := hc2) ?_; refine Z7 ?_; refine JD ?_; refine JF ?_; refine X3 ?_; refine X0 ?_; refine X0 ?_
   refine JR ?_; refine Z1 ?_; refine Zc (hcon := hr1) ?_; refine Zd ?_; refine Z1 ?_; refine Z5 ?_; refine Z5 ?_; refine Z5 ?_; refine Z4 ?_; refine JD ?_; refine JT ?_; refine X0 ?_; refine JR ?_; refine Z0 ?_
   refine JD ?_
   exact X1 ⟨_, St.le_refl _, ⟨rfl, trivial⟩, X2 _⟩
  ·refine JR ?_; refine Z1 ?_; refine Zc (hcon := hc1) ?_; refine Z1 ?_; refine Z1 ?_; refine Zc (hcon := hc2) ?_; refine Z7 ?_; refine JD ?_; refine JF ?_; refine X3 ?_; refine X0 ?_; refine X0 ?_
   refine JR ?_; refine Z1 ?_; refine Zc (hcon := hr1) ?_; refine Zd ?_; refine Z1 ?_; refine Z5 ?_; refine Z5 ?_; refine Z5 ?_; refine Z4 ?_; refine JD ?_; refine JT ?_; refine X0 ?_; refine JR ?_; refine Z0 ?_
   refine JD ?_
   exact X1 ⟨_, St.le_refl _, ⟨rfl, trivial⟩, X2 _⟩
  ·refine JR ?_; refine Z1 ?_; refine Zc (hcon := hc1) ?_; refine Z1 ?_; refine Z1 ?_; refine Zc (hcon := hc2) ?_; refine Z7 ?_; refine JD ?_; refine JF ?_; refine X3 ?_; refine X0 ?_; refine X0 ?_
   refine JR ?_; refine Z1 ?_; refine Zc (hcon := hr1) ?_; refine Zd ?_; refine Z1 ?_; refine Z1 ?_; refine Zc (hcon := hr2) ?_; refine Zd ?_; refine Z7 ?_; refine JD ?_; refine JT ?_; refine X0 ?_; refine JR ?_
   refine Z0 ?_; refine JD ?_
   exact X1 ⟨_, St.le_refl _, ⟨rfl, trivial⟩, X2 _⟩
 rw [if_neg b2]
 obtain ⟨rfl, rfl⟩ : r1 = true ∧ r2 = true := by cases r1 <;> cases r2 <;> simp_all
 refine JR ?_; refine Z1 ?_; refine Zc (hcon := hc1) ?_; refine Z1 ?_; refine Z1 ?_; refine Zc (hcon := hc2) ?_; refine Z7 ?_; refine JD ?_; refine JF ?_; refine X3 ?_; refine X0 ?_; refine X0 ?_
 refine JR ?_; refine Z1 ?_; refine Zc (hcon := hr1) ?_; refine Zd ?_; refine Z1 ?_; refine Z1 ?_; refine Zc (hcon := hr2) ?_; refine Zd ?_; refine Z7 ?_; refine JD ?_; refine JF ?_; refine X3 ?_; refine X0 ?_
 refine X0 ?_; refine JR ?_; refine Z1 ?_; refine Zw ?_; refine Z1 ?_; refine JD ?_; refine X4 ?_
 clear hi hil hn b1 b2 h1 h2
 refine XD (fun i : Nat => i ≤ ps.length ∧ ((ps.drop i).map Prp.v).all XJ = G) (fun i => ⟨55, [(1, .d (.sl 6 (ps.map Xi))), (44, .d (.sl 6 (ps.map Xi))), (45, ai (ps.map Xi).length), (46, ai i)], []⟩) (fun i => ps.length - i) 0 ⟨by omega, by simpa using hG⟩
  (X8 rfl JM trivial) ?_
 rintro i ⟨hi, hg⟩
 by_cases hil : i < ps.length
 case neg =>
  have hn' : ¬ (i : Int) < (ps.map Xi).length := by omega
  rw [List.drop_of_length_le (by omega), List.map_nil, List.all_nil] at hg
  subst hg
  rw [if_neg (by simp)]
  refine X0 ?_; refine JR ?_; refine Ze ?_; refine JD ?_; refine X0 ?_; refine JF ?_; refine Xz ?_; refine X0 ?_; refine JR ?_; refine Z0 ?_; refine JD ?_
  exact X1 ⟨_, St.le_refl _, ⟨rfl, trivial⟩, X2 _⟩
 have hn' : (i : Int) < (ps.map Xi).length := by omega
 obtain ⟨x, hx⟩ := Xs (l := ps) hil
 have hxc : (ps.map Xi)[i]? = some (Xi x) := Xw hx
 have hxo := hok x (List.mem_of_getElem? hx)
 have hu := X67 x.v
 rw [X8U hx] at hg
 generalize XJ x.v = pv at *
 obtain ⟨key, ⟨vk, vn, vd, vs, vl⟩⟩ := x
 simp only [XS, Xi, Y9] at hu hxc
 cases pv with
 | true =>
  rw [Bool.true_and] at hg
  refine X0 ?_; refine JR ?_; refine Ze ?_; refine JD ?_; refine X0 ?_; refine JT ?_; refine X3 ?_; refine X0 ?_; refine X4 ?_; refine X0 ?_; refine JR ?_; refine Zy ?_; refine Zz ?_
  refine Zh (γ := 100) ?_; refine Zk ?_; refine JD ?_; refine X0 ?_; refine JR ?_; refine Zo ?_; refine ZD ?_; refine Zc (hcon := hu) ?_; refine Zd ?_; refine JD ?_; refine JF ?_; refine X3 ?_; refine JR ?_
  refine Zf ?_; refine Z1 ?_; refine JD ?_
  exact ⟨i + 1, ⟨by omega, hg⟩, by omega, X8 rfl JM trivial⟩
 | false =>
  rw [Bool.false_and] at hg
  subst hg
  rw [if_pos rfl]
  refine X0 ?_; refine JR ?_; refine Ze ?_; refine JD ?_; refine X0 ?_; refine JT ?_; refine X3 ?_; refine X0 ?_; refine X4 ?_; refine X0 ?_; refine JR ?_; refine Zy ?_; refine Zz ?_
  refine Zh (γ := 100) ?_; refine Zk ?_; refine JD ?_; refine X0 ?_; refine JR ?_; refine Zo ?_; refine ZD ?_; refine Zc (hcon := hu) ?_; refine Zd ?_; refine JD ?_; refine JT ?_; refine X0 ?_; refine JR ?_
  refine Z0 ?_; refine JD ?_
  exact X1 ⟨_, St.le_refl _, ⟨rfl, trivial⟩, X2 _⟩
end Go.Fw
namespace Go.Fw
open Go
set_option linter.unusedVariables false
set_option linter.unusedSimpArgs false
def Ye : List Prp → List UInt8 → Option Val
 | [], _ => none
 | p :: r, key => if p.key = key then some p.v else Ye r key
def Yp (ls : List (List UInt8)) (s : List UInt8) : Bool := ls.any fun x => decide (s = x)
def eqV (a b : Val) : Bool := decide (a.kind = b.kind ∧ a.n = b.n ∧ a.s = b.s)
def Xk (p : Int × Int) : List D := [.v (.int .i64 p.1), .v (.int .i64 p.2)]
def Uo (r : Rul) (l : List Prp) : Bool :=
 if r.kind = 2 ∨ r.kind = 4 then (Ye l r.key).isNone else match Ye l r.key with
  | some v => decide (v.kind ≠ r.n)
  | none => false
def U2 (r : Rul) (n : Nod) : Option Val := match Ye n.props r.key with
 | some v => if Yp n.labels r.name then some v else none
 | none => none
def XK (r : Rul) (l : List Nod) : List (Int × Val) := l.filterMap fun n => (U2 r n).map fun v => (n.id, v)
def Yt : List (Int × Val) → List (Int × Int)
 | [] => []
 | a :: r => (r.filter fun b => eqV a.2 b.2).map (fun b => (a.1, b.1)) ++ Yt r
def YA (r : Rul) (l : List Nod) : List (Int × Int) := (l.filter fun n => Yp n.labels r.name && Uo r n.props).map fun n => (n.id, 0)
def Yh (l : List Nod) (id : Int) : Option Nod := l.find? fun n => decide (n.id = id)
abbrev V4 : Nod := ⟨0, [], []⟩
def V2 (l : List Nod) (id : Int) (label : List UInt8) : Bool := decide (label ≠ []) && !Yp ((Yh l id).getD V4).labels label
def VZ (n : Nod) : Prop := n.labels.length ≤ 1000 ∧ n.props.length ≤ 1000 ∧ ∀ p ∈ n.props, XJ p.v = true
def X0m (r : Rul) (ns : List Nod) (e : Edg) : Bool := if r.kind = 6 then V2 ns e.src r.src || V2 ns e.dst r.dst else Uo r e.props
def XQ (r : Rul) (ns : List Nod) (l : List Edg) : List (Int × Int) := (l.filter fun e => decide (e.typ = r.name) && X0m r ns e).map fun e => (e.id, 0)
def Us (r : Rul) (l : List Edg) (id : Int) : Nat := l.countP fun e => decide (e.typ = r.name) && decide (e.src = id)
def YD (r : Rul) (es : List Edg) (l : List Nod) : List (Int × Int) := (l.filter fun n => decide (r.n < (Us r es n.id : Nat))).map fun n => (n.id, 0)
def X1w (r : Rul) (g : Gra) : List (Int × Int) := YD r g.edges g.nodes
def ofV (r : Rul) (g : Gra) : List (Int × Int) :=
 if r.kind = 1 then Yt (XK r g.nodes) else if r.kind = 2 ∨ r.kind = 3 then YA r g.nodes else if r.kind = 7 then X1w r g else XQ r g.nodes g.edges
def ofS (r : Rul) (g : Gra) : List (Int × Int) := if Yy r ≠ 0 ∨ Ya g ≠ 0 then [] else ofV r g
structure Vio where
 rule : Int
 a : Int
 b : Int
def Xt (v : Vio) : List D := [.v (.int .i64 v.rule), .v (.int .i64 v.a), .v (.int .i64 v.b)]
def X0z (g : Gra) : Nat → List Rul → List Vio
 | _, [] => []
 | i, r :: s => (ofV r g).map (fun p => ⟨(i : Nat), p.1, p.2⟩) ++ X0z g (i + 1) s
def XY (s : List Rul) (g : Gra) : List Vio := if Y1 s = false ∨ Ya g ≠ 0 then [] else X0z g 0 s
def VB (k : Int) : Int := if k = 1 then 13 else if k = 2 ∨ k = 4 then 14 else if k = 3 ∨ k = 5 then 15 else if k = 6 then 16 else if k = 7 then 17 else 0
def UU (s : List Rul) (g : Gra) : Int := match XY s g with
 | [] => 0
 | v :: _ => match s[v.rule.toNat]? with | some r => VB r.kind | none => 0
theorem X5v {l : List Prp} {i : Nat} {p : Prp} {key : List UInt8} (h : l[i]? = some p) : Ye (l.drop i) key = if p.key = key then some p.v else Ye (l.drop (i + 1)) key := by
 obtain ⟨hi, h⟩ := List.getElem?_eq_some_iff.1 h
 rw [List.drop_eq_getElem_cons hi, h, Ye]
theorem X6C {α β : Type} {f : α → Option β} {l : List α} {i : Nat} {x : α} (h : l[i]? = some x) : (l.take (i + 1)).filterMap f = (l.take i).filterMap f ++ (f x).toList := by
 rw [VL h, List.filterMap_append]
 cases hf : f x <;> simp [hf]
theorem X1G {α β : Type} {p : α → Bool} {f : α → β} {l : List α} {i : Nat} {x : α} (h : l[i]? = some x) : ((l.take (i + 1)).filter p).map f = ((l.take i).filter p).map f ++ if p x then [f x] else [] := by
 rw [VL h, List.filter_append, List.map_append]
 cases hp : p x <;> simp [hp]
theorem X4U {α : Type} {p : α → Bool} {l : List α} {i : Nat} {x : α} (h : l[i]? = some x) : (l.take (i + 1)).countP p = (l.take i).countP p + if p x then 1 else 0 := by
 rw [VL h, List.countP_append]
 cases hp : p x <;> simp [hp]
theorem X6P {l : List Nod} {i : Nat} {n : Nod} {id : Int} (h : l[i]? = some n) : Yh (l.drop i) id = if n.id = id then some n else Yh (l.drop (i + 1)) id := by
 obtain ⟨hi, h⟩ := List.getElem?_eq_some_iff.1 h
 unfold Yh
 rw [List.drop_eq_getElem_cons hi, h, List.find?_cons]
 by_cases q : n.id = id <;> simp [q]
theorem X3J : ∀ l : List (Int × Val), (Yt l).length ≤ l.length * l.length
 | [] => Nat.le_refl _
 | a :: r => by
  rw [Yt, List.length_append, List.length_map, List.length_cons]
  have h1 := X3J r
  have h2 := List.length_filter_le (fun b => eqV a.2 b.2) r
  have : (r.length + 1) * (r.length + 1) = r.length * r.length + r.length + r.length + 1 := by rw [Nat.add_mul, Nat.mul_add]; omega
  omega
theorem X1K (r : Rul) (l : List Nod) : (XK r l).length ≤ l.length := List.length_filterMap_le _ _
theorem Vv {k n d : Int} {s : List UInt8} {l : List Val} (h : XJ (.mk k n d s l) = true) : X6 8 (.mk k n d s l) = true ∧ (k = 1 ∨ k = 2 ∨ k = 4) ∧ d = 0 ∧ l = [] ∧ (k ≠ 4 → s = []) ∧ (k = 4 → n = 0) ∧ s.length ≤ 100 ∧ (k = 2 → -1000000000000000 ≤ n ∧ n ≤ 1000000000000000) := by
 obtain ⟨h1, h2⟩ := X1Q h
 have h2 : k = 1 ∨ k = 2 ∨ k = 4 := h2
 refine ⟨h1, h2, ?_⟩
 rw [X6] at h1
 rcases h2 with rfl | rfl | rfl
 ·simp at h1
  exact ⟨h1.1.1.1, h1.1.2, fun _ => h1.1.1.2, by simp, by rw [h1.1.1.2]; simp, by simp⟩
 ·simp at h1
  exact ⟨h1.1.1.1, h1.1.2, fun _ => h1.1.1.2, by simp, by rw [h1.1.1.2]; simp, fun _ => h1.2⟩
 ·simp at h1
  exact ⟨h1.1.1, h1.1.2, by simp, fun _ => h1.2.1.1, h1.2.1.2, by simp⟩
end Go.Fw
