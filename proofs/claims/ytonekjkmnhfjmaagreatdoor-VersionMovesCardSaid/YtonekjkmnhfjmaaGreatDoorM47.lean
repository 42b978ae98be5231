/- Bytes, rules, strings and properties compared with themselves. -/
import Derived.Test.YtonekjkmnhfjmaaGreatDoorM20
import Derived.Test.YtonekjkmnhfjmaaGreatDoorM25
import Derived.Test.YtonekjkmnhfjmaaGreatDoorM26
set_option maxHeartbeats 16000000
namespace Go.Fw
open Go Go.Proofs
set_option maxRecDepth 100000
set_option linter.unusedVariables false
set_option linter.unusedSimpArgs false
theorem Xdn (l : List (List UInt8)) (hl : l.length ≤ 9223372036854775807) : Con Tryz.prog 107 [] [.d (.sl 1 (l.map Xb)), .d (.sl 1 (l.map Xb))] [] (ab true) := by
 refine Xc (xs := [ab true]) Tryz.func107 rfl Tryz.ntmps107 rfl rfl rfl (fun E => ?_)
 have hlm : (l.map Xb).length = l.length := by simp
 refine Qdh ?_
 refine Xz (fun i : Nat => i ≤ l.length) (fun i => ⟨26, [(0, .d (.sl 1 (l.map Xb))), (1, .d (.sl 1 (l.map Xb))), (5, ai i)], []⟩) (fun i => l.length - i) 0 (Nat.zero_le _)
  (X7 rfl JM trivial) ?_
 intro i hi
 by_cases hil : i < l.length
 case neg =>
  obtain rfl : i = l.length := by omega
  have hn : ¬ ((l.length : Nat) : Int) < (l.map Xb).length := by omega
  exact Qmc
 have hn : (i : Int) < (l.map Xb).length := by omega
 obtain ⟨x, hx⟩ := Xu (l := l) hil
 have hxc : (l.map Xb)[i]? = some (Xb x) := XD hx
 clear hx
 refine QGd ?_; refine Qnb ?_; refine ZM ?_; refine QEa ?_; exact ⟨i + 1, hil, by omega, X7 rfl JM trivial⟩
theorem X8L (l : List Prp) (hok : ∀ p ∈ l, Y3 p.v) (hl : l.length ≤ 9223372036854775807) : Con Tryz.prog 108 [] [.d (.sl 6 (l.map X6)), .d (.sl 6 (l.map X6))] [] (ab true) := by
 refine Xc (xs := [ab true]) Tryz.func108 rfl Tryz.ntmps108 rfl rfl rfl (fun E => ?_)
 have hlm : (l.map X6).length = l.length := by simp
 refine Qdh ?_
 refine Xz (fun i : Nat => i ≤ l.length) (fun i => ⟨42, [(0, .d (.sl 6 (l.map X6))), (1, .d (.sl 6 (l.map X6))), (5, ai i)], []⟩) (fun i => l.length - i) 0 (Nat.zero_le _)
  (X7 rfl JM trivial) ?_
 intro i hi
 by_cases hil : i < l.length
 case neg =>
  obtain rfl : i = l.length := by omega
  have hn : ¬ ((l.length : Nat) : Int) < (l.map X6).length := by omega
  exact Qmc
 have hn : (i : Int) < (l.map X6).length := by omega
 obtain ⟨x, hx⟩ := Xu (l := l) hil
 have hxc : (l.map X6)[i]? = some (X6 x) := XD hx
 have ho := X43 x.v (hok x (List.mem_of_getElem? hx))
 unfold X1p at ho
 obtain ⟨key, ⟨vk, vn, vd, vs, vl⟩⟩ := x
 simp only [X6, Y1, XG] at hxc ho
 clear hx
 refine Qnc ?_; refine Qgc ?_; refine Qf ?_; refine Zj ?_; refine ZN ?_; refine Zk ?_; refine ZM ?_; refine Qf ?_; refine Z1 ?_; refine Zj ?_; refine ZN ?_; refine ZK ?_; refine Qf ?_; refine Zj ?_; refine ZN ?_; refine ZK ?_; refine Z9 (hcon := ho) ?_; refine Zv ?_; refine QI ?_; refine QBa ?_; exact ⟨i + 1, hil, by omega, X7 rfl JM trivial⟩
theorem Xh4 (ns : List Nod) (es : List Edg) (nn ne : Int) (hg : GraHold ⟨ns, es, nn, ne⟩) : Con Tryz.prog 62 [] [.agg [.d (.sl 3 (ns.map X9)), .d (.sl 5 (es.map Xe)), ai nn, ai ne], .agg [.d (.sl 3 (ns.map X9)), .d (.sl 5 (es.map Xe)), ai nn, ai ne]] [] (ab true) := by
 refine Xc (xs := [ab true]) Tryz.func62 rfl Tryz.ntmps62 rfl rfl rfl (fun E => ?_)
 have hln : (ns.map X9).length = ns.length := by simp
 have hle : (es.map Xe).length = es.length := by simp
 have hnl := hg.nl
 have hel := hg.el
 simp only at hnl hel
 refine Qad ?_; refine Qsb ?_; refine Zd ?_; refine QTa ?_; refine Zd ?_; refine Zv ?_; refine QZa ?_; refine Zd ?_; refine QTa ?_; refine Zd ?_; refine Zv ?_; refine QI ?_; refine Qua ?_
 refine Xz (fun i : Nat => i ≤ ns.length) (fun i => ⟨116, [(2, .ptr 100 0), (3, .ptr 101 0), (5, ai i)], [(100, .box [.d (.sl 3 (ns.map X9)), .d (.sl 5 (es.map Xe)), ai nn, ai ne]), (101, .box [.d (.sl 3 (ns.map X9)), .d (.sl 5 (es.map Xe)), ai nn, ai ne])]⟩) (fun i => ns.length - i) 0 (Nat.zero_le _)
  (X7 rfl JM ⟨rfl, rfl, trivial⟩) ?_
 intro i hi
 by_cases hil : i < ns.length
 case pos =>
  have hn : (i : Int) < (ns.map X9).length := by omega
  obtain ⟨x, hx⟩ := Xu (l := ns) hil
  have hxc : (ns.map X9)[i]? = some (X9 x) := XD hx
  have hh := hg.nodes x (List.mem_of_getElem? hx)
  have c1 := Xdn x.labels hh.1
  have c2 := X8L x.props (fun p hp => (hh.2.2.2 p hp).2) hh.2.2.1
  clear hh
  obtain ⟨id, labels, props⟩ := x
  simp only [X9] at hxc c1 c2
  clear hx
  refine Qif ?_; refine Qic ?_; refine QTa ?_; refine Qic ?_; refine Zw (γ := 102) ?_; refine Qyd ?_; refine Zy ?_; refine Qlb ?_; refine Qjd ?_; refine Zv ?_; refine Qbb ?_; refine Z9 (hcon := c1) ?_; refine Zu ?_; refine Zq ?_; refine Qbb ?_; refine Z9 (hcon := c2) ?_; exact Qeh
 obtain rfl : i = ns.length := by omega
 have hn : ¬ ((ns.length : Nat) : Int) < (ns.map X9).length := by omega
 refine Qgf ?_; refine Qua ?_
 clear hi hil hn
 refine Xz (fun i : Nat => i ≤ es.length) (fun i => ⟨116, [(2, .ptr 100 0), (3, .ptr 101 0), (8, ai i)], [(100, .box [.d (.sl 3 (ns.map X9)), .d (.sl 5 (es.map Xe)), ai nn, ai ne]), (101, .box [.d (.sl 3 (ns.map X9)), .d (.sl 5 (es.map Xe)), ai nn, ai ne])]⟩) (fun i => es.length - i) 0 (Nat.zero_le _)
  (X7 rfl JM ⟨rfl, rfl, trivial⟩) ?_
 intro i hi
 by_cases hil : i < es.length
 case pos =>
  have hn : (i : Int) < (es.map Xe).length := by omega
  obtain ⟨x, hx⟩ := Xu (l := es) hil
  have hxc : (es.map Xe)[i]? = some (Xe x) := XD hx
  have hh := hg.edges x (List.mem_of_getElem? hx)
  have c2 := X8L x.props (fun p hp => (hh.2.2 p hp).2) hh.2.1
  clear hh
  obtain ⟨id, src, dst, typ, props⟩ := x
  simp only [Xe] at hxc c2
  clear hx
  refine Qif ?_; refine Qic ?_; refine QTa ?_; refine Qic ?_; refine Zw (γ := 102) ?_; refine Qyd ?_; refine Zy ?_; refine Qlb ?_; refine Qjd ?_; refine Zv ?_; refine Qbb ?_; refine Qke ?_; refine Qbb ?_; refine Qke ?_; refine Qbb ?_; refine ZM ?_; refine Zq ?_; refine Qbb ?_; refine Z9 (hcon := c2) ?_; exact Qeh
 obtain rfl : i = es.length := by omega
 have hn : ¬ ((es.length : Nat) : Int) < (es.map Xe).length := by omega
 refine Qgf ?_; exact Qz
theorem X1U (g : Gra) (hg : GraHold g) : Con Tryz.prog 23 [] [Xl g, Xl g] [] (ab true) := by
 obtain ⟨ns, es, nn, ne⟩ := g
 have hc := Xh4 ns es nn ne hg
 unfold Xl
 simp only
 refine Xc (xs := [ab true]) Tryz.func23 rfl Tryz.ntmps23 rfl rfl rfl (fun E => ?_)
 refine Qad ?_; refine Qjd ?_; refine Zl ?_; refine Qbb ?_; refine QIe ?_; refine Qpb ?_; refine ZL ?_; refine Z9 (hcon := hc) ?_; exact Qeb
end Go.Fw
