/- A head that came in, by value. -/
import Derived.Test.YtdkcjmpikmnedaaGreatOpenB
import Derived.Test.YtdkcjmpikmnedaaGreatHeadPick
namespace Go.Proofs.YtdkcjmpikmnedaaGreat
open Go.ChangeShapes Go.WideShapes Go.ChangeAt Go.RowKit

theorem array9 {α : Type} {cs : Array α} (h : cs.size = 9) : ∃ c0 c1 c2 c3 c4 c5 c6 c7 c8, cs = #[c0, c1, c2, c3, c4, c5, c6, c7, c8] := by
  obtain ⟨l⟩ := cs
  match l, h with
  | [c0, c1, c2, c3, c4, c5, c6, c7, c8], _ => exact ⟨c0, c1, c2, c3, c4, c5, c6, c7, c8, rfl⟩
section
variable {H : Type} {enc : TypeId × Value → H} {P : Program} {w : World} {base : Nat} {spare : MemPlace → Bool} {held : Bool}
theorem fields5 {t : TypeId} {f0 f1 f2 f3 f4 : Field} {fuel : Nat} {cs : List Value} {x : DataW H × List MemPlace} (ht : P.underlying t = some (.struct #[f0, f1, f2, f3, f4])) (h : DataW.trod enc P w 0 (fun _ => true) held fuel t cs = some x) :
    ∃ y0 y1 y2 y3 y4 n, DataW.trod enc P w 0 (fun _ => true) held n f0.type ((cs.drop f0.offset).take (P.cellsOf f0.type)) = some y0 ∧
      DataW.trod enc P w 0 (fun _ => true) held n f1.type ((cs.drop f1.offset).take (P.cellsOf f1.type)) = some y1 ∧ DataW.trod enc P w 0 (fun _ => true) held n f2.type ((cs.drop f2.offset).take (P.cellsOf f2.type)) = some y2 ∧
      DataW.trod enc P w 0 (fun _ => true) held n f3.type ((cs.drop f3.offset).take (P.cellsOf f3.type)) = some y3 ∧ DataW.trod enc P w 0 (fun _ => true) held n f4.type ((cs.drop f4.offset).take (P.cellsOf f4.type)) = some y4 := by
  obtain ⟨xs, n, _, rfl, hl, hlen, hf⟩ := DataW.trod_struct ht h
  match xs, hlen with
  | [y0, y1, y2, y3, y4], _ => exact ⟨y0, y1, y2, y3, y4, n, by simpa using hf 0 f0 rfl, by simpa using hf 1 f1 rfl, by simpa using hf 2 f2 rfl, by simpa using hf 3 f3 rfl, by simpa using hf 4 f4 rfl⟩
end
theorem int_cell {H : Type} {enc : TypeId × Value → H} {W : World} {n : Nat} {c : Value} {y : DataW H × List MemPlace} (h : DataW.trod enc Tryz.prog W 0 (fun _ => true) true n 3 [c] = some y) : ∃ x, c = .int .i64 x := by
  obtain ⟨x, e, _, _⟩ := DataW.trod_int Tryz.underlying3 h
  simp only [List.cons.injEq, and_true] at e
  exact ⟨x, e⟩
theorem cells_int : Tryz.prog.cellsOf 3 = 1 := by kernel_rfl
theorem cells_geo : Tryz.prog.cellsOf 54 = 5 := by kernel_rfl
theorem cells_head : Tryz.prog.cellsOf 56 = 9 := by kernel_rfl
set_option maxRecDepth 100000 in
theorem open_head {H : Type} {enc : TypeId × Value → H} {W : World} {r : Reach} {b0 : Nat} {v : Value} {d : DataW H} {p : List MemPlace} (hv : Value.okWide Tryz.prog W r b0 56 v) (h : DataW.Trod enc Tryz.prog W 0 (fun _ => true) true 56 v d p) :
    ∃ a : Hd, v = .agg a.cs := by
  obtain ⟨cs, rfl, hsz⟩ := okWide_struct Tryz.underlying56 hv
  obtain ⟨c0, c1, c2, c3, c4, c5, c6, c7, c8, rfl⟩ := array9 (hsz.trans cells_head)
  obtain ⟨fuel, hf⟩ := h
  obtain ⟨y0, y1, y2, y3, y4, n, g0, g1, g2, g3, g4⟩ := fields5 Tryz.underlying56 hf
  simp only [cells_int, cells_geo] at g0 g1 g2 g3 g4
  obtain ⟨z0, z1, z2, z3, z4, m, k0, k1, k2, k3, k4⟩ := fields5 Tryz.underlying54 g0
  simp only [cells_int] at k0 k1 k2 k3 k4
  obtain ⟨x0, e0⟩ := int_cell (c := c0) k0
  obtain ⟨x1, e1⟩ := int_cell (c := c1) k1
  obtain ⟨x2, e2⟩ := int_cell (c := c2) k2
  obtain ⟨x3, e3⟩ := int_cell (c := c3) k3
  obtain ⟨x4, e4⟩ := int_cell (c := c4) k4
  obtain ⟨x5, e5⟩ := int_cell (c := c5) g1
  obtain ⟨x6, e6⟩ := int_cell (c := c6) g2
  obtain ⟨x7, e7⟩ := int_cell (c := c7) g3
  obtain ⟨x8, e8⟩ := int_cell (c := c8) g4
  subst e0 e1 e2 e3 e4 e5 e6 e7 e8
  exact ⟨⟨x0, x1, x2, x3, x4, x5, x6, x7, x8⟩, rfl⟩
end Go.Proofs.YtdkcjmpikmnedaaGreat
