/- The walk through sha's New. -/
import Derived.Test.YtdkcjmpikmnedaaDoorShaHash
import Derived.Deep.WholeRow
namespace Go.Proofs.YtdkcjmpikmnedaaDoor
open Go.RowKit
set_option linter.unusedSimpArgs false
/-- The first words where the program keeps them. -/
def FstAt (w : World) : Prop := RowAt w 0 wFirst.cs
theorem stop_store {P : Program} {ops : Array Oper} {Q : Exit → Act → World → Prop} {rest : List Oper} {a : Act} {w : World} {d : Option Tmp} {ty : TypeId} {pos : String} {after : Array Edge} {g : Option (Nat × Bool)} {x y : Operand}
    (h : Stopped (wpList P ops Q ({ dst := d, op := .store 63 x y, type := ty, pos := pos, after := after, guard := g } :: rest) a w)) :
    wpList P ops Q ({ dst := d, op := .store 63 x y, type := ty, pos := pos, after := after, guard := g } :: rest) a w := h
theorem w32_one (l : List B32) : ∀ u ∈ w32 l, u.oneCell' = true := by
  intro u hu
  obtain ⟨c, _, rfl⟩ := List.mem_map.1 hu
  rfl
theorem cs_one (s : Wds) : s.cs.all (·.oneCell') = true := all_oneCell_toArray (w32_one _)
/-- A Hash's cells. -/
def hashC (sb : Nat) (rest : Value) (n : Int) (done state : Int) (told : Bool) (key : List B8) : Array Value :=
  (.pointer (some ⟨sb, 0, none⟩) :: rest :: .int .u64 n :: .int .u32 done :: .int .i32 state :: .int .u32 0 :: .bool told :: bs key).toArray
theorem new_any (w : World) (hF : FstAt w) :
    Calls Tryd.prog 16 #[] w fun e w' => e = .returned (.pointer (some ⟨w.heap.size + 1, 0, none⟩)) ∧ Blk w' w.heap.size 63 wFirst.cs ∧ Blk w' (w.heap.size + 1) 48 (hashC w.heap.size (.slice none 0 0) 0 0 0 false (List.replicate 32 0#8)) ∧ Below w.heap.size w w' := by
  have hf : ∀ i, w.cell? ⟨0, i, none⟩ = wFirst.cs[i]? := hF.cell
  go_enter Tryd.func16, Tryd.ntmps16
  go_wp2_with (with_reducible refine stop_load_global ?_)
  obtain ⟨tf, ff, hF⟩ := hF
  refine wpList_load_row rfl _ _ rfl 0 rfl _ _ _ _ hF Tryd.underlying63 rfl (by kernel_rfl) ?_
  go_wp2_with (with_reducible refine stop_store ?_)
  refine wpList_store_row rfl _ _ _ rfl w.heap.size _ rfl rfl _ _ (Blk.new w _ _) (by kernel_rfl) rfl (cs_one _) ?_
  rw [World.setRow_alloc_new]
  have B1 := Blk.new w 63 wFirst.cs
  have b1 : Below w.heap.size w (w.alloc (.cells wFirst.cs 63)) := (Below.refl _ _).alloc (Nat.le_refl _) _
  have hz : (w.alloc (.cells wFirst.cs 63)).heap.size = w.heap.size + 1 := by simp
  go_wp2_with fail
  go_ret
  refine ⟨rfl, B1.alloc _, ?_, b1.alloc b1.size _⟩
  rw [← hz]
  exact Blk.new _ 48 (hashC w.heap.size (.slice none 0 0) 0 0 0 false (List.replicate 32 0#8))
end Go.Proofs.YtdkcjmpikmnedaaDoor
