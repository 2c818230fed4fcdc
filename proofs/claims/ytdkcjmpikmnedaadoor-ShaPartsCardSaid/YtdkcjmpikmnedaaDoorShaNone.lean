/- Hashes that are not there. -/
import Derived.Test.YtdkcjmpikmnedaaDoorShaNew
namespace Go.Proofs.YtdkcjmpikmnedaaDoor
open Go.RowKit
theorem write_nil (v : Value) (w : World) : Calls Tryd.prog 14 #[.pointer none, v] w fun e w' => e = .returned (.int .i64 1) ∧ w = w' := by
  go_enter Tryd.func14, Tryd.ntmps14
  go_wp2
  go_ret
  exact ⟨rfl, rfl⟩
theorem write_none (a : Addr) (v : Value) (w : World) (h : w.cell? a = some (.pointer none)) : Calls Tryd.prog 14 #[.pointer (some a), v] w fun e w' => e = .returned (.int .i64 1) ∧ w = w' := by
  go_enter Tryd.func14, Tryd.ntmps14
  go_wp2
  go_ret
  exact ⟨rfl, rfl⟩
theorem stop_store_key {P : Program} {ops : Array Oper} {Q : Exit → Act → World → Prop} {rest : List Oper} {a : Act} {w : World} {d : Option Tmp} {ty : TypeId} {pos : String} {after : Array Edge} {g : Option (Nat × Bool)} {x y : Operand}
    (h : Stopped (wpList P ops Q ({ dst := d, op := .store 26 x y, type := ty, pos := pos, after := after, guard := g } :: rest) a w)) :
    wpList P ops Q ({ dst := d, op := .store 26 x y, type := ty, pos := pos, after := after, guard := g } :: rest) a w := h
theorem sum_nil (w : World) : Calls Tryd.prog 15 #[.pointer none] w fun e w' => e = .returned (.agg (bs (List.replicate 32 0#8)).toArray) ∧ Below w.heap.size w w' := by
  have b1 : Below w.heap.size w (w.alloc (.cells (bs (List.replicate 32 0#8)).toArray 26)) := (Below.refl _ _).alloc (Nat.le_refl _) _
  have B1 := Blk.new w 26 (bs (List.replicate 32 0#8)).toArray
  go_enter Tryd.func15, Tryd.ntmps15
  go_wp2_with (with_reducible refine stop_store_key ?_)
  refine wpList_store_row rfl _ _ _ rfl w.heap.size (bs (List.replicate 32 0#8)).toArray rfl rfl _ _ (Blk.new w _ _) (by kernel_rfl) rfl (all_oneCell_toArray (bs_one _)) ?_
  rw [World.setRow_alloc_new]
  go_wp2
  refine bodyPost_ret (v := .agg (bs (List.replicate 32 0#8)).toArray) ?_ rfl ⟨rfl, b1⟩
  exact results_cell_row rfl _ _ w.heap.size _ _ _ _ rfl B1 Tryd.underlying26 rfl (by kernel_rfl)
theorem sum_none (a : Addr) (w : World) (h : w.cell? a = some (.pointer none)) (hlt : a.block < w.heap.size) : Calls Tryd.prog 15 #[.pointer (some a)] w fun e w' => e = .returned (.agg (bs (List.replicate 32 0#8)).toArray) ∧ Below w.heap.size w w' := by
  have b1 : Below w.heap.size w (w.alloc (.cells (bs (List.replicate 32 0#8)).toArray 26)) := (Below.refl _ _).alloc (Nat.le_refl _) _
  have B1 := Blk.new w 26 (bs (List.replicate 32 0#8)).toArray
  go_enter Tryd.func15, Tryd.ntmps15
  go_wp2_with (with_reducible refine stop_store_key ?_)
  refine wpList_store_row rfl _ _ _ rfl w.heap.size (bs (List.replicate 32 0#8)).toArray rfl rfl _ _ (Blk.new w _ _) (by kernel_rfl) rfl (all_oneCell_toArray (bs_one _)) ?_
  rw [World.setRow_alloc_new]
  go_wp2
  refine bodyPost_ret (v := .agg (bs (List.replicate 32 0#8)).toArray) ?_ rfl ⟨rfl, b1⟩
  exact results_cell_row rfl _ _ w.heap.size _ _ _ _ rfl B1 Tryd.underlying26 rfl (by kernel_rfl)
end Go.Proofs.YtdkcjmpikmnedaaDoor
