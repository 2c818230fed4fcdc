/- The walks through the reference's turned, begin, rounds and padded. -/
import Derived.Test.YtdkcjmpikmnedaaDoorShaAll
namespace Go.Proofs.YtdkcjmpikmnedaaDoor
open Go.RowKit
set_option linter.unusedSimpArgs false

theorem rturned_any (x : B32) (n : Nat) (h0 : 0 < n) (h : n < 32) (w : World) :
    Calls Tryd.prog 26 #[.int .u32 x.toNat, .int .u64 (n : Int)] w fun e w' => e = .returned (.int .u32 (rot x n).toNat) ∧ w = w' := by
  have e1 : (32 : Int) - (n : Int) = ((32 - n : Nat) : Int) := by omega
  have e2 : IntKind.u64.wrap (32 - (n : Int)) = ((32 - n : Nat) : Int) := by rw [IntKind.wrap_u64]; omega
  have hl : 32 - n < 32 := by omega
  generalize hq : 32 - n = q at *
  have HQ := hide hq
  clear hq
  go_enter Tryd.func26, Tryd.ntmps26
  go_wp2
  go_ret
  refine ⟨congrArg Ending.returned (val_u32 ?_), rfl⟩
  rw [m32_shl, m32_shr, u32_or, ← HQ.out]
  rfl

theorem stop_store8 {P : Program} {ops : Array Oper} {Q : Exit → Act → World → Prop} {rest : List Oper} {a : Act} {w : World} {d : Option Tmp} {ty : TypeId} {pos : String} {after : Array Edge} {g : Option (Nat × Bool)} {x y : Operand}
    (h : Stopped (wpList P ops Q ({ dst := d, op := .store 58 x y, type := ty, pos := pos, after := after, guard := g } :: rest) a w)) :
    wpList P ops Q ({ dst := d, op := .store 58 x y, type := ty, pos := pos, after := after, guard := g } :: rest) a w := h
theorem stop_load8 {P : Program} {ops : Array Oper} {Q : Exit → Act → World → Prop} {rest : List Oper} {a : Act} {w : World} {d : Option Tmp} {ty : TypeId} {pos : String} {after : Array Edge} {g : Option (Nat × Bool)} {x : Operand}
    (h : Stopped (wpList P ops Q ({ dst := d, op := .load 58 x, type := ty, pos := pos, after := after, guard := g } :: rest) a w)) :
    wpList P ops Q ({ dst := d, op := .load 58 x, type := ty, pos := pos, after := after, guard := g } :: rest) a w := h
theorem stop_store64 {P : Program} {ops : Array Oper} {Q : Exit → Act → World → Prop} {rest : List Oper} {a : Act} {w : World} {d : Option Tmp} {ty : TypeId} {pos : String} {after : Array Edge} {g : Option (Nat × Bool)} {x y : Operand}
    (h : Stopped (wpList P ops Q ({ dst := d, op := .store 64 x y, type := ty, pos := pos, after := after, guard := g } :: rest) a w)) :
    wpList P ops Q ({ dst := d, op := .store 64 x y, type := ty, pos := pos, after := after, guard := g } :: rest) a w := h
theorem stop_build64 {P : Program} {ops : Array Oper} {Q : Exit → Act → World → Prop} {rest : List Oper} {a : Act} {w : World} {d : Option Tmp} {ty : TypeId} {pos : String} {after : Array Edge} {g : Option (Nat × Bool)} {xs : Array (Nat × Operand)}
    (h : Stopped (wpList P ops Q ({ dst := d, op := .build 64 xs, type := ty, pos := pos, after := after, guard := g } :: rest) a w)) :
    wpList P ops Q ({ dst := d, op := .build 64 xs, type := ty, pos := pos, after := after, guard := g } :: rest) a w := h
theorem begin_any (w : World) : Calls Tryd.prog 20 #[] w fun e w' => e = .returned (.agg wFirst.cs) ∧ Below w.heap.size w w' := by
  go_enter Tryd.func20, Tryd.ntmps20
  go_wp2_with (with_reducible refine stop_store8 ?_)
  unfold Stopped
  refine wpList_store_row rfl _ _ _ rfl w.heap.size wFirst.cs rfl rfl _ _ (Blk.new w _ _) (by kernel_rfl) rfl (cs_one _) ?_
  rw [World.setRow_alloc_new]
  have B1 := Blk.new w 58 wFirst.cs
  have b1 : Below w.heap.size w (w.alloc (.cells wFirst.cs 58)) := (Below.refl _ _).alloc (Nat.le_refl _) _
  go_wp2
  refine bodyPost_ret (v := .agg wFirst.cs) ?_ rfl ⟨rfl, b1⟩
  exact results_cell_row rfl _ _ w.heap.size _ _ _ _ rfl B1 Tryd.underlying58 rfl (by kernel_rfl)
/-- The round numbers' cells. -/
def rksA : Array Value := (w32 rks).toArray
set_option maxRecDepth 100000 in
theorem rounds_any (w : World) : Calls Tryd.prog 27 #[] w fun e w' => e = .returned (.agg rksA) ∧ Below w.heap.size w w' := by
  go_enter Tryd.func27, Tryd.ntmps27
  go_wp2_with (with_reducible refine stop_build64 ?_)
  unfold Stopped
  refine wpList_build rfl _ _ rfl (by kernel_rfl) ?_
  rw [show (Program.built _ _ _).getD #[] = (w32 rks).toArray by kernel_rfl]
  refine wpList_store_row rfl _ _ _ rfl w.heap.size (w32 rks).toArray (by rfl) (by rfl) _ _ (Blk.new w _ _) (by kernel_rfl) (by kernel_rfl) (all_oneCell_toArray (w32_one _)) ?_
  rw [World.setRow_alloc_new]
  have B1 := Blk.new w 64 (w32 rks).toArray
  have b1 : Below w.heap.size w (w.alloc (.cells (w32 rks).toArray 64)) := (Below.refl _ _).alloc (Nat.le_refl _) _
  go_wp2
  refine bodyPost_ret (v := .agg (w32 rks).toArray) ?_ rfl ⟨rfl, b1⟩
  exact results_cell_row rfl _ _ w.heap.size _ _ _ _ rfl B1 Tryd.underlying64 rfl (by kernel_rfl)
end Go.Proofs.YtdkcjmpikmnedaaDoor
