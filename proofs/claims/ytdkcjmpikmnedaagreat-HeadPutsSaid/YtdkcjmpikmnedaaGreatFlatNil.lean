/- The walks through peatbankkit's flat functions on no list at all. -/
import Derived.Test.YtdkcjmpikmnedaaGreatKit
namespace Go.Proofs.YtdkcjmpikmnedaaGreat
open Go.RowKit
set_option linter.unusedSimpArgs false
theorem mkLimbs (w : World) : (Instr.makeSlice 86 (.int .i64 0) (.int .i64 0)).run Tryz.prog w = .ok (.slice (some ⟨w.heap.size, 0, none⟩) 0 0) (w.alloc (.cells #[] (Tryz.prog.elem 86))) := by kernel_rfl
set_option maxRecDepth 100000 in
theorem flatLimbs_nil (w : World) : Calls Tryz.prog 84 #[.slice none 0 0] w fun e w' => e = .returned (.bool true) ∧ Below w.heap.size w w' := by
  have mk := mkLimbs w
  go_enter Tryz.func84, Tryz.ntmps84
  go_wp2_with fail
  repeat (refine wp_loop_once ?_; go_wp2_with fail)
  go_ret
  exact ⟨rfl, (Below.refl _ _).alloc (Nat.le_refl _) _⟩
theorem mkWords (w : World) : (Instr.makeSlice 87 (.int .i64 0) (.int .i64 0)).run Tryz.prog w = .ok (.slice (some ⟨w.heap.size, 0, none⟩) 0 0) (w.alloc (.cells #[] (Tryz.prog.elem 87))) := by kernel_rfl
set_option maxRecDepth 100000 in
theorem flatWords_nil (w : World) : Calls Tryz.prog 85 #[.slice none 0 0] w fun e w' => e = .returned (.bool true) ∧ Below w.heap.size w w' := by
  have mk := mkWords w
  go_enter Tryz.func85, Tryz.ntmps85
  go_wp2_with fail
  repeat (refine wp_loop_once ?_; go_wp2_with fail)
  go_ret
  exact ⟨rfl, (Below.refl _ _).alloc (Nat.le_refl _) _⟩
theorem mkInts (w : World) : (Instr.makeSlice 88 (.int .i64 0) (.int .i64 0)).run Tryz.prog w = .ok (.slice (some ⟨w.heap.size, 0, none⟩) 0 0) (w.alloc (.cells #[] (Tryz.prog.elem 88))) := by kernel_rfl
set_option maxRecDepth 100000 in
theorem flatInts_nil (w : World) : Calls Tryz.prog 86 #[.slice none 0 0] w fun e w' => e = .returned (.bool true) ∧ Below w.heap.size w w' := by
  have mk := mkInts w
  go_enter Tryz.func86, Tryz.ntmps86
  go_wp2_with fail
  repeat (refine wp_loop_once ?_; go_wp2_with fail)
  go_ret
  exact ⟨rfl, (Below.refl _ _).alloc (Nat.le_refl _) _⟩
theorem mkLongs (w : World) : (Instr.makeSlice 89 (.int .i64 0) (.int .i64 0)).run Tryz.prog w = .ok (.slice (some ⟨w.heap.size, 0, none⟩) 0 0) (w.alloc (.cells #[] (Tryz.prog.elem 89))) := by kernel_rfl
set_option maxRecDepth 100000 in
theorem flatLongs_nil (w : World) : Calls Tryz.prog 87 #[.slice none 0 0] w fun e w' => e = .returned (.bool true) ∧ Below w.heap.size w w' := by
  have mk := mkLongs w
  go_enter Tryz.func87, Tryz.ntmps87
  go_wp2_with fail
  repeat (refine wp_loop_once ?_; go_wp2_with fail)
  go_ret
  exact ⟨rfl, (Below.refl _ _).alloc (Nat.le_refl _) _⟩
theorem mkTexts (w : World) : (Instr.makeSlice 90 (.int .i64 0) (.int .i64 0)).run Tryz.prog w = .ok (.slice (some ⟨w.heap.size, 0, none⟩) 0 0) (w.alloc (.cells #[] (Tryz.prog.elem 90))) := by kernel_rfl
set_option maxRecDepth 100000 in
theorem flatTexts_nil (w : World) : Calls Tryz.prog 88 #[.slice none 0 0] w fun e w' => e = .returned (.bool true) ∧ Below w.heap.size w w' := by
  have mk := mkTexts w
  go_enter Tryz.func88, Tryz.ntmps88
  go_wp2_with fail
  repeat (refine wp_loop_once ?_; go_wp2_with fail)
  go_ret
  exact ⟨rfl, (Below.refl _ _).alloc (Nat.le_refl _) _⟩
theorem mkBytes (w : World) : (Instr.makeSlice 38 (.int .i64 0) (.int .i64 0)).run Tryz.prog w = .ok (.slice (some ⟨w.heap.size, 0, none⟩) 0 0) (w.alloc (.cells #[] (Tryz.prog.elem 38))) := by kernel_rfl
set_option maxRecDepth 100000 in
theorem flatBytes_nil (w : World) : Calls Tryz.prog 89 #[.slice none 0 0] w fun e w' => e = .returned (.bool true) ∧ Below w.heap.size w w' := by
  have mk := mkBytes w
  go_enter Tryz.func89, Tryz.ntmps89
  go_wp2_with fail
  repeat (refine wp_loop_once ?_; go_wp2_with fail)
  go_ret
  exact ⟨rfl, (Below.refl _ _).alloc (Nat.le_refl _) _⟩
theorem mkTreeKeys (w : World) : (Instr.makeSlice 91 (.int .i64 0) (.int .i64 0)).run Tryz.prog w = .ok (.slice (some ⟨w.heap.size, 0, none⟩) 0 0) (w.alloc (.cells #[] (Tryz.prog.elem 91))) := by kernel_rfl
set_option maxRecDepth 100000 in
theorem flatTreeKeys_nil (w : World) : Calls Tryz.prog 90 #[.slice none 0 0] w fun e w' => e = .returned (.bool true) ∧ Below w.heap.size w w' := by
  have mk := mkTreeKeys w
  go_enter Tryz.func90, Tryz.ntmps90
  go_wp2_with fail
  repeat (refine wp_loop_once ?_; go_wp2_with fail)
  go_ret
  exact ⟨rfl, (Below.refl _ _).alloc (Nat.le_refl _) _⟩
theorem mkPieces (w : World) : (Instr.makeSlice 92 (.int .i64 0) (.int .i64 0)).run Tryz.prog w = .ok (.slice (some ⟨w.heap.size, 0, none⟩) 0 0) (w.alloc (.cells #[] (Tryz.prog.elem 92))) := by kernel_rfl
set_option maxRecDepth 100000 in
theorem flatPieces_nil (w : World) : Calls Tryz.prog 91 #[.slice none 0 0] w fun e w' => e = .returned (.bool true) ∧ Below w.heap.size w w' := by
  have mk := mkPieces w
  go_enter Tryz.func91, Tryz.ntmps91
  go_wp2_with fail
  repeat (refine wp_loop_once ?_; go_wp2_with fail)
  go_ret
  exact ⟨rfl, (Below.refl _ _).alloc (Nat.le_refl _) _⟩
theorem mkFates (w : World) : (Instr.makeSlice 93 (.int .i64 0) (.int .i64 0)).run Tryz.prog w = .ok (.slice (some ⟨w.heap.size, 0, none⟩) 0 0) (w.alloc (.cells #[] (Tryz.prog.elem 93))) := by kernel_rfl
set_option maxRecDepth 100000 in
theorem flatFates_nil (w : World) : Calls Tryz.prog 92 #[.slice none 0 0] w fun e w' => e = .returned (.bool true) ∧ Below w.heap.size w w' := by
  have mk := mkFates w
  go_enter Tryz.func92, Tryz.ntmps92
  go_wp2_with fail
  repeat (refine wp_loop_once ?_; go_wp2_with fail)
  go_ret
  exact ⟨rfl, (Below.refl _ _).alloc (Nat.le_refl _) _⟩
theorem mkFrames (w : World) : (Instr.makeSlice 94 (.int .i64 0) (.int .i64 0)).run Tryz.prog w = .ok (.slice (some ⟨w.heap.size, 0, none⟩) 0 0) (w.alloc (.cells #[] (Tryz.prog.elem 94))) := by kernel_rfl
set_option maxRecDepth 100000 in
theorem flatFrames_nil (w : World) : Calls Tryz.prog 93 #[.slice none 0 0] w fun e w' => e = .returned (.bool true) ∧ Below w.heap.size w w' := by
  have mk := mkFrames w
  go_enter Tryz.func93, Tryz.ntmps93
  go_wp2_with fail
  repeat (refine wp_loop_once ?_; go_wp2_with fail)
  go_ret
  exact ⟨rfl, (Below.refl _ _).alloc (Nat.le_refl _) _⟩
theorem mkPlaces (w : World) : (Instr.makeSlice 95 (.int .i64 0) (.int .i64 0)).run Tryz.prog w = .ok (.slice (some ⟨w.heap.size, 0, none⟩) 0 0) (w.alloc (.cells #[] (Tryz.prog.elem 95))) := by kernel_rfl
set_option maxRecDepth 100000 in
theorem flatPlaces_nil (w : World) : Calls Tryz.prog 94 #[.slice none 0 0] w fun e w' => e = .returned (.bool true) ∧ Below w.heap.size w w' := by
  have mk := mkPlaces w
  go_enter Tryz.func94, Tryz.ntmps94
  go_wp2_with fail
  repeat (refine wp_loop_once ?_; go_wp2_with fail)
  go_ret
  exact ⟨rfl, (Below.refl _ _).alloc (Nat.le_refl _) _⟩
theorem mkEntries (w : World) : (Instr.makeSlice 96 (.int .i64 0) (.int .i64 0)).run Tryz.prog w = .ok (.slice (some ⟨w.heap.size, 0, none⟩) 0 0) (w.alloc (.cells #[] (Tryz.prog.elem 96))) := by kernel_rfl
set_option maxRecDepth 100000 in
theorem flatEntries_nil (w : World) : Calls Tryz.prog 95 #[.slice none 0 0] w fun e w' => e = .returned (.bool true) ∧ Below w.heap.size w w' := by
  have mk := mkEntries w
  go_enter Tryz.func95, Tryz.ntmps95
  go_wp2_with fail
  repeat (refine wp_loop_once ?_; go_wp2_with fail)
  go_ret
  exact ⟨rfl, (Below.refl _ _).alloc (Nat.le_refl _) _⟩
theorem mkNodes (w : World) : (Instr.makeSlice 45 (.int .i64 0) (.int .i64 0)).run Tryz.prog w = .ok (.slice (some ⟨w.heap.size, 0, none⟩) 0 0) (w.alloc (.cells #[] (Tryz.prog.elem 45))) := by kernel_rfl
set_option maxRecDepth 100000 in
theorem flatNodes_nil (w : World) : Calls Tryz.prog 96 #[.slice none 0 0] w fun e w' => e = .returned (.bool true) ∧ Below w.heap.size w w' := by
  have mk := mkNodes w
  go_enter Tryz.func96, Tryz.ntmps96
  go_wp2_with fail
  repeat (refine wp_loop_once ?_; go_wp2_with fail)
  go_ret
  exact ⟨rfl, (Below.refl _ _).alloc (Nat.le_refl _) _⟩
theorem mkItems (w : World) : (Instr.makeSlice 97 (.int .i64 0) (.int .i64 0)).run Tryz.prog w = .ok (.slice (some ⟨w.heap.size, 0, none⟩) 0 0) (w.alloc (.cells #[] (Tryz.prog.elem 97))) := by kernel_rfl
set_option maxRecDepth 100000 in
theorem flatItems_nil (w : World) : Calls Tryz.prog 97 #[.slice none 0 0] w fun e w' => e = .returned (.bool true) ∧ Below w.heap.size w w' := by
  have mk := mkItems w
  go_enter Tryz.func97, Tryz.ntmps97
  go_wp2_with fail
  repeat (refine wp_loop_once ?_; go_wp2_with fail)
  go_ret
  exact ⟨rfl, (Below.refl _ _).alloc (Nat.le_refl _) _⟩
theorem mkCounts (w : World) : (Instr.makeSlice 98 (.int .i64 0) (.int .i64 0)).run Tryz.prog w = .ok (.slice (some ⟨w.heap.size, 0, none⟩) 0 0) (w.alloc (.cells #[] (Tryz.prog.elem 98))) := by kernel_rfl
set_option maxRecDepth 100000 in
theorem flatCounts_nil (w : World) : Calls Tryz.prog 98 #[.slice none 0 0] w fun e w' => e = .returned (.bool true) ∧ Below w.heap.size w w' := by
  have mk := mkCounts w
  go_enter Tryz.func98, Tryz.ntmps98
  go_wp2_with fail
  repeat (refine wp_loop_once ?_; go_wp2_with fail)
  go_ret
  exact ⟨rfl, (Below.refl _ _).alloc (Nat.le_refl _) _⟩
theorem mkFreshes (w : World) : (Instr.makeSlice 99 (.int .i64 0) (.int .i64 0)).run Tryz.prog w = .ok (.slice (some ⟨w.heap.size, 0, none⟩) 0 0) (w.alloc (.cells #[] (Tryz.prog.elem 99))) := by kernel_rfl
set_option maxRecDepth 100000 in
theorem flatFreshes_nil (w : World) : Calls Tryz.prog 99 #[.slice none 0 0] w fun e w' => e = .returned (.bool true) ∧ Below w.heap.size w w' := by
  have mk := mkFreshes w
  go_enter Tryz.func99, Tryz.ntmps99
  go_wp2_with fail
  repeat (refine wp_loop_once ?_; go_wp2_with fail)
  go_ret
  exact ⟨rfl, (Below.refl _ _).alloc (Nat.le_refl _) _⟩
theorem mkPuts (w : World) : (Instr.makeSlice 100 (.int .i64 0) (.int .i64 0)).run Tryz.prog w = .ok (.slice (some ⟨w.heap.size, 0, none⟩) 0 0) (w.alloc (.cells #[] (Tryz.prog.elem 100))) := by kernel_rfl
set_option maxRecDepth 100000 in
theorem flatPuts_nil (w : World) : Calls Tryz.prog 100 #[.slice none 0 0] w fun e w' => e = .returned (.bool true) ∧ Below w.heap.size w w' := by
  have mk := mkPuts w
  go_enter Tryz.func100, Tryz.ntmps100
  go_wp2_with fail
  repeat (refine wp_loop_once ?_; go_wp2_with fail)
  go_ret
  exact ⟨rfl, (Below.refl _ _).alloc (Nat.le_refl _) _⟩
theorem mkOps (w : World) : (Instr.makeSlice 101 (.int .i64 0) (.int .i64 0)).run Tryz.prog w = .ok (.slice (some ⟨w.heap.size, 0, none⟩) 0 0) (w.alloc (.cells #[] (Tryz.prog.elem 101))) := by kernel_rfl
set_option maxRecDepth 100000 in
theorem flatOps_nil (w : World) : Calls Tryz.prog 101 #[.slice none 0 0] w fun e w' => e = .returned (.bool true) ∧ Below w.heap.size w w' := by
  have mk := mkOps w
  go_enter Tryz.func101, Tryz.ntmps101
  go_wp2_with fail
  repeat (refine wp_loop_once ?_; go_wp2_with fail)
  go_ret
  exact ⟨rfl, (Below.refl _ _).alloc (Nat.le_refl _) _⟩
theorem mkSteps (w : World) : (Instr.makeSlice 102 (.int .i64 0) (.int .i64 0)).run Tryz.prog w = .ok (.slice (some ⟨w.heap.size, 0, none⟩) 0 0) (w.alloc (.cells #[] (Tryz.prog.elem 102))) := by kernel_rfl
set_option maxRecDepth 100000 in
theorem flatSteps_nil (w : World) : Calls Tryz.prog 102 #[.slice none 0 0] w fun e w' => e = .returned (.bool true) ∧ Below w.heap.size w w' := by
  have mk := mkSteps w
  go_enter Tryz.func102, Tryz.ntmps102
  go_wp2_with fail
  repeat (refine wp_loop_once ?_; go_wp2_with fail)
  go_ret
  exact ⟨rfl, (Below.refl _ _).alloc (Nat.le_refl _) _⟩
theorem mkStats (w : World) : (Instr.makeSlice 103 (.int .i64 0) (.int .i64 0)).run Tryz.prog w = .ok (.slice (some ⟨w.heap.size, 0, none⟩) 0 0) (w.alloc (.cells #[] (Tryz.prog.elem 103))) := by kernel_rfl
set_option maxRecDepth 100000 in
theorem flatStats_nil (w : World) : Calls Tryz.prog 103 #[.slice none 0 0] w fun e w' => e = .returned (.bool true) ∧ Below w.heap.size w w' := by
  have mk := mkStats w
  go_enter Tryz.func103, Tryz.ntmps103
  go_wp2_with fail
  repeat (refine wp_loop_once ?_; go_wp2_with fail)
  go_ret
  exact ⟨rfl, (Below.refl _ _).alloc (Nat.le_refl _) _⟩
theorem mkTales (w : World) : (Instr.makeSlice 104 (.int .i64 0) (.int .i64 0)).run Tryz.prog w = .ok (.slice (some ⟨w.heap.size, 0, none⟩) 0 0) (w.alloc (.cells #[] (Tryz.prog.elem 104))) := by kernel_rfl
set_option maxRecDepth 100000 in
theorem flatTales_nil (w : World) : Calls Tryz.prog 104 #[.slice none 0 0] w fun e w' => e = .returned (.bool true) ∧ Below w.heap.size w w' := by
  have mk := mkTales w
  go_enter Tryz.func104, Tryz.ntmps104
  go_wp2_with fail
  repeat (refine wp_loop_once ?_; go_wp2_with fail)
  go_ret
  exact ⟨rfl, (Below.refl _ _).alloc (Nat.le_refl _) _⟩
end Go.Proofs.YtdkcjmpikmnedaaGreat
