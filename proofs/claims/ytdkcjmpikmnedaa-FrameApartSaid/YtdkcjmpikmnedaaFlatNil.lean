/- The walks through peatbankkit's flat functions on no list at all. -/
import Derived.Test.YtdkcjmpikmnedaaKit
namespace Go.Proofs.Ytdkcjmpikmnedaa
open Go.RowKit
set_option linter.unusedSimpArgs false
theorem mkLimbs (w : World) : (Instr.makeSlice 119 (.int .i64 0) (.int .i64 0)).run Try.prog w = .ok (.slice (some ⟨w.heap.size, 0, none⟩) 0 0) (w.alloc (.cells #[] (Try.prog.elem 119))) := by kernel_rfl
set_option maxRecDepth 100000 in
theorem flatLimbs_nil (w : World) : Calls Try.prog 97 #[.slice none 0 0] w fun e w' => e = .returned (.bool true) ∧ Below w.heap.size w w' := by
  have mk := mkLimbs w
  go_enter Try.func97, Try.ntmps97
  go_wp2_with fail
  repeat (refine wp_loop_once ?_; go_wp2_with fail)
  go_ret
  exact ⟨rfl, (Below.refl _ _).alloc (Nat.le_refl _) _⟩
theorem mkWords (w : World) : (Instr.makeSlice 120 (.int .i64 0) (.int .i64 0)).run Try.prog w = .ok (.slice (some ⟨w.heap.size, 0, none⟩) 0 0) (w.alloc (.cells #[] (Try.prog.elem 120))) := by kernel_rfl
set_option maxRecDepth 100000 in
theorem flatWords_nil (w : World) : Calls Try.prog 98 #[.slice none 0 0] w fun e w' => e = .returned (.bool true) ∧ Below w.heap.size w w' := by
  have mk := mkWords w
  go_enter Try.func98, Try.ntmps98
  go_wp2_with fail
  repeat (refine wp_loop_once ?_; go_wp2_with fail)
  go_ret
  exact ⟨rfl, (Below.refl _ _).alloc (Nat.le_refl _) _⟩
theorem mkInts (w : World) : (Instr.makeSlice 121 (.int .i64 0) (.int .i64 0)).run Try.prog w = .ok (.slice (some ⟨w.heap.size, 0, none⟩) 0 0) (w.alloc (.cells #[] (Try.prog.elem 121))) := by kernel_rfl
set_option maxRecDepth 100000 in
theorem flatInts_nil (w : World) : Calls Try.prog 99 #[.slice none 0 0] w fun e w' => e = .returned (.bool true) ∧ Below w.heap.size w w' := by
  have mk := mkInts w
  go_enter Try.func99, Try.ntmps99
  go_wp2_with fail
  repeat (refine wp_loop_once ?_; go_wp2_with fail)
  go_ret
  exact ⟨rfl, (Below.refl _ _).alloc (Nat.le_refl _) _⟩
theorem mkLongs (w : World) : (Instr.makeSlice 122 (.int .i64 0) (.int .i64 0)).run Try.prog w = .ok (.slice (some ⟨w.heap.size, 0, none⟩) 0 0) (w.alloc (.cells #[] (Try.prog.elem 122))) := by kernel_rfl
set_option maxRecDepth 100000 in
theorem flatLongs_nil (w : World) : Calls Try.prog 100 #[.slice none 0 0] w fun e w' => e = .returned (.bool true) ∧ Below w.heap.size w w' := by
  have mk := mkLongs w
  go_enter Try.func100, Try.ntmps100
  go_wp2_with fail
  repeat (refine wp_loop_once ?_; go_wp2_with fail)
  go_ret
  exact ⟨rfl, (Below.refl _ _).alloc (Nat.le_refl _) _⟩
theorem mkTexts (w : World) : (Instr.makeSlice 123 (.int .i64 0) (.int .i64 0)).run Try.prog w = .ok (.slice (some ⟨w.heap.size, 0, none⟩) 0 0) (w.alloc (.cells #[] (Try.prog.elem 123))) := by kernel_rfl
set_option maxRecDepth 100000 in
theorem flatTexts_nil (w : World) : Calls Try.prog 101 #[.slice none 0 0] w fun e w' => e = .returned (.bool true) ∧ Below w.heap.size w w' := by
  have mk := mkTexts w
  go_enter Try.func101, Try.ntmps101
  go_wp2_with fail
  repeat (refine wp_loop_once ?_; go_wp2_with fail)
  go_ret
  exact ⟨rfl, (Below.refl _ _).alloc (Nat.le_refl _) _⟩
theorem mkBytes (w : World) : (Instr.makeSlice 80 (.int .i64 0) (.int .i64 0)).run Try.prog w = .ok (.slice (some ⟨w.heap.size, 0, none⟩) 0 0) (w.alloc (.cells #[] (Try.prog.elem 80))) := by kernel_rfl
set_option maxRecDepth 100000 in
theorem flatBytes_nil (w : World) : Calls Try.prog 102 #[.slice none 0 0] w fun e w' => e = .returned (.bool true) ∧ Below w.heap.size w w' := by
  have mk := mkBytes w
  go_enter Try.func102, Try.ntmps102
  go_wp2_with fail
  repeat (refine wp_loop_once ?_; go_wp2_with fail)
  go_ret
  exact ⟨rfl, (Below.refl _ _).alloc (Nat.le_refl _) _⟩
theorem mkTreeKeys (w : World) : (Instr.makeSlice 124 (.int .i64 0) (.int .i64 0)).run Try.prog w = .ok (.slice (some ⟨w.heap.size, 0, none⟩) 0 0) (w.alloc (.cells #[] (Try.prog.elem 124))) := by kernel_rfl
set_option maxRecDepth 100000 in
theorem flatTreeKeys_nil (w : World) : Calls Try.prog 103 #[.slice none 0 0] w fun e w' => e = .returned (.bool true) ∧ Below w.heap.size w w' := by
  have mk := mkTreeKeys w
  go_enter Try.func103, Try.ntmps103
  go_wp2_with fail
  repeat (refine wp_loop_once ?_; go_wp2_with fail)
  go_ret
  exact ⟨rfl, (Below.refl _ _).alloc (Nat.le_refl _) _⟩
theorem mkPieces (w : World) : (Instr.makeSlice 125 (.int .i64 0) (.int .i64 0)).run Try.prog w = .ok (.slice (some ⟨w.heap.size, 0, none⟩) 0 0) (w.alloc (.cells #[] (Try.prog.elem 125))) := by kernel_rfl
set_option maxRecDepth 100000 in
theorem flatPieces_nil (w : World) : Calls Try.prog 104 #[.slice none 0 0] w fun e w' => e = .returned (.bool true) ∧ Below w.heap.size w w' := by
  have mk := mkPieces w
  go_enter Try.func104, Try.ntmps104
  go_wp2_with fail
  repeat (refine wp_loop_once ?_; go_wp2_with fail)
  go_ret
  exact ⟨rfl, (Below.refl _ _).alloc (Nat.le_refl _) _⟩
theorem mkFates (w : World) : (Instr.makeSlice 126 (.int .i64 0) (.int .i64 0)).run Try.prog w = .ok (.slice (some ⟨w.heap.size, 0, none⟩) 0 0) (w.alloc (.cells #[] (Try.prog.elem 126))) := by kernel_rfl
set_option maxRecDepth 100000 in
theorem flatFates_nil (w : World) : Calls Try.prog 105 #[.slice none 0 0] w fun e w' => e = .returned (.bool true) ∧ Below w.heap.size w w' := by
  have mk := mkFates w
  go_enter Try.func105, Try.ntmps105
  go_wp2_with fail
  repeat (refine wp_loop_once ?_; go_wp2_with fail)
  go_ret
  exact ⟨rfl, (Below.refl _ _).alloc (Nat.le_refl _) _⟩
theorem mkFrames (w : World) : (Instr.makeSlice 127 (.int .i64 0) (.int .i64 0)).run Try.prog w = .ok (.slice (some ⟨w.heap.size, 0, none⟩) 0 0) (w.alloc (.cells #[] (Try.prog.elem 127))) := by kernel_rfl
set_option maxRecDepth 100000 in
theorem flatFrames_nil (w : World) : Calls Try.prog 106 #[.slice none 0 0] w fun e w' => e = .returned (.bool true) ∧ Below w.heap.size w w' := by
  have mk := mkFrames w
  go_enter Try.func106, Try.ntmps106
  go_wp2_with fail
  repeat (refine wp_loop_once ?_; go_wp2_with fail)
  go_ret
  exact ⟨rfl, (Below.refl _ _).alloc (Nat.le_refl _) _⟩
theorem mkPlaces (w : World) : (Instr.makeSlice 128 (.int .i64 0) (.int .i64 0)).run Try.prog w = .ok (.slice (some ⟨w.heap.size, 0, none⟩) 0 0) (w.alloc (.cells #[] (Try.prog.elem 128))) := by kernel_rfl
set_option maxRecDepth 100000 in
theorem flatPlaces_nil (w : World) : Calls Try.prog 107 #[.slice none 0 0] w fun e w' => e = .returned (.bool true) ∧ Below w.heap.size w w' := by
  have mk := mkPlaces w
  go_enter Try.func107, Try.ntmps107
  go_wp2_with fail
  repeat (refine wp_loop_once ?_; go_wp2_with fail)
  go_ret
  exact ⟨rfl, (Below.refl _ _).alloc (Nat.le_refl _) _⟩
theorem mkEntries (w : World) : (Instr.makeSlice 129 (.int .i64 0) (.int .i64 0)).run Try.prog w = .ok (.slice (some ⟨w.heap.size, 0, none⟩) 0 0) (w.alloc (.cells #[] (Try.prog.elem 129))) := by kernel_rfl
set_option maxRecDepth 100000 in
theorem flatEntries_nil (w : World) : Calls Try.prog 108 #[.slice none 0 0] w fun e w' => e = .returned (.bool true) ∧ Below w.heap.size w w' := by
  have mk := mkEntries w
  go_enter Try.func108, Try.ntmps108
  go_wp2_with fail
  repeat (refine wp_loop_once ?_; go_wp2_with fail)
  go_ret
  exact ⟨rfl, (Below.refl _ _).alloc (Nat.le_refl _) _⟩
theorem mkNodes (w : World) : (Instr.makeSlice 130 (.int .i64 0) (.int .i64 0)).run Try.prog w = .ok (.slice (some ⟨w.heap.size, 0, none⟩) 0 0) (w.alloc (.cells #[] (Try.prog.elem 130))) := by kernel_rfl
set_option maxRecDepth 100000 in
theorem flatNodes_nil (w : World) : Calls Try.prog 109 #[.slice none 0 0] w fun e w' => e = .returned (.bool true) ∧ Below w.heap.size w w' := by
  have mk := mkNodes w
  go_enter Try.func109, Try.ntmps109
  go_wp2_with fail
  repeat (refine wp_loop_once ?_; go_wp2_with fail)
  go_ret
  exact ⟨rfl, (Below.refl _ _).alloc (Nat.le_refl _) _⟩
theorem mkItems (w : World) : (Instr.makeSlice 131 (.int .i64 0) (.int .i64 0)).run Try.prog w = .ok (.slice (some ⟨w.heap.size, 0, none⟩) 0 0) (w.alloc (.cells #[] (Try.prog.elem 131))) := by kernel_rfl
set_option maxRecDepth 100000 in
theorem flatItems_nil (w : World) : Calls Try.prog 110 #[.slice none 0 0] w fun e w' => e = .returned (.bool true) ∧ Below w.heap.size w w' := by
  have mk := mkItems w
  go_enter Try.func110, Try.ntmps110
  go_wp2_with fail
  repeat (refine wp_loop_once ?_; go_wp2_with fail)
  go_ret
  exact ⟨rfl, (Below.refl _ _).alloc (Nat.le_refl _) _⟩
theorem mkCounts (w : World) : (Instr.makeSlice 132 (.int .i64 0) (.int .i64 0)).run Try.prog w = .ok (.slice (some ⟨w.heap.size, 0, none⟩) 0 0) (w.alloc (.cells #[] (Try.prog.elem 132))) := by kernel_rfl
set_option maxRecDepth 100000 in
theorem flatCounts_nil (w : World) : Calls Try.prog 111 #[.slice none 0 0] w fun e w' => e = .returned (.bool true) ∧ Below w.heap.size w w' := by
  have mk := mkCounts w
  go_enter Try.func111, Try.ntmps111
  go_wp2_with fail
  repeat (refine wp_loop_once ?_; go_wp2_with fail)
  go_ret
  exact ⟨rfl, (Below.refl _ _).alloc (Nat.le_refl _) _⟩
theorem mkFreshes (w : World) : (Instr.makeSlice 133 (.int .i64 0) (.int .i64 0)).run Try.prog w = .ok (.slice (some ⟨w.heap.size, 0, none⟩) 0 0) (w.alloc (.cells #[] (Try.prog.elem 133))) := by kernel_rfl
set_option maxRecDepth 100000 in
theorem flatFreshes_nil (w : World) : Calls Try.prog 112 #[.slice none 0 0] w fun e w' => e = .returned (.bool true) ∧ Below w.heap.size w w' := by
  have mk := mkFreshes w
  go_enter Try.func112, Try.ntmps112
  go_wp2_with fail
  repeat (refine wp_loop_once ?_; go_wp2_with fail)
  go_ret
  exact ⟨rfl, (Below.refl _ _).alloc (Nat.le_refl _) _⟩
theorem mkPuts (w : World) : (Instr.makeSlice 134 (.int .i64 0) (.int .i64 0)).run Try.prog w = .ok (.slice (some ⟨w.heap.size, 0, none⟩) 0 0) (w.alloc (.cells #[] (Try.prog.elem 134))) := by kernel_rfl
set_option maxRecDepth 100000 in
theorem flatPuts_nil (w : World) : Calls Try.prog 113 #[.slice none 0 0] w fun e w' => e = .returned (.bool true) ∧ Below w.heap.size w w' := by
  have mk := mkPuts w
  go_enter Try.func113, Try.ntmps113
  go_wp2_with fail
  repeat (refine wp_loop_once ?_; go_wp2_with fail)
  go_ret
  exact ⟨rfl, (Below.refl _ _).alloc (Nat.le_refl _) _⟩
theorem mkOps (w : World) : (Instr.makeSlice 135 (.int .i64 0) (.int .i64 0)).run Try.prog w = .ok (.slice (some ⟨w.heap.size, 0, none⟩) 0 0) (w.alloc (.cells #[] (Try.prog.elem 135))) := by kernel_rfl
set_option maxRecDepth 100000 in
theorem flatOps_nil (w : World) : Calls Try.prog 114 #[.slice none 0 0] w fun e w' => e = .returned (.bool true) ∧ Below w.heap.size w w' := by
  have mk := mkOps w
  go_enter Try.func114, Try.ntmps114
  go_wp2_with fail
  repeat (refine wp_loop_once ?_; go_wp2_with fail)
  go_ret
  exact ⟨rfl, (Below.refl _ _).alloc (Nat.le_refl _) _⟩
theorem mkSteps (w : World) : (Instr.makeSlice 136 (.int .i64 0) (.int .i64 0)).run Try.prog w = .ok (.slice (some ⟨w.heap.size, 0, none⟩) 0 0) (w.alloc (.cells #[] (Try.prog.elem 136))) := by kernel_rfl
set_option maxRecDepth 100000 in
theorem flatSteps_nil (w : World) : Calls Try.prog 115 #[.slice none 0 0] w fun e w' => e = .returned (.bool true) ∧ Below w.heap.size w w' := by
  have mk := mkSteps w
  go_enter Try.func115, Try.ntmps115
  go_wp2_with fail
  repeat (refine wp_loop_once ?_; go_wp2_with fail)
  go_ret
  exact ⟨rfl, (Below.refl _ _).alloc (Nat.le_refl _) _⟩
theorem mkStats (w : World) : (Instr.makeSlice 137 (.int .i64 0) (.int .i64 0)).run Try.prog w = .ok (.slice (some ⟨w.heap.size, 0, none⟩) 0 0) (w.alloc (.cells #[] (Try.prog.elem 137))) := by kernel_rfl
set_option maxRecDepth 100000 in
theorem flatStats_nil (w : World) : Calls Try.prog 116 #[.slice none 0 0] w fun e w' => e = .returned (.bool true) ∧ Below w.heap.size w w' := by
  have mk := mkStats w
  go_enter Try.func116, Try.ntmps116
  go_wp2_with fail
  repeat (refine wp_loop_once ?_; go_wp2_with fail)
  go_ret
  exact ⟨rfl, (Below.refl _ _).alloc (Nat.le_refl _) _⟩
theorem mkTales (w : World) : (Instr.makeSlice 138 (.int .i64 0) (.int .i64 0)).run Try.prog w = .ok (.slice (some ⟨w.heap.size, 0, none⟩) 0 0) (w.alloc (.cells #[] (Try.prog.elem 138))) := by kernel_rfl
set_option maxRecDepth 100000 in
theorem flatTales_nil (w : World) : Calls Try.prog 117 #[.slice none 0 0] w fun e w' => e = .returned (.bool true) ∧ Below w.heap.size w w' := by
  have mk := mkTales w
  go_enter Try.func117, Try.ntmps117
  go_wp2_with fail
  repeat (refine wp_loop_once ?_; go_wp2_with fail)
  go_ret
  exact ⟨rfl, (Below.refl _ _).alloc (Nat.le_refl _) _⟩
end Go.Proofs.Ytdkcjmpikmnedaa
