/- The walks through layout. -/
import Derived.Test.YtdkcjmpikmnedaaGreatFrameKit
import Derived.Deep.RegionHeld3
namespace Go.Proofs.YtdkcjmpikmnedaaGreat
open Go.RowKit

/-- How many nodes there may be. -/
def pagesOf (v s g : Int) : Int := 2 + (s * g + 9 * (v / 8) + 8) / 4
/-- A geometry's numbers, one by one. -/
def geoFields (v s g u j : Int) : Prop := (8 ≤ v ∧ v ≤ 4096) ∧ v % 8 = 0 ∧ (2 ≤ s ∧ s ≤ 256) ∧ (1 ≤ u ∧ u ≤ 16) ∧ (16 ≤ g ∧ 2 * (8 * u + 1) ≤ g ∧ g ≤ 1024) ∧ (8 ≤ j ∧ j ≤ 64)
def geoEnd (v s g j : Int) : Int := 2 + 2 * j + 4 * pagesOf v s g + s * g
/-- May a geometry be? -/
def geoOk (v s g u j : Int) : Prop := geoFields v s g u j ∧ geoEnd v s g j ≤ 262144
instance (v s g u j : Int) : Decidable (geoFields v s g u j) := by unfold geoFields; infer_instance
instance (v s g u j : Int) : Decidable (geoOk v s g u j) := by unfold geoOk; infer_instance

theorem mul_range (s g : Int) (h1 : 0 ≤ s) (h2 : s ≤ 256) (h3 : 0 ≤ g) (h4 : g ≤ 1024) : 0 ≤ s * g ∧ s * g ≤ 262144 :=
  ⟨Int.mul_nonneg h1 h3, Int.le_trans (Int.mul_le_mul_of_nonneg_right h2 h3) (by omega)⟩

theorem pages_any (v s g u j : Int) (w : World) (hv : 0 ≤ v ∧ v ≤ 4096) (hs : 0 ≤ s ∧ s ≤ 256) (hg : 0 ≤ g ∧ g ≤ 1024) :
    Calls Tryz.prog 145 #[.agg #[.int .i64 v, .int .i64 s, .int .i64 g, .int .i64 u, .int .i64 j]] w fun e w' => e = .returned (.int .i64 (pagesOf v s g)) ∧ Below w.heap.size w w' := by
  have b0 : Below w.heap.size w (w.alloc (.cells #[.int .i64 v, .int .i64 s, .int .i64 g, .int .i64 u, .int .i64 j] 54)) := (Below.refl _ _).alloc (Nat.le_refl _) _
  obtain ⟨m0, m1⟩ := mul_range s g hs.1 hs.2 hg.1 hg.2
  obtain ⟨hv0, hv1⟩ := hv
  have hd : pagesOf v s g = 2 + (s * g + 9 * (v / 8) + 8) / 4 := rfl
  have HD := hide hd
  clear hd
  go_enter Tryz.func145, Tryz.ntmps145
  go_wp2
  go_ret
  exact ⟨by rw [HD.out]; rfl, b0⟩

theorem from_any (n l m : Int) (w : World) : Calls Tryz.prog 156 #[.int .i64 n, .int .i64 l, .int .i64 m] w fun e w' => e = .returned (.bool (decide (l ≤ n ∧ n ≤ m))) ∧ w = w' := by
  by_cases h1 : l ≤ n
  · by_cases h2 : n ≤ m
    · rw [decide_eq_true (show l ≤ n ∧ n ≤ m from ⟨h1, h2⟩)]
      go_enter Tryz.func156, Tryz.ntmps156
      go_wp2
      go_ret
      exact ⟨rfl, rfl⟩
    · rw [decide_eq_false (show ¬ (l ≤ n ∧ n ≤ m) from fun h => h2 h.2)]
      go_enter Tryz.func156, Tryz.ntmps156
      go_wp2
      go_ret
      exact ⟨rfl, rfl⟩
  · rw [decide_eq_false (show ¬ (l ≤ n ∧ n ≤ m) from fun h => h1 h.1)]
    go_enter Tryz.func156, Tryz.ntmps156
    go_wp2
    go_ret
    exact ⟨rfl, rfl⟩

set_option maxRecDepth 100000 in
set_option maxHeartbeats 800000 in
theorem plan_any (v s g u j : Int) (w : World) (hv : 0 ≤ v ∧ v ≤ 4096) (hs : 0 ≤ s ∧ s ≤ 256) (hg : 0 ≤ g ∧ g ≤ 1024) (hj : 0 ≤ j ∧ j ≤ 64) :
    Calls Tryz.prog 157 #[.agg #[.int .i64 v, .int .i64 s, .int .i64 g, .int .i64 u, .int .i64 j]] w fun e w' => (∃ x1 x2, e = .returned (.agg #[.int .i64 2, x1, x2, .int .i64 (geoEnd v s g j)])) ∧ Below w.heap.size w w' := by
  obtain ⟨m0, m1⟩ := mul_range s g hs.1 hs.2 hg.1 hg.2
  have p0 : 0 ≤ pagesOf v s g := by unfold pagesOf; omega
  have p1 : pagesOf v s g ≤ 100000 := by unfold pagesOf; omega
  go_enter Tryz.func157, Tryz.ntmps157
  have b0 := (Below.refl w.heap.size w).alloc (Nat.le_refl _) (.cells #[.int .i64 v, .int .i64 s, .int .i64 g, .int .i64 u, .int .i64 j] 54)
  have b1 := b0.alloc b0.size (.cells #[.int .i64 0, .int .i64 0, .int .i64 0, .int .i64 0] 241)
  have b2 := b1.alloc b1.size (.cells #[.int .i64 0, .int .i64 0, .int .i64 0, .int .i64 0] 241)
  have G2 := ((Blk.new w 54 #[.int .i64 v, .int .i64 s, .int .i64 g, .int .i64 u, .int .i64 j]).alloc (.cells #[.int .i64 0, .int .i64 0, .int .i64 0, .int .i64 0] 241)).alloc (.cells #[.int .i64 0, .int .i64 0, .int .i64 0, .int .i64 0] 241)
  have z0 : (w.alloc (.cells #[.int .i64 v, .int .i64 s, .int .i64 g, .int .i64 u, .int .i64 j] 54)).heap.size = w.heap.size + 1 := by simp
  have R2 := (Blk.new (w.alloc (.cells #[.int .i64 v, .int .i64 s, .int .i64 g, .int .i64 u, .int .i64 j] 54)) 241 #[.int .i64 0, .int .i64 0, .int .i64 0, .int .i64 0]).alloc (.cells #[.int .i64 0, .int .i64 0, .int .i64 0, .int .i64 0] 241)
  have z1 : ((w.alloc (.cells #[.int .i64 v, .int .i64 s, .int .i64 g, .int .i64 u, .int .i64 j] 54)).alloc (.cells #[.int .i64 0, .int .i64 0, .int .i64 0, .int .i64 0] 241)).heap.size = w.heap.size + 1 + 1 := by simp
  have L2 := Blk.new ((w.alloc (.cells #[.int .i64 v, .int .i64 s, .int .i64 g, .int .i64 u, .int .i64 j] 54)).alloc (.cells #[.int .i64 0, .int .i64 0, .int .i64 0, .int .i64 0] 241)) 241 #[.int .i64 0, .int .i64 0, .int .i64 0, .int .i64 0]
  rw [z0] at R2
  rw [z1] at L2
  go_wp2_with fail
  generalize ((w.alloc (.cells #[.int .i64 v, .int .i64 s, .int .i64 g, .int .i64 u, .int .i64 j] 54)).alloc (.cells #[.int .i64 0, .int .i64 0, .int .i64 0, .int .i64 0] 241)).alloc (.cells #[.int .i64 0, .int .i64 0, .int .i64 0, .int .i64 0] 241) = w2 at *
  clear b0 b1 z0 z1
  have c0 : w2.cell? ⟨w.heap.size, 0, none⟩ = some (.int .i64 v) := G2.cell 0
  have c1 : w2.cell? ⟨w.heap.size, 1, none⟩ = some (.int .i64 s) := G2.cell 1
  have c2 : w2.cell? ⟨w.heap.size, 2, none⟩ = some (.int .i64 g) := G2.cell 2
  have c3 : w2.cell? ⟨w.heap.size, 3, none⟩ = some (.int .i64 u) := G2.cell 3
  have c4 : w2.cell? ⟨w.heap.size, 4, none⟩ = some (.int .i64 j) := G2.cell 4
  have PG : Calls Tryz.prog 145 #[.agg #[.int .i64 v, .int .i64 s, .int .i64 g, .int .i64 u, .int .i64 j]] w2.drew fun e w' => e = .returned (.int .i64 (pagesOf v s g)) ∧ Blk w' (w.heap.size + 1) 241 #[.int .i64 0, .int .i64 0, .int .i64 0, .int .i64 0] ∧ Blk w' (w.heap.size + 1 + 1) 241 #[.int .i64 0, .int .i64 0, .int .i64 0, .int .i64 0] ∧ Below w.heap.size w w' ∧
      w'.cell? ⟨w.heap.size, 0, none⟩ = some (.int .i64 v) ∧ w'.cell? ⟨w.heap.size, 1, none⟩ = some (.int .i64 s) ∧ w'.cell? ⟨w.heap.size, 2, none⟩ = some (.int .i64 g) ∧ w'.cell? ⟨w.heap.size, 3, none⟩ = some (.int .i64 u) ∧ w'.cell? ⟨w.heap.size, 4, none⟩ = some (.int .i64 j) := by
    refine (pages_any v s g u j w2.drew hv hs hg).mono ?_
    rintro e w' ⟨rfl, hb⟩
    have G3 := G2.drew.below hb G2.lt
    exact ⟨rfl, R2.drew.below hb R2.lt, L2.drew.below hb L2.lt, b2.drew.trans (hb.mono b2.size), G3.cell 0, G3.cell 1, G3.cell 2, G3.cell 3, G3.cell 4⟩
  have hdef : geoEnd v s g j = 2 + 2 * j + 4 * pagesOf v s g + s * g := rfl
  have HPG := hide PG
  have HDEF := hide hdef
  clear PG hdef G2 R2 L2 b2
  generalize pagesOf v s g = pp at *
  have q0 : IntKind.i64.wrap (2 * j) = 2 * j := IntWalk.i64_in _ (by omega)
  have q1 : IntKind.i64.wrap (4 * pp) = 4 * pp := IntWalk.i64_in _ (by omega)
  have q2 : IntKind.i64.wrap (s * g) = s * g := IntWalk.i64_in _ (by omega)
  have x0 : ∀ w, (Instr.index 244 (.agg #[.int .i64 (2 * j), .int .i64 (4 * pp), .int .i64 (s * g)]) (.int .i64 0)).run Tryz.prog w = .ok (.int .i64 (2 * j)) w := fun _ => by kernel_rfl
  have x1 : ∀ w, (Instr.index 244 (.agg #[.int .i64 (2 * j), .int .i64 (4 * pp), .int .i64 (s * g)]) (.int .i64 1)).run Tryz.prog w = .ok (.int .i64 (4 * pp)) w := fun _ => by kernel_rfl
  have x2 : ∀ w, (Instr.index 244 (.agg #[.int .i64 (2 * j), .int .i64 (4 * pp), .int .i64 (s * g)]) (.int .i64 2)).run Tryz.prog w = .ok (.int .i64 (s * g)) w := fun _ => by kernel_rfl
  obtain ⟨hv0, hv1⟩ := hv
  obtain ⟨hj0, hj1⟩ := hj
  go_region_held3 (fun w' => w'.cell? ⟨w.heap.size, 0, none⟩ = some (.int .i64 v) ∧ w'.cell? ⟨w.heap.size, 1, none⟩ = some (.int .i64 s) ∧ w'.cell? ⟨w.heap.size, 2, none⟩ = some (.int .i64 g) ∧ w'.cell? ⟨w.heap.size, 3, none⟩ = some (.int .i64 u) ∧ w'.cell? ⟨w.heap.size, 4, none⟩ = some (.int .i64 j))
    (first | exact ⟨c0, c1, c2, c3, c4⟩ | exact ⟨k0, k1, k2, k3, k4⟩)
    (first | (go_at_call 145; (with_reducible refine Calls.mono HPG.out ?_); rintro e w3 ⟨rfl, R3, L3, b3, k0, k1, k2, k3, k4⟩))
  clear k0 k1 k2 k3 k4 c0 c1 c2 c3 c4 HPG
  go_wp2_with fail
  go_loopw [4, 19] (fun a i wr => ((i = .int .i64 0 ∧ a = .int .i64 2 ∧ Blk wr (w.heap.size + 1 + 1) 241 #[.int .i64 0, .int .i64 0, .int .i64 0, .int .i64 0]) ∨
      (i = .int .i64 1 ∧ a = .int .i64 (2 + 2 * j) ∧ Blk wr (w.heap.size + 1 + 1) 241 #[.int .i64 2, .int .i64 0, .int .i64 0, .int .i64 0]) ∨
      (i = .int .i64 2 ∧ a = .int .i64 (2 + 2 * j + 4 * pp) ∧ Blk wr (w.heap.size + 1 + 1) 241 #[.int .i64 2, .int .i64 (2 + 2 * j), .int .i64 0, .int .i64 0]) ∨
      (i = .int .i64 3 ∧ a = .int .i64 (2 + 2 * j + 4 * pp + s * g) ∧ Blk wr (w.heap.size + 1 + 1) 241 #[.int .i64 2, .int .i64 (2 + 2 * j), .int .i64 (2 + 2 * j + 4 * pp), .int .i64 0])) ∧
      Blk wr (w.heap.size + 1) 241 #[.int .i64 0, .int .i64 0, .int .i64 0, .int .i64 0] ∧ Below w.heap.size w wr) (fun _ i _ => 3 - (intOf i).toNat)
  case atStart => exact ⟨.inl ⟨rfl, rfl, L3⟩, R3, b3⟩
  case round =>
    clear R3 L3 b3
    obtain ⟨hh, R, bw⟩ := hrel
    rcases hh with ⟨rfl, rfl, L⟩ | ⟨rfl, rfl, L⟩ | ⟨rfl, rfl, L⟩ | ⟨rfl, rfl, L⟩
    · have k0 : wr.cell? ⟨w.heap.size + 1 + 1, 0, none⟩ = some (.int .i64 0) := L.cell 0
      have f0 := L.frozen
      go_wp2
      go_roundw
      case rel => exact ⟨.inr (.inl ⟨by go_num, rfl, L.set_ 0 (.int .i64 2)⟩), R.far (by simp) _, bw.setCell (by simp; omega) _⟩
      case measure => simp [intOf]
    · have k0 : wr.cell? ⟨w.heap.size + 1 + 1, 1, none⟩ = some (.int .i64 0) := L.cell 1
      have f0 := L.frozen
      go_wp2
      go_roundw
      case rel => exact ⟨.inr (.inr (.inl ⟨by go_num, rfl, L.set_ 1 (.int .i64 (2 + 2 * j))⟩)), R.far (by simp) _, bw.setCell (by simp; omega) _⟩
      case measure => simp [intOf]
    · have k0 : wr.cell? ⟨w.heap.size + 1 + 1, 2, none⟩ = some (.int .i64 0) := L.cell 2
      have f0 := L.frozen
      go_wp2
      go_roundw
      case rel => exact ⟨.inr (.inr (.inr ⟨by go_num, rfl, L.set_ 2 (.int .i64 (2 + 2 * j + 4 * pp))⟩)), R.far (by simp) _, bw.setCell (by simp; omega) _⟩
      case measure => simp [intOf]
    · have k0 : wr.cell? ⟨w.heap.size + 1 + 1, 0, none⟩ = some (.int .i64 2) := L.cell 0
      have k1 : wr.cell? ⟨w.heap.size + 1 + 1, 1, none⟩ = some (.int .i64 (2 + 2 * j)) := L.cell 1
      have k2 : wr.cell? ⟨w.heap.size + 1 + 1, 2, none⟩ = some (.int .i64 (2 + 2 * j + 4 * pp)) := L.cell 2
      have k3 : wr.cell? ⟨w.heap.size + 1 + 1, 3, none⟩ = some (.int .i64 0) := L.cell 3
      have f0 := L.frozen
      have d0 : wr.cell? ⟨w.heap.size + 1, 0, none⟩ = some (.int .i64 0) := R.cell 0
      have d1 : wr.cell? ⟨w.heap.size + 1, 1, none⟩ = some (.int .i64 0) := R.cell 1
      have d2 : wr.cell? ⟨w.heap.size + 1, 2, none⟩ = some (.int .i64 0) := R.cell 2
      have d3 : wr.cell? ⟨w.heap.size + 1, 3, none⟩ = some (.int .i64 0) := R.cell 3
      have fr := R.frozen
      go_wp2
      have g1 : wr.grownBy (wr.setCell ⟨w.heap.size + 1 + 1, 3, none⟩ (.int .i64 (2 + 2 * j + 4 * pp + s * g))) (some (w.heap.size + 1 + 1)) := only_setCell (only_refl _ _) (.inl rfl) _
      have R1 := R.grown g1 (by simp)
      have bw1 := bw.setCell (p := ⟨w.heap.size + 1 + 1, 3, none⟩) (by simp; omega) (.int .i64 (2 + 2 * j + 4 * pp + s * g))
      have R2 := (((R1.set_ 0 (.int .i64 2)).set_ 1 (.int .i64 (2 + 2 * j))).set_ 2 (.int .i64 (2 + 2 * j + 4 * pp))).set_ 3 (.int .i64 (2 + 2 * j + 4 * pp + s * g))
      have bw2 := (((bw1.setCell (p := ⟨w.heap.size + 1, 0, none⟩) (by simp) (.int .i64 2)).setCell (p := ⟨w.heap.size + 1, 1, none⟩) (by simp) (.int .i64 (2 + 2 * j))).setCell (p := ⟨w.heap.size + 1, 2, none⟩) (by simp) (.int .i64 (2 + 2 * j + 4 * pp))).setCell (p := ⟨w.heap.size + 1, 3, none⟩) (by simp) (.int .i64 (2 + 2 * j + 4 * pp + s * g))
      refine bodyPost_ret (v := .agg #[.int .i64 2, .int .i64 (2 + 2 * j), .int .i64 (2 + 2 * j + 4 * pp), .int .i64 (2 + 2 * j + 4 * pp + s * g)]) ?_ rfl ⟨⟨_, _, by rw [HDEF.out]⟩, bw2⟩
      exact results_cell1 rfl _ _ (w.heap.size + 1) _ _ rfl R2 Tryz.underlying241 rfl (by kernel_rfl)

theorem right_false (v s g u j : Int) (h : ¬ geoOk v s g u j) : decide (geoOk v s g u j) = false := decide_eq_false h
set_option maxRecDepth 100000 in
set_option maxHeartbeats 1600000 in
theorem right_any (v s g u j : Int) (w : World) :
    Calls Tryz.prog 144 #[.agg #[.int .i64 v, .int .i64 s, .int .i64 g, .int .i64 u, .int .i64 j]] w fun e w' => e = .returned (.bool (decide (geoOk v s g u j))) ∧ Below w.heap.size w w' := by
  have b0 : Below w.heap.size w (w.alloc (.cells #[.int .i64 v, .int .i64 s, .int .i64 g, .int .i64 u, .int .i64 j] 54)) := (Below.refl _ _).alloc (Nat.le_refl _) _
  by_cases h1 : 8 ≤ v ∧ v ≤ 4096
  · have D1 := decide_eq_true h1
    by_cases h2 : v % 8 = 0
    · have D2 : (v % 8 == 0) = true := by rw [beq_iff_eq]; exact h2
      by_cases h3 : 2 ≤ s ∧ s ≤ 256
      · have D3 := decide_eq_true h3
        by_cases h4 : 1 ≤ u ∧ u ≤ 16
        · have D4 := decide_eq_true h4
          by_cases h5 : 2 * (8 * u + 1) ≤ g ∧ g ≤ 1024
          · have D5 := decide_eq_true h5
            by_cases h6 : 8 ≤ j ∧ j ≤ 64
            · have D6 := decide_eq_true h6
              have PL := hide (plan_any v s g u j (w.alloc (.cells #[.int .i64 v, .int .i64 s, .int .i64 g, .int .i64 u, .int .i64 j] 54)) ⟨by omega, by omega⟩ ⟨by omega, by omega⟩ ⟨by omega, by omega⟩ ⟨by omega, by omega⟩)
              have ix : ∀ (x1 x2 : Value) (y : Int) (w : World), (Instr.index 241 (.agg #[.int .i64 2, x1, x2, .int .i64 y]) (.int .i64 3)).run Tryz.prog w = .ok (.int .i64 y) w := fun _ _ _ _ => by kernel_rfl
              have HG : decide (geoOk v s g u j) = decide (geoEnd v s g j ≤ 262144) := decide_eq_decide.2 ⟨fun h => h.2, fun h => ⟨⟨h1, h2, h3, h4, ⟨by omega, h5.1, h5.2⟩, h6⟩, h⟩⟩
              have HGG := hide HG
              clear HG
              by_cases h7 : geoEnd v s g j ≤ 262144
              · have D7 := decide_eq_true h7
                have H7 := hide D7
                go_enter Tryz.func144, Tryz.ntmps144
                go_wp2_with (first | (go_at_call 156; refine (from_any _ _ _ _).mono ?_; rintro e w' ⟨rfl, rfl⟩) | (go_at_call 157; (with_reducible refine Calls.mono PL.out ?_); rintro e w9 ⟨⟨x1, x2, rfl⟩, b9⟩))
                go_ret
                exact ⟨by rw [HGG.out, H7.out]; rfl, b0.trans (b9.mono b0.size)⟩
              · have D7 := decide_eq_false h7
                have H7 := hide D7
                go_enter Tryz.func144, Tryz.ntmps144
                go_wp2_with (first | (go_at_call 156; refine (from_any _ _ _ _).mono ?_; rintro e w' ⟨rfl, rfl⟩) | (go_at_call 157; (with_reducible refine Calls.mono PL.out ?_); rintro e w9 ⟨⟨x1, x2, rfl⟩, b9⟩))
                go_ret
                exact ⟨by rw [HGG.out, H7.out]; rfl, b0.trans (b9.mono b0.size)⟩
            · have D6 := decide_eq_false h6
              have HF := hide (right_false v s g u j fun h => h6 h.1.2.2.2.2.2)
              clear h6
              go_enter Tryz.func144, Tryz.ntmps144
              go_wp2_with (first | (go_at_call 156; refine (from_any _ _ _ _).mono ?_; rintro e w' ⟨rfl, rfl⟩))
              go_ret
              exact ⟨by rw [HF.out]; rfl, b0⟩
          · have D5 := decide_eq_false h5
            have HF := hide (right_false v s g u j fun h => h5 h.1.2.2.2.2.1.2)
            clear h5
            go_enter Tryz.func144, Tryz.ntmps144
            go_wp2_with (first | (go_at_call 156; refine (from_any _ _ _ _).mono ?_; rintro e w' ⟨rfl, rfl⟩))
            go_ret
            exact ⟨by rw [HF.out]; rfl, b0⟩
        · have D4 := decide_eq_false h4
          have HF := hide (right_false v s g u j fun h => h4 h.1.2.2.2.1)
          clear h4
          go_enter Tryz.func144, Tryz.ntmps144
          go_wp2_with (first | (go_at_call 156; refine (from_any _ _ _ _).mono ?_; rintro e w' ⟨rfl, rfl⟩))
          go_ret
          exact ⟨by rw [HF.out]; rfl, b0⟩
      · have D3 := decide_eq_false h3
        have HF := hide (right_false v s g u j fun h => h3 h.1.2.2.1)
        clear h3
        go_enter Tryz.func144, Tryz.ntmps144
        go_wp2_with (first | (go_at_call 156; refine (from_any _ _ _ _).mono ?_; rintro e w' ⟨rfl, rfl⟩))
        go_ret
        exact ⟨by rw [HF.out]; rfl, b0⟩
    · have D2 : (v % 8 == 0) = false := by rw [beq_eq_false_iff_ne]; exact h2
      have HF := hide (right_false v s g u j fun h => h2 h.1.2.1)
      clear h2
      go_enter Tryz.func144, Tryz.ntmps144
      go_wp2_with (first | (go_at_call 156; refine (from_any _ _ _ _).mono ?_; rintro e w' ⟨rfl, rfl⟩))
      go_ret
      exact ⟨by rw [HF.out]; rfl, b0⟩
  · have D1 := decide_eq_false h1
    have HF := hide (right_false v s g u j fun h => h1 h.1.1)
    clear h1
    go_enter Tryz.func144, Tryz.ntmps144
    go_wp2_with (first | (go_at_call 156; refine (from_any _ _ _ _).mono ?_; rintro e w' ⟨rfl, rfl⟩))
    go_ret
    exact ⟨by rw [HF.out]; rfl, b0⟩
end Go.Proofs.YtdkcjmpikmnedaaGreat
